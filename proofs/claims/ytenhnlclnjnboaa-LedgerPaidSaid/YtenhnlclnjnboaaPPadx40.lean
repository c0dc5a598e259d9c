-- Printed by this session's wip/myprint.py.
import Derived.Test.YtenhnlclnjnboaaPPadx0
import Derived.Test.YtenhnlclnjnboaaPPadx16
import Derived.Test.YtenhnlclnjnboaaPPadx17
import Derived.Test.YtenhnlclnjnboaaPPadx18
import Derived.Test.YtenhnlclnjnboaaPPadx19
import Derived.Test.YtenhnlclnjnboaaPPadx20
namespace Go.Proofs.Ytenhnlclnjnboaa.PPad
open Go.RowKit Go.Proofs.YtenhnlclnjnboaaW.PrintWords Go.Proofs.YtenhnlclnjnboaaW.PrintLast Go.Proofs.YtenhnlclnjnboaaW.PrintMore
attribute [local go_sem] max2_int min2_int max_two min_two max_three min_three max_four min_four   -- for this text's walks alone
set_option linter.unusedVariables false
set_option linter.unusedSimpArgs false

/-! ### back_Correct: function 40 -/
section
open Go.Maps
section
open Go.Shelf
def sortPay_ren : Go.Shelf.Ren := ⟨fun | 6 => 54 | 15 => 62 | 14 => 64 | 28 => 76 | 29 => 77 | 20 => 78 | 21 => 79 | 22 => 80 | 23 => 81 | 24 => 82 | 25 => 83 | 26 => 84 | 27 => 85 | 46 => 92 | 47 => 88 | 48 => 89 | 49 => 93 | 50 => 94 | 57 => 97 | n => n, fun | 22 => 48 | 24 => 51 | 25 => 84 | 3 => 3 | 39 => 90 | 0 => 0 | 53 => 103 | 55 => 105 | 4 => 4 | 46 => 97 | 45 => 96 | 50 => 100 | 5 => 5 | 9 => 9 | 66 => 111 | 70 => 115 | 76 => 119 | 77 => 42 | n => n, fun | n => n⟩
theorem sortPay : Go.Proofs.SlLaysF0.n6 Try.prog sortPay_ren := {
  mixed := by kernel_rfl
  f6 := ⟨Try.f54.name, by decide, Try.func54.trans (congrArg some (by kernel_rfl))⟩
  f14 := ⟨Try.f64.name, by decide, Try.func64.trans (congrArg some (by kernel_rfl))⟩
  f15 := Try.func62.trans (congrArg some (by kernel_rfl))
  f20 := ⟨Try.f78.name, by decide, Try.func78.trans (congrArg some (by kernel_rfl))⟩
  f21 := ⟨Try.f79.name, by decide, Try.func79.trans (congrArg some (by kernel_rfl))⟩
  f22 := ⟨Try.f80.name, by decide, Try.func80.trans (congrArg some (by kernel_rfl))⟩
  f23 := ⟨Try.f81.name, by decide, Try.func81.trans (congrArg some (by kernel_rfl))⟩
  f24 := ⟨Try.f82.name, by decide, Try.func82.trans (congrArg some (by kernel_rfl))⟩
  f25 := ⟨Try.f83.name, by decide, Try.func83.trans (congrArg some (by kernel_rfl))⟩
  f26 := ⟨Try.f84.name, by decide, Try.func84.trans (congrArg some (by kernel_rfl))⟩
  f27 := ⟨Try.f85.name, by decide, Try.func85.trans (congrArg some (by kernel_rfl))⟩
  f28 := Try.func76.trans (congrArg some (by kernel_rfl))
  f29 := Try.func77.trans (congrArg some (by kernel_rfl))
  f46 := ⟨Try.f92.name, by decide, Try.func92.trans (congrArg some (by kernel_rfl))⟩
  f47 := Try.func88.trans (congrArg some (by kernel_rfl))
  f48 := Try.func89.trans (congrArg some (by kernel_rfl))
  f49 := ⟨Try.f93.name, by decide, Try.func93.trans (congrArg some (by kernel_rfl))⟩
  f50 := ⟨Try.f94.name, by decide, Try.func94.trans (congrArg some (by kernel_rfl))⟩
  f57 := ⟨Try.f97.name, by decide, Try.func97.trans (congrArg some (by kernel_rfl))⟩
  t0 := Try.underlying0
  a0 := Try.isAgg0
  z0 := Try.sizeOf0
  v0 := Try.zeroValue0
  t3 := Try.underlying3
  a3 := Try.isAgg3
  z3 := Try.sizeOf3
  v3 := Try.zeroValue3
  t4 := Try.underlying4
  a4 := Try.isAgg4
  z4 := Try.sizeOf4
  v4 := Try.zeroValue4
  t5 := Try.underlying5
  a5 := Try.isAgg5
  z5 := Try.sizeOf5
  v5 := Try.zeroValue5
  t9 := Try.underlying9
  a9 := Try.isAgg9
  z9 := Try.sizeOf9
  v9 := Try.zeroValue9
  t22 := Try.underlying48
  a22 := Try.isAgg48
  z22 := Try.sizeOf48
  v22 := Try.zeroValue48
  t25 := Try.underlying84
  a25 := Try.isAgg84
  z25 := Try.sizeOf84
  v25 := Try.zeroValue84
  t39 := Try.underlying90
  a39 := Try.isAgg90
  z39 := Try.sizeOf90
  v39 := Try.zeroValue90
  t45 := Try.underlying96
  a45 := Try.isAgg96
  z45 := Try.sizeOf96
  v45 := Try.zeroValue96
  t46 := Try.underlying97
  a46 := Try.isAgg97
  z46 := Try.sizeOf97
  v46 := Try.zeroValue97
  t50 := Try.underlying100
  a50 := Try.isAgg100
  z50 := Try.sizeOf100
  v50 := Try.zeroValue100
  t53 := Try.underlying103
  a53 := Try.isAgg103
  z53 := Try.sizeOf103
  v53 := Try.zeroValue103
  t55 := Try.underlying105
  a55 := Try.isAgg105
  z55 := Try.sizeOf105
  v55 := Try.zeroValue105
  t66 := Try.underlying111
  a66 := Try.isAgg111
  z66 := Try.sizeOf111
  v66 := Try.zeroValue111
  t70 := Try.underlying115
  a70 := Try.isAgg115
  z70 := Try.sizeOf115
  v70 := Try.zeroValue115
  t76 := Try.underlying119
  a76 := Try.isAgg119
  z76 := Try.sizeOf119
  v76 := Try.zeroValue119
  t77 := Try.underlying42
  a77 := Try.isAgg42
  z77 := Try.sizeOf42
  v77 := Try.zeroValue42 }
end
set_option maxHeartbeats 8000000 in
set_option maxRecDepth 100000 in
theorem back_Correct_1.lays (k : Nat) (a0_0 : Int) (a0_1 : Int) (a0_2 : Int) (a0_3 : Int) (a1_0 : Int) (a1_1 : Int) (a1_2 : Int) (a1_3 : Int) (r : Int) (w : World) (h : back_Correct_1.f k a0_0 a0_1 a0_2 a0_3 a1_0 a1_1 a1_2 a1_3 = some r) :
    Calls Try.prog 55 #[.agg #[.int .i64 a0_0, .int .i64 a0_1, .int .i64 a0_2, .int .i64 a0_3], .agg #[.int .i64 a1_0, .int .i64 a1_1, .int .i64 a1_2, .int .i64 a1_3]] w fun e w' => e = .returned (.int .i64 r) ∧ Go.Proofs.Ytenhnlclnjnboaa.Open.Up w w' := by
  have HU := Aside0.mk (Go.Proofs.Ytenhnlclnjnboaa.Open.Up.refl w)
  have hu32 := Try.underlying51
  have HB := Aside0.mk (Below.refl w.heap.size w)
  have H : ((cmp_Compare_int.f a0_0 a1_0).bind fun t108 => ((cmp_Compare_int.f a0_1 a1_1).bind fun t109 => ((cmp_Or_int.f k (([t108, t109] : List Int))).bind fun t113 => (some t113)))) = some r := h
  clear h
  replace H := Option.bind_eq_some_iff.mp H
  obtain ⟨t108, A30, H⟩ := H
  replace H : ((cmp_Compare_int.f a0_1 a1_1).bind fun t109 => ((cmp_Or_int.f k (([t108, t109] : List Int))).bind fun t113 => (some t113))) = some r := H
  have A3 := Aside0.mk A30
  clear A30
  replace H := Option.bind_eq_some_iff.mp H
  obtain ⟨t109, A40, H⟩ := H
  replace H : ((cmp_Or_int.f k (([t108, t109] : List Int))).bind fun t113 => (some t113)) = some r := H
  have A4 := Aside0.mk A40
  clear A40
  obtain ⟨y110, hy110⟩ : ∃ y_ : List Int, y_ = (([t108, t109] : List Int)) := ⟨_, rfl⟩
  replace H : ((cmp_Or_int.f k y110).bind fun t113 => (some t113)) = some r := by first | (rw [hy110]; with_reducible exact H) | (have H2_ := (Option.bind_some _ _).symm.trans H; rw [hy110]; with_reducible exact H2_) | (have H2_ := (Option.bind_some _ _).symm.trans H; with_reducible exact H2_) | with_reducible exact H | (rw [hy110]; exact H) | exact H
  have Ny110 := Aside0.mk hy110
  clear hy110
  replace H := Option.bind_eq_some_iff.mp H
  obtain ⟨t113, A50, H⟩ := H
  replace H : (some t113) = some r := H
  have A5 := Aside0.mk A50
  clear A50
  obtain rfl := Option.some.inj H
  go_enter Try.func55, Try.ntmps55
  try go_wp2_with (first | ((with_reducible refine gate_dst (N := 2) rfl ?_); refine Go.Proofs.Ytenhnlclnjnboaa.Open.box_up ?hg (N := 2) ?hd (cs := #[.int .i64 a0_0, .int .i64 a0_1, .int .i64 a0_2, .int .i64 a0_3]) (t := 51) ?hr ?_; (case hd => rfl); (case hg => rfl); (case hr => first | (go_simp; done) | (go_simp; rfl)); intro gb106 hg w6 hbox hb hu_; have nU_ := Aside0.mk (Go.Proofs.Ytenhnlclnjnboaa.Open.Up.trans (by repeat (first | exact HU.out | apply Go.Proofs.Ytenhnlclnjnboaa.Open.Up.drewN | apply Go.Proofs.Ytenhnlclnjnboaa.Open.Up.drew)) hu_); clear HU; have HU := nU_; clear nU_ hu_; have n0_ := Aside0.mk (below_step (by repeat (first | (with_reducible first | exact HB.out | apply below_alloc | apply pw_below_drewN | apply below_drew1) | exact HB.out)) hb); have n1_ := Aside0.mk (hbox); have n2_ := Aside0.mk ((by rw [hg]; exact (below_size (by repeat (first | (with_reducible first | exact HB.out | apply below_alloc | apply pw_below_drewN | apply below_drew1) | exact HB.out))) : w.heap.size ≤ gb106)); have n3_ := Aside0.mk ((by rw [hg]; exact (below_size (by repeat (first | (with_reducible first | exact HB.out | apply below_alloc | apply pw_below_drewN | apply below_drew1) | exact HB.out))) : w.heap.size ≤ gb106)); clear HB; have HB := n0_; have BK106 := n1_; have GW106 := n2_; have GE106 := n3_; clear n0_ n1_ n2_ n3_; clear hb hbox hg) | ((with_reducible refine gate_dst (N := 3) rfl ?_); refine Go.Proofs.Ytenhnlclnjnboaa.Open.box_up ?hg (N := 3) ?hd (cs := #[.int .i64 a1_0, .int .i64 a1_1, .int .i64 a1_2, .int .i64 a1_3]) (t := 51) ?hr ?_; (case hd => rfl); (case hg => rfl); (case hr => first | (go_simp; done) | (go_simp; rfl)); intro gb107 hg w7 hbox hb hu_; have nU_ := Aside0.mk (Go.Proofs.Ytenhnlclnjnboaa.Open.Up.trans (by repeat (first | exact HU.out | apply Go.Proofs.Ytenhnlclnjnboaa.Open.Up.drewN | apply Go.Proofs.Ytenhnlclnjnboaa.Open.Up.drew)) hu_); clear HU; have HU := nU_; clear nU_ hu_; have n0_ := Aside0.mk (blk_below (g := gb106) (o := .cells #[.int .i64 a0_0, .int .i64 a0_1, .int .i64 a0_2, .int .i64 a0_3] 51 (0, 0)) (by (with_reducible repeat (first | refine blk_drewN ?_ _ | refine blk_drew ?_ | refine blk_alloc ?_ _)); exact BK106.out) hb); have n1_ := Aside0.mk (below_step (by repeat (first | (with_reducible first | exact HB.out | apply below_alloc | apply pw_below_drewN | apply below_drew1 | refine below_set ?_ GE106.out) | exact HB.out)) hb); have n2_ := Aside0.mk (hbox); have n3_ := Aside0.mk ((by rw [hg]; exact (below_size (by repeat (first | (with_reducible first | exact HB.out | apply below_alloc | apply pw_below_drewN | apply below_drew1 | refine below_set ?_ GE106.out) | exact HB.out))) : w.heap.size ≤ gb107)); have n4_ := Aside0.mk ((by rw [hg]; exact (below_size (by repeat (first | (with_reducible first | exact HB.out | apply below_alloc | apply pw_below_drewN | apply below_drew1 | refine below_set ?_ GE106.out) | exact HB.out))) : w.heap.size ≤ gb107)); have n5_ := Aside0.mk ((by rw [hg]; exact Nat.ne_of_lt (blk_lt (g := gb106) (o := .cells #[.int .i64 a0_0, .int .i64 a0_1, .int .i64 a0_2, .int .i64 a0_3] 51 (0, 0)) (by (with_reducible repeat (first | refine blk_drewN ?_ _ | refine blk_drew ?_ | refine blk_alloc ?_ _)); exact BK106.out)) : gb106 ≠ gb107)); have n6_ := Aside0.mk ((by rw [hg]; exact Nat.ne_of_gt (blk_lt (g := gb106) (o := .cells #[.int .i64 a0_0, .int .i64 a0_1, .int .i64 a0_2, .int .i64 a0_3] 51 (0, 0)) (by (with_reducible repeat (first | refine blk_drewN ?_ _ | refine blk_drew ?_ | refine blk_alloc ?_ _)); exact BK106.out)) : gb107 ≠ gb106)); clear BK106; clear HB; have BK106 := n0_; have HB := n1_; have BK107 := n2_; have GW107 := n3_; have GE107 := n4_; have NB106_107 := n5_; have NB107_106 := n6_; clear n0_ n1_ n2_ n3_ n4_ n5_ n6_; clear hb hbox hg))
  have n0_ := Aside0.mk (blk_drew BK106.out)
  have n1_ := Aside0.mk (blk_drew BK107.out)
  have n2_ := Aside0.mk (below_drew1 HB.out)
  clear BK106
  clear BK107
  clear HB
  have BK106 := n0_
  have BK107 := n1_
  have HB := n2_
  clear n0_ n1_ n2_
  refine start_ (n := 13) (S := fun w' => w'.cell? ⟨gb106, 0, none⟩ = some (.int .i64 a0_0) ∧ w'.cell? ⟨gb106, 1, none⟩ = some (.int .i64 a0_1) ∧ w'.cell? ⟨gb106, 2, none⟩ = some (.int .i64 a0_2) ∧ w'.cell? ⟨gb106, 3, none⟩ = some (.int .i64 a0_3) ∧ w'.cell? ⟨gb107, 0, none⟩ = some (.int .i64 a1_0) ∧ w'.cell? ⟨gb107, 1, none⟩ = some (.int .i64 a1_1) ∧ w'.cell? ⟨gb107, 2, none⟩ = some (.int .i64 a1_2) ∧ w'.cell? ⟨gb107, 3, none⟩ = some (.int .i64 a1_3)) (ds := []) #[false, false, false, false, false, false, false, false, false, false, false, false, false] (by kernel_rfl) rfl rfl ⟨(blk_cell BK106.out 0).trans rfl, (blk_cell BK106.out 1).trans rfl, (blk_cell BK106.out 2).trans rfl, (blk_cell BK106.out 3).trans rfl, (blk_cell BK107.out 0).trans rfl, (blk_cell BK107.out 1).trans rfl, (blk_cell BK107.out 2).trans rfl, (blk_cell BK107.out 3).trans rfl⟩ (fun hHeld => ?_); refine with_tabW back_Correct_1.tab1 back_Correct_1.bits1 (fun HT_ HW_ => ?_)
  have nU_ := Aside0.mk (Go.Proofs.Ytenhnlclnjnboaa.Open.Up.drew HU.out); clear HU; have HU := nU_; clear nU_
  generalize w7.drew = w8 at HU BK106 BK107 HB hHeld ⊢
  refine pure_ (i := 0) (N := some 5) (v := ?_) (a' := ?_) #[true, false, false, false, false, false, false, false, false, false, false, false, false] rfl rfl (any_of HT_.out (by kernel_rfl)) (fun _ _ _ h => h) (Or.inl ⟨by rfl, ?_⟩) ?_ ?_
  rotate_left
  · intro w'
    go_simp
    with_reducible rfl
  rotate_left
  · simp only [Act.put, List.setIfInBounds_toArray, List.set_cons_zero, List.set_cons_succ, i64_w, i32_w]
    rfl
  refine pure_ (i := 2) (N := some 7) (v := ?_) (a' := ?_) #[true, false, true, false, false, false, false, false, false, false, false, false, false] rfl rfl (any_of HT_.out (by kernel_rfl)) (fun _ _ _ h => h) (Or.inl ⟨by rfl, ?_⟩) ?_ ?_
  rotate_left
  · intro w'
    go_simp
    with_reducible rfl
  rotate_left
  · simp only [Act.put, List.setIfInBounds_toArray, List.set_cons_zero, List.set_cons_succ, i64_w, i32_w]
    rfl
  refine pure_ (i := 5) (N := some 10) (v := ?_) (a' := ?_) #[true, false, true, false, false, true, false, false, false, false, false, false, false] rfl rfl (any_of HT_.out (by kernel_rfl)) (fun _ _ _ h => h) (Or.inl ⟨by rfl, ?_⟩) ?_ ?_
  rotate_left
  · intro w'
    go_simp
    with_reducible rfl
  rotate_left
  · simp only [Act.put, List.setIfInBounds_toArray, List.set_cons_zero, List.set_cons_succ, i64_w, i32_w]
    rfl
  refine pure_ (i := 7) (N := some 12) (v := ?_) (a' := ?_) #[true, false, true, false, false, true, false, true, false, false, false, false, false] rfl rfl (any_of HT_.out (by kernel_rfl)) (fun _ _ _ h => h) (Or.inl ⟨by rfl, ?_⟩) ?_ ?_
  rotate_left
  · intro w'
    go_simp
    with_reducible rfl
  rotate_left
  · simp only [Act.put, List.setIfInBounds_toArray, List.set_cons_zero, List.set_cons_succ, i64_w, i32_w]
    rfl
  refine take_ (i := 1) (N := some 6) (v := ?_) (a' := ?_) #[true, true, true, false, false, true, false, true, false, false, false, false, false] rfl rfl (take_ofW HT_.out HW_.out (by kernel_rfl)) (fun _ _ _ h => h) (Or.inl ⟨by rfl, ?_⟩) hHeld ?_ ?_
  rotate_left
  · rintro w' ⟨s0, s1, s2, s3, s4, s5, s6, s7⟩
    go_simp
    with_reducible rfl
  rotate_left
  · simp only [Act.put, List.setIfInBounds_toArray, List.set_cons_zero, List.set_cons_succ, i64_w, i32_w]
    rfl
  refine take_ (i := 3) (N := some 8) (v := ?_) (a' := ?_) #[true, true, true, true, false, true, false, true, false, false, false, false, false] rfl rfl (take_ofW HT_.out HW_.out (by kernel_rfl)) (fun _ _ _ h => h) (Or.inl ⟨by rfl, ?_⟩) hHeld ?_ ?_
  rotate_left
  · rintro w' ⟨s0, s1, s2, s3, s4, s5, s6, s7⟩
    go_simp
    with_reducible rfl
  rotate_left
  · simp only [Act.put, List.setIfInBounds_toArray, List.set_cons_zero, List.set_cons_succ, i64_w, i32_w]
    rfl
  refine take_ (i := 6) (N := some 11) (v := ?_) (a' := ?_) #[true, true, true, true, false, true, true, true, false, false, false, false, false] rfl rfl (take_ofW HT_.out HW_.out (by kernel_rfl)) (fun _ _ _ h => h) (Or.inl ⟨by rfl, ?_⟩) hHeld ?_ ?_
  rotate_left
  · rintro w' ⟨s0, s1, s2, s3, s4, s5, s6, s7⟩
    go_simp
    with_reducible rfl
  rotate_left
  · simp only [Act.put, List.setIfInBounds_toArray, List.set_cons_zero, List.set_cons_succ, i64_w, i32_w]
    rfl
  refine take_ (i := 8) (N := some 13) (v := ?_) (a' := ?_) #[true, true, true, true, false, true, true, true, true, false, false, false, false] rfl rfl (take_ofW HT_.out HW_.out (by kernel_rfl)) (fun _ _ _ h => h) (Or.inl ⟨by rfl, ?_⟩) hHeld ?_ ?_
  rotate_left
  · rintro w' ⟨s0, s1, s2, s3, s4, s5, s6, s7⟩
    go_simp
    with_reducible rfl
  rotate_left
  · simp only [Act.put, List.setIfInBounds_toArray, List.set_cons_zero, List.set_cons_succ, i64_w, i32_w]
    rfl
  refine one_ (i := 4) (N := some 9) #[true, true, true, true, true, true, true, true, true, false, false, false, false] rfl rfl (one_of HT_.out (by kernel_rfl)) (by decide) (fun K hK => ?_)
  refine goes_ Try.func57 (by kernel_rfl) rfl #[.int .i64 a0_0, .int .i64 a1_0] (by rfl) rfl rfl (by (try simp only [List.map_toArray, List.map_cons, List.map_nil]); first | done | rfl | (simp only [List.length_drop, List.length_take]; rfl)) ?_
  with_reducible refine (cmp_Compare_int.calls a0_0 a1_0 t108 _ A3.out).mono ?_
  rintro e w' ⟨rfl, ⟨nd, rfl⟩⟩
  refine ⟨_, rfl, ?_⟩
  refine hK.out _ _ ⟨(blk_cell BK106.out 0).trans rfl, (blk_cell BK106.out 1).trans rfl, (blk_cell BK106.out 2).trans rfl, (blk_cell BK106.out 3).trans rfl, (blk_cell BK107.out 0).trans rfl, (blk_cell BK107.out 1).trans rfl, (blk_cell BK107.out 2).trans rfl, (blk_cell BK107.out 3).trans rfl⟩ (fun hHeld => ?_)
  clear hK K
  refine norm_ (a' := ?_) ?_ ?_
  rotate_left
  · show Act.put _ (some 9) _ = _
    simp only [Act.put, List.setIfInBounds_toArray, List.set_cons_zero, List.set_cons_succ, i64_w, i32_w]
    rfl
  refine one_ (i := 9) (N := some 14) #[true, true, true, true, true, true, true, true, true, true, false, false, false] rfl rfl (one_of HT_.out (by kernel_rfl)) (by decide) (fun K hK => ?_)
  refine goes_ Try.func57 (by kernel_rfl) rfl #[.int .i64 a0_1, .int .i64 a1_1] (by rfl) rfl rfl (by (try simp only [List.map_toArray, List.map_cons, List.map_nil]); first | done | rfl | (simp only [List.length_drop, List.length_take]; rfl)) ?_
  with_reducible refine (cmp_Compare_int.calls a0_1 a1_1 t109 _ A4.out).mono ?_
  rintro e w' ⟨rfl, ⟨nd, rfl⟩⟩
  refine ⟨_, rfl, ?_⟩
  refine hK.out _ _ ⟨(blk_cell BK106.out 0).trans rfl, (blk_cell BK106.out 1).trans rfl, (blk_cell BK106.out 2).trans rfl, (blk_cell BK106.out 3).trans rfl, (blk_cell BK107.out 0).trans rfl, (blk_cell BK107.out 1).trans rfl, (blk_cell BK107.out 2).trans rfl, (blk_cell BK107.out 3).trans rfl⟩ (fun hHeld => ?_)
  clear hK K
  refine norm_ (a' := ?_) ?_ ?_
  rotate_left
  · show Act.put _ (some 14) _ = _
    simp only [Act.put, List.setIfInBounds_toArray, List.set_cons_zero, List.set_cons_succ, i64_w, i32_w]
    rfl
  refine one_ (i := 10) (N := some 15) #[true, true, true, true, true, true, true, true, true, true, true, false, false] rfl rfl (one_of HT_.out (by kernel_rfl)) (by decide) (fun K hK => ?_)
  refine Go.Proofs.Ytenhnlclnjnboaa.Open.R_lit_up (Kd.int .i64) _ 3 ?hg (N := 15) ?hd (xs := ([t108, t109] : List Int)) (inner := [.int .i64 t108, .int .i64 t109]) (ok := fun _ => True) (okp := fun _ => True) ?hr ?hp (fun _ hk => hk) trivial (Below.refl _ _) (Nat.le_refl _) (by simp) ?_; (case hd => rfl); (case hg => rfl); (case hr => first | (go_simp; done) | (go_simp; rfl)); (case hp => exact (Reps.one (show Kd.M (Kd.int .i64) _ _ _ t108 [.int .i64 t108] from rfl) (Reps.one (show Kd.M (Kd.int .i64) _ _ _ t109 [.int .i64 t109] from rfl) (Reps.none _ _))))
  intro v111 w9 ho10 hb hg_ hnew_ hu_
  have nU_ := Aside0.mk (Go.Proofs.Ytenhnlclnjnboaa.Open.Up.trans (by repeat (first | exact HU.out | apply Go.Proofs.Ytenhnlclnjnboaa.Open.Up.drewN | apply Go.Proofs.Ytenhnlclnjnboaa.Open.Up.drew)) hu_); clear HU; have HU := nU_; clear nU_ hu_
  clear hg_ hnew_
  (first | rw [← Ny110.out] at ho10 | (simp only [Int.reduceToNat] at ho10; rw [← Ny110.out] at ho10))
  have n0_ := Aside0.mk (Kd.R_lower ho10 (below_size (by repeat (first | (with_reducible first | exact HB.out | apply below_alloc | apply pw_below_drewN | apply below_drew1 | refine below_set ?_ GE106.out | refine below_set ?_ GE107.out) | exact HB.out))))
  have n1_ := Aside0.mk (blk_below (g := gb106) (o := .cells #[.int .i64 a0_0, .int .i64 a0_1, .int .i64 a0_2, .int .i64 a0_3] 51 (0, 0)) (by (with_reducible repeat (first | refine blk_drewN ?_ _ | refine blk_drew ?_ | refine blk_alloc ?_ _)); exact BK106.out) hb)
  have n2_ := Aside0.mk (blk_below (g := gb107) (o := .cells #[.int .i64 a1_0, .int .i64 a1_1, .int .i64 a1_2, .int .i64 a1_3] 51 (0, 0)) (by (with_reducible repeat (first | refine blk_drewN ?_ _ | refine blk_drew ?_ | refine blk_alloc ?_ _)); exact BK107.out) hb)
  have n3_ := Aside0.mk (below_step (by repeat (first | (with_reducible first | exact HB.out | apply below_alloc | apply pw_below_drewN | apply below_drew1 | refine below_set ?_ GE106.out | refine below_set ?_ GE107.out) | exact HB.out)) hb)
  clear BK106
  clear BK107
  clear HB
  have HO112 := n0_
  have BK106 := n1_
  have BK107 := n2_
  have HB := n3_
  clear n0_ n1_ n2_ n3_
  clear hb ho10
  obtain ⟨Ao11, co11, eo11⟩ := Kd.R_slice HO112.out
  (first | subst eo11 | (injection eo11 with f1_ f2_ f3_; have f4_ := f1_.symm; have f5_ := f3_.symm; clear f1_ f2_ f3_; subst f4_; subst f5_))
  refine hK.out _ _ ⟨(blk_cell BK106.out 0).trans rfl, (blk_cell BK106.out 1).trans rfl, (blk_cell BK106.out 2).trans rfl, (blk_cell BK106.out 3).trans rfl, (blk_cell BK107.out 0).trans rfl, (blk_cell BK107.out 1).trans rfl, (blk_cell BK107.out 2).trans rfl, (blk_cell BK107.out 3).trans rfl⟩ (fun hHeld => ?_)
  clear hK K
  refine norm_ (a' := ?_) ?_ ?_
  rotate_left
  · show Act.put _ (some 15) _ = _
    simp only [Act.put, List.setIfInBounds_toArray, List.set_cons_zero, List.set_cons_succ, i64_w, i32_w]
    rfl
  refine one_ (i := 11) (N := some 16) #[true, true, true, true, true, true, true, true, true, true, true, true, false] rfl rfl (one_of HT_.out (by kernel_rfl)) (by decide) (fun K hK => ?_)
  refine goes_ Try.func56 (by kernel_rfl) rfl #[.slice Ao11 y110.length co11] (by rfl) rfl rfl (by (try simp only [List.map_toArray, List.map_cons, List.map_nil]); first | done | rfl | (simp only [List.length_drop, List.length_take]; rfl)) ?_
  with_reducible refine (cmp_Or_int.calls k _ _ y110 t113 _ ?side1 ?side2 A5.out).mono ?_
  (case side1 => repeat (first | exact (Kd.R_reads' HO112.out).2.2 | (with_reducible refine Kd.C_alloc ?_ _) | (with_reducible refine Kd.C_drewN ?_ _) | (with_reducible refine Kd.C_drew ?_)))
  (case side2 => exact (Kd.R_reads' HO112.out).2.1)
  rintro e w' ⟨rfl, ⟨nd, rfl⟩⟩
  refine ⟨_, rfl, ?_⟩
  refine hK.out _ _ ⟨(blk_cell BK106.out 0).trans rfl, (blk_cell BK106.out 1).trans rfl, (blk_cell BK106.out 2).trans rfl, (blk_cell BK106.out 3).trans rfl, (blk_cell BK107.out 0).trans rfl, (blk_cell BK107.out 1).trans rfl, (blk_cell BK107.out 2).trans rfl, (blk_cell BK107.out 3).trans rfl⟩ (fun hHeld => ?_)
  clear hK K
  refine norm_ (a' := ?_) ?_ ?_
  rotate_left
  · show Act.put _ (some 16) _ = _
    simp only [Act.put, List.setIfInBounds_toArray, List.set_cons_zero, List.set_cons_succ, i64_w, i32_w]
    rfl
  refine pure_ (i := 12) (N := some 4) (v := ?_) (a' := ?_) #[true, true, true, true, true, true, true, true, true, true, true, true, true] rfl rfl (any_of HT_.out (by kernel_rfl)) (fun _ _ _ h => h) (Or.inl ⟨by rfl, ?_⟩) ?_ ?_
  rotate_left
  · intro w'
    go_simp
    with_reducible rfl
  rotate_left
  · simp only [Act.put, List.setIfInBounds_toArray, List.set_cons_zero, List.set_cons_succ, i64_w, i32_w]
    rfl
  refine done_ (done_of HT_.out (by kernel_rfl)) ?_
  try go_wp2
  go_ret
  exact ⟨by first | rfl | (simp [*] <;> rfl), by repeat (first | exact HU.out | apply Go.Proofs.Ytenhnlclnjnboaa.Open.Up.drewN | apply Go.Proofs.Ytenhnlclnjnboaa.Open.Up.drew)⟩


instance : Inhabited S51 := ⟨z51⟩
def pay_enc (x : S51) : List Value := [.int .i64 x.f0, .int .i64 x.f1, .int .i64 x.f2, .int .i64 x.f3]
def pay_cmp (x y : S51) : Int := if x.f0 < y.f0 then -1 else if x.f0 > y.f0 then 1 else if x.f1 < y.f1 then -1 else if x.f1 > y.f1 then 1 else 0
def sgn2 (a b : Int) : Int := if a < b then -1 else if a > b then 1 else 0
theorem cmp_sgn (a b : Int) : cmp_Compare_int.f a b = some (sgn2 a b) := by
  unfold cmp_Compare_int.f cmp_isNaN_int.f sgn2
  simp only [bne_self_eq_false, Option.bind_some, Bool.false_eq_true, if_false]
  split
  · rfl
  · split <;> rfl
theorem or_sgn (a b : Int) (ha : a = -1 ∨ a = 0 ∨ a = 1) (hb : b = -1 ∨ b = 0 ∨ b = 1) : cmp_Or_int.f 10 [a, b] = some (if a = 0 then b else a) := by
  rcases ha with rfl | rfl | rfl <;> rcases hb with rfl | rfl | rfl <;> decide +kernel
theorem sgn_3 (a b : Int) : sgn2 a b = -1 ∨ sgn2 a b = 0 ∨ sgn2 a b = 1 := by
  unfold sgn2
  split
  · exact .inl rfl
  · split
    · exact .inr (.inr rfl)
    · exact .inr (.inl rfl)
theorem pay_closure (x y : S51) : back_Correct_1.f 10 x.f0 x.f1 x.f2 x.f3 y.f0 y.f1 y.f2 y.f3 = some (pay_cmp x y) := by
  unfold back_Correct_1.f pay_cmp
  rw [cmp_sgn, cmp_sgn]
  simp only [Option.bind_some]
  rw [or_sgn _ _ (sgn_3 _ _) (sgn_3 _ _)]
  simp only [Option.bind_some]
  have e1 : sgn2 x.f0 y.f0 = if x.f0 < y.f0 then -1 else if x.f0 > y.f0 then 1 else 0 := rfl
  have e2 : sgn2 x.f1 y.f1 = if x.f1 < y.f1 then -1 else if x.f1 > y.f1 then 1 else 0 := rfl
  by_cases h1 : x.f0 < y.f0
  · rw [if_pos h1] at e1; rw [e1, if_neg (by decide), if_pos h1]
  · rw [if_neg h1] at e1
    by_cases h2 : x.f0 > y.f0
    · rw [if_pos h2] at e1; rw [e1, if_neg (by decide), if_neg h1, if_pos h2]
    · rw [if_neg h2] at e1; rw [if_pos e1, e2, if_neg h1, if_neg h2]
theorem pay_lays (blk off size : Nat) (w : World) : Go.Proofs.CmpLays Try.prog 55 #[] pay_enc 4 pay_cmp blk off size w :=
  fun _ _ _ _ x y => back_Correct_1.lays 10 _ _ _ _ _ _ _ _ (pay_cmp x y) _ (pay_closure x y)
theorem pay_lt (x y : S51) : Go.Proofs.ltOf pay_cmp x y = decide (x.f0 < y.f0 ∨ (x.f0 = y.f0 ∧ x.f1 < y.f1)) := by
  unfold Go.Proofs.ltOf pay_cmp
  rw [decide_eq_decide]
  split
  · omega
  · split
    · omega
    · split
      · omega
      · split <;> omega
theorem pay_swo : Go.Sort.SWO (Go.Proofs.ltOf pay_cmp) where
  irrefl x := by rw [pay_lt]; simp
  trans x y z h1 h2 := by rw [pay_lt] at *; simp at *; omega
  ntrans x y z h1 h2 := by rw [pay_lt] at *; simp at *; omega
def pay_sort (l : List S51) : List S51 := (Go.Sort.pdq (Go.Proofs.ltOf pay_cmp) l.toArray 0 l.toArray.size (Go.Lib.bitLen l.toArray.size) true true).toList
def api_Pay_44.f (l0 : List S51) : Option (List S51) := if l0.length < 4611686018427387904 then some (pay_sort l0) else none
theorem pay_perm (l : List S51) : (pay_sort l).Perm l ∧ (pay_sort l).Pairwise (fun x y => Go.Proofs.ltOf pay_cmp y x = false) := by
  have h := Go.Sort.pdq_sorts (Go.Proofs.ltOf pay_cmp) pay_swo l.toArray 0 l.toArray.size (Go.Lib.bitLen l.toArray.size) true true (Nat.zero_le _) (Nat.le_refl _) (Or.inl rfl)
  obtain ⟨⟨hs, _, hp⟩, hso⟩ := h
  unfold pay_sort
  generalize Go.Sort.pdq (Go.Proofs.ltOf pay_cmp) l.toArray 0 l.toArray.size (Go.Lib.bitLen l.toArray.size) true true = d at *
  constructor
  · have e1 : d.extract 0 l.toArray.size = d := by rw [← hs]; simp
    rw [e1] at hp
    simpa using hp
  · rw [List.pairwise_iff_getElem]
    intro i j hi hj hij
    have := hso i j (Nat.zero_le _) hij (by rw [← hs]; simpa using hj)
    rw [getElem!_pos d j (by simpa using hj), getElem!_pos d i (by simpa using hi)] at this
    simpa using this
set_option maxHeartbeats 4000000 in
set_option maxRecDepth 100000 in
theorem api_Pay_44.calls (P0_ : Nat → Prop) (u9000_ : Value) (l0 : List (S51)) (r : List (S51)) (w0 w : World) (hB : Below w0.heap.size w0 w) (ho0 : Kd.R k51 51 w w0.heap.size P0_ u9000_ l0) (h : api_Pay_44.f l0 = some r) :
    Calls Try.prog 54 #[u9000_, .func (.func 55) #[] #[]] w fun e w' => e = .returned (.tuple #[]) ∧ Kd.R k51 51 w' w0.heap.size (fun k_ => (P0_ k_ ∨ w.heap.size ≤ k_)) u9000_ r ∧ Below w0.heap.size w0 w' ∧ Kept w w' (fun k_ => P0_ k_) := by
  unfold api_Pay_44.f at h
  split at h
  · rename_i hl
    obtain rfl := Option.some.inj h
    clear h
    rcases Nat.eq_zero_or_pos l0.length with h0 | h0
    · obtain rfl := List.length_eq_zero_iff.1 h0
      obtain ⟨A, c, rfl⟩ := Kd.R_slice ho0
      have hnil : pay_sort [] = [] := by
        have := (pay_perm []).1.length_eq
        exact List.length_eq_zero_iff.1 (by simpa using this)
      rw [hnil]
      have hcon := Go.Proofs.AnyF.slices_SortFunc_none { sortPay with } A c (.func (.func 55) #[] #[]) w
      change Calls Try.prog 54 _ _ _ at hcon
      exact hcon.mono fun e w' ⟨he, hw⟩ => by subst hw; exact ⟨he, Kd.R_mono ho0 (fun _ h_ => .inl h_), hB, Kept.refl _ _⟩
    · obtain ⟨g, cap, rfl, hge, hgl, _⟩ := Kd.R_form ho0 h0
      have eg : ∀ args w, (callFunc 55 args).run Try.prog w = .ok (.enter 55 args) w := enters_of Try.func55 (by kernel_rfl) rfl
      have hH := Go.Proofs.Ytenhnlclnjnboaa.Open.holdsK_of_R (d := k51) pay_enc (fun _ => rfl) (fun W base ok x c hc => k51_openM hc) ho0
      have hcon := Go.Proofs.AnyQ.slices_SortFunc_eq sortPay 4 (fun w => by kernel_rfl) (fun w => by kernel_rfl) pay_enc (fun _ => rfl) (fun x v hv => by simp [pay_enc] at hv; rcases hv with rfl | rfl | rfl | rfl <;> rfl) pay_cmp pay_swo 55 #[] g 0 cap l0.toArray w eg (pay_lays g 0 l0.toArray.size w) hH hgl (by simpa using hl)
      change Calls Try.prog 54 _ _ _ at hcon
      have hP : P0_ g := ho0.1 g (by simp [Value.ownBlock])
      have hps : (Go.Sort.pdq (Go.Proofs.ltOf pay_cmp) l0.toArray 0 l0.toArray.size (Go.Lib.bitLen l0.toArray.size) true true).size = l0.length := by
        have := (pay_perm l0).1.length_eq
        unfold pay_sort at this
        simpa using this
      refine Calls.mono hcon ?_
      rintro e w' ⟨rfl, n, os, rfl⟩
      obtain ⟨hR, hgr⟩ := Go.Proofs.Ytenhnlclnjnboaa.Open.R_sorted (d := k51) pay_enc (fun _ => rfl) (fun W base ok x => k51_mkM _ _ _ x) ho0 hgl _ hps n os
      exact ⟨rfl, Kd.R_mono hR (fun _ h_ => .inl h_), hB.grown hgr (Nat.le_of_lt (Nat.lt_of_le_of_lt hge hgl)) (fun k hk => by injection hk with hk; subst hk; exact hge),
        Kept.of_grown (S := fun k_ => P0_ k_) hgr (Kept.refl w _) (fun k hk => .inl (by injection hk with hk; subst hk; exact hP))⟩
  · exact absurd h (by simp)
theorem corr_laidOut : laidOutB Try.prog = true := by kernel_rfl
theorem corr_row : (81 : TypeId) < Try.prog.types.size := of_decide_eq_true (by kernel_rfl)
theorem corr_wide : (match Try.prog.underlying 81 with | some (.array _ _) | some (.struct _) => true | _ => false) = true := by rw [Try.underlying81]
theorem corr_kt : Try.prog.keyTypeAt 3 81 = true := by kernel_rfl
set_option maxRecDepth 100000 in
theorem corr_law : Go.WideMaps.KeyLaw Try.prog 81 := deep_law_laid (P := Try.prog) corr_laidOut (m := 3) (Nat.le_of_ble_eq_true rfl) corr_row corr_kt corr_wide
set_option maxRecDepth 100000 in
theorem corr_keyed : Go.Maps.Keyed Try.prog 81 := Go.Maps.Keyed.of_law corr_law
theorem corr_key : Try.prog.keyType 81 = true := by kernel_rfl
def isI64 (a : Int) : Bool := decide (-9223372036854775808 ≤ a ∧ a ≤ 9223372036854775807)
theorem isI64_wf {a : Int} (h : isI64 a = true) : (Lit.int .i64 a).wf = true := by
  have := of_decide_eq_true h
  simpa [Lit.wf, IntKind.min, IntKind.max, IntKind.signed, IntKind.bits] using this
theorem wf_isI64 {a : Int} (h : (Lit.int .i64 a).wf = true) : isI64 a = true := by
  apply decide_eq_true
  simpa [Lit.wf, IntKind.min, IntKind.max, IntKind.signed, IntKind.bits] using h
theorem wrap_isI64 (a : Int) : isI64 (wrap64 a) = true := by apply decide_eq_true; unfold wrap64; omega
theorem keyOf_pay {a b : Int} (wa : isI64 a = true) (wb : isI64 b = true) : ∃ l, keyOf Try.prog 81 (.agg #[.int .i64 a, .int .i64 b]) = some l := by
  replace wa := isI64_wf wa
  replace wb := isI64_wf wb
  have hsz : ∃ m, Try.prog.types.size = m + 1 := ⟨Try.prog.types.size - 1, by kernel_rfl⟩
  obtain ⟨m, hm⟩ := hsz
  have hc : Try.prog.cellsOf 81 = 2 := by kernel_rfl
  have hc3 : Try.prog.cellsOf 3 = 1 := by kernel_rfl
  have hf : (Value.agg #[.int .i64 a, .int .i64 b]).formed Try.prog 81 = true := by simp [Value.formed, Try.underlying81, hc]
  unfold keyOf
  rw [Try.underlying81]
  simp only [corr_key, hf, Bool.and_self, if_true]
  rw [hm]
  simp [Program.keyLits, Try.underlying81, Try.underlying3, Value.cells, hc3, wa, wb]
  exact hc.symm
/-- A key's value; what a key reads as. -/
def keyV (k : Int × Int) : Value := .agg #[.int .i64 k.1, .int .i64 k.2]
instance : Nonempty Lit := ⟨.bool false⟩
noncomputable def keyL (k : Int × Int) : Lit := Classical.epsilon (fun l => keyOf Try.prog 81 (keyV k) = some l)
def wfK (k : Int × Int) : Bool := isI64 k.1 && isI64 k.2
theorem keyL_eq {k : Int × Int} (h : wfK k = true) : keyOf Try.prog 81 (keyV k) = some (keyL k) := by
  unfold wfK at h
  rw [Bool.and_eq_true] at h
  obtain ⟨l, hl⟩ := keyOf_pay h.1 h.2
  exact Classical.epsilon_spec (p := fun l => keyOf Try.prog 81 (keyV k) = some l) ⟨l, hl⟩
set_option maxRecDepth 100000 in
theorem keyL_inj {k k' : Int × Int} (h : wfK k = true) (h' : wfK k' = true) (e : keyL k = keyL k') : k = k' := by
  have h1 := keyL_eq h
  have h2 := keyL_eq h'
  rw [← e] at h2
  have := corr_keyed.inj (a := keyV k) (b := keyV k') (l := keyL k) h1 h2
  unfold keyV at this
  injection this with this
  simp at this
  exact Prod.ext this.1 this.2
/-- Sums by key: a list of keys, each once. -/
def corr_add (m : List ((Int × Int) × Int)) (k : Int × Int) (n : Int) : List ((Int × Int) × Int) :=
  match m with
  | [] => [(k, wrap64 n)]
  | p :: r => if p.1 = k then (k, wrap64 (p.2 + n)) :: r else p :: corr_add r k n
def corr_get (m : List ((Int × Int) × Int)) (k : Int × Int) : Int :=
  match m with
  | [] => 0
  | p :: r => if p.1 = k then p.2 else corr_get r k
theorem corr_get_add (m : List ((Int × Int) × Int)) (k k' : Int × Int) (n : Int) : corr_get (corr_add m k n) k' = if k' = k then wrap64 (corr_get m k + n) else corr_get m k' := by
  induction m with
  | nil =>
    simp only [corr_add, corr_get, Int.zero_add]
    by_cases h : k = k'
    · rw [if_pos h, if_pos h.symm]
    · rw [if_neg h, if_neg (fun z => h z.symm)]
  | cons p r ih =>
    rw [corr_add]
    by_cases hp : p.1 = k
    · rw [if_pos hp]
      simp only [corr_get]
      rw [if_pos hp]
      by_cases h : k = k'
      · rw [if_pos h, if_pos h.symm]
      · rw [if_neg h, if_neg (fun z => h z.symm), if_neg (fun z => h (hp.symm.trans z))]
    · rw [if_neg hp]
      simp only [corr_get]
      rw [ih]
      rw [if_neg hp]
      by_cases h : p.1 = k'
      · rw [if_pos h, if_neg (fun z => hp (h.trans z)), if_pos h]
      · rw [if_neg h, if_neg h]
theorem corr_mem_add (m : List ((Int × Int) × Int)) (k k' : Int × Int) (n : Int) : k' ∈ (corr_add m k n).map Prod.fst ↔ k' = k ∨ k' ∈ m.map Prod.fst := by
  induction m with
  | nil => simp [corr_add]
  | cons p r ih =>
    rw [corr_add]
    by_cases hp : p.1 = k
    · rw [if_pos hp]; simp [hp]
    · rw [if_neg hp]
      simp only [List.map_cons, List.mem_cons, ih]
      constructor
      · rintro (h | h | h)
        · exact .inr (.inl h)
        · exact .inl h
        · exact .inr (.inr h)
      · rintro (h | h | h)
        · exact .inr (.inl h)
        · exact .inl h
        · exact .inr (.inr h)
theorem corr_nodup_add (m : List ((Int × Int) × Int)) (k : Int × Int) (n : Int) (h : (m.map Prod.fst).Nodup) : ((corr_add m k n).map Prod.fst).Nodup := by
  induction m with
  | nil => simp [corr_add]
  | cons p r ih =>
    rw [corr_add]
    rw [List.map_cons, List.nodup_cons] at h
    by_cases hp : p.1 = k
    · rw [if_pos hp, List.map_cons, List.nodup_cons, ← hp]; exact h
    · rw [if_neg hp, List.map_cons, List.nodup_cons, corr_mem_add]
      exact ⟨fun z => z.elim hp h.1, ih h.2⟩
theorem corr_len_add (m : List ((Int × Int) × Int)) (k : Int × Int) (n : Int) : (corr_add m k n).length ≤ m.length + 1 := by
  induction m with
  | nil => simp [corr_add]
  | cons p r ih =>
    rw [corr_add]
    split
    · simp
    · simp only [List.length_cons]; omega
/-- The datum D is these sums. -/
structure Sums (D : DataW Unit) (m : List ((Int × Int) × Int)) : Prop where
  map : IsMap D
  nodup : (m.map Prod.fst).Nodup
  wf : ∀ p ∈ m, wfK p.1 = true
  at_ : ∀ k, wfK k = true → D.atKey (keyL k) (.lit (.int .i64 0)) = .lit (.int .i64 (corr_get m k))
  has : ∀ k, wfK k = true → (Go.Maps.has D (keyL k) = true ↔ k ∈ m.map Prod.fst)
  only : ∀ l, Go.Maps.has D l = true → ∃ k, wfK k = true ∧ l = keyL k
theorem Sums.empty : Sums (.map []) [] where
  map := ⟨[], rfl⟩
  nodup := by simp
  wf := by simp
  at_ k _ := rfl
  has k _ := by simp [Go.Maps.has]
  only l h := by simp [Go.Maps.has] at h
set_option maxRecDepth 100000 in
theorem isKey_keyL {k : Int × Int} (h : wfK k = true) : WideAt.IsKeyLit (keyL k) := corr_keyed.key (v := keyV k) (keyL_eq h)
theorem Sums.add {D : DataW Unit} {m : List ((Int × Int) × Int)} (h : Sums D m) (k : Int × Int) (hk : wfK k = true) (n : Int) : Sums (D.put (keyL k) (.lit (.int .i64 (wrap64 (corr_get m k + n))))) (corr_add m k n) where
  map := h.map.put _ _
  nodup := corr_nodup_add m k n h.nodup
  wf p hp := by
    have : p.1 ∈ (corr_add m k n).map Prod.fst := List.mem_map.2 ⟨p, hp, rfl⟩
    rcases (corr_mem_add m k p.1 n).1 this with e | e
    · rw [e]; exact hk
    · obtain ⟨q, hq, e⟩ := List.mem_map.1 e
      rw [← e]; exact h.wf q hq
  at_ k' hk' := by
    rw [corr_get_add]
    by_cases e : k' = k
    · subst e; rw [if_pos rfl, atKey_put_same h.map (isKey_keyL hk)]
    · rw [if_neg e, atKey_put_other (fun z => e (keyL_inj hk' hk z)), h.at_ k' hk']
  has k' hk' := by
    rw [corr_mem_add]
    by_cases e : k' = k
    · subst e; rw [has_put_same h.map (isKey_keyL hk)]; simp
    · rw [has_put_other (fun z => e (keyL_inj hk' hk z)), h.has k' hk']
      simp [e]
  only l hl := by
    by_cases e : l = keyL k
    · exact ⟨k, hk, e⟩
    · rw [has_put_other e] at hl; exact h.only l hl
def corr_wf (l : List S51) : Bool := l.all fun x => isI64 x.f0 && isI64 x.f1
def corr_fill (s : Int) (m : List ((Int × Int) × Int)) (l : List S51) : List ((Int × Int) × Int) := l.foldl (fun m p => corr_add m (p.f0, p.f1) (s * p.f2)) m
def corr_list (m : List ((Int × Int) × Int)) (day : Int) : List S51 := (m.filter fun e => !(e.2 == 0)).map fun e => ⟨e.1.1, e.1.2, e.2, day⟩
def corr_all (l0 l1 : List S51) (a2 : Int) : List S51 := corr_list (corr_fill (-1) (corr_fill 1 [] l1) l0) a2
def back_Correct.f (l0 l1 : List S51) (a2 : Int) : Option (List S51 × Int) :=
  (back_Check.f (2 * (l0.length + l1.length) + 4) l0).bind fun e0 => if e0 = 0 then ((back_Check.f (2 * (l0.length + l1.length) + 4) l1).bind fun e1 => if e1 = 0 then (if a2 < 0 then some ([], 1) else if a2 > 1048575 then some ([], 1) else
    if (corr_wf l0 && corr_wf l1 && decide (l0.length ≤ 1000 ∧ l1.length ≤ 1000)) = true then some (pay_sort (corr_all l0 l1 a2), 0) else none) else some ([], e1)) else some ([], e0)
theorem corr_zero : plainElem (H := Unit) Try.prog 3 (.int .i64 0) = some (.lit (.int .i64 0), []) := by
  simp [plainElem, Try.underlying3]
  decide
theorem corr_elem {n : Int} (h : isI64 n = true) : plainElem (H := Unit) Try.prog 3 (.int .i64 n) = some (.lit (.int .i64 n), []) := by
  have := isI64_wf h
  simp [plainElem, Try.underlying3, this]
theorem corr_look {P : Program} {w w' : World} {a : Act} {o : Oper} {t : TypeId} {m x : Operand} {vm vk v : Value} (hop : o.op = .lookup t m x false) (hm : a.eval m = vm) (hx : a.eval x = vk) (h : (Instr.lookup t vm vk false).run P w = .ok v w') : (execOp a.eval o).run P w = .ok (.value v) w' := by
  simp [execOp, hop, hm, hx, h, Result.andThen]
theorem corr_ment {P : Program} {w w' : World} {a : Act} {o : Oper} {t : TypeId} {m x : Operand} {vm vk v : Value} (hop : o.op = .mapEntry t m x) (hm : a.eval m = vm) (hx : a.eval x = vk) (h : (Instr.mapEntry t vm vk).run P w = .ok v w') : (execOp a.eval o).run P w = .ok (.value v) w' := by
  simp [execOp, hop, hm, hx, h, Result.andThen]
theorem corr_entry {P : Program} {w w' : World} {a : Act} {o : Oper} {t : TypeId} {m x y : Operand} {vm vk vv : Value} (hop : o.op = .entryStore t m x y) (hm : a.eval m = vm) (hx : a.eval x = vk) (hy : a.eval y = vv) (h : (Instr.entryStore t vm vk vv).run P w = .ok () w') : (execOp a.eval o).run P w = .ok .skip w' := by
  simp [execOp, hop, hm, hx, hy, h, Result.andThen]
theorem corr_key_at {l : List S51} (h : corr_wf l = true) (x : Int) (h0 : 0 ≤ x) (h1 : x < l.length) : wfK ((rd_T51 l x).f0, (rd_T51 l x).f1) = true := by
  have hx : x.toNat < l.length := by omega
  unfold corr_wf at h
  rw [List.all_eq_true] at h
  have := h (l[x.toNat]) (List.getElem_mem hx)
  unfold rd_T51 wfK
  rw [List.getD_eq_getElem?_getD, List.getElem?_eq_getElem hx]
  exact this
theorem corr_step (s : Int) (m0 : List ((Int × Int) × Int)) (l : List S51) (x : Int) (h0 : 0 ≤ x) (h1 : x < l.length) (hk : wfK ((rd_T51 l x).f0, (rd_T51 l x).f1) = true) {D : DataW Unit} (h : Sums D (corr_fill s m0 (l.take x.toNat))) {z : Int}
    (hz : z = corr_get (corr_fill s m0 (l.take x.toNat)) ((rd_T51 l x).f0, (rd_T51 l x).f1) + s * (rd_T51 l x).f2) :
    Sums (D.put (keyL ((rd_T51 l x).f0, (rd_T51 l x).f1)) (.lit (.int .i64 (wrap64 z)))) (corr_fill s m0 (l.take (x + 1).toNat)) := by
  have hx : x.toNat < l.length := by omega
  have e : (x + 1).toNat = x.toNat + 1 := by omega
  have e2 : l.take (x.toNat + 1) = l.take x.toNat ++ [rd_T51 l x] := by
    rw [List.take_add_one]
    unfold rd_T51
    rw [List.getD_eq_getElem?_getD, List.getElem?_eq_getElem hx]
    rfl
  subst hz
  rw [e, e2]
  unfold corr_fill
  rw [List.foldl_append]
  exact h.add _ hk _
theorem corr_owns {H : Type} {P : Program} {k : TypeId} {R : Value → Option (DataW H × List MemPlace)} {w w' : World} {b n : Nat} {D : DataW H} (h : w.ownsMap P k R b n D) (hb : Below w.heap.size w w') : w'.ownsMap P k R b n D := by
  obtain ⟨es, clock, he, h2⟩ := h
  exact ⟨es, clock, (hb.block b (Array.getElem?_eq_some_iff.1 he).1).trans he, h2⟩
theorem corr_all_of {s : Int} {m0 : List ((Int × Int) × Int)} {l : List S51} {D : DataW Unit} (h : Sums D (corr_fill s m0 (l.take (l.length : Int).toNat))) : Sums D (corr_fill s m0 l) := by
  rwa [Int.toNat_natCast, List.take_length] at h
structure Coll (M dn : List ((Int × Int) × Int)) (left : Lit → Bool) : Prop where
  nodup : (dn.map Prod.fst).Nodup
  mem : ∀ p ∈ dn, p ∈ M
  left_ : ∀ k, wfK k = true → (left (keyL k) = true ↔ k ∈ M.map Prod.fst ∧ k ∉ dn.map Prod.fst)
  only : ∀ l, left l = true → ∃ k, wfK k = true ∧ l = keyL k
theorem corr_get_mem {M : List ((Int × Int) × Int)} {k : Int × Int} (h : k ∈ M.map Prod.fst) : (k, corr_get M k) ∈ M := by
  induction M with
  | nil => simp at h
  | cons p r ih =>
    unfold corr_get
    by_cases e : p.1 = k
    · rw [if_pos e, ← e]; exact List.mem_cons_self
    · rw [if_neg e]
      rw [List.map_cons, List.mem_cons] at h
      exact List.mem_cons_of_mem _ (ih (h.resolve_left (fun z => e z.symm)))
theorem corr_once {M : List ((Int × Int) × Int)} (nd : (M.map Prod.fst).Nodup) {p q : (Int × Int) × Int} (hp : p ∈ M) (hq : q ∈ M) (e : p.1 = q.1) : p = q := by
  induction M with
  | nil => simp at hp
  | cons a r ih =>
    rw [List.map_cons, List.nodup_cons] at nd
    rcases List.mem_cons.1 hp with rfl | hp'
    · rcases List.mem_cons.1 hq with rfl | hq'
      · rfl
      · exact absurd (List.mem_map.2 ⟨q, hq', e.symm⟩) nd.1
    · rcases List.mem_cons.1 hq with rfl | hq'
      · exact absurd (List.mem_map.2 ⟨p, hp', e⟩) nd.1
      · exact ih nd.2 hp' hq'
theorem Coll.start {D : DataW Unit} {M : List ((Int × Int) × Int)} (h : Sums D M) : Coll M [] (Go.Maps.has D) := ⟨by simp, by simp, fun k hk => by rw [h.has k hk]; simp, h.only⟩
set_option maxRecDepth 100000 in
theorem Coll.next {D : DataW Unit} {M dn : List ((Int × Int) × Int)} {left : Lit → Bool} (hs : Sums D M) (h : Coll M dn left) {x : Value} {kl : Lit} {c : Int} {y : DataW Unit × List MemPlace} (hkey : keyOf Try.prog 81 x = some kl) (hlk : left kl = true)
    (hv : plainElem (H := Unit) Try.prog 3 (.int .i64 c) = some y) (hat : ∀ zd, D.atKey kl zd = y.1) : ∃ k1 k2 : Int, x = .agg #[.int .i64 k1, .int .i64 k2] ∧ Coll M (dn ++ [((k1, k2), c)]) (fun z => left z && !z.sameKey kl) := by
  obtain ⟨k, hk, rfl⟩ := h.only kl hlk
  have hx : x = keyV k := corr_keyed.inj hkey (keyL_eq hk)
  obtain ⟨hkM, hkn⟩ := (h.left_ k hk).1 hlk
  have hc : c = corr_get M k := by
    obtain ⟨a, ea, ey, _⟩ := Go.plainElem_int_inv Try.underlying3 hv
    injection ea with _ ea
    subst ea
    subst ey
    have := hs.at_ k hk
    rw [hat] at this
    simpa using this
  subst hc
  refine ⟨k.1, k.2, hx, ?_, ?_, ?_, ?_⟩
  · rw [List.map_append, List.nodup_append]
    refine ⟨h.nodup, by simp, fun a ha b hb => ?_⟩
    simp only [List.map_cons, List.map_nil, List.mem_singleton] at hb
    subst hb
    intro e
    have e' : a = k := e
    subst e'
    exact hkn ha
  · intro p hp
    rcases List.mem_append.1 hp with hp | hp
    · exact h.mem p hp
    · rw [List.mem_singleton] at hp
      subst hp
      exact corr_get_mem hkM
  · intro k' hk'
    have hi := h.left_ k' hk'
    simp only [Bool.and_eq_true, Bool.not_eq_true', List.map_append, List.map_cons, List.map_nil, List.mem_append, List.mem_singleton]
    constructor
    · rintro ⟨h1, h2⟩
      obtain ⟨h3, h4⟩ := hi.1 h1
      refine ⟨h3, fun z => ?_⟩
      rcases z with z | z
      · exact h4 z
      · subst z
        rw [WideAt.sameKey_self (isKey_keyL hk)] at h2
        exact absurd h2 (by simp)
    · rintro ⟨h1, h2⟩
      refine ⟨hi.2 ⟨h1, fun z => h2 (.inl z)⟩, ?_⟩
      refine Go.Maps.sameKey_ne (fun e => h2 (.inr ?_))
      exact keyL_inj hk' hk e
  · intro l hl
    rw [Bool.and_eq_true] at hl
    exact h.only l hl.1
theorem Coll.done {D : DataW Unit} {M dn : List ((Int × Int) × Int)} {left : Lit → Bool} (hs : Sums D M) (h : Coll M dn left) (hl : ∀ l, left l = false) : dn.Perm M := by
  have n1 : dn.Nodup := List.Pairwise.of_map (S := (· ≠ ·)) Prod.fst (fun a b hab e => hab (by rw [e])) h.nodup
  have n2 : M.Nodup := List.Pairwise.of_map (S := (· ≠ ·)) Prod.fst (fun a b hab e => hab (by rw [e])) hs.nodup
  refine (List.perm_ext_iff_of_nodup n1 n2).2 (fun p => ⟨h.mem p, fun hp => ?_⟩)
  have hk := hs.wf p hp
  have hm : p.1 ∈ M.map Prod.fst := List.mem_map.2 ⟨p, hp, rfl⟩
  have : p.1 ∈ dn.map Prod.fst := by
    apply Classical.byContradiction
    intro hn
    have := (h.left_ p.1 hk).2 ⟨hm, hn⟩
    rw [hl] at this
    exact absurd this (by simp)
  obtain ⟨q, hq, e⟩ := List.mem_map.1 this
  rw [← corr_once hs.nodup (h.mem q hq) hp e]
  exact hq
theorem corr_snoc0 (dn : List ((Int × Int) × Int)) (k : Int × Int) (a2 : Int) : corr_list (dn ++ [(k, 0)]) a2 = corr_list dn a2 := by
  unfold corr_list
  rw [List.filter_append]
  simp
theorem corr_snoc (dn : List ((Int × Int) × Int)) (k1 k2 c : Int) (hc : c ≠ 0) (a2 : Int) : corr_list (dn ++ [((k1, k2), c)]) a2 = corr_list dn a2 ++ [⟨k1, k2, c, a2⟩] := by
  unfold corr_list
  rw [List.filter_append]
  simp [hc]
theorem corr_list_len (dn : List ((Int × Int) × Int)) (a2 : Int) : (corr_list dn a2).length ≤ dn.length := by
  unfold corr_list
  rw [List.length_map]
  exact List.length_filter_le _ _
theorem corr_sorted {M dn : List ((Int × Int) × Int)} (nd : (M.map Prod.fst).Nodup) (hp : dn.Perm M) (a2 : Int) : pay_sort (corr_list dn a2) = pay_sort (corr_list M a2) := by
  have hpl : (corr_list dn a2).Perm (corr_list M a2) := (hp.filter _).map _
  obtain ⟨p1, s1⟩ := pay_perm (corr_list dn a2)
  obtain ⟨p2, s2⟩ := pay_perm (corr_list M a2)
  refine List.Perm.eq_of_pairwise (le := fun x y => Go.Proofs.ltOf pay_cmp y x = false) (fun a b ha hb h1 h2 => ?_) s1 s2 (p1.trans (hpl.trans p2.symm))
  have ha' := (p1.trans hpl).mem_iff.1 ha
  have hb' := p2.mem_iff.1 hb
  unfold corr_list at ha' hb'
  obtain ⟨x, hx, rfl⟩ := List.mem_map.1 ha'
  obtain ⟨y, hy, rfl⟩ := List.mem_map.1 hb'
  rw [pay_lt] at h1 h2
  simp only [decide_eq_false_iff_not] at h1 h2
  have hxy : x = y := corr_once nd (List.mem_filter.1 hx).1 (List.mem_filter.1 hy).1 (Prod.ext (by omega) (by omega))
  rw [hxy]
theorem corr_sortable {dn : List ((Int × Int) × Int)} (h : dn.length ≤ 2000) (a2 : Int) : api_Pay_44.f (corr_list dn a2) = some (pay_sort (corr_list dn a2)) := by
  unfold api_Pay_44.f
  rw [if_pos]
  have := corr_list_len dn a2
  omega
theorem corr_fresh {H : Type} {P : Program} {k : TypeId} {R : Value → Option (DataW H × List MemPlace)} {w : World} {b r n : Nat} {D : DataW H} {left : Lit → Bool} {cnt : Nat} (h : w.ranges P k R b r n D left cnt) {o : Obj} (j : Nat) (hj : (w.alloc o).heap.size ≤ j) : j ≠ b ∧ j ≠ r := by
  have h1 := h.owns.lt
  have h2 := h.lt
  have h3 : (w.alloc o).heap.size = w.heap.size + 1 := World.size_alloc w o
  omega
def back_Correct.T14 : Bool × List (List Nat × List Nat) := (true, [([], []), ([], []), ([1], [1]), ([], []), ([3], [3]), ([2, 4], [2, 4]), ([0, 5], [0, 5]), ([], []), ([7], [7]), ([6, 8], [6, 8]), ([0, 5, 0, 1, 2, 3, 4, 5, 7, 8], [0, 5]), ([10], [10]), ([0, 11, 9, 10, 0, 1, 2, 3, 4, 5, 6, 7, 8, 9, 10, 11], [0, 9, 11])])
def back_Correct.B14 : List Nat := [0, 0, 2, 0, 8, 30, 63, 0, 128, 511, 447, 1471, 4095]
theorem back_Correct.tab14 : rtab .any (opsOf Try.f40 14) = back_Correct.T14 := by kernel_rfl
theorem back_Correct.bits14 : waitsOk back_Correct.T14.2 back_Correct.B14 = true := by kernel_rfl
def back_Correct.T19 : Bool × List (List Nat × List Nat) := (true, [([], []), ([], []), ([1], [1]), ([], []), ([3], [3]), ([2, 4], [2, 4]), ([0, 5], [0, 5]), ([], []), ([7], [7]), ([6, 8], [6, 8]), ([0, 5, 0, 1, 2, 3, 4, 5, 7, 8], [0, 5]), ([10], [10]), ([0, 11, 9, 10, 0, 1, 2, 3, 4, 5, 6, 7, 8, 9, 10, 11], [0, 9, 11])])
def back_Correct.B19 : List Nat := [0, 0, 2, 0, 8, 30, 63, 0, 128, 511, 447, 1471, 4095]
theorem back_Correct.tab19 : rtab .any (opsOf Try.f40 19) = back_Correct.T19 := by kernel_rfl
theorem back_Correct.bits19 : waitsOk back_Correct.T19.2 back_Correct.B19 = true := by kernel_rfl
set_option maxHeartbeats 4000000 in
set_option maxRecDepth 100000 in
theorem back_Correct.good (k : Nat) (A0 : Option Addr) (c0 : Nat) (l0 : List S51) (A1 : Option Addr) (c1 : Nat) (l1 : List S51) (a2 : Int) (w : World) (hr0 : Kd.C k51 w A0 l0.length l0) (hc0 : l0.length ≤ c0) (hr1 : Kd.C k51 w A1 l1.length l1) (hc1 : l1.length ≤ c1)
    (h0 : back_Check.f k l0 = some 0) (h1 : back_Check.f k l1 = some 0) (hd1 : ¬ a2 < 0) (hd2 : ¬ a2 > 1048575) (hw0 : corr_wf l0 = true) (hw1 : corr_wf l1 = true) (hl0 : l0.length ≤ 1000) (hl1 : l1.length ≤ 1000) :
    Calls Try.prog 40 #[.slice A0 l0.length c0, .slice A1 l1.length c1, .int .i64 a2] w fun e w' => ∃ v0_ : Value, e = .returned (.tuple #[v0_, .int .i64 0]) ∧ Kd.R k51 51 w' w.heap.size (fun _ => True) v0_ (pay_sort (corr_all l0 l1 a2)) ∧ Below w.heap.size w w' := by
  have i0 : ∀ w, (Instr.index 77 (.agg #[.slice A0 l0.length c0, .slice A1 l1.length c1]) (.int .i64 0)).run Try.prog w = .ok (.slice A0 l0.length c0) w := fun _ => by kernel_rfl
  have i1 : ∀ w, (Instr.index 77 (.agg #[.slice A0 l0.length c0, .slice A1 l1.length c1]) (.int .i64 1)).run Try.prog w = .ok (.slice A1 l1.length c1) w := fun _ => by kernel_rfl
  have hd0 : decide (a2 < 0) = false := decide_eq_false hd1
  have hd3 : decide (1048575 < a2) = false := decide_eq_false hd2
  have hmm := @run_makeMap Try.prog
  clear hd1 hd2
  go_enter Try.func40, Try.ntmps40
  go_wp2_with fail
  refine wp_loop_rounds 3 ?_
  rw [rounds_succ]
  go_wp2_with (go_at_call 53; refine (back_Check.calls k _ _ l0 0 _ hr0 hc0 h0).mono ?_; rintro e w1 ⟨rfl, hb⟩)
  rw [rounds_succ]
  go_wp2_with (go_at_call 53; refine (back_Check.calls k _ _ l1 0 _ (Kd.C_below hr1 hb) hc1 h1).mono ?_; rintro e w2 ⟨rfl, hb2⟩)
  rw [rounds_succ]
  go_wp2
  have HB := Aside0.mk (below_alloc (hb.trans (hb2.mono hb.size)) (Obj.map #[] 0))
  have HO := Aside0.mk (World.ownsMap_made (H := Unit) w2 Try.prog 81 (plainElem Try.prog 3))
  have HM := Aside0.mk (show w.heap.size ≤ w2.heap.size from Nat.le_trans hb.size hb2.size)
  generalize w2.alloc (Obj.map #[] 0) = w3 at HB HO ⊢
  generalize w2.heap.size = mb at HO HM ⊢
  clear hb hb2 h0 h1 hmm
  go_loopg [40] l1.length (fun kq v wr => ∃ x : Int, v = .int .i64 x ∧ Aside0 (0 ≤ x ∧ x + kq = l1.length) ∧ Aside0 (Below w.heap.size w wr) ∧ Aside0 (∃ D : DataW Unit, Sums D (corr_fill (1) [] (l1.take x.toNat)) ∧ wr.ownsMap Try.prog 81 (plainElem Try.prog 3) mb (x.toNat) D))
  case atStart => exact ⟨0, rfl, ⟨by simp, by simp⟩, HB, ⟨⟨_, Sums.empty, HO.out⟩⟩⟩
  case round =>
    clear HB HO
    obtain ⟨x, rfl, HJ, HB, HD⟩ := hrel
    obtain ⟨D, HS0, HO0⟩ := HD.out
    have HS := Aside0.mk HS0
    have HO := Aside0.mk HO0
    clear HD HS0 HO0
    by_cases c : x < (l1.length : Int)
    · have HL := Aside0.mk c
      have HJ1 := HJ.out
      obtain ⟨kq, rfl⟩ : ∃ k', gk = k' + 1 := ⟨gk - 1, by omega⟩
      have HX := Aside0.mk (show wrap64 (x + 1) = x + 1 by unfold wrap64; omega)
      have HN := Aside0.mk (show x.toNat < maxLen by unfold maxLen; omega)
      have HK3 := Aside0.mk (corr_key_at hw1 x HJ1.1 c)
      have cb := decide_eq_true c
      have p1 := HJ1.1
      obtain ⟨ad, e1, hx_0, hx_1, hx_2, hx_3⟩ := at_T51 hr1 x p1 c
      clear HJ1
      cases e1
      replace hx_0 := (HB.out.cell (World.block_lt_of_cell? w _ hx_0)).trans hx_0
      replace hx_1 := (HB.out.cell (World.block_lt_of_cell? w _ hx_1)).trans hx_1
      replace hx_2 := (HB.out.cell (World.block_lt_of_cell? w _ hx_2)).trans hx_2
      replace hx_3 := (HB.out.cell (World.block_lt_of_cell? w _ hx_3)).trans hx_3
      replace p1 := eq_true p1
      replace c := eq_true c
      go_upto_region 14 with (first | ((with_reducible refine gate_dst (N := 13) rfl ?_); refine box_event ?hg (N := 13) ?hd (cs := #[.int .i64 0, .int .i64 0, .int .i64 0, .int .i64 0]) (t := 51) ?hr ?_; (case hd => rfl); (case hg => rfl); (case hr => first | (go_simp; done) | (go_simp; rfl)); intro gb hg wb hbox hb; have n0_ := Aside0.mk (below_step (by repeat (first | (with_reducible first | exact HB.out | apply below_alloc | apply pw_below_drewN | apply below_drew1) | exact HB.out)) hb); have GN := Aside0.mk (show gb ≠ mb by rw [hg]; exact Nat.ne_of_gt HO.out.lt); have GE := Aside0.mk (show w.heap.size ≤ gb by rw [hg]; exact HB.out.size); have HO1 := Aside0.mk (corr_owns HO.out hb); clear HB HO; have HB := n0_; have HO := HO1; clear n0_ HO1; have BK := Aside0.mk hbox; clear hb hbox hg; have hcz_0 : wb.cell? ⟨gb, 0, none⟩ = some (.int .i64 0) := (blk_cell BK.out 0).trans rfl; have hcz_1 : wb.cell? ⟨gb, 1, none⟩ = some (.int .i64 0) := (blk_cell BK.out 1).trans rfl; have hcz_2 : wb.cell? ⟨gb, 2, none⟩ = some (.int .i64 0) := (blk_cell BK.out 2).trans rfl; have hcz_3 : wb.cell? ⟨gb, 3, none⟩ = some (.int .i64 0) := (blk_cell BK.out 3).trans rfl; have hfz_0 := blk_frozen BK.out 0; have hfz_1 := blk_frozen BK.out 1; have hfz_2 := blk_frozen BK.out 2; have hfz_3 := blk_frozen BK.out 3))
      (try simp only [Act.put, List.setIfInBounds_toArray, List.set_cons_zero, List.set_cons_succ])
      have BK1 := Aside0.mk (blk_put (blk_put (blk_put (blk_put BK.out 0 (.int .i64 (rd_T51 l1 x).f0) rfl) 1 (.int .i64 (rd_T51 l1 x).f1) rfl) 2 (.int .i64 (rd_T51 l1 x).f2) rfl) 3 (.int .i64 (rd_T51 l1 x).f3) rfl)
      have HB1 := Aside0.mk (below_set (j := 3) (v := .int .i64 (rd_T51 l1 x).f3) (below_set (j := 2) (v := .int .i64 (rd_T51 l1 x).f2) (below_set (j := 1) (v := .int .i64 (rd_T51 l1 x).f1) (below_set (j := 0) (v := .int .i64 (rd_T51 l1 x).f0) HB.out GE.out) GE.out) GE.out) GE.out)
      have HO1 := Aside0.mk ((((HO.out.setCell (a := ⟨gb, 0, none⟩) (Ne.symm GN.out) (.int .i64 (rd_T51 l1 x).f0)).setCell (a := ⟨gb, 1, none⟩) (Ne.symm GN.out) (.int .i64 (rd_T51 l1 x).f1)).setCell (a := ⟨gb, 2, none⟩) (Ne.symm GN.out) (.int .i64 (rd_T51 l1 x).f2)).setCell (a := ⟨gb, 3, none⟩) (Ne.symm GN.out) (.int .i64 (rd_T51 l1 x).f3))
      clear BK HB HO hcz_0 hcz_1 hcz_2 hcz_3 hfz_0 hfz_1 hfz_2 hfz_3 hx_0 hx_1 hx_2 hx_3
      have BK := BK1
      have HB := HB1
      have HO := HO1
      clear BK1 HB1 HO1
      generalize (World.setCell (World.setCell (World.setCell (World.setCell wb _ _) _ _) _ _) _ _) = ws at BK HB HO ⊢
      have BKd := Aside0.mk (blk_drew BK.out)
      refine start_ (n := 13) (S := fun w' => w'.cell? ⟨gb, 0, none⟩ = some (.int .i64 (rd_T51 l1 x).f0) ∧ w'.cell? ⟨gb, 1, none⟩ = some (.int .i64 (rd_T51 l1 x).f1) ∧ w'.cell? ⟨gb, 2, none⟩ = some (.int .i64 (rd_T51 l1 x).f2)) (ds := []) #[false, false, false, false, false, false, false, false, false, false, false, false, false] (by kernel_rfl) rfl rfl ⟨(blk_cell BKd.out 0).trans rfl, (blk_cell BKd.out 1).trans rfl, (blk_cell BKd.out 2).trans rfl⟩ (fun hHeld => ?_); refine with_tabW back_Correct.tab14 back_Correct.bits14 (fun HT_ HW_ => ?_)
      have n0_ := Aside0.mk (below_drew1 HB.out)
      clear HB BK
      have HB := n0_
      clear n0_
      have BK := BKd
      clear BKd
      have HO' := Aside0.mk (HO.out.drew)
      clear HO
      have HO := HO'
      clear HO'
      generalize World.drew _ = wd at HB BK HO hHeld ⊢
      refine pure_ (i := 0) (N := some 44) (v := ?_) (a' := ?_) #[true, false, false, false, false, false, false, false, false, false, false, false, false] rfl rfl (any_of HT_.out (by kernel_rfl)) (fun _ _ _ h => h) (Or.inl ⟨by rfl, ?_⟩) ?_ ?_
      rotate_left
      · intro w'
        go_simp
        with_reducible rfl
      rotate_left
      · simp only [Act.put, List.setIfInBounds_toArray, List.set_cons_zero, List.set_cons_succ, i64_w, i32_w]
        rfl
      refine pure_ (i := 1) (N := some 45) (v := ?_) (a' := ?_) #[true, true, false, false, false, false, false, false, false, false, false, false, false] rfl rfl (any_of HT_.out (by kernel_rfl)) (fun _ _ _ h => h) (Or.inl ⟨by rfl, ?_⟩) ?_ ?_
      rotate_left
      · intro w'
        go_simp
        with_reducible rfl
      rotate_left
      · simp only [Act.put, List.setIfInBounds_toArray, List.set_cons_zero, List.set_cons_succ, i64_w, i32_w]
        rfl
      refine pure_ (i := 3) (N := some 47) (v := ?_) (a' := ?_) #[true, true, false, true, false, false, false, false, false, false, false, false, false] rfl rfl (any_of HT_.out (by kernel_rfl)) (fun _ _ _ h => h) (Or.inl ⟨by rfl, ?_⟩) ?_ ?_
      rotate_left
      · intro w'
        go_simp
        with_reducible rfl
      rotate_left
      · simp only [Act.put, List.setIfInBounds_toArray, List.set_cons_zero, List.set_cons_succ, i64_w, i32_w]
        rfl
      refine pure_ (i := 7) (N := some 51) (v := ?_) (a' := ?_) #[true, true, false, true, false, false, false, true, false, false, false, false, false] rfl rfl (any_of HT_.out (by kernel_rfl)) (fun _ _ _ h => h) (Or.inl ⟨by rfl, ?_⟩) ?_ ?_
      rotate_left
      · intro w'
        go_simp
        with_reducible rfl
      rotate_left
      · simp only [Act.put, List.setIfInBounds_toArray, List.set_cons_zero, List.set_cons_succ, i64_w, i32_w]
        rfl
      refine take_ (i := 2) (N := some 46) (v := ?_) (a' := ?_) #[true, true, true, true, false, false, false, true, false, false, false, false, false] rfl rfl (take_ofW HT_.out HW_.out (by kernel_rfl)) (fun _ _ _ h => h) (Or.inl ⟨by rfl, ?_⟩) hHeld ?_ ?_
      rotate_left
      · rintro w' ⟨s0, s1, s2⟩
        go_simp
        with_reducible rfl
      rotate_left
      · simp only [Act.put, List.setIfInBounds_toArray, List.set_cons_zero, List.set_cons_succ, i64_w, i32_w]
        rfl
      refine take_ (i := 4) (N := some 48) (v := ?_) (a' := ?_) #[true, true, true, true, true, false, false, true, false, false, false, false, false] rfl rfl (take_ofW HT_.out HW_.out (by kernel_rfl)) (fun _ _ _ h => h) (Or.inl ⟨by rfl, ?_⟩) hHeld ?_ ?_
      rotate_left
      · rintro w' ⟨s0, s1, s2⟩
        go_simp
        with_reducible rfl
      rotate_left
      · simp only [Act.put, List.setIfInBounds_toArray, List.set_cons_zero, List.set_cons_succ, i64_w, i32_w]
        rfl
      refine take_ (i := 8) (N := some 52) (v := ?_) (a' := ?_) #[true, true, true, true, true, false, false, true, true, false, false, false, false] rfl rfl (take_ofW HT_.out HW_.out (by kernel_rfl)) (fun _ _ _ h => h) (Or.inl ⟨by rfl, ?_⟩) hHeld ?_ ?_
      rotate_left
      · rintro w' ⟨s0, s1, s2⟩
        go_simp
        with_reducible rfl
      rotate_left
      · simp only [Act.put, List.setIfInBounds_toArray, List.set_cons_zero, List.set_cons_succ, i64_w, i32_w]
        rfl
      refine pure_ (i := 5) (N := some 49) (v := ?_) (a' := ?_) #[true, true, true, true, true, true, false, true, true, false, false, false, false] rfl rfl (any_of HT_.out (by kernel_rfl)) (fun _ _ _ h => h) (Or.inl ⟨by rfl, ?_⟩) ?_ ?_
      rotate_left
      · intro w'
        go_simp
        with_reducible rfl
      rotate_left
      · simp only [Act.put, List.setIfInBounds_toArray, List.set_cons_zero, List.set_cons_succ, i64_w, i32_w]
        rfl
      obtain ⟨v0_, ps0_, st_, es1_, clock1_, q0_, q1_, q2_, q3_, q4_, q5_⟩ := Go.Proofs.Ytenhnlclnjnboaa.Open.map_opassign corr_law Try.underlying79 (fun u => by kernel_rfl) corr_zero HO.out HN.out (keyL_eq HK3.out)
      unfold keyV at q1_ q2_ q3_
      rw [HS.out.at_ _ HK3.out] at q0_
      obtain ⟨x0_, rfl, q0_, -⟩ := Go.plainElem_int_inv Try.underlying3 q0_
      obtain rfl : corr_get (corr_fill (1) [] (l1.take x.toNat)) ((rd_T51 l1 x).f0, (rd_T51 l1 x).f1) = x0_ := by
        have := congrArg Prod.fst q0_
        simpa using this
      obtain ⟨we_, q6_, q7_, q8_⟩ := q5_ (.int .i64 (wrap64 (corr_get (corr_fill (1) [] (l1.take x.toNat)) ((rd_T51 l1 x).f0, (rd_T51 l1 x).f1) + (rd_T51 l1 x).f2))) _ _ (corr_elem (n := wrap64 (corr_get (corr_fill (1) [] (l1.take x.toNat)) ((rd_T51 l1 x).f0, (rd_T51 l1 x).f1) + (rd_T51 l1 x).f2)) (wrap_isI64 _))
      clear q5_ q0_
      have HB1 := Aside0.mk (HB.out.grown q4_ (Nat.le_of_lt (Nat.lt_of_le_of_lt HM.out HO.out.lt)) (fun k hk => by injection hk with hk; subst hk; exact HM.out))
      have HB2 := Aside0.mk (HB.out.grown q8_ (Nat.le_of_lt (Nat.lt_of_le_of_lt HM.out HO.out.lt)) (fun k hk => by injection hk with hk; subst hk; exact HM.out))
      have BK1 := Aside0.mk (blk_grown BK.out q4_ (fun h => GN.out (Option.some.inj h)))
      have BK2 := Aside0.mk (blk_grown BK.out q8_ (fun h => GN.out (Option.some.inj h)))
      refine two_ (i := 6) (j := 10) (Ni := some 50) (Nj := some 54) #[true, true, true, true, true, true, true, true, true, false, false, false, false] #[true, true, true, true, true, true, false, true, true, false, true, false, false] rfl rfl rfl rfl (two_of HT_.out (by kernel_rfl)) (by decide) (by decide) (fun K hK => ?_) (fun K hK => ?_)
      · skip
        refine value_ (by rfl) rfl (corr_look rfl rfl rfl q1_) ?_
        refine hK.out _ _ ⟨(blk_cell BK.out 0).trans rfl, (blk_cell BK.out 1).trans rfl, (blk_cell BK.out 2).trans rfl⟩ (fun hHeld => ?_)
        clear hK K
        refine norm_ (a' := ?_) ?_ ?_
        rotate_left
        · show Act.put _ (some 50) _ = _
          simp only [Act.put, List.setIfInBounds_toArray, List.set_cons_zero, List.set_cons_succ, i64_w, i32_w]
          rfl
        refine pure_ (i := 9) (N := some 53) (v := ?_) (a' := ?_) #[true, true, true, true, true, true, true, true, true, true, false, false, false] rfl rfl (any_of HT_.out (by kernel_rfl)) (fun _ _ _ h => h) (Or.inl ⟨by rfl, ?_⟩) ?_ ?_
        rotate_left
        · intro w'
          go_simp
          with_reducible rfl
        rotate_left
        · simp only [Act.put, List.setIfInBounds_toArray, List.set_cons_zero, List.set_cons_succ, i64_w, i32_w]
          rfl
        refine one_ (i := 10) (N := some 54) #[true, true, true, true, true, true, true, true, true, true, true, false, false] rfl rfl (one_of HT_.out (by kernel_rfl)) (by decide) (fun K hK => ?_)
        refine value_ (by rfl) rfl (corr_ment rfl rfl rfl q2_) ?_
        refine hK.out _ _ ⟨(blk_cell BK1.out 0).trans rfl, (blk_cell BK1.out 1).trans rfl, (blk_cell BK1.out 2).trans rfl⟩ (fun hHeld => ?_)
        clear hK K
        refine norm_ (a' := ?_) ?_ ?_
        rotate_left
        · show Act.put _ (some 54) _ = _
          simp only [Act.put, List.setIfInBounds_toArray, List.set_cons_zero, List.set_cons_succ, i64_w, i32_w]
          rfl
        refine pure_ (i := 11) (N := some 55) (v := ?_) (a' := ?_) #[true, true, true, true, true, true, true, true, true, true, true, true, false] rfl rfl (any_of HT_.out (by kernel_rfl)) (fun _ _ _ h => h) (Or.inl ⟨by rfl, ?_⟩) ?_ ?_
        rotate_left
        · intro w'
          go_simp
          with_reducible rfl
        rotate_left
        · simp only [Act.put, List.setIfInBounds_toArray, List.set_cons_zero, List.set_cons_succ, i64_w, i32_w]
          rfl
        refine one_ (i := 12) (N := none) #[true, true, true, true, true, true, true, true, true, true, true, true, true] rfl rfl (one_of HT_.out (by kernel_rfl)) (by decide) (fun K hK => ?_)
        refine skip_ (by rfl) rfl (corr_entry rfl rfl rfl rfl q6_) ?_
        refine hK.out _ _ ⟨(blk_cell BK2.out 0).trans rfl, (blk_cell BK2.out 1).trans rfl, (blk_cell BK2.out 2).trans rfl⟩ (fun hHeld => ?_)
        clear hK K
        refine done_ (done_of HT_.out (by kernel_rfl)) ?_
        try go_wp2
        go_roundg kq
        case measure => have := HJ.out; omega
        case rel => exact ⟨x + 1, (by (try simp only [i64_w]); first | rfl | rw [HX.out]), ⟨by have := HJ.out; omega, by have := HJ.out; omega⟩, HB2, ⟨⟨_, corr_step (1) [] l1 x HJ.out.1 HL.out HK3.out HS.out (by simp), q7_.mono (by have := HJ.out.1; omega)⟩⟩⟩
      · skip
        refine value_ (by rfl) rfl (corr_ment rfl rfl rfl q2_) ?_
        refine hK.out _ _ ⟨(blk_cell BK1.out 0).trans rfl, (blk_cell BK1.out 1).trans rfl, (blk_cell BK1.out 2).trans rfl⟩ (fun hHeld => ?_)
        clear hK K
        refine norm_ (a' := ?_) ?_ ?_
        rotate_left
        · show Act.put _ (some 54) _ = _
          simp only [Act.put, List.setIfInBounds_toArray, List.set_cons_zero, List.set_cons_succ, i64_w, i32_w]
          rfl
        refine pure_ (i := 11) (N := some 55) (v := ?_) (a' := ?_) #[true, true, true, true, true, true, false, true, true, false, true, true, false] rfl rfl (any_of HT_.out (by kernel_rfl)) (fun _ _ _ h => h) (Or.inl ⟨by rfl, ?_⟩) ?_ ?_
        rotate_left
        · intro w'
          go_simp
          with_reducible rfl
        rotate_left
        · simp only [Act.put, List.setIfInBounds_toArray, List.set_cons_zero, List.set_cons_succ, i64_w, i32_w]
          rfl
        refine one_ (i := 6) (N := some 50) #[true, true, true, true, true, true, true, true, true, false, true, true, false] rfl rfl (one_of HT_.out (by kernel_rfl)) (by decide) (fun K hK => ?_)
        refine value_ (by rfl) rfl (corr_look rfl rfl rfl q3_) ?_
        refine hK.out _ _ ⟨(blk_cell BK1.out 0).trans rfl, (blk_cell BK1.out 1).trans rfl, (blk_cell BK1.out 2).trans rfl⟩ (fun hHeld => ?_)
        clear hK K
        refine norm_ (a' := ?_) ?_ ?_
        rotate_left
        · show Act.put _ (some 50) _ = _
          simp only [Act.put, List.setIfInBounds_toArray, List.set_cons_zero, List.set_cons_succ, i64_w, i32_w]
          rfl
        refine pure_ (i := 9) (N := some 53) (v := ?_) (a' := ?_) #[true, true, true, true, true, true, true, true, true, true, true, true, false] rfl rfl (any_of HT_.out (by kernel_rfl)) (fun _ _ _ h => h) (Or.inl ⟨by rfl, ?_⟩) ?_ ?_
        rotate_left
        · intro w'
          go_simp
          with_reducible rfl
        rotate_left
        · simp only [Act.put, List.setIfInBounds_toArray, List.set_cons_zero, List.set_cons_succ, i64_w, i32_w]
          rfl
        refine one_ (i := 12) (N := none) #[true, true, true, true, true, true, true, true, true, true, true, true, true] rfl rfl (one_of HT_.out (by kernel_rfl)) (by decide) (fun K hK => ?_)
        refine skip_ (by rfl) rfl (corr_entry rfl rfl rfl rfl q6_) ?_
        refine hK.out _ _ ⟨(blk_cell BK2.out 0).trans rfl, (blk_cell BK2.out 1).trans rfl, (blk_cell BK2.out 2).trans rfl⟩ (fun hHeld => ?_)
        clear hK K
        refine done_ (done_of HT_.out (by kernel_rfl)) ?_
        try go_wp2
        go_roundg kq
        case measure => have := HJ.out; omega
        case rel => exact ⟨x + 1, (by (try simp only [i64_w]); first | rfl | rw [HX.out]), ⟨by have := HJ.out; omega, by have := HJ.out; omega⟩, HB2, ⟨⟨_, corr_step (1) [] l1 x HJ.out.1 HL.out HK3.out HS.out (by simp), q7_.mono (by have := HJ.out.1; omega)⟩⟩⟩
    · have cb : decide (x < (l1.length : Int)) = false := decide_eq_false c
      obtain rfl : x = (l1.length : Int) := by have := HJ.out; omega
      have HS1 := Aside0.mk (corr_all_of HS.out)
      have HO1 := Aside0.mk (show _root_.Go.World.ownsMap wr Try.prog 81 (plainElem Try.prog 3) mb (l1.length) D by simpa using HO.out)
      clear HS HO c HJ
      have HS := HS1
      have HO := HO1
      clear HS1 HO1
      generalize wr = w4 at HB HO ⊢
      go_wp2
      go_loopg [59] l0.length (fun kq v wr => ∃ x : Int, v = .int .i64 x ∧ Aside0 (0 ≤ x ∧ x + kq = l0.length) ∧ Aside0 (Below w.heap.size w wr) ∧ Aside0 (∃ D : DataW Unit, Sums D (corr_fill (-1) (corr_fill 1 [] l1) (l0.take x.toNat)) ∧ wr.ownsMap Try.prog 81 (plainElem Try.prog 3) mb (l1.length + x.toNat) D))
      case atStart => exact ⟨0, rfl, ⟨by simp, by simp⟩, HB, ⟨⟨_, HS.out, HO.out.mono (by simp)⟩⟩⟩
      case round =>
        clear HB HO HS
        obtain ⟨x, rfl, HJ, HB, HD⟩ := hrel
        obtain ⟨D, HS0, HO0⟩ := HD.out
        have HS := Aside0.mk HS0
        have HO := Aside0.mk HO0
        clear HD HS0 HO0
        by_cases c : x < (l0.length : Int)
        · have HL := Aside0.mk c
          have HJ1 := HJ.out
          obtain ⟨kq, rfl⟩ : ∃ k', gk = k' + 1 := ⟨gk - 1, by omega⟩
          have HX := Aside0.mk (show wrap64 (x + 1) = x + 1 by unfold wrap64; omega)
          have HN := Aside0.mk (show l1.length + x.toNat < maxLen by unfold maxLen; omega)
          have HK3 := Aside0.mk (corr_key_at hw0 x HJ1.1 c)
          have cb := decide_eq_true c
          have p1 := HJ1.1
          obtain ⟨ad, e1, hx_0, hx_1, hx_2, hx_3⟩ := at_T51 hr0 x p1 c
          clear HJ1
          cases e1
          replace hx_0 := (HB.out.cell (World.block_lt_of_cell? w _ hx_0)).trans hx_0
          replace hx_1 := (HB.out.cell (World.block_lt_of_cell? w _ hx_1)).trans hx_1
          replace hx_2 := (HB.out.cell (World.block_lt_of_cell? w _ hx_2)).trans hx_2
          replace hx_3 := (HB.out.cell (World.block_lt_of_cell? w _ hx_3)).trans hx_3
          replace p1 := eq_true p1
          replace c := eq_true c
          go_upto_region 19 with (first | ((with_reducible refine gate_dst (N := 15) rfl ?_); refine box_event ?hg (N := 15) ?hd (cs := #[.int .i64 0, .int .i64 0, .int .i64 0, .int .i64 0]) (t := 51) ?hr ?_; (case hd => rfl); (case hg => rfl); (case hr => first | (go_simp; done) | (go_simp; rfl)); intro gb hg wb hbox hb; have n0_ := Aside0.mk (below_step (by repeat (first | (with_reducible first | exact HB.out | apply below_alloc | apply pw_below_drewN | apply below_drew1) | exact HB.out)) hb); have GN := Aside0.mk (show gb ≠ mb by rw [hg]; exact Nat.ne_of_gt HO.out.lt); have GE := Aside0.mk (show w.heap.size ≤ gb by rw [hg]; exact HB.out.size); have HO1 := Aside0.mk (corr_owns HO.out hb); clear HB HO; have HB := n0_; have HO := HO1; clear n0_ HO1; have BK := Aside0.mk hbox; clear hb hbox hg; have hcz_0 : wb.cell? ⟨gb, 0, none⟩ = some (.int .i64 0) := (blk_cell BK.out 0).trans rfl; have hcz_1 : wb.cell? ⟨gb, 1, none⟩ = some (.int .i64 0) := (blk_cell BK.out 1).trans rfl; have hcz_2 : wb.cell? ⟨gb, 2, none⟩ = some (.int .i64 0) := (blk_cell BK.out 2).trans rfl; have hcz_3 : wb.cell? ⟨gb, 3, none⟩ = some (.int .i64 0) := (blk_cell BK.out 3).trans rfl; have hfz_0 := blk_frozen BK.out 0; have hfz_1 := blk_frozen BK.out 1; have hfz_2 := blk_frozen BK.out 2; have hfz_3 := blk_frozen BK.out 3))
          (try simp only [Act.put, List.setIfInBounds_toArray, List.set_cons_zero, List.set_cons_succ])
          have BK1 := Aside0.mk (blk_put (blk_put (blk_put (blk_put BK.out 0 (.int .i64 (rd_T51 l0 x).f0) rfl) 1 (.int .i64 (rd_T51 l0 x).f1) rfl) 2 (.int .i64 (rd_T51 l0 x).f2) rfl) 3 (.int .i64 (rd_T51 l0 x).f3) rfl)
          have HB1 := Aside0.mk (below_set (j := 3) (v := .int .i64 (rd_T51 l0 x).f3) (below_set (j := 2) (v := .int .i64 (rd_T51 l0 x).f2) (below_set (j := 1) (v := .int .i64 (rd_T51 l0 x).f1) (below_set (j := 0) (v := .int .i64 (rd_T51 l0 x).f0) HB.out GE.out) GE.out) GE.out) GE.out)
          have HO1 := Aside0.mk ((((HO.out.setCell (a := ⟨gb, 0, none⟩) (Ne.symm GN.out) (.int .i64 (rd_T51 l0 x).f0)).setCell (a := ⟨gb, 1, none⟩) (Ne.symm GN.out) (.int .i64 (rd_T51 l0 x).f1)).setCell (a := ⟨gb, 2, none⟩) (Ne.symm GN.out) (.int .i64 (rd_T51 l0 x).f2)).setCell (a := ⟨gb, 3, none⟩) (Ne.symm GN.out) (.int .i64 (rd_T51 l0 x).f3))
          clear BK HB HO hcz_0 hcz_1 hcz_2 hcz_3 hfz_0 hfz_1 hfz_2 hfz_3 hx_0 hx_1 hx_2 hx_3
          have BK := BK1
          have HB := HB1
          have HO := HO1
          clear BK1 HB1 HO1
          generalize (World.setCell (World.setCell (World.setCell (World.setCell wb _ _) _ _) _ _) _ _) = ws at BK HB HO ⊢
          have BKd := Aside0.mk (blk_drew BK.out)
          refine start_ (n := 13) (S := fun w' => w'.cell? ⟨gb, 0, none⟩ = some (.int .i64 (rd_T51 l0 x).f0) ∧ w'.cell? ⟨gb, 1, none⟩ = some (.int .i64 (rd_T51 l0 x).f1) ∧ w'.cell? ⟨gb, 2, none⟩ = some (.int .i64 (rd_T51 l0 x).f2)) (ds := []) #[false, false, false, false, false, false, false, false, false, false, false, false, false] (by kernel_rfl) rfl rfl ⟨(blk_cell BKd.out 0).trans rfl, (blk_cell BKd.out 1).trans rfl, (blk_cell BKd.out 2).trans rfl⟩ (fun hHeld => ?_); refine with_tabW back_Correct.tab19 back_Correct.bits19 (fun HT_ HW_ => ?_)
          have n0_ := Aside0.mk (below_drew1 HB.out)
          clear HB BK
          have HB := n0_
          clear n0_
          have BK := BKd
          clear BKd
          have HO' := Aside0.mk (HO.out.drew)
          clear HO
          have HO := HO'
          clear HO'
          generalize World.drew _ = wd at HB BK HO hHeld ⊢
          refine pure_ (i := 0) (N := some 63) (v := ?_) (a' := ?_) #[true, false, false, false, false, false, false, false, false, false, false, false, false] rfl rfl (any_of HT_.out (by kernel_rfl)) (fun _ _ _ h => h) (Or.inl ⟨by rfl, ?_⟩) ?_ ?_
          rotate_left
          · intro w'
            go_simp
            with_reducible rfl
          rotate_left
          · simp only [Act.put, List.setIfInBounds_toArray, List.set_cons_zero, List.set_cons_succ, i64_w, i32_w]
            rfl
          refine pure_ (i := 1) (N := some 64) (v := ?_) (a' := ?_) #[true, true, false, false, false, false, false, false, false, false, false, false, false] rfl rfl (any_of HT_.out (by kernel_rfl)) (fun _ _ _ h => h) (Or.inl ⟨by rfl, ?_⟩) ?_ ?_
          rotate_left
          · intro w'
            go_simp
            with_reducible rfl
          rotate_left
          · simp only [Act.put, List.setIfInBounds_toArray, List.set_cons_zero, List.set_cons_succ, i64_w, i32_w]
            rfl
          refine pure_ (i := 3) (N := some 66) (v := ?_) (a' := ?_) #[true, true, false, true, false, false, false, false, false, false, false, false, false] rfl rfl (any_of HT_.out (by kernel_rfl)) (fun _ _ _ h => h) (Or.inl ⟨by rfl, ?_⟩) ?_ ?_
          rotate_left
          · intro w'
            go_simp
            with_reducible rfl
          rotate_left
          · simp only [Act.put, List.setIfInBounds_toArray, List.set_cons_zero, List.set_cons_succ, i64_w, i32_w]
            rfl
          refine pure_ (i := 7) (N := some 70) (v := ?_) (a' := ?_) #[true, true, false, true, false, false, false, true, false, false, false, false, false] rfl rfl (any_of HT_.out (by kernel_rfl)) (fun _ _ _ h => h) (Or.inl ⟨by rfl, ?_⟩) ?_ ?_
          rotate_left
          · intro w'
            go_simp
            with_reducible rfl
          rotate_left
          · simp only [Act.put, List.setIfInBounds_toArray, List.set_cons_zero, List.set_cons_succ, i64_w, i32_w]
            rfl
          refine take_ (i := 2) (N := some 65) (v := ?_) (a' := ?_) #[true, true, true, true, false, false, false, true, false, false, false, false, false] rfl rfl (take_ofW HT_.out HW_.out (by kernel_rfl)) (fun _ _ _ h => h) (Or.inl ⟨by rfl, ?_⟩) hHeld ?_ ?_
          rotate_left
          · rintro w' ⟨s0, s1, s2⟩
            go_simp
            with_reducible rfl
          rotate_left
          · simp only [Act.put, List.setIfInBounds_toArray, List.set_cons_zero, List.set_cons_succ, i64_w, i32_w]
            rfl
          refine take_ (i := 4) (N := some 67) (v := ?_) (a' := ?_) #[true, true, true, true, true, false, false, true, false, false, false, false, false] rfl rfl (take_ofW HT_.out HW_.out (by kernel_rfl)) (fun _ _ _ h => h) (Or.inl ⟨by rfl, ?_⟩) hHeld ?_ ?_
          rotate_left
          · rintro w' ⟨s0, s1, s2⟩
            go_simp
            with_reducible rfl
          rotate_left
          · simp only [Act.put, List.setIfInBounds_toArray, List.set_cons_zero, List.set_cons_succ, i64_w, i32_w]
            rfl
          refine take_ (i := 8) (N := some 71) (v := ?_) (a' := ?_) #[true, true, true, true, true, false, false, true, true, false, false, false, false] rfl rfl (take_ofW HT_.out HW_.out (by kernel_rfl)) (fun _ _ _ h => h) (Or.inl ⟨by rfl, ?_⟩) hHeld ?_ ?_
          rotate_left
          · rintro w' ⟨s0, s1, s2⟩
            go_simp
            with_reducible rfl
          rotate_left
          · simp only [Act.put, List.setIfInBounds_toArray, List.set_cons_zero, List.set_cons_succ, i64_w, i32_w]
            rfl
          refine pure_ (i := 5) (N := some 68) (v := ?_) (a' := ?_) #[true, true, true, true, true, true, false, true, true, false, false, false, false] rfl rfl (any_of HT_.out (by kernel_rfl)) (fun _ _ _ h => h) (Or.inl ⟨by rfl, ?_⟩) ?_ ?_
          rotate_left
          · intro w'
            go_simp
            with_reducible rfl
          rotate_left
          · simp only [Act.put, List.setIfInBounds_toArray, List.set_cons_zero, List.set_cons_succ, i64_w, i32_w]
            rfl
          obtain ⟨v0_, ps0_, st_, es1_, clock1_, q0_, q1_, q2_, q3_, q4_, q5_⟩ := Go.Proofs.Ytenhnlclnjnboaa.Open.map_opassign corr_law Try.underlying79 (fun u => by kernel_rfl) corr_zero HO.out HN.out (keyL_eq HK3.out)
          unfold keyV at q1_ q2_ q3_
          rw [HS.out.at_ _ HK3.out] at q0_
          obtain ⟨x0_, rfl, q0_, -⟩ := Go.plainElem_int_inv Try.underlying3 q0_
          obtain rfl : corr_get (corr_fill (-1) (corr_fill 1 [] l1) (l0.take x.toNat)) ((rd_T51 l0 x).f0, (rd_T51 l0 x).f1) = x0_ := by
            have := congrArg Prod.fst q0_
            simpa using this
          obtain ⟨we_, q6_, q7_, q8_⟩ := q5_ (.int .i64 (wrap64 (corr_get (corr_fill (-1) (corr_fill 1 [] l1) (l0.take x.toNat)) ((rd_T51 l0 x).f0, (rd_T51 l0 x).f1) - (rd_T51 l0 x).f2))) _ _ (corr_elem (n := wrap64 (corr_get (corr_fill (-1) (corr_fill 1 [] l1) (l0.take x.toNat)) ((rd_T51 l0 x).f0, (rd_T51 l0 x).f1) - (rd_T51 l0 x).f2)) (wrap_isI64 _))
          clear q5_ q0_
          have HB1 := Aside0.mk (HB.out.grown q4_ (Nat.le_of_lt (Nat.lt_of_le_of_lt HM.out HO.out.lt)) (fun k hk => by injection hk with hk; subst hk; exact HM.out))
          have HB2 := Aside0.mk (HB.out.grown q8_ (Nat.le_of_lt (Nat.lt_of_le_of_lt HM.out HO.out.lt)) (fun k hk => by injection hk with hk; subst hk; exact HM.out))
          have BK1 := Aside0.mk (blk_grown BK.out q4_ (fun h => GN.out (Option.some.inj h)))
          have BK2 := Aside0.mk (blk_grown BK.out q8_ (fun h => GN.out (Option.some.inj h)))
          refine two_ (i := 6) (j := 10) (Ni := some 69) (Nj := some 73) #[true, true, true, true, true, true, true, true, true, false, false, false, false] #[true, true, true, true, true, true, false, true, true, false, true, false, false] rfl rfl rfl rfl (two_of HT_.out (by kernel_rfl)) (by decide) (by decide) (fun K hK => ?_) (fun K hK => ?_)
          · skip
            refine value_ (by rfl) rfl (corr_look rfl rfl rfl q1_) ?_
            refine hK.out _ _ ⟨(blk_cell BK.out 0).trans rfl, (blk_cell BK.out 1).trans rfl, (blk_cell BK.out 2).trans rfl⟩ (fun hHeld => ?_)
            clear hK K
            refine norm_ (a' := ?_) ?_ ?_
            rotate_left
            · show Act.put _ (some 69) _ = _
              simp only [Act.put, List.setIfInBounds_toArray, List.set_cons_zero, List.set_cons_succ, i64_w, i32_w]
              rfl
            refine pure_ (i := 9) (N := some 72) (v := ?_) (a' := ?_) #[true, true, true, true, true, true, true, true, true, true, false, false, false] rfl rfl (any_of HT_.out (by kernel_rfl)) (fun _ _ _ h => h) (Or.inl ⟨by rfl, ?_⟩) ?_ ?_
            rotate_left
            · intro w'
              go_simp
              with_reducible rfl
            rotate_left
            · simp only [Act.put, List.setIfInBounds_toArray, List.set_cons_zero, List.set_cons_succ, i64_w, i32_w]
              rfl
            refine one_ (i := 10) (N := some 73) #[true, true, true, true, true, true, true, true, true, true, true, false, false] rfl rfl (one_of HT_.out (by kernel_rfl)) (by decide) (fun K hK => ?_)
            refine value_ (by rfl) rfl (corr_ment rfl rfl rfl q2_) ?_
            refine hK.out _ _ ⟨(blk_cell BK1.out 0).trans rfl, (blk_cell BK1.out 1).trans rfl, (blk_cell BK1.out 2).trans rfl⟩ (fun hHeld => ?_)
            clear hK K
            refine norm_ (a' := ?_) ?_ ?_
            rotate_left
            · show Act.put _ (some 73) _ = _
              simp only [Act.put, List.setIfInBounds_toArray, List.set_cons_zero, List.set_cons_succ, i64_w, i32_w]
              rfl
            refine pure_ (i := 11) (N := some 74) (v := ?_) (a' := ?_) #[true, true, true, true, true, true, true, true, true, true, true, true, false] rfl rfl (any_of HT_.out (by kernel_rfl)) (fun _ _ _ h => h) (Or.inl ⟨by rfl, ?_⟩) ?_ ?_
            rotate_left
            · intro w'
              go_simp
              with_reducible rfl
            rotate_left
            · simp only [Act.put, List.setIfInBounds_toArray, List.set_cons_zero, List.set_cons_succ, i64_w, i32_w]
              rfl
            refine one_ (i := 12) (N := none) #[true, true, true, true, true, true, true, true, true, true, true, true, true] rfl rfl (one_of HT_.out (by kernel_rfl)) (by decide) (fun K hK => ?_)
            refine skip_ (by rfl) rfl (corr_entry rfl rfl rfl rfl q6_) ?_
            refine hK.out _ _ ⟨(blk_cell BK2.out 0).trans rfl, (blk_cell BK2.out 1).trans rfl, (blk_cell BK2.out 2).trans rfl⟩ (fun hHeld => ?_)
            clear hK K
            refine done_ (done_of HT_.out (by kernel_rfl)) ?_
            try go_wp2
            go_roundg kq
            case measure => have := HJ.out; omega
            case rel => exact ⟨x + 1, (by (try simp only [i64_w]); first | rfl | rw [HX.out]), ⟨by have := HJ.out; omega, by have := HJ.out; omega⟩, HB2, ⟨⟨_, corr_step (-1) (corr_fill 1 [] l1) l0 x HJ.out.1 HL.out HK3.out HS.out (by simp [Int.sub_eq_add_neg]), q7_.mono (by have := HJ.out.1; omega)⟩⟩⟩
          · skip
            refine value_ (by rfl) rfl (corr_ment rfl rfl rfl q2_) ?_
            refine hK.out _ _ ⟨(blk_cell BK1.out 0).trans rfl, (blk_cell BK1.out 1).trans rfl, (blk_cell BK1.out 2).trans rfl⟩ (fun hHeld => ?_)
            clear hK K
            refine norm_ (a' := ?_) ?_ ?_
            rotate_left
            · show Act.put _ (some 73) _ = _
              simp only [Act.put, List.setIfInBounds_toArray, List.set_cons_zero, List.set_cons_succ, i64_w, i32_w]
              rfl
            refine pure_ (i := 11) (N := some 74) (v := ?_) (a' := ?_) #[true, true, true, true, true, true, false, true, true, false, true, true, false] rfl rfl (any_of HT_.out (by kernel_rfl)) (fun _ _ _ h => h) (Or.inl ⟨by rfl, ?_⟩) ?_ ?_
            rotate_left
            · intro w'
              go_simp
              with_reducible rfl
            rotate_left
            · simp only [Act.put, List.setIfInBounds_toArray, List.set_cons_zero, List.set_cons_succ, i64_w, i32_w]
              rfl
            refine one_ (i := 6) (N := some 69) #[true, true, true, true, true, true, true, true, true, false, true, true, false] rfl rfl (one_of HT_.out (by kernel_rfl)) (by decide) (fun K hK => ?_)
            refine value_ (by rfl) rfl (corr_look rfl rfl rfl q3_) ?_
            refine hK.out _ _ ⟨(blk_cell BK1.out 0).trans rfl, (blk_cell BK1.out 1).trans rfl, (blk_cell BK1.out 2).trans rfl⟩ (fun hHeld => ?_)
            clear hK K
            refine norm_ (a' := ?_) ?_ ?_
            rotate_left
            · show Act.put _ (some 69) _ = _
              simp only [Act.put, List.setIfInBounds_toArray, List.set_cons_zero, List.set_cons_succ, i64_w, i32_w]
              rfl
            refine pure_ (i := 9) (N := some 72) (v := ?_) (a' := ?_) #[true, true, true, true, true, true, true, true, true, true, true, true, false] rfl rfl (any_of HT_.out (by kernel_rfl)) (fun _ _ _ h => h) (Or.inl ⟨by rfl, ?_⟩) ?_ ?_
            rotate_left
            · intro w'
              go_simp
              with_reducible rfl
            rotate_left
            · simp only [Act.put, List.setIfInBounds_toArray, List.set_cons_zero, List.set_cons_succ, i64_w, i32_w]
              rfl
            refine one_ (i := 12) (N := none) #[true, true, true, true, true, true, true, true, true, true, true, true, true] rfl rfl (one_of HT_.out (by kernel_rfl)) (by decide) (fun K hK => ?_)
            refine skip_ (by rfl) rfl (corr_entry rfl rfl rfl rfl q6_) ?_
            refine hK.out _ _ ⟨(blk_cell BK2.out 0).trans rfl, (blk_cell BK2.out 1).trans rfl, (blk_cell BK2.out 2).trans rfl⟩ (fun hHeld => ?_)
            clear hK K
            refine done_ (done_of HT_.out (by kernel_rfl)) ?_
            try go_wp2
            go_roundg kq
            case measure => have := HJ.out; omega
            case rel => exact ⟨x + 1, (by (try simp only [i64_w]); first | rfl | rw [HX.out]), ⟨by have := HJ.out; omega, by have := HJ.out; omega⟩, HB2, ⟨⟨_, corr_step (-1) (corr_fill 1 [] l1) l0 x HJ.out.1 HL.out HK3.out HS.out (by simp [Int.sub_eq_add_neg]), q7_.mono (by have := HJ.out.1; omega)⟩⟩⟩
        · have cb : decide (x < (l0.length : Int)) = false := decide_eq_false c
          obtain rfl : x = (l0.length : Int) := by have := HJ.out; omega
          have HS1 := Aside0.mk (corr_all_of HS.out)
          have HO1 := Aside0.mk (show _root_.Go.World.ownsMap wr Try.prog 81 (plainElem Try.prog 3) mb (l1.length + l0.length) D by simpa using HO.out)
          clear HS HO c HJ
          have HS := HS1
          have HO := HO1
          clear HS1 HO1
          generalize wr = w5 at HB HO ⊢
          go_wp2_with (first | (at_range; refine wpList_range_own _ rfl _ 79 rfl 81 3 corr_keyed Try.underlying79 _ mb _ D rfl HO.out ?_; intro w6 hrg hg6 hs6))
          have HR := Aside0.mk hrg
          have HRM := Aside0.mk (show w.heap.size ≤ w5.heap.size from below_size HB.out)
          have HZ := Aside0.mk (show Go.Maps.size D + 0 ≤ 2000 by have := HO.out.size_le; omega)
          have HB1 := Aside0.mk (HB.out.grown hg6 (below_size HB.out) (fun k hk => by cases hk))
          clear HB HO hg6 hs6 hrg
          have HB := HB1
          clear HB1
          have HC := Aside0.mk (Coll.start HS.out)
          generalize w5.heap.size = rr at HR HRM ⊢
          (try simp only [Act.put, List.setIfInBounds_toArray, List.set_cons_zero, List.set_cons_succ])
          go_loopg [16] (Go.Maps.size D) (fun kq v wr => ∃ (left : Lit → Bool) (dn : List ((Int × Int) × Int)), Aside0 (wr.ranges Try.prog 81 (plainElem Try.prog 3) mb rr (l1.length + l0.length) D left kq) ∧ Aside0 (Kd.R k51 51 wr w.heap.size (fun k => k ≠ mb ∧ k ≠ rr) v (corr_list dn a2)) ∧ Aside0 (Coll (corr_fill (-1) (corr_fill 1 [] l1) l0) dn left) ∧ Aside0 (kq + dn.length ≤ 2000) ∧ Aside0 (Below w.heap.size w wr))
          case atStart => exact ⟨_, [], HR, ⟨Kd.R_nil _ _ _ _ _⟩, HC, HZ, HB⟩
          case round =>
            clear HR HC HZ HB
            obtain ⟨left, dn, HR, HQ, HC, HZ, HB⟩ := hrel
            go_wp2_with (first | (at_next; refine wpList_next_ranges _ rfl _ rfl 81 corr_keyed (plainElem Try.prog 3) (fun v : Value => v) (Value.int .i64) (fun key kl h => ⟨key, rfl⟩) (fun v y h => by obtain ⟨c, rfl, _⟩ := Go.plainElem_int_inv Try.underlying3 h; exact ⟨c, rfl⟩) mb rr (l1.length + l0.length) D left gk rfl HR.out ?_ ?_ <;> first | (intro x c kl y w7 cnt1 hkey hlk hv hat hrg1 hlt hg1 hs1 hen; obtain ⟨k1, k2, rfl, hC1⟩ := Coll.next HS.out HC.out hkey hlk hv hat; have HQ1 := Aside0.mk (Kd.R_grown HQ.out hg1 (fun k hk e => hk.2 (Option.some.inj e))); have HB1 := Aside0.mk (HB.out.grown hg1 (below_size HB.out) (fun k hk => (by injection hk with hk; subst hk; exact HRM.out))); have HRn := Aside0.mk hrg1; clear hkey hlk hv hat HB HQ HR hs1 hg1 hrg1) | (intro hc0 hl0)) | (go_at_call 54; refine (api_Pay_44.calls (fun k => k ≠ mb ∧ k ≠ rr) _ (corr_list dn a2) _ w wr HB.out HQ.out (corr_sortable (by have := HZ.out; omega) a2)).mono ?_; rintro e w8 ⟨rfl, hq8, hb8, hk8⟩) | ((with_reducible refine gate_builtin (b := .append) (xs := #[.tmp 85, .tmp 93]) rfl ?_); at_builtin; refine Kd.R_append k51 (w0 := w) w.heap.size rfl (.tmp 85) (.tmp 93) 48 51 (.agg #[(.int .i64 0), (.int .i64 0), (.int .i64 0), (.int .i64 0)]) 32 rfl Try.underlying48 info51 rfl (by decide) (by omega) u16 (corr_list dn a2) (⟨k1, k2, c, a2⟩ : S51) [.int .i64 k1, .int .i64 k2, .int .i64 c, .int .i64 a2] (fun k => k ≠ mb ∧ k ≠ rr) (fun _ => False) rfl (by first | rfl | (rw [World.size_alloc]; rfl)) ?aP (fun _ hk => hk.elim) ?aF ?aO ?aB ?aS ?aL ?_; (case aP => exact k51_mkM _ _ _ (⟨k1, k2, c, a2⟩ : S51)); (case aF => exact (fun k hk => (corr_fresh HRn.out _ hk))); (case aO => exact Kd.R_alloc HQ1.out _); (case aB => exact below_alloc HB1.out _); (case aS => exact below_size (below_alloc HB1.out _)); (case aL => have := HZ.out; have := corr_list_len dn a2; omega); intro v1 wq ho hb hg hat))
            · go_ret2
              refine ⟨u16, rfl, ?_, hb8⟩
              rw [corr_sorted HS.out.nodup (Coll.done HS.out HC.out hl0)] at hq8
              exact Kd.R_mono hq8 (fun _ _ => trivial)
            · rename_i hz
              have hz' : c ≠ 0 := bne_iff_ne.mp hz
              go_roundg cnt1
              case measure => exact hlt
              case rel => exact ⟨_, dn ++ [((k1, k2), c)], ⟨(HRn.out.alloc _).kept hg (fun e => (HQ1.out.1 _ e.symm).1 rfl) (fun e => (HQ1.out.1 _ e.symm).2 rfl)⟩, ⟨by rw [corr_snoc _ _ _ _ hz']; exact ho⟩, ⟨hC1⟩, ⟨by have := HZ.out; rw [List.length_append]; simp only [List.length_cons, List.length_nil]; omega⟩, ⟨hb⟩⟩
            · rename_i hz
              obtain rfl : c = 0 := by simpa using hz
              go_roundg cnt1
              case measure => exact hlt
              case rel => exact ⟨_, dn ++ [((k1, k2), 0)], ⟨HRn.out.alloc _⟩, ⟨by rw [corr_snoc0]; exact Kd.R_alloc HQ1.out _⟩, ⟨hC1⟩, ⟨by have := HZ.out; rw [List.length_append]; simp only [List.length_cons, List.length_nil]; omega⟩, ⟨below_alloc HB1.out _⟩⟩
set_option maxHeartbeats 4000000 in
set_option maxRecDepth 100000 in
theorem back_Correct.bad1 (k : Nat) (A0 : Option Addr) (c0 : Nat) (l0 : List S51) (A1 : Option Addr) (c1 : Nat) (l1 : List S51) (a2 : Int) (e0 : Int) (w : World) (hr0 : Kd.C k51 w A0 l0.length l0) (hc0 : l0.length ≤ c0) (h0 : back_Check.f k l0 = some e0) (hne : e0 ≠ 0) :
    Calls Try.prog 40 #[.slice A0 l0.length c0, .slice A1 l1.length c1, .int .i64 a2] w fun e w' => e = .returned (.tuple #[.slice none 0 0, .int .i64 e0]) ∧ Below w.heap.size w w' := by
  have i0 : ∀ w, (Instr.index 77 (.agg #[.slice A0 l0.length c0, .slice A1 l1.length c1]) (.int .i64 0)).run Try.prog w = .ok (.slice A0 l0.length c0) w := fun _ => by kernel_rfl
  have hb0 : (e0 != 0) = true := bne_iff_ne.mpr hne
  have hb1 : (e0 == 0) = false := beq_eq_false_iff_ne.mpr hne
  go_enter Try.func40, Try.ntmps40
  go_wp2_with fail
  refine wp_loop_rounds 1 ?_
  rw [rounds_succ]
  go_wp2_with (go_at_call 53; refine (back_Check.calls k _ _ l0 e0 _ hr0 hc0 h0).mono ?_; rintro e w1 ⟨rfl, hb⟩)
  go_ret2
  exact ⟨rfl, hb⟩
set_option maxHeartbeats 4000000 in
set_option maxRecDepth 100000 in
theorem back_Correct.bad2 (k : Nat) (A0 : Option Addr) (c0 : Nat) (l0 : List S51) (A1 : Option Addr) (c1 : Nat) (l1 : List S51) (a2 : Int) (e1 : Int) (w : World) (hr0 : Kd.C k51 w A0 l0.length l0) (hc0 : l0.length ≤ c0) (hr1 : Kd.C k51 w A1 l1.length l1) (hc1 : l1.length ≤ c1)
    (h0 : back_Check.f k l0 = some 0) (h1 : back_Check.f k l1 = some e1) (hne : e1 ≠ 0) :
    Calls Try.prog 40 #[.slice A0 l0.length c0, .slice A1 l1.length c1, .int .i64 a2] w fun e w' => e = .returned (.tuple #[.slice none 0 0, .int .i64 e1]) ∧ Below w.heap.size w w' := by
  have i0 : ∀ w, (Instr.index 77 (.agg #[.slice A0 l0.length c0, .slice A1 l1.length c1]) (.int .i64 0)).run Try.prog w = .ok (.slice A0 l0.length c0) w := fun _ => by kernel_rfl
  have i1 : ∀ w, (Instr.index 77 (.agg #[.slice A0 l0.length c0, .slice A1 l1.length c1]) (.int .i64 1)).run Try.prog w = .ok (.slice A1 l1.length c1) w := fun _ => by kernel_rfl
  have hb0 : (e1 != 0) = true := bne_iff_ne.mpr hne
  have hb1 : (e1 == 0) = false := beq_eq_false_iff_ne.mpr hne
  go_enter Try.func40, Try.ntmps40
  go_wp2_with fail
  refine wp_loop_rounds 2 ?_
  rw [rounds_succ]
  go_wp2_with (go_at_call 53; refine (back_Check.calls k _ _ l0 0 _ hr0 hc0 h0).mono ?_; rintro e w1 ⟨rfl, hb⟩)
  rw [rounds_succ]
  go_wp2_with (go_at_call 53; refine (back_Check.calls k _ _ l1 e1 _ (Kd.C_below hr1 hb) hc1 h1).mono ?_; rintro e w2 ⟨rfl, hb2⟩)
  go_ret2
  exact ⟨rfl, hb.trans (hb2.mono hb.size)⟩
set_option maxHeartbeats 4000000 in
set_option maxRecDepth 100000 in
theorem back_Correct.bad3 (k : Nat) (A0 : Option Addr) (c0 : Nat) (l0 : List S51) (A1 : Option Addr) (c1 : Nat) (l1 : List S51) (a2 : Int) (w : World) (hr0 : Kd.C k51 w A0 l0.length l0) (hc0 : l0.length ≤ c0) (hr1 : Kd.C k51 w A1 l1.length l1) (hc1 : l1.length ≤ c1)
    (h0 : back_Check.f k l0 = some 0) (h1 : back_Check.f k l1 = some 0) (hne : a2 < 0 ∨ (¬ a2 < 0 ∧ a2 > 1048575)) :
    Calls Try.prog 40 #[.slice A0 l0.length c0, .slice A1 l1.length c1, .int .i64 a2] w fun e w' => e = .returned (.tuple #[.slice none 0 0, .int .i64 1]) ∧ Below w.heap.size w w' := by
  have i0 : ∀ w, (Instr.index 77 (.agg #[.slice A0 l0.length c0, .slice A1 l1.length c1]) (.int .i64 0)).run Try.prog w = .ok (.slice A0 l0.length c0) w := fun _ => by kernel_rfl
  have i1 : ∀ w, (Instr.index 77 (.agg #[.slice A0 l0.length c0, .slice A1 l1.length c1]) (.int .i64 1)).run Try.prog w = .ok (.slice A1 l1.length c1) w := fun _ => by kernel_rfl
  rcases hne with hd | ⟨hd1, hd2⟩
  · have hd0 : decide (a2 < 0) = true := decide_eq_true hd
    clear hd
    go_enter Try.func40, Try.ntmps40
    go_wp2_with fail
    refine wp_loop_rounds 3 ?_
    rw [rounds_succ]
    go_wp2_with (go_at_call 53; refine (back_Check.calls k _ _ l0 0 _ hr0 hc0 h0).mono ?_; rintro e w1 ⟨rfl, hb⟩)
    rw [rounds_succ]
    go_wp2_with (go_at_call 53; refine (back_Check.calls k _ _ l1 0 _ (Kd.C_below hr1 hb) hc1 h1).mono ?_; rintro e w2 ⟨rfl, hb2⟩)
    rw [rounds_succ]
    go_wp2
    go_ret2
    exact ⟨rfl, hb.trans (hb2.mono hb.size)⟩
  · have hd0 : decide (a2 < 0) = false := decide_eq_false hd1
    have hd3 : decide (1048575 < a2) = true := decide_eq_true hd2
    clear hd1 hd2
    go_enter Try.func40, Try.ntmps40
    go_wp2_with fail
    refine wp_loop_rounds 3 ?_
    rw [rounds_succ]
    go_wp2_with (go_at_call 53; refine (back_Check.calls k _ _ l0 0 _ hr0 hc0 h0).mono ?_; rintro e w1 ⟨rfl, hb⟩)
    rw [rounds_succ]
    go_wp2_with (go_at_call 53; refine (back_Check.calls k _ _ l1 0 _ (Kd.C_below hr1 hb) hc1 h1).mono ?_; rintro e w2 ⟨rfl, hb2⟩)
    rw [rounds_succ]
    go_wp2
    go_ret2
    exact ⟨rfl, hb.trans (hb2.mono hb.size)⟩
theorem back_Correct.calls (A0 : Option Addr) (c0 : Nat) (l0 : List (S51)) (A1 : Option Addr) (c1 : Nat) (l1 : List (S51)) (a2 : Int) (r1 : List (S51)) (r2 : Int) (w : World) (hr0 : Kd.C k51 w A0 l0.length l0) (hc0 : l0.length ≤ c0) (hr1 : Kd.C k51 w A1 l1.length l1) (hc1 : l1.length ≤ c1) (h : back_Correct.f l0 l1 a2 = some (r1, r2)) :
    Calls Try.prog 40 #[.slice A0 l0.length c0, .slice A1 l1.length c1, .int .i64 a2] w fun e w' => ∃ v0_ : Value, e = .returned (.tuple #[v0_, .int .i64 r2]) ∧ Kd.R k51 51 w' w.heap.size (fun _ => True) v0_ r1 ∧ Below w.heap.size w w' := by
  unfold back_Correct.f at h
  obtain ⟨e0, h0, h⟩ := Option.bind_eq_some_iff.mp h
  by_cases z0 : e0 = 0
  · subst z0
    rw [if_pos rfl] at h
    obtain ⟨e1, h1, h⟩ := Option.bind_eq_some_iff.mp h
    by_cases z1 : e1 = 0
    · subst z1
      rw [if_pos rfl] at h
      by_cases d1 : a2 < 0
      · rw [if_pos d1] at h
        have h := Option.some.inj h
        injection h with e1 e2
        subst e1 e2
        exact Calls.mono (back_Correct.bad3 _ A0 c0 l0 A1 c1 l1 a2 w hr0 hc0 hr1 hc1 h0 h1 (.inl d1)) (fun e w' ⟨he, hb⟩ => ⟨_, he, Kd.R_nil _ _ _ _ _, hb⟩)
      · rw [if_neg d1] at h
        by_cases d2 : a2 > 1048575
        · rw [if_pos d2] at h
          have h := Option.some.inj h
          injection h with e1 e2
          subst e1 e2
          exact Calls.mono (back_Correct.bad3 _ A0 c0 l0 A1 c1 l1 a2 w hr0 hc0 hr1 hc1 h0 h1 (.inr ⟨d1, d2⟩)) (fun e w' ⟨he, hb⟩ => ⟨_, he, Kd.R_nil _ _ _ _ _, hb⟩)
        · rw [if_neg d2] at h
          by_cases z : (corr_wf l0 && corr_wf l1 && decide (l0.length ≤ 1000 ∧ l1.length ≤ 1000)) = true
          · rw [if_pos z] at h
            have h := Option.some.inj h
            injection h with e1 e2
            subst e1 e2
            rw [Bool.and_eq_true, Bool.and_eq_true, decide_eq_true_eq] at z
            exact back_Correct.good _ A0 c0 l0 A1 c1 l1 a2 w hr0 hc0 hr1 hc1 h0 h1 d1 d2 z.1.1 z.1.2 z.2.1 z.2.2
          · rw [if_neg z] at h
            exact absurd h (by simp)
    · rw [if_neg z1] at h
      have h := Option.some.inj h
      injection h with e1 e2
      subst e1 e2
      exact Calls.mono (back_Correct.bad2 _ A0 c0 l0 A1 c1 l1 a2 _ w hr0 hc0 hr1 hc1 h0 h1 z1) (fun e w' ⟨he, hb⟩ => ⟨_, he, Kd.R_nil _ _ _ _ _, hb⟩)
  · rw [if_neg z0] at h
    have h := Option.some.inj h
    injection h with e1 e2
    subst e1 e2
    exact Calls.mono (back_Correct.bad1 _ A0 c0 l0 A1 c1 l1 a2 _ w hr0 hc0 h0 z0) (fun e w' ⟨he, hb⟩ => ⟨_, he, Kd.R_nil _ _ _ _ _, hb⟩)
end

end Go.Proofs.Ytenhnlclnjnboaa.PPad
