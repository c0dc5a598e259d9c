-- Printed by this session's wip/myprint.py.
import Derived.Test.YtenhnlclnjnboaaPPadx0
import Derived.Test.YtenhnlclnjnboaaPPadx2
import Derived.Test.YtenhnlclnjnboaaPPadx3
import Derived.Test.YtenhnlclnjnboaaPPadx14
namespace Go.Proofs.Ytenhnlclnjnboaa.PPad
open Go.RowKit Go.Proofs.YtenhnlclnjnboaaW.PrintWords Go.Proofs.YtenhnlclnjnboaaW.PrintLast Go.Proofs.YtenhnlclnjnboaaW.PrintMore
attribute [local go_sem] max2_int min2_int max_two min_two max_three min_three max_four min_four   -- for this text's walks alone
set_option linter.unusedVariables false
set_option linter.unusedSimpArgs false

/-! ### ledger_Pays: function 26 -/
mutual
def ledger_Pays.l0 : Nat → Int → List (S35) → List (S51) → Int → Int → Option ((List (S35)) × Int)
 | 0, _, _, _, _, _ => none
 | k + 1, x1, x6, x12, x13, x14 => if x14 < x13 then (if 0 ≤ x14 then (if x14 < (x12.length : Int) then (if ((rd_T51 x12 x14).f2) < 0 then (ledger_Pays.j1 k x1 x6 x12 x13 x14 (decide (((rd_T51 x12 x14).f2) ≥ (-1099511627776))) ((rd_T51 x12 x14).f0) ((rd_T51 x12 x14).f1) ((rd_T51 x12 x14).f2) ((rd_T51 x12 x14).f3) ((rd_T51 x12 x14).f3) x1 ((rd_T51 x12 x14).f0) ((rd_T51 x12 x14).f2)) else (ledger_Pays.j1 k x1 x6 x12 x13 x14 false ((rd_T51 x12 x14).f0) ((rd_T51 x12 x14).f1) ((rd_T51 x12 x14).f2) ((rd_T51 x12 x14).f3) ((rd_T51 x12 x14).f3) x1 ((rd_T51 x12 x14).f0) ((rd_T51 x12 x14).f2))) else (none)) else (none)) else ((ledger_Entry_46.f k x6).bind fun t164 => ((ledger_Check.f k t164).bind fun t165 => (if t165 = 0 then (some (t164, 0)) else (some (([] : List (S35)), t165)))))
def ledger_Pays.j1 : Nat → Int → List (S35) → List (S51) → Int → Int → Bool → Int → Int → Int → Int → Int → Int → Int → Int → Option ((List (S35)) × Int)
 | 0, _, _, _, _, _, _, _, _, _, _, _, _, _, _ => none
 | k + 1, x1, x6, x12, x13, x14, x33, x159000, x159001, x159002, x159003, x160000, x160001, x160002, x160003 => if x33 = true then (ledger_Pays.j2 k x1 x6 x12 x13 x14 x159000 x159001 x159002 x159003 x159003 x159000 x1 (wrap64 (-x159002))) else (ledger_Pays.j2 k x1 x6 x12 x13 x14 x159000 x159001 x159002 x159003 x160000 x160001 x160002 x160003)
def ledger_Pays.j2 : Nat → Int → List (S35) → List (S51) → Int → Int → Int → Int → Int → Int → Int → Int → Int → Int → Option ((List (S35)) × Int)
 | 0, _, _, _, _, _, _, _, _, _, _, _, _, _ => none
 | k + 1, x1, x6, x12, x13, x14, x159000, x159001, x159002, x159003, x160000, x160001, x160002, x160003 => if x159002 = 0 then (ledger_Pays.l0 k x1 x6 x12 x13 (wrap64 (x14 + 1))) else ((ledger_one.f k x160000 x160001 x160002 x160003).bind fun t160 => (if t160 = 0 then (if x6.length < 4398046511104 then (ledger_Pays.l0 k x1 (x6 ++ [(⟨x160000, x160001, x160002, x160003⟩ : S35)]) x12 x13 (wrap64 (x14 + 1))) else (none)) else (some (([] : List (S35)), t160))))
end
def ledger_Pays.f (k : Nat) (l0 : List (S51)) (a1 : Int) : Option ((List (S35)) × Int) := ledger_Pays.l0 k a1 ([] : List (S35)) l0 (l0.length : Int) 0
theorem ledger_Pays.mono_l : ∀ k, (∀ y0 y1 y2 y3 y4, LeO (ledger_Pays.l0 k y0 y1 y2 y3 y4) (ledger_Pays.l0 (k + 1) y0 y1 y2 y3 y4)) ∧ (∀ y0 y1 y2 y3 y4 y5 y6 y7 y8 y9 y10 y11 y12 y13, LeO (ledger_Pays.j1 k y0 y1 y2 y3 y4 y5 y6 y7 y8 y9 y10 y11 y12 y13) (ledger_Pays.j1 (k + 1) y0 y1 y2 y3 y4 y5 y6 y7 y8 y9 y10 y11 y12 y13)) ∧ (∀ y0 y1 y2 y3 y4 y5 y6 y7 y8 y9 y10 y11 y12, LeO (ledger_Pays.j2 k y0 y1 y2 y3 y4 y5 y6 y7 y8 y9 y10 y11 y12) (ledger_Pays.j2 (k + 1) y0 y1 y2 y3 y4 y5 y6 y7 y8 y9 y10 y11 y12))
 | 0 => ⟨fun _ _ _ _ _ r h => by simp [ledger_Pays.l0] at h, fun _ _ _ _ _ _ _ _ _ _ _ _ _ _ r h => by simp [ledger_Pays.j1] at h, fun _ _ _ _ _ _ _ _ _ _ _ _ _ r h => by simp [ledger_Pays.j2] at h⟩
 | k + 1 => by
  obtain ⟨ih0, ih1, ih2⟩ := ledger_Pays.mono_l k
  refine ⟨?_, ?_, ?_⟩
  ·intro y0 y1 y2 y3 y4
   unfold ledger_Pays.l0
   repeat' first
   | (with_reducible exact ih0 _ _ _ _ _)
   | (with_reducible exact ih1 _ _ _ _ _ _ _ _ _ _ _ _ _ _)
   | (with_reducible exact ih2 _ _ _ _ _ _ _ _ _ _ _ _ _)
   | (with_reducible exact ledger_Check.mono _ _)
   | (with_reducible exact ledger_Entry_46.mono _ _)
   | (with_reducible exact ledger_one.mono _ _ _ _ _)
   | (with_reducible exact LeO.refl _)
   | (with_reducible exact LeO.none _)
   | (with_reducible refine LeO.ite ?_ ?_)
   | (with_reducible refine LeO.bind ?_ (fun _ => ?_))
   | exact ih0 _ _ _ _ _
   | exact ih1 _ _ _ _ _ _ _ _ _ _ _ _ _ _
   | exact ih2 _ _ _ _ _ _ _ _ _ _ _ _ _
   | exact ledger_Check.mono _ _
   | exact ledger_Entry_46.mono _ _
   | exact ledger_one.mono _ _ _ _ _
   | exact LeO.none _
   | refine LeO.ite ?_ ?_
   | refine LeO.bind ?_ (fun _ => ?_)
  ·intro y0 y1 y2 y3 y4 y5 y6 y7 y8 y9 y10 y11 y12 y13
   unfold ledger_Pays.j1
   repeat' first
   | (with_reducible exact ih0 _ _ _ _ _)
   | (with_reducible exact ih1 _ _ _ _ _ _ _ _ _ _ _ _ _ _)
   | (with_reducible exact ih2 _ _ _ _ _ _ _ _ _ _ _ _ _)
   | (with_reducible exact ledger_Check.mono _ _)
   | (with_reducible exact ledger_Entry_46.mono _ _)
   | (with_reducible exact ledger_one.mono _ _ _ _ _)
   | (with_reducible exact LeO.refl _)
   | (with_reducible exact LeO.none _)
   | (with_reducible refine LeO.ite ?_ ?_)
   | (with_reducible refine LeO.bind ?_ (fun _ => ?_))
   | exact ih0 _ _ _ _ _
   | exact ih1 _ _ _ _ _ _ _ _ _ _ _ _ _ _
   | exact ih2 _ _ _ _ _ _ _ _ _ _ _ _ _
   | exact ledger_Check.mono _ _
   | exact ledger_Entry_46.mono _ _
   | exact ledger_one.mono _ _ _ _ _
   | exact LeO.none _
   | refine LeO.ite ?_ ?_
   | refine LeO.bind ?_ (fun _ => ?_)
  ·intro y0 y1 y2 y3 y4 y5 y6 y7 y8 y9 y10 y11 y12
   unfold ledger_Pays.j2
   repeat' first
   | (with_reducible exact ih0 _ _ _ _ _)
   | (with_reducible exact ih1 _ _ _ _ _ _ _ _ _ _ _ _ _ _)
   | (with_reducible exact ih2 _ _ _ _ _ _ _ _ _ _ _ _ _)
   | (with_reducible exact ledger_Check.mono _ _)
   | (with_reducible exact ledger_Entry_46.mono _ _)
   | (with_reducible exact ledger_one.mono _ _ _ _ _)
   | (with_reducible exact LeO.refl _)
   | (with_reducible exact LeO.none _)
   | (with_reducible refine LeO.ite ?_ ?_)
   | (with_reducible refine LeO.bind ?_ (fun _ => ?_))
   | exact ih0 _ _ _ _ _
   | exact ih1 _ _ _ _ _ _ _ _ _ _ _ _ _ _
   | exact ih2 _ _ _ _ _ _ _ _ _ _ _ _ _
   | exact ledger_Check.mono _ _
   | exact ledger_Entry_46.mono _ _
   | exact ledger_one.mono _ _ _ _ _
   | exact LeO.none _
   | refine LeO.ite ?_ ?_
   | refine LeO.bind ?_ (fun _ => ?_)
theorem ledger_Pays.mono : ∀ a0 a1 k, LeO (ledger_Pays.f k a0 a1) (ledger_Pays.f (k + 1) a0 a1) := by
 intro a0 a1 k
 obtain ⟨ih0, ih1, ih2⟩ := ledger_Pays.mono_l k
 unfold ledger_Pays.f
 repeat' first
  | (with_reducible exact ih0 _ _ _ _ _)
  | (with_reducible exact ih1 _ _ _ _ _ _ _ _ _ _ _ _ _ _)
  | (with_reducible exact ih2 _ _ _ _ _ _ _ _ _ _ _ _ _)
  | (with_reducible exact ledger_Check.mono _ _)
  | (with_reducible exact ledger_Entry_46.mono _ _)
  | (with_reducible exact ledger_one.mono _ _ _ _ _)
  | (with_reducible exact LeO.refl _)
  | (with_reducible exact LeO.none _)
  | (with_reducible refine LeO.ite ?_ ?_)
  | (with_reducible refine LeO.bind ?_ (fun _ => ?_))
  | exact ih0 _ _ _ _ _
  | exact ih1 _ _ _ _ _ _ _ _ _ _ _ _ _ _
  | exact ih2 _ _ _ _ _ _ _ _ _ _ _ _ _
  | exact ledger_Check.mono _ _
  | exact ledger_Entry_46.mono _ _
  | exact ledger_one.mono _ _ _ _ _
  | exact LeO.none _
  | refine LeO.ite ?_ ?_
  | refine LeO.bind ?_ (fun _ => ?_)
set_option maxHeartbeats 8000000 in
set_option maxRecDepth 100000 in
theorem ledger_Pays.calls (k : Nat) (A0 : Option Addr) (c0 : Nat) (l0 : List (S51)) (a1 : Int) (r1 : List (S35)) (r2 : Int) (w : World) (hr0 : Kd.C k51 w A0 l0.length l0) (hc0 : l0.length ≤ c0) (h : ledger_Pays.f k l0 a1 = some (r1, r2)) :
 Calls Try.prog 26 #[.slice A0 l0.length c0, .int .i64 a1] w fun e w' => ∃ v0_ : Value, e = .returned (.tuple #[v0_, .int .i64 r2]) ∧ Kd.R k35 35 w' w.heap.size (fun _ => True) v0_ r1 ∧ Below w.heap.size w w' := by
 have hu51 := Try.underlying51
 have hu35 := Try.underlying35
 have HR0 := Aside0.mk hr0
 have HC0 := Aside0.mk hc0
 clear hr0 hc0
 have HB := Aside0.mk (Below.refl w.heap.size w)
 have H : (ledger_Pays.l0 k a1 ([] : List (S35)) l0 (l0.length : Int) 0) = some (r1, r2) := h
 clear h
 have H' := Aside0.mk H
 clear H
 go_enter Try.func26, Try.ntmps26
 go_wp2
 go_loopg [6, 14] k (fun kq v6 v14 w' => ∃ (x6_1 : List (S35)) (x14_1 : Int), v14 = .int .i64 x14_1 ∧ Aside0 (ledger_Pays.l0 kq a1 x6_1 l0 (l0.length : Int) x14_1 = some (r1, r2)) ∧ Aside0 (kq ≤ k) ∧ Aside0 (Kd.R k35 35 w' w.heap.size (fun _ => True) v6 x6_1) ∧ Aside0 (Below w.heap.size w w'))
 case atStart => exact ⟨(([] : List (S35))), (0), (by first | rfl | (simp; done) | (simp [*]; done)), H', ⟨Nat.le_refl _⟩, ⟨by first | exact Kd.R_nil _ _ _ _ _ | exact Kd.N_nil _ _ _ _ _ | exact Kd.V_nil _ _ _ _ _ | exact Kd.Q_nil _ _ _ _ _ | exact Kd.S_nil _ _ _ _ _⟩, ⟨by repeat (first | (with_reducible first | exact HB.out | apply below_alloc | apply pw_below_drewN | apply below_drew1) | exact HB.out)⟩⟩
 case round =>
  clear H'
  try clear c2
  try clear p2
  obtain ⟨x6_1, x14_1, rfl, HA, HK1, HO_6, HB⟩ := hrel
  cases gk with
  | zero => exact absurd HA.out (by simp [ledger_Pays.l0])
  | succ k1 =>
   have H := HA.out
   clear HA
   simp only [ledger_Pays.l0] at H
   by_cases c3 : x14_1 < (l0.length : Int)
   ·rw [if_pos c3] at H
    have c3b0 : decide (x14_1 < (l0.length : Int)) = true := decide_eq_true c3
    clear c3
    by_cases c4 : 0 ≤ x14_1
    ·rw [if_pos c4] at H
     have c4b0 : decide (0 ≤ x14_1) = true := decide_eq_true c4
     clear c4
     by_cases c5 : x14_1 < (l0.length : Int)
     ·rw [if_pos c5] at H
      have c5b0 : decide (x14_1 < (l0.length : Int)) = true := decide_eq_true c5
      clear c5
      have HC6 := Aside0.mk H
      clear H
      have p157 : 0 ≤ (x14_1 : Int) := of_decide_eq_true (by first | (with_reducible assumption) | assumption)
      have q157 : x14_1 < (l0.length : Int) := of_decide_eq_true (by first | (with_reducible assumption) | assumption)
      obtain ⟨ad157, e157, hx157_0, hx157_1, hx157_2, hx157_3⟩ := at_T51 HR0.out x14_1 p157 q157
      cases e157
      replace hx157_0 := (HB.out.cell (World.block_lt_of_cell? w _ hx157_0)).trans hx157_0
      replace hx157_1 := (HB.out.cell (World.block_lt_of_cell? w _ hx157_1)).trans hx157_1
      replace hx157_2 := (HB.out.cell (World.block_lt_of_cell? w _ hx157_2)).trans hx157_2
      replace hx157_3 := (HB.out.cell (World.block_lt_of_cell? w _ hx157_3)).trans hx157_3
      replace p157 := eq_true p157
      replace q157 := eq_true q157
      go_upto_region 6 with (first | ((with_reducible refine gate_dst (N := 8) rfl ?_); refine box_event ?hg (N := 8) ?hd (cs := #[.int .i64 0, .int .i64 0, .int .i64 0, .int .i64 0]) (t := 51) ?hr ?_; (case hd => rfl); (case hg => rfl); (case hr => first | (go_simp; done) | (go_simp; rfl)); intro gb158 hg w7 hbox hb; have n0_ := Aside0.mk (Kd.R_below (by (with_reducible repeat (first | apply Kd.R_alloc | apply Kd.R_drewN | apply Kd.R_drew)); exact HO_6.out) hb); have n1_ := Aside0.mk (below_step (by repeat (first | (with_reducible first | exact HB.out | apply below_alloc | apply pw_below_drewN | apply below_drew1) | exact HB.out)) hb); have n2_ := Aside0.mk (hbox); have n3_ := Aside0.mk ((by rw [hg]; exact (below_size (by repeat (first | (with_reducible first | exact HB.out | apply below_alloc | apply pw_below_drewN | apply below_drew1) | exact HB.out))) : w.heap.size ≤ gb158)); have n4_ := Aside0.mk ((by rw [hg]; exact (below_size (by repeat (first | (with_reducible first | exact HB.out | apply below_alloc | apply pw_below_drewN | apply below_drew1) | exact HB.out))) : w.heap.size ≤ gb158)); clear HO_6; clear HB; have HO_6 := n0_; have HB := n1_; have BK158 := n2_; have GW158 := n3_; have GE158 := n4_; clear n0_ n1_ n2_ n3_ n4_; clear hb hbox hg; have hcz8_0 : w7.cell? ⟨gb158, 0, none⟩ = some (.int .i64 0) := (blk_cell BK158.out 0).trans rfl; have hcz8_1 : w7.cell? ⟨gb158, 1, none⟩ = some (.int .i64 0) := (blk_cell BK158.out 1).trans rfl; have hcz8_2 : w7.cell? ⟨gb158, 2, none⟩ = some (.int .i64 0) := (blk_cell BK158.out 2).trans rfl; have hcz8_3 : w7.cell? ⟨gb158, 3, none⟩ = some (.int .i64 0) := (blk_cell BK158.out 3).trans rfl; have hfz8_0 := blk_frozen BK158.out 0; have hfz8_1 := blk_frozen BK158.out 1; have hfz8_2 := blk_frozen BK158.out 2; have hfz8_3 := blk_frozen BK158.out 3) | ((with_reducible refine gate_dst (N := 9) rfl ?_); refine box_event ?hg (N := 9) ?hd (cs := #[.int .i64 0, .int .i64 0, .int .i64 0, .int .i64 0]) (t := 35) ?hr ?_; (case hd => rfl); (case hg => rfl); (case hr => first | (go_simp; done) | (go_simp; rfl)); intro gb159 hg w9 hbox hb; have n0_ := Aside0.mk (Kd.R_below (Kd.R_elderB (by (with_reducible repeat (first | apply Kd.R_alloc | apply Kd.R_drewN | apply Kd.R_drew)); exact (Kd.R_mono (Kd.R_far (p := ⟨gb158, 3, none⟩) (Kd.R_far (p := ⟨gb158, 2, none⟩) (Kd.R_far (p := ⟨gb158, 1, none⟩) (Kd.R_far (p := ⟨gb158, 0, none⟩) (Kd.R_types HO_6.out BK158.out (by decide)) (fun _ hk => hk.2) (.int .i64 ((rd_T51 l0 x14_1).f0))) (fun _ hk => hk.2) (.int .i64 ((rd_T51 l0 x14_1).f1))) (fun _ hk => hk.2) (.int .i64 ((rd_T51 l0 x14_1).f2))) (fun _ hk => hk.2) (.int .i64 ((rd_T51 l0 x14_1).f3))) (fun _ h_ => h_.1))) gb159 (Nat.le_of_eq hg.symm)) hb); have n1_ := Aside0.mk (blk_below (g := gb158) (o := .cells #[.int .i64 ((rd_T51 l0 x14_1).f0), .int .i64 ((rd_T51 l0 x14_1).f1), .int .i64 ((rd_T51 l0 x14_1).f2), .int .i64 ((rd_T51 l0 x14_1).f3)] 51 (0, 0)) (by (with_reducible repeat (first | refine blk_drewN ?_ _ | refine blk_drew ?_ | refine blk_alloc ?_ _)); refine blk_put (cs := #[.int .i64 ((rd_T51 l0 x14_1).f0), .int .i64 ((rd_T51 l0 x14_1).f1), .int .i64 ((rd_T51 l0 x14_1).f2), .int .i64 0]) ?_ 3 _ rfl; (with_reducible repeat (first | refine blk_drewN ?_ _ | refine blk_drew ?_ | refine blk_alloc ?_ _)); refine blk_put (cs := #[.int .i64 ((rd_T51 l0 x14_1).f0), .int .i64 ((rd_T51 l0 x14_1).f1), .int .i64 0, .int .i64 0]) ?_ 2 _ rfl; (with_reducible repeat (first | refine blk_drewN ?_ _ | refine blk_drew ?_ | refine blk_alloc ?_ _)); refine blk_put (cs := #[.int .i64 ((rd_T51 l0 x14_1).f0), .int .i64 0, .int .i64 0, .int .i64 0]) ?_ 1 _ rfl; (with_reducible repeat (first | refine blk_drewN ?_ _ | refine blk_drew ?_ | refine blk_alloc ?_ _)); refine blk_put (cs := #[.int .i64 0, .int .i64 0, .int .i64 0, .int .i64 0]) ?_ 0 _ rfl; (with_reducible repeat (first | refine blk_drewN ?_ _ | refine blk_drew ?_ | refine blk_alloc ?_ _)); exact BK158.out) hb); have n2_ := Aside0.mk (below_step (by repeat (first | (with_reducible first | exact HB.out | apply below_alloc | apply pw_below_drewN | apply below_drew1 | refine below_set ?_ GE158.out) | exact HB.out)) hb); have n3_ := Aside0.mk (hbox); have n4_ := Aside0.mk ((by rw [hg]; exact (below_size (by repeat (first | (with_reducible first | exact HB.out | apply below_alloc | apply pw_below_drewN | apply below_drew1 | refine below_set ?_ GE158.out) | exact HB.out))) : w.heap.size ≤ gb159)); have n5_ := Aside0.mk ((by rw [hg]; exact (below_size (by repeat (first | (with_reducible first | exact HB.out | apply below_alloc | apply pw_below_drewN | apply below_drew1 | refine below_set ?_ GE158.out) | exact HB.out))) : w.heap.size ≤ gb159)); have n6_ := Aside0.mk ((by rw [hg]; exact Nat.ne_of_lt (blk_lt (g := gb158) (o := .cells #[.int .i64 ((rd_T51 l0 x14_1).f0), .int .i64 ((rd_T51 l0 x14_1).f1), .int .i64 ((rd_T51 l0 x14_1).f2), .int .i64 ((rd_T51 l0 x14_1).f3)] 51 (0, 0)) (by (with_reducible repeat (first | refine blk_drewN ?_ _ | refine blk_drew ?_ | refine blk_alloc ?_ _)); refine blk_put (cs := #[.int .i64 ((rd_T51 l0 x14_1).f0), .int .i64 ((rd_T51 l0 x14_1).f1), .int .i64 ((rd_T51 l0 x14_1).f2), .int .i64 0]) ?_ 3 _ rfl; (with_reducible repeat (first | refine blk_drewN ?_ _ | refine blk_drew ?_ | refine blk_alloc ?_ _)); refine blk_put (cs := #[.int .i64 ((rd_T51 l0 x14_1).f0), .int .i64 ((rd_T51 l0 x14_1).f1), .int .i64 0, .int .i64 0]) ?_ 2 _ rfl; (with_reducible repeat (first | refine blk_drewN ?_ _ | refine blk_drew ?_ | refine blk_alloc ?_ _)); refine blk_put (cs := #[.int .i64 ((rd_T51 l0 x14_1).f0), .int .i64 0, .int .i64 0, .int .i64 0]) ?_ 1 _ rfl; (with_reducible repeat (first | refine blk_drewN ?_ _ | refine blk_drew ?_ | refine blk_alloc ?_ _)); refine blk_put (cs := #[.int .i64 0, .int .i64 0, .int .i64 0, .int .i64 0]) ?_ 0 _ rfl; (with_reducible repeat (first | refine blk_drewN ?_ _ | refine blk_drew ?_ | refine blk_alloc ?_ _)); exact BK158.out)) : gb158 ≠ gb159)); have n7_ := Aside0.mk ((by rw [hg]; exact Nat.ne_of_gt (blk_lt (g := gb158) (o := .cells #[.int .i64 ((rd_T51 l0 x14_1).f0), .int .i64 ((rd_T51 l0 x14_1).f1), .int .i64 ((rd_T51 l0 x14_1).f2), .int .i64 ((rd_T51 l0 x14_1).f3)] 51 (0, 0)) (by (with_reducible repeat (first | refine blk_drewN ?_ _ | refine blk_drew ?_ | refine blk_alloc ?_ _)); refine blk_put (cs := #[.int .i64 ((rd_T51 l0 x14_1).f0), .int .i64 ((rd_T51 l0 x14_1).f1), .int .i64 ((rd_T51 l0 x14_1).f2), .int .i64 0]) ?_ 3 _ rfl; (with_reducible repeat (first | refine blk_drewN ?_ _ | refine blk_drew ?_ | refine blk_alloc ?_ _)); refine blk_put (cs := #[.int .i64 ((rd_T51 l0 x14_1).f0), .int .i64 ((rd_T51 l0 x14_1).f1), .int .i64 0, .int .i64 0]) ?_ 2 _ rfl; (with_reducible repeat (first | refine blk_drewN ?_ _ | refine blk_drew ?_ | refine blk_alloc ?_ _)); refine blk_put (cs := #[.int .i64 ((rd_T51 l0 x14_1).f0), .int .i64 0, .int .i64 0, .int .i64 0]) ?_ 1 _ rfl; (with_reducible repeat (first | refine blk_drewN ?_ _ | refine blk_drew ?_ | refine blk_alloc ?_ _)); refine blk_put (cs := #[.int .i64 0, .int .i64 0, .int .i64 0, .int .i64 0]) ?_ 0 _ rfl; (with_reducible repeat (first | refine blk_drewN ?_ _ | refine blk_drew ?_ | refine blk_alloc ?_ _)); exact BK158.out)) : gb159 ≠ gb158)); clear HO_6; clear BK158; clear HB; have HO_6 := n0_; have BK158 := n1_; have HB := n2_; have BK159 := n3_; have GW159 := n4_; have GE159 := n5_; have NB158_159 := n6_; have NB159_158 := n7_; clear n0_ n1_ n2_ n3_ n4_ n5_ n6_ n7_; clear hb hbox hg; have hnb10 := NB159_158.out; have hnc10 := NB158_159.out; have hcz11_0 : w9.cell? ⟨gb159, 0, none⟩ = some (.int .i64 0) := (blk_cell BK159.out 0).trans rfl; have hcz11_1 : w9.cell? ⟨gb159, 1, none⟩ = some (.int .i64 0) := (blk_cell BK159.out 1).trans rfl; have hcz11_2 : w9.cell? ⟨gb159, 2, none⟩ = some (.int .i64 0) := (blk_cell BK159.out 2).trans rfl; have hcz11_3 : w9.cell? ⟨gb159, 3, none⟩ = some (.int .i64 0) := (blk_cell BK159.out 3).trans rfl; have hfz11_0 := blk_frozen BK159.out 0; have hfz11_1 := blk_frozen BK159.out 1; have hfz11_2 := blk_frozen BK159.out 2; have hfz11_3 := blk_frozen BK159.out 3))
      (try simp only [Act.put, List.setIfInBounds_toArray, List.set_cons_zero, List.set_cons_succ])
      go_cut [33] (fun v33 wc => ∃ (kq : Nat) (x33_5 : Bool), v33 = .bool x33_5 ∧ Aside0 (ledger_Pays.j1 kq a1 x6_1 l0 (l0.length : Int) x14_1 x33_5 ((rd_T51 l0 x14_1).f0) ((rd_T51 l0 x14_1).f1) ((rd_T51 l0 x14_1).f2) ((rd_T51 l0 x14_1).f3) ((rd_T51 l0 x14_1).f3) a1 ((rd_T51 l0 x14_1).f0) ((rd_T51 l0 x14_1).f2) = some (r1, r2)) ∧ Aside0 (kq ≤ k1) ∧ Aside0 (Kd.R k35 35 wc w.heap.size (fun k_ => k_ ≠ gb159) u6 x6_1) ∧ Aside0 (wc.heap[gb158]? = some (.cells #[.int .i64 ((rd_T51 l0 x14_1).f0), .int .i64 ((rd_T51 l0 x14_1).f1), .int .i64 ((rd_T51 l0 x14_1).f2), .int .i64 ((rd_T51 l0 x14_1).f3)] 51 (0, 0))) ∧ Aside0 (wc.heap[gb159]? = some (.cells #[.int .i64 ((rd_T51 l0 x14_1).f3), .int .i64 a1, .int .i64 ((rd_T51 l0 x14_1).f0), .int .i64 ((rd_T51 l0 x14_1).f2)] 35 (0, 0))) ∧ Aside0 (Below w.heap.size w wc))
      case first =>
       have H := HC6.out
       clear HC6
       by_cases c12 : ((rd_T51 l0 x14_1).f2) < 0
       ·rw [if_pos c12] at H
        have c12b0 : decide (((rd_T51 l0 x14_1).f2) < 0) = true := decide_eq_true c12
        clear c12
        (first | rw [c12b0] | (simp only [i64_w, i32_w]; rw [c12b0]) | skip)
        have H' := Aside0.mk H
        clear H
        have hnb13 := NB158_159.out
        have hnc13 := NB159_158.out
        have hcz14_0 : w9.cell? ⟨gb158, 0, none⟩ = some (.int .i64 ((rd_T51 l0 x14_1).f0)) := (blk_cell BK158.out 0).trans rfl
        have hcz14_1 : w9.cell? ⟨gb158, 1, none⟩ = some (.int .i64 ((rd_T51 l0 x14_1).f1)) := (blk_cell BK158.out 1).trans rfl
        have hcz14_2 : w9.cell? ⟨gb158, 2, none⟩ = some (.int .i64 ((rd_T51 l0 x14_1).f2)) := (blk_cell BK158.out 2).trans rfl
        have hcz14_3 : w9.cell? ⟨gb158, 3, none⟩ = some (.int .i64 ((rd_T51 l0 x14_1).f3)) := (blk_cell BK158.out 3).trans rfl
        have hfz14_0 := blk_frozen BK158.out 0
        have hfz14_1 := blk_frozen BK158.out 1
        have hfz14_2 := blk_frozen BK158.out 2
        have hfz14_3 := blk_frozen BK158.out 3
        go_wp2
        go_meet
        case rel => exact ⟨_, (decide (((rd_T51 l0 x14_1).f2) ≥ (-1099511627776))), (by first | rfl | (simp; done) | (simp [*]; done)), H', ⟨by have := HK1.out; first | omega | exact Nat.le_refl _⟩, ⟨by (with_reducible repeat (first | apply Kd.R_alloc | apply Kd.R_drewN | apply Kd.R_drew)); exact Kd.R_mono (Kd.R_far (p := ⟨gb159, 3, none⟩) (Kd.R_far (p := ⟨gb159, 2, none⟩) (Kd.R_far (p := ⟨gb159, 1, none⟩) (Kd.R_far (p := ⟨gb159, 0, none⟩) (Kd.R_mono HO_6.out (fun k_ hk => (⟨hk, hk.2⟩ : _ ∧ k_ ≠ gb159))) (fun _ hk => hk.2) (.int .i64 ((rd_T51 l0 x14_1).f3))) (fun _ hk => hk.2) (.int .i64 a1)) (fun _ hk => hk.2) (.int .i64 ((rd_T51 l0 x14_1).f0))) (fun _ hk => hk.2) (.int .i64 ((rd_T51 l0 x14_1).f2))) (fun _ hk => hk.1.2)⟩, ⟨by (with_reducible repeat (first | refine blk_drewN ?_ _ | refine blk_drew ?_ | refine blk_alloc ?_ _)); refine blk_far ?_ NB158_159.out _; (with_reducible repeat (first | refine blk_drewN ?_ _ | refine blk_drew ?_ | refine blk_alloc ?_ _)); refine blk_far ?_ NB158_159.out _; (with_reducible repeat (first | refine blk_drewN ?_ _ | refine blk_drew ?_ | refine blk_alloc ?_ _)); refine blk_far ?_ NB158_159.out _; (with_reducible repeat (first | refine blk_drewN ?_ _ | refine blk_drew ?_ | refine blk_alloc ?_ _)); refine blk_far ?_ NB158_159.out _; (with_reducible repeat (first | refine blk_drewN ?_ _ | refine blk_drew ?_ | refine blk_alloc ?_ _)); exact BK158.out⟩, ⟨by (with_reducible repeat (first | refine blk_drewN ?_ _ | refine blk_drew ?_ | refine blk_alloc ?_ _)); refine blk_put (cs := #[.int .i64 ((rd_T51 l0 x14_1).f3), .int .i64 a1, .int .i64 ((rd_T51 l0 x14_1).f0), .int .i64 0]) ?_ 3 _ rfl; (with_reducible repeat (first | refine blk_drewN ?_ _ | refine blk_drew ?_ | refine blk_alloc ?_ _)); refine blk_put (cs := #[.int .i64 ((rd_T51 l0 x14_1).f3), .int .i64 a1, .int .i64 0, .int .i64 0]) ?_ 2 _ rfl; (with_reducible repeat (first | refine blk_drewN ?_ _ | refine blk_drew ?_ | refine blk_alloc ?_ _)); refine blk_put (cs := #[.int .i64 ((rd_T51 l0 x14_1).f3), .int .i64 0, .int .i64 0, .int .i64 0]) ?_ 1 _ rfl; (with_reducible repeat (first | refine blk_drewN ?_ _ | refine blk_drew ?_ | refine blk_alloc ?_ _)); refine blk_put (cs := #[.int .i64 0, .int .i64 0, .int .i64 0, .int .i64 0]) ?_ 0 _ rfl; (with_reducible repeat (first | refine blk_drewN ?_ _ | refine blk_drew ?_ | refine blk_alloc ?_ _)); exact BK159.out⟩, ⟨by repeat (first | (with_reducible first | exact HB.out | apply below_alloc | apply pw_below_drewN | apply below_drew1 | refine below_set ?_ GE158.out | refine below_set ?_ GE159.out) | exact HB.out)⟩⟩
       ·rw [if_neg c12] at H
        have c12b0 : decide (((rd_T51 l0 x14_1).f2) < 0) = false := decide_eq_false c12
        clear c12
        (first | rw [c12b0] | (simp only [i64_w, i32_w]; rw [c12b0]) | skip)
        have H' := Aside0.mk H
        clear H
        have hnb15 := NB158_159.out
        have hnc15 := NB159_158.out
        have hcz16_0 : w9.cell? ⟨gb158, 0, none⟩ = some (.int .i64 ((rd_T51 l0 x14_1).f0)) := (blk_cell BK158.out 0).trans rfl
        have hcz16_1 : w9.cell? ⟨gb158, 1, none⟩ = some (.int .i64 ((rd_T51 l0 x14_1).f1)) := (blk_cell BK158.out 1).trans rfl
        have hcz16_2 : w9.cell? ⟨gb158, 2, none⟩ = some (.int .i64 ((rd_T51 l0 x14_1).f2)) := (blk_cell BK158.out 2).trans rfl
        have hcz16_3 : w9.cell? ⟨gb158, 3, none⟩ = some (.int .i64 ((rd_T51 l0 x14_1).f3)) := (blk_cell BK158.out 3).trans rfl
        have hfz16_0 := blk_frozen BK158.out 0
        have hfz16_1 := blk_frozen BK158.out 1
        have hfz16_2 := blk_frozen BK158.out 2
        have hfz16_3 := blk_frozen BK158.out 3
        go_wp2
        go_meet
        case rel => exact ⟨_, (false), (by first | rfl | (simp; done) | (simp [*]; done)), H', ⟨by have := HK1.out; first | omega | exact Nat.le_refl _⟩, ⟨by (with_reducible repeat (first | apply Kd.R_alloc | apply Kd.R_drewN | apply Kd.R_drew)); exact Kd.R_mono (Kd.R_far (p := ⟨gb159, 3, none⟩) (Kd.R_far (p := ⟨gb159, 2, none⟩) (Kd.R_far (p := ⟨gb159, 1, none⟩) (Kd.R_far (p := ⟨gb159, 0, none⟩) (Kd.R_mono HO_6.out (fun k_ hk => (⟨hk, hk.2⟩ : _ ∧ k_ ≠ gb159))) (fun _ hk => hk.2) (.int .i64 ((rd_T51 l0 x14_1).f3))) (fun _ hk => hk.2) (.int .i64 a1)) (fun _ hk => hk.2) (.int .i64 ((rd_T51 l0 x14_1).f0))) (fun _ hk => hk.2) (.int .i64 ((rd_T51 l0 x14_1).f2))) (fun _ hk => hk.1.2)⟩, ⟨by (with_reducible repeat (first | refine blk_drewN ?_ _ | refine blk_drew ?_ | refine blk_alloc ?_ _)); refine blk_far ?_ NB158_159.out _; (with_reducible repeat (first | refine blk_drewN ?_ _ | refine blk_drew ?_ | refine blk_alloc ?_ _)); refine blk_far ?_ NB158_159.out _; (with_reducible repeat (first | refine blk_drewN ?_ _ | refine blk_drew ?_ | refine blk_alloc ?_ _)); refine blk_far ?_ NB158_159.out _; (with_reducible repeat (first | refine blk_drewN ?_ _ | refine blk_drew ?_ | refine blk_alloc ?_ _)); refine blk_far ?_ NB158_159.out _; (with_reducible repeat (first | refine blk_drewN ?_ _ | refine blk_drew ?_ | refine blk_alloc ?_ _)); exact BK158.out⟩, ⟨by (with_reducible repeat (first | refine blk_drewN ?_ _ | refine blk_drew ?_ | refine blk_alloc ?_ _)); refine blk_put (cs := #[.int .i64 ((rd_T51 l0 x14_1).f3), .int .i64 a1, .int .i64 ((rd_T51 l0 x14_1).f0), .int .i64 0]) ?_ 3 _ rfl; (with_reducible repeat (first | refine blk_drewN ?_ _ | refine blk_drew ?_ | refine blk_alloc ?_ _)); refine blk_put (cs := #[.int .i64 ((rd_T51 l0 x14_1).f3), .int .i64 a1, .int .i64 0, .int .i64 0]) ?_ 2 _ rfl; (with_reducible repeat (first | refine blk_drewN ?_ _ | refine blk_drew ?_ | refine blk_alloc ?_ _)); refine blk_put (cs := #[.int .i64 ((rd_T51 l0 x14_1).f3), .int .i64 0, .int .i64 0, .int .i64 0]) ?_ 1 _ rfl; (with_reducible repeat (first | refine blk_drewN ?_ _ | refine blk_drew ?_ | refine blk_alloc ?_ _)); refine blk_put (cs := #[.int .i64 0, .int .i64 0, .int .i64 0, .int .i64 0]) ?_ 0 _ rfl; (with_reducible repeat (first | refine blk_drewN ?_ _ | refine blk_drew ?_ | refine blk_alloc ?_ _)); exact BK159.out⟩, ⟨by repeat (first | (with_reducible first | exact HB.out | apply below_alloc | apply pw_below_drewN | apply below_drew1 | refine below_set ?_ GE158.out | refine below_set ?_ GE159.out) | exact HB.out)⟩⟩
      case rest =>
       clear HC6
       try clear c1
       try clear p1
       try clear q1
       try clear hx1
       try clear c2
       try clear p2
       try clear c3
       try clear c3b0
       try clear c4
       try clear c4b0
       try clear c5
       try clear c5b0
       try clear c10
       try clear c12
       try clear c12b0
       try clear c13
       try clear c15
       try clear p15
       try clear q15
       try clear hx15
       try clear hcz11_0
       try clear hcz11_1
       try clear hcz11_2
       try clear hcz11_3
       try clear hcz14_0
       try clear hcz14_1
       try clear hcz14_2
       try clear hcz14_3
       try clear hcz16_0
       try clear hcz16_1
       try clear hcz16_2
       try clear hcz16_3
       try clear hcz8_0
       try clear hcz8_1
       try clear hcz8_2
       try clear hcz8_3
       try clear hfz11_0
       try clear hfz11_1
       try clear hfz11_2
       try clear hfz11_3
       try clear hfz14_0
       try clear hfz14_1
       try clear hfz14_2
       try clear hfz14_3
       try clear hfz16_0
       try clear hfz16_1
       try clear hfz16_2
       try clear hfz16_3
       try clear hfz8_0
       try clear hfz8_1
       try clear hfz8_2
       try clear hfz8_3
       try clear hx157_0
       try clear hx157_1
       try clear hx157_2
       try clear hx157_3
       try clear p157
       try clear p2
       try clear q157
       obtain ⟨kq, x33_5, rfl, HA, HJ5, HO_6, BK158, BK159, HB⟩ := hcut
       cases kq with
       | zero => exact absurd HA.out (by simp [ledger_Pays.j1])
       | succ kj5 =>
        have H := HA.out
        clear HA
        simp only [ledger_Pays.j1] at H
        have HC17 := Aside0.mk H
        clear H
        go_upto_if 33 with (fail)
        go_cut [] (fun wc => ∃ (kq : Nat) (x160000_16 : Int) (x160001_16 : Int) (x160002_16 : Int) (x160003_16 : Int), Aside0 (ledger_Pays.j2 kq a1 x6_1 l0 (l0.length : Int) x14_1 ((rd_T51 l0 x14_1).f0) ((rd_T51 l0 x14_1).f1) ((rd_T51 l0 x14_1).f2) ((rd_T51 l0 x14_1).f3) x160000_16 x160001_16 x160002_16 x160003_16 = some (r1, r2)) ∧ Aside0 (kq ≤ kj5) ∧ Aside0 (Kd.R k35 35 wc w.heap.size (fun k_ => k_ ≠ gb159) u6 x6_1) ∧ Aside0 (wc.heap[gb158]? = some (.cells #[.int .i64 ((rd_T51 l0 x14_1).f0), .int .i64 ((rd_T51 l0 x14_1).f1), .int .i64 ((rd_T51 l0 x14_1).f2), .int .i64 ((rd_T51 l0 x14_1).f3)] 51 (0, 0))) ∧ Aside0 (wc.heap[gb159]? = some (.cells #[.int .i64 x160000_16, .int .i64 x160001_16, .int .i64 x160002_16, .int .i64 x160003_16] 35 (0, 0))) ∧ Aside0 (Below w.heap.size w wc))
        case first =>
         have H := HC17.out
         clear HC17
         by_cases c18 : x33_5 = true
         ·subst c18
          have H1 : (ledger_Pays.j2 kj5 a1 x6_1 l0 (l0.length : Int) x14_1 ((rd_T51 l0 x14_1).f0) ((rd_T51 l0 x14_1).f1) ((rd_T51 l0 x14_1).f2) ((rd_T51 l0 x14_1).f3) ((rd_T51 l0 x14_1).f3) ((rd_T51 l0 x14_1).f0) a1 (wrap64 (-((rd_T51 l0 x14_1).f2)))) = some (r1, r2) := by rw [if_pos rfl] at H; exact H
          clear H
          have H := H1
          clear H1
          have H' := Aside0.mk H
          clear H
          have hnb19 := NB158_159.out
          have hnc19 := NB159_158.out
          have hcz20_0 : wc.cell? ⟨gb158, 0, none⟩ = some (.int .i64 ((rd_T51 l0 x14_1).f0)) := (blk_cell BK158.out 0).trans rfl
          have hcz20_1 : wc.cell? ⟨gb158, 1, none⟩ = some (.int .i64 ((rd_T51 l0 x14_1).f1)) := (blk_cell BK158.out 1).trans rfl
          have hcz20_2 : wc.cell? ⟨gb158, 2, none⟩ = some (.int .i64 ((rd_T51 l0 x14_1).f2)) := (blk_cell BK158.out 2).trans rfl
          have hcz20_3 : wc.cell? ⟨gb158, 3, none⟩ = some (.int .i64 ((rd_T51 l0 x14_1).f3)) := (blk_cell BK158.out 3).trans rfl
          have hfz20_0 := blk_frozen BK158.out 0
          have hfz20_1 := blk_frozen BK158.out 1
          have hfz20_2 := blk_frozen BK158.out 2
          have hfz20_3 := blk_frozen BK158.out 3
          have hcz21_0 : wc.cell? ⟨gb159, 0, none⟩ = some (.int .i64 ((rd_T51 l0 x14_1).f3)) := (blk_cell BK159.out 0).trans rfl
          have hcz21_1 : wc.cell? ⟨gb159, 1, none⟩ = some (.int .i64 a1) := (blk_cell BK159.out 1).trans rfl
          have hcz21_2 : wc.cell? ⟨gb159, 2, none⟩ = some (.int .i64 ((rd_T51 l0 x14_1).f0)) := (blk_cell BK159.out 2).trans rfl
          have hcz21_3 : wc.cell? ⟨gb159, 3, none⟩ = some (.int .i64 ((rd_T51 l0 x14_1).f2)) := (blk_cell BK159.out 3).trans rfl
          have hfz21_0 := blk_frozen BK159.out 0
          have hfz21_1 := blk_frozen BK159.out 1
          have hfz21_2 := blk_frozen BK159.out 2
          have hfz21_3 := blk_frozen BK159.out 3
          go_wp2
          go_meet
          case rel => exact ⟨_, (((rd_T51 l0 x14_1).f3)), (((rd_T51 l0 x14_1).f0)), (a1), (wrap64 (-((rd_T51 l0 x14_1).f2))), H', ⟨by have := HK1.out; have := HJ5.out; first | omega | exact Nat.le_refl _⟩, ⟨by (with_reducible repeat (first | apply Kd.R_alloc | apply Kd.R_drewN | apply Kd.R_drew)); exact Kd.R_mono (Kd.R_far (p := ⟨gb159, 3, none⟩) (Kd.R_far (p := ⟨gb159, 2, none⟩) (Kd.R_far (p := ⟨gb159, 1, none⟩) (Kd.R_far (p := ⟨gb159, 0, none⟩) (Kd.R_mono HO_6.out (fun k_ hk => (⟨hk, hk⟩ : _ ∧ k_ ≠ gb159))) (fun _ hk => hk.2) (.int .i64 ((rd_T51 l0 x14_1).f3))) (fun _ hk => hk.2) (.int .i64 ((rd_T51 l0 x14_1).f0))) (fun _ hk => hk.2) (.int .i64 a1)) (fun _ hk => hk.2) (.int .i64 (wrap64 (-((rd_T51 l0 x14_1).f2))))) (fun _ hk => hk.1)⟩, ⟨by (with_reducible repeat (first | refine blk_drewN ?_ _ | refine blk_drew ?_ | refine blk_alloc ?_ _)); refine blk_far ?_ NB158_159.out _; (with_reducible repeat (first | refine blk_drewN ?_ _ | refine blk_drew ?_ | refine blk_alloc ?_ _)); refine blk_far ?_ NB158_159.out _; (with_reducible repeat (first | refine blk_drewN ?_ _ | refine blk_drew ?_ | refine blk_alloc ?_ _)); refine blk_far ?_ NB158_159.out _; (with_reducible repeat (first | refine blk_drewN ?_ _ | refine blk_drew ?_ | refine blk_alloc ?_ _)); refine blk_far ?_ NB158_159.out _; (with_reducible repeat (first | refine blk_drewN ?_ _ | refine blk_drew ?_ | refine blk_alloc ?_ _)); exact BK158.out⟩, ⟨by (with_reducible repeat (first | refine blk_drewN ?_ _ | refine blk_drew ?_ | refine blk_alloc ?_ _)); refine blk_put (cs := #[.int .i64 ((rd_T51 l0 x14_1).f3), .int .i64 ((rd_T51 l0 x14_1).f0), .int .i64 a1, .int .i64 ((rd_T51 l0 x14_1).f2)]) ?_ 3 _ rfl; (with_reducible repeat (first | refine blk_drewN ?_ _ | refine blk_drew ?_ | refine blk_alloc ?_ _)); refine blk_put (cs := #[.int .i64 ((rd_T51 l0 x14_1).f3), .int .i64 ((rd_T51 l0 x14_1).f0), .int .i64 ((rd_T51 l0 x14_1).f0), .int .i64 ((rd_T51 l0 x14_1).f2)]) ?_ 2 _ rfl; (with_reducible repeat (first | refine blk_drewN ?_ _ | refine blk_drew ?_ | refine blk_alloc ?_ _)); refine blk_put (cs := #[.int .i64 ((rd_T51 l0 x14_1).f3), .int .i64 a1, .int .i64 ((rd_T51 l0 x14_1).f0), .int .i64 ((rd_T51 l0 x14_1).f2)]) ?_ 1 _ rfl; (with_reducible repeat (first | refine blk_drewN ?_ _ | refine blk_drew ?_ | refine blk_alloc ?_ _)); refine blk_put (cs := #[.int .i64 ((rd_T51 l0 x14_1).f3), .int .i64 a1, .int .i64 ((rd_T51 l0 x14_1).f0), .int .i64 ((rd_T51 l0 x14_1).f2)]) ?_ 0 _ rfl; (with_reducible repeat (first | refine blk_drewN ?_ _ | refine blk_drew ?_ | refine blk_alloc ?_ _)); exact BK159.out⟩, ⟨by repeat (first | (with_reducible first | exact HB.out | apply below_alloc | apply pw_below_drewN | apply below_drew1 | refine below_set ?_ GE158.out | refine below_set ?_ GE159.out) | exact HB.out)⟩⟩
         ·replace c18 := Bool.eq_false_iff.mpr c18
          subst c18
          have H1 : (ledger_Pays.j2 kj5 a1 x6_1 l0 (l0.length : Int) x14_1 ((rd_T51 l0 x14_1).f0) ((rd_T51 l0 x14_1).f1) ((rd_T51 l0 x14_1).f2) ((rd_T51 l0 x14_1).f3) ((rd_T51 l0 x14_1).f3) a1 ((rd_T51 l0 x14_1).f0) ((rd_T51 l0 x14_1).f2)) = some (r1, r2) := by rw [if_neg (show ¬ (false = true) by decide)] at H; exact H
          clear H
          have H := H1
          clear H1
          have H' := Aside0.mk H
          clear H
          go_wp2
          go_meet
          case rel => exact ⟨_, (((rd_T51 l0 x14_1).f3)), (a1), (((rd_T51 l0 x14_1).f0)), (((rd_T51 l0 x14_1).f2)), H', ⟨by have := HK1.out; have := HJ5.out; first | omega | exact Nat.le_refl _⟩, ⟨by (with_reducible repeat (first | apply Kd.R_alloc | apply Kd.R_drewN | apply Kd.R_drew)); exact HO_6.out⟩, ⟨by (with_reducible repeat (first | refine blk_drewN ?_ _ | refine blk_drew ?_ | refine blk_alloc ?_ _)); exact BK158.out⟩, ⟨by (with_reducible repeat (first | refine blk_drewN ?_ _ | refine blk_drew ?_ | refine blk_alloc ?_ _)); exact BK159.out⟩, ⟨by repeat (first | (with_reducible first | exact HB.out | apply below_alloc | apply pw_below_drewN | apply below_drew1 | refine below_set ?_ GE158.out | refine below_set ?_ GE159.out) | exact HB.out)⟩⟩
        case rest =>
         clear HC17
         try clear c1
         try clear p1
         try clear q1
         try clear hx1
         try clear c2
         try clear p2
         try clear c3
         try clear c3b0
         try clear c4
         try clear c4b0
         try clear c5
         try clear c5b0
         try clear p6
         try clear c10
         try clear c12
         try clear c12b0
         try clear c13
         try clear c15
         try clear p15
         try clear q15
         try clear hx15
         try clear c18
         try clear c19
         try clear hcz11_0
         try clear hcz11_1
         try clear hcz11_2
         try clear hcz11_3
         try clear hcz14_0
         try clear hcz14_1
         try clear hcz14_2
         try clear hcz14_3
         try clear hcz16_0
         try clear hcz16_1
         try clear hcz16_2
         try clear hcz16_3
         try clear hcz20_0
         try clear hcz20_1
         try clear hcz20_2
         try clear hcz20_3
         try clear hcz21_0
         try clear hcz21_1
         try clear hcz21_2
         try clear hcz21_3
         try clear hcz8_0
         try clear hcz8_1
         try clear hcz8_2
         try clear hcz8_3
         try clear hfz11_0
         try clear hfz11_1
         try clear hfz11_2
         try clear hfz11_3
         try clear hfz14_0
         try clear hfz14_1
         try clear hfz14_2
         try clear hfz14_3
         try clear hfz16_0
         try clear hfz16_1
         try clear hfz16_2
         try clear hfz16_3
         try clear hfz20_0
         try clear hfz20_1
         try clear hfz20_2
         try clear hfz20_3
         try clear hfz21_0
         try clear hfz21_1
         try clear hfz21_2
         try clear hfz21_3
         try clear hfz8_0
         try clear hfz8_1
         try clear hfz8_2
         try clear hfz8_3
         try clear hx157_0
         try clear hx157_1
         try clear hx157_2
         try clear hx157_3
         try clear p1
         try clear p15
         try clear p157
         try clear p2
         try clear q1
         try clear q15
         try clear q157
         obtain ⟨kq, x160000_16, x160001_16, x160002_16, x160003_16, HA, HJ16, HO_6, BK158, BK159, HB⟩ := hcut
         cases kq with
         | zero => exact absurd HA.out (by simp [ledger_Pays.j2])
         | succ kj16 =>
          have H := HA.out
          clear HA
          simp only [ledger_Pays.j2] at H
          by_cases c22 : ((rd_T51 l0 x14_1).f2) = 0
          ·rw [if_pos c22] at H
           have c22b0 : (((rd_T51 l0 x14_1).f2) == 0) = true := beq_iff_eq.mpr c22
           have c22b1 : (((rd_T51 l0 x14_1).f2) != 0) = false := bne_eq_false_iff_eq.mpr c22
           clear c22
           have H' := Aside0.mk H
           clear H
           have hnb23 := NB158_159.out
           have hnc23 := NB159_158.out
           have hcz24_0 : wc.cell? ⟨gb158, 0, none⟩ = some (.int .i64 ((rd_T51 l0 x14_1).f0)) := (blk_cell BK158.out 0).trans rfl
           have hcz24_1 : wc.cell? ⟨gb158, 1, none⟩ = some (.int .i64 ((rd_T51 l0 x14_1).f1)) := (blk_cell BK158.out 1).trans rfl
           have hcz24_2 : wc.cell? ⟨gb158, 2, none⟩ = some (.int .i64 ((rd_T51 l0 x14_1).f2)) := (blk_cell BK158.out 2).trans rfl
           have hcz24_3 : wc.cell? ⟨gb158, 3, none⟩ = some (.int .i64 ((rd_T51 l0 x14_1).f3)) := (blk_cell BK158.out 3).trans rfl
           have hfz24_0 := blk_frozen BK158.out 0
           have hfz24_1 := blk_frozen BK158.out 1
           have hfz24_2 := blk_frozen BK158.out 2
           have hfz24_3 := blk_frozen BK158.out 3
           go_wp2
           go_roundg kj16
           case measure => have := HK1.out; have := HJ5.out; have := HJ16.out; omega
           case rel => exact ⟨(x6_1), (wrap64 (x14_1 + 1)), (by first | rfl | (simp; done) | (simp [*]; done)), H', ⟨by have := HK1.out; have := HJ5.out; have := HJ16.out; omega⟩, ⟨by (with_reducible repeat (first | apply Kd.R_alloc | apply Kd.R_drewN | apply Kd.R_drew)); exact Kd.R_mono HO_6.out (fun _ hk => trivial)⟩, ⟨by repeat (first | (with_reducible first | exact HB.out | apply below_alloc | apply pw_below_drewN | apply below_drew1 | refine below_set ?_ GE158.out | refine below_set ?_ GE159.out) | exact HB.out)⟩⟩
          ·rw [if_neg c22] at H
           have c22b0 : (((rd_T51 l0 x14_1).f2) == 0) = false := beq_eq_false_iff_ne.mpr c22
           have c22b1 : (((rd_T51 l0 x14_1).f2) != 0) = true := bne_iff_ne.mpr c22
           replace H := Option.bind_eq_some_iff.mp H
           obtain ⟨t160, A250, H⟩ := H
           replace H : (if t160 = 0 then (if x6_1.length < 4398046511104 then (ledger_Pays.l0 kj16 a1 (x6_1 ++ [(⟨x160000_16, x160001_16, x160002_16, x160003_16⟩ : S35)]) l0 (l0.length : Int) (wrap64 (x14_1 + 1))) else (none)) else (some (([] : List (S35)), t160))) = some (r1, r2) := H
           have A25 := Aside0.mk A250
           clear A250
           by_cases c26 : t160 = 0
           ·rw [if_pos c26] at H
            have c26b0 : (t160 == 0) = true := beq_iff_eq.mpr c26
            have c26b1 : (t160 != 0) = false := bne_eq_false_iff_eq.mpr c26
            clear c26
            by_cases c27 : x6_1.length < 4398046511104
            ·rw [if_pos c27] at H
             have LMc27 := Aside0.mk c27
             clear c27
             obtain ⟨y161, hy161⟩ : ∃ y_ : List (S35), y_ = (x6_1 ++ [(⟨x160000_16, x160001_16, x160002_16, x160003_16⟩ : S35)]) := ⟨_, rfl⟩
             replace H : (ledger_Pays.l0 kj16 a1 y161 l0 (l0.length : Int) (wrap64 (x14_1 + 1))) = some (r1, r2) := by first | (rw [hy161]; with_reducible exact H) | (have H2_ := (Option.bind_some _ _).symm.trans H; rw [hy161]; with_reducible exact H2_) | (have H2_ := (Option.bind_some _ _).symm.trans H; with_reducible exact H2_) | with_reducible exact H | (rw [hy161]; exact H) | exact H
             have Ny161 := Aside0.mk hy161
             clear hy161
             have H' := Aside0.mk H
             clear H
             have hnb28 := NB158_159.out
             have hnc28 := NB159_158.out
             have hcz29_0 : wc.cell? ⟨gb158, 0, none⟩ = some (.int .i64 ((rd_T51 l0 x14_1).f0)) := (blk_cell BK158.out 0).trans rfl
             have hcz29_1 : wc.cell? ⟨gb158, 1, none⟩ = some (.int .i64 ((rd_T51 l0 x14_1).f1)) := (blk_cell BK158.out 1).trans rfl
             have hcz29_2 : wc.cell? ⟨gb158, 2, none⟩ = some (.int .i64 ((rd_T51 l0 x14_1).f2)) := (blk_cell BK158.out 2).trans rfl
             have hcz29_3 : wc.cell? ⟨gb158, 3, none⟩ = some (.int .i64 ((rd_T51 l0 x14_1).f3)) := (blk_cell BK158.out 3).trans rfl
             have hfz29_0 := blk_frozen BK158.out 0
             have hfz29_1 := blk_frozen BK158.out 1
             have hfz29_2 := blk_frozen BK158.out 2
             have hfz29_3 := blk_frozen BK158.out 3
             have hcz30_0 : wc.cell? ⟨gb159, 0, none⟩ = some (.int .i64 x160000_16) := (blk_cell BK159.out 0).trans rfl
             have hcz30_1 : wc.cell? ⟨gb159, 1, none⟩ = some (.int .i64 x160001_16) := (blk_cell BK159.out 1).trans rfl
             have hcz30_2 : wc.cell? ⟨gb159, 2, none⟩ = some (.int .i64 x160002_16) := (blk_cell BK159.out 2).trans rfl
             have hcz30_3 : wc.cell? ⟨gb159, 3, none⟩ = some (.int .i64 x160003_16) := (blk_cell BK159.out 3).trans rfl
             have hfz30_0 := blk_frozen BK159.out 0
             have hfz30_1 := blk_frozen BK159.out 1
             have hfz30_2 := blk_frozen BK159.out 2
             have hfz30_3 := blk_frozen BK159.out 3
             go_wp2_with (first | ((with_reducible refine gate_callee (f := 45) rfl ?_); refine goesL_ (some 47) rfl rfl Try.func45 (by kernel_rfl) rfl #[.agg #[.int .i64 x160000_16, .int .i64 x160001_16, .int .i64 x160002_16, .int .i64 x160003_16]] rfl (by (try simp only [List.map_toArray, List.map_cons, List.map_nil]); first | done | rfl | (simp only [List.length_drop, List.length_take]; rfl)) ?_; (with_reducible refine (ledger_one.calls kj16 x160000_16 x160001_16 x160002_16 x160003_16 t160 _ A25.out).mono ?_); rintro e w31 ⟨rfl, hb⟩; refine ⟨_, rfl, ?_⟩; have n0_ := Aside0.mk (Kd.R_below (by (with_reducible repeat (first | apply Kd.R_alloc | apply Kd.R_drewN | apply Kd.R_drew)); exact HO_6.out) hb); have n1_ := Aside0.mk (blk_below (g := gb158) (o := .cells #[.int .i64 ((rd_T51 l0 x14_1).f0), .int .i64 ((rd_T51 l0 x14_1).f1), .int .i64 ((rd_T51 l0 x14_1).f2), .int .i64 ((rd_T51 l0 x14_1).f3)] 51 (0, 0)) (by (with_reducible repeat (first | refine blk_drewN ?_ _ | refine blk_drew ?_ | refine blk_alloc ?_ _)); exact BK158.out) hb); have n2_ := Aside0.mk (blk_below (g := gb159) (o := .cells #[.int .i64 x160000_16, .int .i64 x160001_16, .int .i64 x160002_16, .int .i64 x160003_16] 35 (0, 0)) (by (with_reducible repeat (first | refine blk_drewN ?_ _ | refine blk_drew ?_ | refine blk_alloc ?_ _)); exact BK159.out) hb); have n3_ := Aside0.mk (below_step (by repeat (first | (with_reducible first | exact HB.out | apply below_alloc | apply pw_below_drewN | apply below_drew1 | refine below_set ?_ GE158.out | refine below_set ?_ GE159.out) | exact HB.out)) hb); clear HO_6; clear BK158; clear BK159; clear HB; have HO_6 := n0_; have BK158 := n1_; have BK159 := n2_; have HB := n3_; clear n0_ n1_ n2_ n3_; (try clear hb); (try clear hb2); (try clear hk); (try clear hi); have hcz32_0 : w31.cell? ⟨gb159, 0, none⟩ = some (.int .i64 x160000_16) := (blk_cell BK159.out 0).trans rfl; have hcz32_1 : w31.cell? ⟨gb159, 1, none⟩ = some (.int .i64 x160001_16) := (blk_cell BK159.out 1).trans rfl; have hcz32_2 : w31.cell? ⟨gb159, 2, none⟩ = some (.int .i64 x160002_16) := (blk_cell BK159.out 2).trans rfl; have hcz32_3 : w31.cell? ⟨gb159, 3, none⟩ = some (.int .i64 x160003_16) := (blk_cell BK159.out 3).trans rfl; have hfz32_0 := blk_frozen BK159.out 0; have hfz32_1 := blk_frozen BK159.out 1; have hfz32_2 := blk_frozen BK159.out 2; have hfz32_3 := blk_frozen BK159.out 3) | ((with_reducible refine gate_builtin (b := .append) (xs := #[.tmp 51, .tmp 53]) rfl ?_); at_builtin; refine Kd.R_append k35 (w0 := w) w.heap.size rfl (.tmp 51) (.tmp 53) 24 35 (.agg #[(.int .i64 0), (.int .i64 0), (.int .i64 0), (.int .i64 0)]) 32 rfl Try.underlying24 info35 rfl (by decide) (by omega) u6 x6_1 (⟨x160000_16, x160001_16, x160002_16, x160003_16⟩ : S35) [.int .i64 x160000_16, .int .i64 x160001_16, .int .i64 x160002_16, .int .i64 x160003_16] (fun k_ => k_ ≠ gb159) (fun _ => False) rfl rfl ?aP (fun _ hk => hk.elim) ?aF ?aO ?aB ?aS ?aL ?_; (case aP => exact k35_mkM _ _ _ (⟨x160000_16, x160001_16, x160002_16, x160003_16⟩ : S35)); (case aB => exact (by repeat (first | (with_reducible first | exact HB.out | apply below_alloc | apply pw_below_drewN | apply below_drew1 | refine below_set ?_ GE158.out | refine below_set ?_ GE159.out) | exact HB.out))); (case aF => exact (fun k_ hk => Kd.freshB (g := gb159) (o := .cells #[.int .i64 x160000_16, .int .i64 x160001_16, .int .i64 x160002_16, .int .i64 x160003_16] 35 (0, 0)) (by (with_reducible repeat (first | refine blk_drewN ?_ _ | refine blk_drew ?_ | refine blk_alloc ?_ _)); exact BK159.out) k_ hk)); (case aO => exact (by (with_reducible repeat (first | apply Kd.R_alloc | apply Kd.R_drewN | apply Kd.R_drew)); exact HO_6.out)); (case aS => exact (below_size (by repeat (first | (with_reducible first | exact HB.out | apply below_alloc | apply pw_below_drewN | apply below_drew1 | refine below_set ?_ GE158.out | refine below_set ?_ GE159.out) | exact HB.out)))); (case aL => have := LMc27.out; omega); intro v162 w33 ho hb hg hat; rw [← Ny161.out] at ho; have n0_ := Aside0.mk (blk_grown (g := gb158) (o := .cells #[.int .i64 ((rd_T51 l0 x14_1).f0), .int .i64 ((rd_T51 l0 x14_1).f1), .int .i64 ((rd_T51 l0 x14_1).f2), .int .i64 ((rd_T51 l0 x14_1).f3)] 51 (0, 0)) (by (with_reducible repeat (first | refine blk_drewN ?_ _ | refine blk_drew ?_ | refine blk_alloc ?_ _)); exact BK158.out) hg (Kd.R_ne HO_6.out BK158.out (by decide))); have n1_ := Aside0.mk (blk_grown (g := gb159) (o := .cells #[.int .i64 x160000_16, .int .i64 x160001_16, .int .i64 x160002_16, .int .i64 x160003_16] 35 (0, 0)) (by (with_reducible repeat (first | refine blk_drewN ?_ _ | refine blk_drew ?_ | refine blk_alloc ?_ _)); exact BK159.out) hg (Kd.R_away HO_6.out (fun _ hk => hk))); have n2_ := Aside0.mk (hb); have n3_ := Aside0.mk (ho); clear BK158; clear BK159; clear HB; clear HO_6; have BK158 := n0_; have BK159 := n1_; have HB := n2_; have HO163 := n3_; clear n0_ n1_ n2_ n3_; clear ho hb hg hat))
             go_roundg kj16
             case measure => have := HK1.out; have := HJ5.out; have := HJ16.out; omega
             case rel => exact ⟨(y161), (wrap64 (x14_1 + 1)), (by first | rfl | (simp; done) | (simp [*]; done)), H', ⟨by have := HK1.out; have := HJ5.out; have := HJ16.out; omega⟩, ⟨by (with_reducible repeat (first | apply Kd.R_alloc | apply Kd.R_drewN | apply Kd.R_drew)); exact Kd.R_mono HO163.out (fun _ hk => trivial)⟩, ⟨by repeat (first | (with_reducible first | exact HB.out | apply below_alloc | apply pw_below_drewN | apply below_drew1 | refine below_set ?_ GE158.out | refine below_set ?_ GE159.out) | exact HB.out)⟩⟩
            ·rw [if_neg c27] at H
             exact absurd H (by simp)
           ·rw [if_neg c26] at H
            have c26b0 : (t160 == 0) = false := beq_eq_false_iff_ne.mpr c26
            have c26b1 : (t160 != 0) = true := bne_iff_ne.mpr c26
            simp only [Option.some.injEq, Prod.mk.injEq] at H
            obtain ⟨rfl, rfl⟩ := H
            have hnb34 := NB158_159.out
            have hnc34 := NB159_158.out
            have hcz35_0 : wc.cell? ⟨gb158, 0, none⟩ = some (.int .i64 ((rd_T51 l0 x14_1).f0)) := (blk_cell BK158.out 0).trans rfl
            have hcz35_1 : wc.cell? ⟨gb158, 1, none⟩ = some (.int .i64 ((rd_T51 l0 x14_1).f1)) := (blk_cell BK158.out 1).trans rfl
            have hcz35_2 : wc.cell? ⟨gb158, 2, none⟩ = some (.int .i64 ((rd_T51 l0 x14_1).f2)) := (blk_cell BK158.out 2).trans rfl
            have hcz35_3 : wc.cell? ⟨gb158, 3, none⟩ = some (.int .i64 ((rd_T51 l0 x14_1).f3)) := (blk_cell BK158.out 3).trans rfl
            have hfz35_0 := blk_frozen BK158.out 0
            have hfz35_1 := blk_frozen BK158.out 1
            have hfz35_2 := blk_frozen BK158.out 2
            have hfz35_3 := blk_frozen BK158.out 3
            have hcz36_0 : wc.cell? ⟨gb159, 0, none⟩ = some (.int .i64 x160000_16) := (blk_cell BK159.out 0).trans rfl
            have hcz36_1 : wc.cell? ⟨gb159, 1, none⟩ = some (.int .i64 x160001_16) := (blk_cell BK159.out 1).trans rfl
            have hcz36_2 : wc.cell? ⟨gb159, 2, none⟩ = some (.int .i64 x160002_16) := (blk_cell BK159.out 2).trans rfl
            have hcz36_3 : wc.cell? ⟨gb159, 3, none⟩ = some (.int .i64 x160003_16) := (blk_cell BK159.out 3).trans rfl
            have hfz36_0 := blk_frozen BK159.out 0
            have hfz36_1 := blk_frozen BK159.out 1
            have hfz36_2 := blk_frozen BK159.out 2
            have hfz36_3 := blk_frozen BK159.out 3
            go_wp2_with (first | ((with_reducible refine gate_callee (f := 45) rfl ?_); refine goesL_ (some 47) rfl rfl Try.func45 (by kernel_rfl) rfl #[.agg #[.int .i64 x160000_16, .int .i64 x160001_16, .int .i64 x160002_16, .int .i64 x160003_16]] rfl (by (try simp only [List.map_toArray, List.map_cons, List.map_nil]); first | done | rfl | (simp only [List.length_drop, List.length_take]; rfl)) ?_; (with_reducible refine (ledger_one.calls kj16 x160000_16 x160001_16 x160002_16 x160003_16 t160 _ A25.out).mono ?_); rintro e w37 ⟨rfl, hb⟩; refine ⟨_, rfl, ?_⟩; have n0_ := Aside0.mk (Kd.R_below (by (with_reducible repeat (first | apply Kd.R_alloc | apply Kd.R_drewN | apply Kd.R_drew)); exact HO_6.out) hb); have n1_ := Aside0.mk (blk_below (g := gb158) (o := .cells #[.int .i64 ((rd_T51 l0 x14_1).f0), .int .i64 ((rd_T51 l0 x14_1).f1), .int .i64 ((rd_T51 l0 x14_1).f2), .int .i64 ((rd_T51 l0 x14_1).f3)] 51 (0, 0)) (by (with_reducible repeat (first | refine blk_drewN ?_ _ | refine blk_drew ?_ | refine blk_alloc ?_ _)); exact BK158.out) hb); have n2_ := Aside0.mk (blk_below (g := gb159) (o := .cells #[.int .i64 x160000_16, .int .i64 x160001_16, .int .i64 x160002_16, .int .i64 x160003_16] 35 (0, 0)) (by (with_reducible repeat (first | refine blk_drewN ?_ _ | refine blk_drew ?_ | refine blk_alloc ?_ _)); exact BK159.out) hb); have n3_ := Aside0.mk (below_step (by repeat (first | (with_reducible first | exact HB.out | apply below_alloc | apply pw_below_drewN | apply below_drew1 | refine below_set ?_ GE158.out | refine below_set ?_ GE159.out) | exact HB.out)) hb); clear HO_6; clear BK158; clear BK159; clear HB; have HO_6 := n0_; have BK158 := n1_; have BK159 := n2_; have HB := n3_; clear n0_ n1_ n2_ n3_; (try clear hb); (try clear hb2); (try clear hk); (try clear hi)))
            go_ret2
            exact ⟨_, by first | rfl | (simp [errW_none, errW_some] <;> rfl) | (simp [*, errW_none, errW_some] <;> rfl), by first | exact Kd.R_nil _ _ _ _ _ | exact Kd.N_nil _ _ _ _ _ | exact Kd.V_nil _ _ _ _ _ | exact Kd.Q_nil _ _ _ _ _ | exact Kd.S_nil _ _ _ _ _, by repeat (first | (with_reducible first | exact HB.out | apply below_alloc | apply pw_below_drewN | apply below_drew1 | refine below_set ?_ GE158.out | refine below_set ?_ GE159.out) | exact HB.out)⟩
     ·rw [if_neg c5] at H
      exact absurd H (by simp)
    ·rw [if_neg c4] at H
     exact absurd H (by simp)
   ·rw [if_neg c3] at H
    have c3b0 : decide (x14_1 < (l0.length : Int)) = false := decide_eq_false c3
    clear c3
    replace H := Option.bind_eq_some_iff.mp H
    obtain ⟨t164, A380, H⟩ := H
    replace H : ((ledger_Check.f k1 t164).bind fun t165 => (if t165 = 0 then (some (t164, 0)) else (some (([] : List (S35)), t165)))) = some (r1, r2) := H
    have A38 := Aside0.mk A380
    clear A380
    replace H := Option.bind_eq_some_iff.mp H
    obtain ⟨t165, A390, H⟩ := H
    replace H : (if t165 = 0 then (some (t164, 0)) else (some (([] : List (S35)), t165))) = some (r1, r2) := H
    have A39 := Aside0.mk A390
    clear A390
    by_cases c40 : t165 = 0
    ·rw [if_pos c40] at H
     have c40b0 : (t165 == 0) = true := beq_iff_eq.mpr c40
     have c40b1 : (t165 != 0) = false := bne_eq_false_iff_eq.mpr c40
     clear c40
     simp only [Option.some.injEq, Prod.mk.injEq] at H
     obtain ⟨rfl, rfl⟩ := H
     obtain ⟨Ao41, co41, eo41⟩ := Kd.R_slice HO_6.out
     subst eo41
     go_wp2_with (first | ((with_reducible refine gate_callee (f := 46) rfl ?_); refine goesL_ (some 57) rfl rfl Try.func46 (by kernel_rfl) rfl #[.slice Ao41 x6_1.length co41, .func (.func 47) #[] #[]] rfl (by (try simp only [List.map_toArray, List.map_cons, List.map_nil]); first | done | rfl | (simp only [List.length_drop, List.length_take]; rfl)) ?_; (with_reducible refine (ledger_Entry_46.calls k1 (fun k_ => some k_ = (.slice Ao41 x6_1.length co41 : Value).ownBlock) (.slice Ao41 x6_1.length co41) x6_1  t164 w _ ?side1 ?side2 A38.out).mono ?_); (case side1 => repeat (first | (with_reducible first | exact HB.out | apply below_alloc | apply pw_below_drewN | apply below_drew1) | exact HB.out)); (case side2 => exact Kd.R_tight rfl HO_6.out); rintro e w42 ⟨rfl, hy0, hb, hkp⟩; refine ⟨_, rfl, ?_⟩; have n0_ := Aside0.mk (Kd.R_reok rfl hy0 (fun k_ e_ => HO_6.out.1 k_ e_)); have n1_ := Aside0.mk (hb); clear HO_6; clear HB; have HO_6 := n0_; have HB := n1_; clear n0_ n1_; (try clear hb); (try clear hkp); (try clear hy0)) | ((with_reducible refine gate_callee (f := 31) rfl ?_); refine goesL_ (some 59) rfl rfl Try.func31 (by kernel_rfl) rfl #[.slice Ao41 t164.length co41] rfl (by (try simp only [List.map_toArray, List.map_cons, List.map_nil]); first | done | (rw [show t164.length = x6_1.length from (Kd.R_reads' HO_6.out).1.symm] <;> rfl) | rfl | (simp only [List.length_drop, List.length_take]; rfl)) ?_; (with_reducible refine (ledger_Check.calls k1 _ _ t164 t165 _ ?side1 ?side2 A39.out).mono ?_); (case side1 => repeat (first | exact (Kd.R_reads' HO_6.out).2.2 | (with_reducible refine Kd.C_alloc ?_ _) | (with_reducible refine Kd.C_drewN ?_ _) | (with_reducible refine Kd.C_drew ?_))); (case side2 => rw [show t164.length = x6_1.length from (Kd.R_reads' HO_6.out).1.symm]; exact (Kd.R_reads' HO_6.out).2.1); rintro e w43 ⟨rfl, hb⟩; refine ⟨_, rfl, ?_⟩; have n0_ := Aside0.mk (Kd.R_below (by (with_reducible repeat (first | apply Kd.R_alloc | apply Kd.R_drewN | apply Kd.R_drew)); exact HO_6.out) hb); have n1_ := Aside0.mk (below_step (by repeat (first | (with_reducible first | exact HB.out | apply below_alloc | apply pw_below_drewN | apply below_drew1) | exact HB.out)) hb); clear HO_6; clear HB; have HO_6 := n0_; have HB := n1_; clear n0_ n1_; (try clear hb); (try clear hb2); (try clear hk); (try clear hi)))
     go_ret2
     exact ⟨_, by first | rfl | (simp [errW_none, errW_some] <;> rfl) | (simp [*, errW_none, errW_some] <;> rfl), by (with_reducible repeat (first | apply Kd.R_alloc | apply Kd.R_drewN | apply Kd.R_drew)); exact HO_6.out, by repeat (first | (with_reducible first | exact HB.out | apply below_alloc | apply pw_below_drewN | apply below_drew1) | exact HB.out)⟩
    ·rw [if_neg c40] at H
     have c40b0 : (t165 == 0) = false := beq_eq_false_iff_ne.mpr c40
     have c40b1 : (t165 != 0) = true := bne_iff_ne.mpr c40
     simp only [Option.some.injEq, Prod.mk.injEq] at H
     obtain ⟨rfl, rfl⟩ := H
     obtain ⟨Ao44, co44, eo44⟩ := Kd.R_slice HO_6.out
     subst eo44
     go_wp2_with (first | ((with_reducible refine gate_callee (f := 46) rfl ?_); refine goesL_ (some 57) rfl rfl Try.func46 (by kernel_rfl) rfl #[.slice Ao44 x6_1.length co44, .func (.func 47) #[] #[]] rfl (by (try simp only [List.map_toArray, List.map_cons, List.map_nil]); first | done | rfl | (simp only [List.length_drop, List.length_take]; rfl)) ?_; (with_reducible refine (ledger_Entry_46.calls k1 (fun k_ => some k_ = (.slice Ao44 x6_1.length co44 : Value).ownBlock) (.slice Ao44 x6_1.length co44) x6_1  t164 w _ ?side1 ?side2 A38.out).mono ?_); (case side1 => repeat (first | (with_reducible first | exact HB.out | apply below_alloc | apply pw_below_drewN | apply below_drew1) | exact HB.out)); (case side2 => exact Kd.R_tight rfl HO_6.out); rintro e w45 ⟨rfl, hy0, hb, hkp⟩; refine ⟨_, rfl, ?_⟩; have n0_ := Aside0.mk (Kd.R_reok rfl hy0 (fun k_ e_ => HO_6.out.1 k_ e_)); have n1_ := Aside0.mk (hb); clear HO_6; clear HB; have HO_6 := n0_; have HB := n1_; clear n0_ n1_; (try clear hb); (try clear hkp); (try clear hy0)) | ((with_reducible refine gate_callee (f := 31) rfl ?_); refine goesL_ (some 59) rfl rfl Try.func31 (by kernel_rfl) rfl #[.slice Ao44 t164.length co44] rfl (by (try simp only [List.map_toArray, List.map_cons, List.map_nil]); first | done | (rw [show t164.length = x6_1.length from (Kd.R_reads' HO_6.out).1.symm] <;> rfl) | rfl | (simp only [List.length_drop, List.length_take]; rfl)) ?_; (with_reducible refine (ledger_Check.calls k1 _ _ t164 t165 _ ?side1 ?side2 A39.out).mono ?_); (case side1 => repeat (first | exact (Kd.R_reads' HO_6.out).2.2 | (with_reducible refine Kd.C_alloc ?_ _) | (with_reducible refine Kd.C_drewN ?_ _) | (with_reducible refine Kd.C_drew ?_))); (case side2 => rw [show t164.length = x6_1.length from (Kd.R_reads' HO_6.out).1.symm]; exact (Kd.R_reads' HO_6.out).2.1); rintro e w46 ⟨rfl, hb⟩; refine ⟨_, rfl, ?_⟩; have n0_ := Aside0.mk (Kd.R_below (by (with_reducible repeat (first | apply Kd.R_alloc | apply Kd.R_drewN | apply Kd.R_drew)); exact HO_6.out) hb); have n1_ := Aside0.mk (below_step (by repeat (first | (with_reducible first | exact HB.out | apply below_alloc | apply pw_below_drewN | apply below_drew1) | exact HB.out)) hb); clear HO_6; clear HB; have HO_6 := n0_; have HB := n1_; clear n0_ n1_; (try clear hb); (try clear hb2); (try clear hk); (try clear hi)))
     go_ret2
     exact ⟨_, by first | rfl | (simp [errW_none, errW_some] <;> rfl) | (simp [*, errW_none, errW_some] <;> rfl), by first | exact Kd.R_nil _ _ _ _ _ | exact Kd.N_nil _ _ _ _ _ | exact Kd.V_nil _ _ _ _ _ | exact Kd.Q_nil _ _ _ _ _ | exact Kd.S_nil _ _ _ _ _, by repeat (first | (with_reducible first | exact HB.out | apply below_alloc | apply pw_below_drewN | apply below_drew1) | exact HB.out)⟩

end Go.Proofs.Ytenhnlclnjnboaa.PPad
