-- Printed by this session's wip/myprint.py.
import Derived.Test.YtbcaaocogphdeaaPAllx0
import Derived.Test.YtbcaaocogphdeaaPAllx27
import Derived.Test.YtbcaaocogphdeaaPAllx29
import Derived.Test.YtbcaaocogphdeaaPAllx31
import Derived.Test.YtbcaaocogphdeaaPAllx33
import Derived.Test.YtbcaaocogphdeaaPAllx36
import Derived.Test.YtbcaaocogphdeaaPAllx44
namespace Go.Proofs.Ytbcaaocogphdeaa.PAll
open Go.RowKit Go.Proofs.YtbcaaocogphdeaaW.PrintWords Go.Proofs.YtbcaaocogphdeaaW.PrintLast Go.Proofs.YtbcaaocogphdeaaW.PrintMore
attribute [local go_sem] max2_int min2_int max_two min_two max_three min_three max_four min_four   -- for this text's walks alone
set_option linter.unusedVariables false
set_option linter.unusedSimpArgs false

/-! ### mootkeep4_BackSteps: function 5 -/
-- conc_two stands ahead of mootkeep4_BackOnce.calls
structure mootkeep4_BackSteps.Good (k : Nat) (l0 l1 l2 : List Int) (a3 : Int) (paid first last x y all : List S32) (d : Int) (sx sy sa : Int → Int → Int) : Prop where
  cor : mootkeep4_corrected.f k = some true
  day : mootmake_Day.f a3 = some d
  p0 : mootkeep4_Pays.f k l0 = some paid
  p1 : mootkeep4_Pays.f k l1 = some first
  p2 : mootkeep4_Pays.f k l2 = some last
  cx : back_Correct.f paid first d = some (x, 0)
  cy : back_Correct.f (paid ++ x) last d = some (y, 0)
  ca : back_Correct.f paid last d = some (all, 0)
  lp : paid.length ≤ 1000
  lx : x.length ≤ 1000
  ux : ∀ who m : Int, 1 ≤ who → who ≤ 3 → 20000 ≤ m → m < 20004 → pay_Sum.f k x who m (m + 1) = some (sx who m)
  uy : ∀ who m : Int, 1 ≤ who → who ≤ 3 → 20000 ≤ m → m < 20004 → pay_Sum.f k y who m (m + 1) = some (sy who m)
  ua : ∀ who m : Int, 1 ≤ who → who ≤ 3 → 20000 ≤ m → m < 20004 → pay_Sum.f k all who m (m + 1) = some (sa who m)
  same : ∀ who m : Int, 1 ≤ who → who ≤ 3 → 20000 ≤ m → m < 20004 → wrap64 (sx who m + sy who m) = sa who m
open Classical in
noncomputable def mootkeep4_BackSteps.f (k : Nat) (l0 l1 l2 : List Int) (a3 : Int) : Option Bool := if ∃ paid first last x y all d sx sy sa, mootkeep4_BackSteps.Good k l0 l1 l2 a3 paid first last x y all d sx sy sa then some true else none
set_option maxHeartbeats 1000000 in
set_option maxRecDepth 100000 in
theorem mootkeep4_BackSteps.calls (k : Nat) (A0 : Option Addr) (c0 : Nat) (l0 : List Int) (A1 : Option Addr) (c1 : Nat) (l1 : List Int) (A2 : Option Addr) (c2 : Nat) (l2 : List Int) (a3 : Int) (r : Bool) (w : World) (hr0 : Kd.C (Kd.int .i64) w A0 l0.length l0) (hc0 : l0.length ≤ c0) (hr1 : Kd.C (Kd.int .i64) w A1 l1.length l1) (hc1 : l1.length ≤ c1) (hr2 : Kd.C (Kd.int .i64) w A2 l2.length l2) (hc2 : l2.length ≤ c2) (h : mootkeep4_BackSteps.f k l0 l1 l2 a3 = some r) :
    Calls Try.prog 5 #[.slice A0 l0.length c0, .slice A1 l1.length c1, .slice A2 l2.length c2, .int .i64 a3] w fun e w' => e = .returned (.bool r) ∧ Below w.heap.size w w' := by
  unfold mootkeep4_BackSteps.f at h
  split at h
  · rename_i hG
    obtain rfl := Option.some.inj h
    clear h
    obtain ⟨paid, first, last, x, y, all, d, sx, sy, sa, G0⟩ := hG
    have G := Aside0.mk G0
    clear G0
    have HI0 := Aside0.mk hr0
    have HI1 := Aside0.mk hr1
    have HI2 := Aside0.mk hr2
    have HC0 := Aside0.mk hc0
    have HC1 := Aside0.mk hc1
    have HC2 := Aside0.mk hc2
    clear hr0 hr1 hr2 hc0 hc1 hc2
    go_enter Try.func5, Try.ntmps5
    go_upto_region 3 with (go_at_call 13; refine (mootkeep4_corrected.calls k true w G.out.cor).mono ?_; rintro e w0 ⟨rfl, hb1⟩)
    have HB0 := Aside0.mk hb1
    clear hb1
    go_upto_region 4 with (go_at_call 16; refine (mootmake_Day.calls a3 d w0 G.out.day).mono ?_; rintro e w1 ⟨rfl, hdr⟩)
    have HB := Aside0.mk (HB0.out.trans (hdr.below.mono (below_size HB0.out)))
    clear HB0 hdr
    go_upto_region 5 with (first | (go_at_call 14; refine (mootkeep4_Pays.calls k A0 c0 l0 paid w1 (Kd.C_below HI0.out HB.out) HC0.out G.out.p0).mono ?_; rintro e w2 ⟨v_, rfl, ho_, hb_⟩; obtain ⟨P0, q0, rfl⟩ := Kd.R_slice ho_; have HP0 := Aside0.mk (Kd.R_reads' ho_).2.2; have HQ0 := Aside0.mk (Kd.R_reads' ho_).2.1; have HBn := Aside0.mk (HB.out.trans (hb_.mono (below_size HB.out))); clear HB ho_ hb_; have HB := HBn; clear HBn) | (go_at_call 14; refine (mootkeep4_Pays.calls k A1 c1 l1 first w2 (Kd.C_below HI1.out HB.out) HC1.out G.out.p1).mono ?_; rintro e w3 ⟨v_, rfl, ho_, hb_⟩; obtain ⟨P1, q1, rfl⟩ := Kd.R_slice ho_; have HP1 := Aside0.mk (Kd.R_reads' ho_).2.2; have HQ1 := Aside0.mk (Kd.R_reads' ho_).2.1; have HBn := Aside0.mk (HB.out.trans (hb_.mono (below_size HB.out))); have n_ := Aside0.mk (Kd.C_below HP0.out hb_); clear HP0; have HP0 := n_; clear n_; clear HB ho_ hb_; have HB := HBn; clear HBn) | (go_at_call 14; refine (mootkeep4_Pays.calls k A2 c2 l2 last w3 (Kd.C_below HI2.out HB.out) HC2.out G.out.p2).mono ?_; rintro e w4 ⟨v_, rfl, ho_, hb_⟩; obtain ⟨P2, q2, rfl⟩ := Kd.R_slice ho_; have HP2 := Aside0.mk (Kd.R_reads' ho_).2.2; have HQ2 := Aside0.mk (Kd.R_reads' ho_).2.1; have HBn := Aside0.mk (HB.out.trans (hb_.mono (below_size HB.out))); have n_ := Aside0.mk (Kd.C_below HP0.out hb_); clear HP0; have HP0 := n_; clear n_; have n_ := Aside0.mk (Kd.C_below HP1.out hb_); clear HP1; have HP1 := n_; clear n_; clear HB ho_ hb_; have HB := HBn; clear HBn))
    go_upto_region 6 with (first | (go_at_call 15; refine (back_Correct.calls P0 q0 paid P1 q1 first d x 0 w4 HP0.out HQ0.out HP1.out HQ1.out G.out.cx).mono ?_; rintro e w5 ⟨v_, rfl, ho_, hb_⟩; obtain ⟨P3, q3, rfl⟩ := Kd.R_slice ho_; have HP3 := Aside0.mk (Kd.R_reads' ho_).2.2; have HQ3 := Aside0.mk (Kd.R_reads' ho_).2.1; have HBn := Aside0.mk (HB.out.trans (hb_.mono (below_size HB.out))); have n_ := Aside0.mk (Kd.C_below HP0.out hb_); clear HP0; have HP0 := n_; clear n_; have n_ := Aside0.mk (Kd.C_below HP2.out hb_); clear HP2; have HP2 := n_; clear n_; clear HB ho_ hb_; have HB := HBn; clear HBn))
    obtain ⟨px, hpx⟩ : ∃ y_ : List S32, y_ = paid ++ x := ⟨_, rfl⟩
    have HX := Aside0.mk hpx
    clear hpx
    go_upto_region 7 with (first | (go_at_call 17; refine (conc_two _ P0 P3 q0 q3 paid x _ (blk_new w5 _) (Kd.C_alloc HP0.out _) (Kd.C_alloc HP3.out _) G.out.lp G.out.lx).mono ?_; rintro e w6 ⟨v4, rfl, ho4, hb5⟩; rw [← HX.out] at ho4; obtain ⟨P4, q4, rfl⟩ := Kd.R_slice ho4; have HP4 := Aside0.mk (Kd.R_reads' ho4).2.2; have HQ4 := Aside0.mk (Kd.R_reads' ho4).2.1; have n1_ := Aside0.mk (Kd.C_below (Kd.C_alloc HP0.out _) hb5); have n2_ := Aside0.mk (Kd.C_below (Kd.C_alloc HP2.out _) hb5); have n3_ := Aside0.mk (Kd.C_below (Kd.C_alloc HP3.out _) hb5); have n4_ := Aside0.mk ((below_alloc HB.out _).trans (hb5.mono (below_size (below_alloc HB.out _)))); clear HP0 HP2 HP3 HB ho4 hb5; have HP0 := n1_; have HP2 := n2_; have HP3 := n3_; have HB := n4_; clear n1_ n2_ n3_ n4_) | (go_at_call 15; refine (back_Correct.calls P4 q4 px P2 q2 last d y 0 w6 HP4.out HQ4.out HP2.out HQ2.out (HX.out ▸ G.out.cy)).mono ?_; rintro e w7 ⟨v_, rfl, ho_, hb_⟩; obtain ⟨P5, q5, rfl⟩ := Kd.R_slice ho_; have HP5 := Aside0.mk (Kd.R_reads' ho_).2.2; have HQ5 := Aside0.mk (Kd.R_reads' ho_).2.1; have HBn := Aside0.mk (HB.out.trans (hb_.mono (below_size HB.out))); have n_ := Aside0.mk (Kd.C_below HP0.out hb_); clear HP0; have HP0 := n_; clear n_; have n_ := Aside0.mk (Kd.C_below HP2.out hb_); clear HP2; have HP2 := n_; clear n_; have n_ := Aside0.mk (Kd.C_below HP3.out hb_); clear HP3; have HP3 := n_; clear n_; clear HB ho_ hb_; have HB := HBn; clear HBn))
    go_upto_region 8 with (first | (go_at_call 15; refine (back_Correct.calls P0 q0 paid P2 q2 last d all 0 w7 HP0.out HQ0.out HP2.out HQ2.out G.out.ca).mono ?_; rintro e w8 ⟨v_, rfl, ho_, hb_⟩; obtain ⟨P6, q6, rfl⟩ := Kd.R_slice ho_; have HP6 := Aside0.mk (Kd.R_reads' ho_).2.2; have HQ6 := Aside0.mk (Kd.R_reads' ho_).2.1; have HBn := Aside0.mk (HB.out.trans (hb_.mono (below_size HB.out))); have n_ := Aside0.mk (Kd.C_below HP3.out hb_); clear HP3; have HP3 := n_; clear n_; have n_ := Aside0.mk (Kd.C_below HP5.out hb_); clear HP5; have HP5 := n_; clear n_; clear HB ho_ hb_; have HB := HBn; clear HBn))
    go_wp2
    have HL := Aside0.mk (Below.refl w8.heap.size w8)
    go_loopg [18] 3 (fun kq v wr => ∃ who : Int, v = .int .i64 who ∧ Aside0 (1 ≤ who ∧ who + kq = 4) ∧ Aside0 (Below w8.heap.size w8 wr))
    case atStart => exact ⟨1, rfl, ⟨by omega, by simp⟩, HL⟩
    case round =>
      clear HL
      obtain ⟨who, rfl, HJ, HL⟩ := hrel
      by_cases c : who ≤ 3
      · obtain ⟨kq, rfl⟩ : ∃ k', gk = k' + 1 := ⟨gk - 1, by have := HJ.out; omega⟩
        have HW := Aside0.mk (show 1 ≤ who ∧ who ≤ 3 from ⟨HJ.out.1, c⟩)
        have cb := decide_eq_true c
        have hwho : IntKind.i64.wrap (who + 1) = who + 1 := by rw [i64_w]; have := HJ.out; unfold wrap64; omega
        clear c
        go_wp2
        clear cb
        go_loopg [19] 4 (fun kq2 v wq => ∃ m : Int, v = .int .i64 m ∧ Aside0 (20000 ≤ m ∧ m + kq2 = 20004) ∧ Aside0 (Below w8.heap.size w8 wq))
        case atStart => exact ⟨20000, rfl, ⟨by omega, by simp⟩, HL⟩
        case round =>
          clear HL
          obtain ⟨m, rfl, HK, HL⟩ := hrel
          by_cases c2 : m < 20004
          · obtain ⟨kr, rfl⟩ : ∃ k', gk = k' + 1 := ⟨gk - 1, by have := HK.out; omega⟩
            have HM := Aside0.mk (show 20000 ≤ m ∧ m < 20004 from ⟨HK.out.1, c2⟩)
            have cb2 := decide_eq_true c2
            have hm2 := Aside0.mk (show wrap64 (m + 1) = m + 1 by have := HK.out; unfold wrap64; omega)
            have hm : IntKind.i64.wrap (m + 1) = m + 1 := by rw [i64_w]; have := HK.out; unfold wrap64; omega
            have hsum : IntKind.i64.wrap (sx who m + sy who m) = sa who m := by rw [i64_w]; exact G.out.same who m HW.out.1 HW.out.2 HM.out.1 HM.out.2
            clear c2
            go_wp2_with (first | (go_at_call 23; (with_reducible refine (pay_Sum.calls k P3 q3 x who m _ (sx who m) _ (Kd.C_below HP3.out HL.out) HQ3.out ?hs).mono ?_); (case hs => first | (rw [hm2.out]; exact G.out.ux who m HW.out.1 HW.out.2 HM.out.1 HM.out.2) | exact G.out.ux who m HW.out.1 HW.out.2 HM.out.1 HM.out.2); rintro e wa ⟨rfl, hb_⟩; have HLn := Aside0.mk (HL.out.trans (hb_.mono (below_size HL.out))); clear HL hb_; have HL := HLn; clear HLn) | (go_at_call 23; (with_reducible refine (pay_Sum.calls k P5 q5 y who m _ (sy who m) _ (Kd.C_below HP5.out HL.out) HQ5.out ?hs).mono ?_); (case hs => first | (rw [hm2.out]; exact G.out.uy who m HW.out.1 HW.out.2 HM.out.1 HM.out.2) | exact G.out.uy who m HW.out.1 HW.out.2 HM.out.1 HM.out.2); rintro e wb ⟨rfl, hb_⟩; have HLn := Aside0.mk (HL.out.trans (hb_.mono (below_size HL.out))); clear HL hb_; have HL := HLn; clear HLn) | (go_at_call 23; (with_reducible refine (pay_Sum.calls k P6 q6 all who m _ (sa who m) _ (Kd.C_below HP6.out HL.out) HQ6.out ?hs).mono ?_); (case hs => first | (rw [hm2.out]; exact G.out.ua who m HW.out.1 HW.out.2 HM.out.1 HM.out.2) | exact G.out.ua who m HW.out.1 HW.out.2 HM.out.1 HM.out.2); rintro e wc ⟨rfl, hb_⟩; have HLn := Aside0.mk (HL.out.trans (hb_.mono (below_size HL.out))); clear HL hb_; have HL := HLn; clear HLn))
            go_roundg kr
            case measure => omega
            case rel => exact ⟨m + 1, (by first | with_reducible rfl | rw [hm] | (simp only [i64_w]; rw [show wrap64 (m + 1) = m + 1 from (i64_w _).symm.trans hm])), ⟨by have := HK.out; omega, by have := HK.out; omega⟩, HL⟩
          · have cb2 : decide (m < 20004) = false := decide_eq_false c2
            clear c2
            go_wp2
            go_roundg kq
            case measure => omega
            case rel => exact ⟨who + 1, (by first | with_reducible rfl | rw [hwho] | (simp only [i64_w]; rw [show wrap64 (who + 1) = who + 1 from (i64_w _).symm.trans hwho])), ⟨by have := HJ.out; omega, by have := HJ.out; omega⟩, HL⟩
      · have cb : decide (who ≤ 3) = false := decide_eq_false c
        clear c
        go_wp2
        go_ret
        exact ⟨rfl, HB.out.trans (HL.out.mono (below_size HB.out))⟩
  · exact absurd h (by simp)
def mootkeep4_BackSteps.Pure : Prop := ∀ (l0 : List Int) (l1 : List Int) (l2 : List Int) (a3 : Int), l0.length ≤ maxLen → l0.length * 8 ≤ 140737488351232 → (∀ x ∈ l0, (Lit.int .i64 x).wf = true) → l1.length ≤ maxLen → l1.length * 8 ≤ 140737488351232 → (∀ x ∈ l1, (Lit.int .i64 x).wf = true) → l2.length ≤ maxLen → l2.length * 8 ≤ 140737488351232 → (∀ x ∈ l2, (Lit.int .i64 x).wf = true) → (Lit.int .i64 a3).wf = true → ∃ k, mootkeep4_BackSteps.f k l0 l1 l2 a3 = some true
theorem mootkeep4_BackSteps.walk (P : mootkeep4_BackSteps.Pure) (a0 : Option Addr) (len0 cap0 : Nat) (z0 : List Int) (a1 : Option Addr) (len1 cap1 : Nat) (z1 : List Int) (a2 : Option Addr) (len2 cap2 : Nat) (z2 : List Int) (a3 : Int) (w : World) (w0 : (a0 = none ∧ len0 = 0 ∧ cap0 = 0 ∧ z0 = []) ∨ ∃ x, a0 = some x ∧ len0 ≤ cap0 ∧ cap0 ≤ maxLen ∧ z0.length = cap0 ∧ (∀ i, i < z0.length → w.cell? (x.add i) = some (.int .i64 (z0.getD i 0))) ∧ ∀ n ∈ z0, (Lit.int .i64 n).wf = true) (y0 : len0 * 8 ≤ 140737488351232) (w1 : (a1 = none ∧ len1 = 0 ∧ cap1 = 0 ∧ z1 = []) ∨ ∃ x, a1 = some x ∧ len1 ≤ cap1 ∧ cap1 ≤ maxLen ∧ z1.length = cap1 ∧ (∀ i, i < z1.length → w.cell? (x.add i) = some (.int .i64 (z1.getD i 0))) ∧ ∀ n ∈ z1, (Lit.int .i64 n).wf = true) (y1 : len1 * 8 ≤ 140737488351232) (w2 : (a2 = none ∧ len2 = 0 ∧ cap2 = 0 ∧ z2 = []) ∨ ∃ x, a2 = some x ∧ len2 ≤ cap2 ∧ cap2 ≤ maxLen ∧ z2.length = cap2 ∧ (∀ i, i < z2.length → w.cell? (x.add i) = some (.int .i64 (z2.getD i 0))) ∧ ∀ n ∈ z2, (Lit.int .i64 n).wf = true) (y2 : len2 * 8 ≤ 140737488351232) (w3 : (Lit.int .i64 a3).wf = true) :
    Calls Try.prog 5 #[.slice a0 len0 cap0, .slice a1 len1 cap1, .slice a2 len2 cap2, .int .i64 a3] w fun e w' => e = .returned (.bool true) ∧ Below w.heap.size w w' := by
  obtain ⟨l0, rfl, hr0, hm0, hw0, hc0⟩ := ReadsInt.ofRowC w0
  obtain ⟨l1, rfl, hr1, hm1, hw1, hc1⟩ := ReadsInt.ofRowC w1
  obtain ⟨l2, rfl, hr2, hm2, hw2, hc2⟩ := ReadsInt.ofRowC w2
  obtain ⟨k, h⟩ := P l0 l1 l2 a3 hm0 y0 hw0 hm1 y1 hw1 hm2 y2 hw2 w3
  refine (mootkeep4_BackSteps.calls k _ _ l0 _ _ l1 _ _ l2 a3 true w (Kd.C_of_reads (d := (0 : Int)) (h1 := fun _ => rfl) hr0) hc0 (Kd.C_of_reads (d := (0 : Int)) (h1 := fun _ => rfl) hr1) hc1 (Kd.C_of_reads (d := (0 : Int)) (h1 := fun _ => rfl) hr2) hc2 h).mono ?_
  rintro e w' ⟨rfl, hd⟩
  exact ⟨rfl, hd⟩

end Go.Proofs.Ytbcaaocogphdeaa.PAll
