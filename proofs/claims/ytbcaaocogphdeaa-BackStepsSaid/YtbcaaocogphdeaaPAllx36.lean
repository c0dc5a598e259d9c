-- Printed by this session's wip/myprint.py.
import Derived.Test.YtbcaaocogphdeaaPAllx0
import Derived.Test.YtbcaaocogphdeaaPAllx27
import Derived.Test.YtbcaaocogphdeaaPAllx29
import Derived.Test.YtbcaaocogphdeaaPAllx31
import Derived.Test.YtbcaaocogphdeaaPAllx33
namespace Go.Proofs.Ytbcaaocogphdeaa.PAll
open Go.RowKit Go.Proofs.YtbcaaocogphdeaaW.PrintWords Go.Proofs.YtbcaaocogphdeaaW.PrintLast Go.Proofs.YtbcaaocogphdeaaW.PrintMore
attribute [local go_sem] max2_int min2_int max_two min_two max_three min_three max_four min_four   -- for this text's walks alone
set_option linter.unusedVariables false
set_option linter.unusedSimpArgs false

/-! ### mootkeep4_BackOnce: function 3 -/
set_option maxHeartbeats 4000000 in
set_option maxRecDepth 100000 in
theorem conc_grow (n : Int) (h0 : 0 ≤ n) (h1 : n ≤ 4000) (w : World) : Calls Try.prog 48 #[.slice none 0 0, .int .i64 n] w fun e w' => ∃ v : Value, e = .returned v ∧ Kd.R k32 32 w' w.heap.size (fun _ => True) v [] ∧ Below w.heap.size w w' := by
  have hb0 : decide (n < 0) = false := decide_eq_false (by omega)
  have hw : IntKind.i64.wrap n = n := by rw [i64_w]; unfold wrap64; omega
  rcases Nat.eq_zero_or_pos n.toNat with hz | hz
  · obtain rfl : n = 0 := by omega
    clear h0 h1 hz hb0 hw
    go_enter Try.func48, Try.ntmps48
    go_wp2
    go_ret
    exact ⟨_, rfl, Kd.R_nil _ _ _ _ _, Below.refl _ _⟩
  · have hb1 : decide (0 < n) = true := decide_eq_true (by omega)
    have H0 := Aside0.mk h0
    have H1 := Aside0.mk h1
    clear h0 h1 hz
    go_enter Try.func48, Try.ntmps48
    go_wp2_with (first | ((with_reducible refine gate_builtin (b := .append) (xs := #[.tmp 20, .tmp 21]) rfl ?_); at_builtin; refine Kd.R_append_zeros k32 (w0 := w) w.heap.size rfl (.tmp 20) (.tmp 21) 24 3 32 (.agg #[(.int .i64 0), (.int .i64 0), (.int .i64 0), (.int .i64 0)]) 32 rfl Try.underlying24 Try.underlying3 info32 rfl (by decide) (by omega) (.slice none 0 0) ([] : List S32) z32 (kx := .i64) n (fun _ => True) rfl rfl (k32_mkM _ _ _ z32) (fun _ _ => trivial) (Kd.R_nil _ _ _ _ _) H0.out (Below.refl _ _) (Nat.le_refl _) (by have := H1.out; simp only [List.length_nil]; omega) ?_; intro v1 w1 ho hb hg hat; obtain ⟨A1, c1, rfl⟩ := Kd.R_slice ho))
    go_ret
    exact ⟨_, rfl, Kd.R_take (m := 0) ho (Nat.zero_le _), hb⟩
set_option maxHeartbeats 4000000 in
set_option maxRecDepth 100000 in
theorem conc_two (g : Nat) (A B : Option Addr) (ca cb : Nat) (l0 l1 : List S32) (w : World) (hg : w.heap[g]? = some (.cells #[.slice A l0.length ca, .slice B l1.length cb] 24 (0, 0))) (hr0 : Kd.C k32 w A l0.length l0) (hr1 : Kd.C k32 w B l1.length l1) (h0 : l0.length ≤ 1000) (h1 : l1.length ≤ 1000) :
    Calls Try.prog 17 #[.slice (some ⟨g, 0, none⟩) 2 2] w fun e w' => ∃ v : Value, e = .returned v ∧ Kd.R k32 32 w' w.heap.size (fun _ => True) v (l0 ++ l1) ∧ Below w.heap.size w w' := by
  have c0 : w.cell? ⟨g, 0, none⟩ = some (.slice A l0.length ca) := (blk_cell hg 0).trans rfl
  have c1 : w.cell? ⟨g, 1, none⟩ = some (.slice B l1.length cb) := (blk_cell hg 1).trans rfl
  have hw0 : IntKind.i64.wrap (l0.length : Int) = l0.length := by rw [i64_w]; unfold wrap64; omega
  have hw1 : IntKind.i64.wrap ((l0.length : Int) + l1.length) = (l0.length : Int) + l1.length := by rw [i64_w]; unfold wrap64; omega
  have hb0 : decide ((l0.length : Int) < 0) = false := decide_eq_false (by omega)
  have hb1 : decide ((l0.length : Int) + l1.length < 0) = false := decide_eq_false (by omega)
  have H0 := Aside0.mk h0
  have H1 := Aside0.mk h1
  have HR0 := Aside0.mk hr0
  have HR1 := Aside0.mk hr1
  have HG := Aside0.mk hg
  clear h0 h1 hr0 hr1 hg
  go_enter Try.func17, Try.ntmps17
  go_wp2_with fail
  refine wp_loop_rounds 3 ?_
  rw [rounds_succ]
  go_wp2
  rw [rounds_succ]
  go_wp2
  rw [rounds_succ]
  go_wp2_with (go_at_call 48; refine (conc_grow ((l0.length : Int) + l1.length) (by have := H0.out; omega) (by have := H0.out; have := H1.out; omega) w).mono ?_; rintro e w1 ⟨v1, rfl, ho, hb⟩)
  have HO := Aside0.mk ho
  have HB := Aside0.mk hb
  clear ho hb
  replace c0 := (HB.out.cell (World.block_lt_of_cell? w _ c0)).trans c0
  replace c1 := (HB.out.cell (World.block_lt_of_cell? w _ c1)).trans c1
  refine wp_loop_rounds 3 ?_
  rw [rounds_succ]
  go_wp2_with (first | ((with_reducible refine gate_builtin (b := .append) (xs := #[.tmp 31, .tmp 32]) rfl ?_); at_builtin; refine Kd.R_append_rows k32 (w0 := w) w.heap.size rfl (.tmp 31) (.tmp 32) 24 32 (.agg #[(.int .i64 0), (.int .i64 0), (.int .i64 0), (.int .i64 0)]) 32 rfl Try.underlying24 info32 rfl (by decide) (by omega) v1 ([] : List S32) l0 A l0.length ca (fun _ => True) (fun _ => False) rfl rfl HO.out (Kd.C_below HR0.out HB.out) (fun x cs hc => ?aM) (fun _ h => h.elim) (fun _ _ => trivial) HB.out (below_size HB.out) (by have := H0.out; have := H1.out; (try simp only [List.length_append, List.length_nil]); omega) ?_; (case aM => obtain rfl := k32_open hc; exact k32_mkM _ _ _ _); intro v2 w2 ho hb hgr hat))
  have HO2 := Aside0.mk ho
  have HB2 := Aside0.mk hb
  clear ho hb
  have hc1 : w2.cell? ⟨g, 1, none⟩ = some (.slice B l1.length cb) := (HB2.out.cell (World.block_lt_of_cell? w _ ((blk_cell HG.out 1).trans rfl))).trans ((blk_cell HG.out 1).trans rfl)
  clear c1
  rw [rounds_succ]
  go_wp2_with (first | ((with_reducible refine gate_builtin (b := .append) (xs := #[.tmp 31, .tmp 32]) rfl ?_); at_builtin; refine Kd.R_append_rows k32 (w0 := w) w.heap.size rfl (.tmp 31) (.tmp 32) 24 32 (.agg #[(.int .i64 0), (.int .i64 0), (.int .i64 0), (.int .i64 0)]) 32 rfl Try.underlying24 info32 rfl (by decide) (by omega) v2 ([] ++ l0) l1 B l1.length cb (fun _ => True) (fun _ => False) rfl rfl HO2.out (Kd.C_below HR1.out HB2.out) (fun x cs hc => ?aM) (fun _ h => h.elim) (fun _ _ => trivial) HB2.out (below_size HB2.out) (by have := H0.out; have := H1.out; (try simp only [List.length_append, List.length_nil]); omega) ?_; (case aM => obtain rfl := k32_open hc; exact k32_mkM _ _ _ _); intro v3 w3 ho hb hgr hat))
  rw [rounds_succ]
  go_wp2
  go_ret
  refine ⟨_, rfl, ?_, hb⟩
  simpa using ho
structure mootkeep4_BackOnce.Good (k : Nat) (l0 l1 : List Int) (a2 : Int) (paid due x z : List S32) (d : Int) : Prop where
  cor : mootkeep4_corrected.f k = some true
  p0 : mootkeep4_Pays.f k l0 = some paid
  p1 : mootkeep4_Pays.f k l1 = some due
  day : mootmake_Day.f a2 = some d
  cx : back_Correct.f paid due d = some (x, 0)
  cy : back_Correct.f (paid ++ x) due d = some ([], 0)
  cz : back_Correct.f due paid d = some (z, 0)
  lp : paid.length ≤ 1000
  lx : x.length ≤ 1000
  lz : z.length = x.length
  same : ∀ i : Int, 0 ≤ i → i < x.length → (rd_T32 x i).f0 = (rd_T32 z i).f0 ∧ (rd_T32 x i).f1 = (rd_T32 z i).f1 ∧ (rd_T32 x i).f2 = wrap64 (-(rd_T32 z i).f2)
open Classical in
noncomputable def mootkeep4_BackOnce.f (k : Nat) (l0 l1 : List Int) (a2 : Int) : Option Bool := if ∃ paid due x z d, mootkeep4_BackOnce.Good k l0 l1 a2 paid due x z d then some true else none
set_option maxHeartbeats 1000000 in
set_option maxRecDepth 100000 in
theorem mootkeep4_BackOnce.calls (k : Nat) (A0 : Option Addr) (c0 : Nat) (l0 : List Int) (A1 : Option Addr) (c1 : Nat) (l1 : List Int) (a2 : Int) (r : Bool) (w : World) (hr0 : Kd.C (Kd.int .i64) w A0 l0.length l0) (hc0 : l0.length ≤ c0) (hr1 : Kd.C (Kd.int .i64) w A1 l1.length l1) (hc1 : l1.length ≤ c1) (h : mootkeep4_BackOnce.f k l0 l1 a2 = some r) :
    Calls Try.prog 3 #[.slice A0 l0.length c0, .slice A1 l1.length c1, .int .i64 a2] w fun e w' => e = .returned (.bool r) ∧ Below w.heap.size w w' := by
  unfold mootkeep4_BackOnce.f at h
  split at h
  · rename_i hG
    obtain rfl := Option.some.inj h
    clear h
    obtain ⟨paid, due, x, z, d, G0⟩ := hG
    have G := Aside0.mk G0
    clear G0
    have HI0 := Aside0.mk hr0
    have HI1 := Aside0.mk hr1
    have HC0 := Aside0.mk hc0
    have HC1 := Aside0.mk hc1
    clear hr0 hr1 hc0 hc1
    go_enter Try.func3, Try.ntmps3
    go_upto_region 3 with (go_at_call 13; refine (mootkeep4_corrected.calls k true w G.out.cor).mono ?_; rintro e w1 ⟨rfl, hb1⟩)
    have HB := Aside0.mk hb1
    clear hb1
    go_upto_region 4 with (first | (go_at_call 14; refine (mootkeep4_Pays.calls k A0 c0 l0 paid w1 (Kd.C_below HI0.out HB.out) HC0.out G.out.p0).mono ?_; rintro e w2 ⟨v1, rfl, ho1, hb2⟩; obtain ⟨P1, q1, rfl⟩ := Kd.R_slice ho1; have HV1 := Aside0.mk ho1; have HBn := Aside0.mk (HB.out.trans (hb2.mono (below_size HB.out))); clear HB ho1 hb2; have HB := HBn; clear HBn) | (go_at_call 14; refine (mootkeep4_Pays.calls k A1 c1 l1 due w2 (Kd.C_below HI1.out HB.out) HC1.out G.out.p1).mono ?_; rintro e w3 ⟨v2, rfl, ho2, hb3⟩; obtain ⟨P2, q2, rfl⟩ := Kd.R_slice ho2; have HV2 := Aside0.mk ho2; have HV1n := Aside0.mk (Kd.R_below HV1.out hb3); have HBn := Aside0.mk (HB.out.trans (hb3.mono (below_size HB.out))); clear HB HV1 ho2 hb3; have HB := HBn; have HV1 := HV1n; clear HBn HV1n))
    have HP1 := Aside0.mk (Kd.R_reads' HV1.out).2.2
    have HP2 := Aside0.mk (Kd.R_reads' HV2.out).2.2
    have HQ1 := Aside0.mk (Kd.R_reads' HV1.out).2.1
    have HQ2 := Aside0.mk (Kd.R_reads' HV2.out).2.1
    clear HV1 HV2
    go_upto_region 5 with (first | (go_at_call 16; refine (mootmake_Day.calls a2 d _ G.out.day).mono ?_; rintro e wd ⟨rfl, hdr⟩; have HD := Aside0.mk hdr.below; clear hdr) | (go_at_call 15; refine (back_Correct.calls P1 q1 paid P2 q2 due d x 0 _ (Kd.C_below HP1.out HD.out) HQ1.out (Kd.C_below HP2.out HD.out) HQ2.out G.out.cx).mono ?_; rintro e w4 ⟨v3, rfl, ho, hbn⟩; have HE := Aside0.mk (HD.out.trans (hbn.mono (below_size HD.out))); clear hbn))
    obtain ⟨P3, q3, rfl⟩ := Kd.R_slice ho
    have HP3 := Aside0.mk (Kd.R_reads' ho).2.2
    have HQ3 := Aside0.mk (Kd.R_reads' ho).2.1
    have n1_ := Aside0.mk (Kd.C_below HP1.out HE.out)
    have n2_ := Aside0.mk (Kd.C_below HP2.out HE.out)
    have HBn := Aside0.mk (HB.out.trans (HE.out.mono (below_size HB.out)))
    clear HP1 HP2 HB HD HE ho
    have HP1 := n1_
    have HP2 := n2_
    have HB := HBn
    clear n1_ n2_ HBn
    obtain ⟨px, hpx⟩ : ∃ y : List S32, y = paid ++ x := ⟨_, rfl⟩
    have HX := Aside0.mk hpx
    clear hpx
    go_upto_region 6 with (first | (go_at_call 16; refine (mootmake_Day.calls a2 d _ G.out.day).mono ?_; rintro e wd ⟨rfl, hdr⟩; have HD := Aside0.mk hdr.below; clear hdr) | (go_at_call 17; refine (conc_two _ P1 P3 q1 q3 paid x _ (blk_new w4 _) (Kd.C_alloc HP1.out _) (Kd.C_alloc HP3.out _) G.out.lp G.out.lx).mono ?_; rintro e w5 ⟨v4, rfl, ho4, hb5⟩; rw [← HX.out] at ho4; obtain ⟨P4, q4, rfl⟩ := Kd.R_slice ho4; have HP4 := Aside0.mk (Kd.R_reads' ho4).2.2; have HQ4 := Aside0.mk (Kd.R_reads' ho4).2.1; have n1_ := Aside0.mk (Kd.C_below (Kd.C_alloc HP1.out _) hb5); have n2_ := Aside0.mk (Kd.C_below (Kd.C_alloc HP2.out _) hb5); have n3_ := Aside0.mk (Kd.C_below (Kd.C_alloc HP3.out _) hb5); have n4_ := Aside0.mk ((below_alloc HB.out _).trans (hb5.mono (below_size (below_alloc HB.out _)))); clear HP1 HP2 HP3 HB ho4 hb5; have HP1 := n1_; have HP2 := n2_; have HP3 := n3_; have HB := n4_; clear n1_ n2_ n3_ n4_) | (go_at_call 15; refine (back_Correct.calls P4 q4 px P2 q2 due d [] 0 _ (Kd.C_below HP4.out HD.out) HQ4.out (Kd.C_below HP2.out HD.out) HQ2.out (HX.out ▸ G.out.cy)).mono ?_; rintro e w6 ⟨v5, rfl, ho, hbn⟩; have HE := Aside0.mk (HD.out.trans (hbn.mono (below_size HD.out))); clear hbn))
    obtain ⟨P5, q5, rfl⟩ := Kd.R_slice ho
    have n_ := Aside0.mk (Kd.C_below HP1.out HE.out)
    clear HP1
    have HP1 := n_
    clear n_
    have n_ := Aside0.mk (Kd.C_below HP2.out HE.out)
    clear HP2
    have HP2 := n_
    clear n_
    have n_ := Aside0.mk (Kd.C_below HP3.out HE.out)
    clear HP3
    have HP3 := n_
    clear n_
    have HBn := Aside0.mk (HB.out.trans (HE.out.mono (below_size HB.out)))
    clear HB HD HE ho
    have HB := HBn
    clear HBn
    go_upto_region 7 with (first | (go_at_call 16; refine (mootmake_Day.calls a2 d _ G.out.day).mono ?_; rintro e wd ⟨rfl, hdr⟩; have HD := Aside0.mk hdr.below; clear hdr) | (go_at_call 15; refine (back_Correct.calls P2 q2 due P1 q1 paid d z 0 _ (Kd.C_below HP2.out HD.out) HQ2.out (Kd.C_below HP1.out HD.out) HQ1.out G.out.cz).mono ?_; rintro e w7 ⟨v6, rfl, ho, hbn⟩; have HE := Aside0.mk (HD.out.trans (hbn.mono (below_size HD.out))); clear hbn))
    obtain ⟨P6, q6, rfl⟩ := Kd.R_slice ho
    have HP6 := Aside0.mk (Kd.R_reads' ho).2.2
    have HQ6 := Aside0.mk (Kd.R_reads' ho).2.1
    have n_ := Aside0.mk (Kd.C_below HP3.out HE.out)
    clear HP3
    have HP3 := n_
    clear n_
    have HBn := Aside0.mk (HB.out.trans (HE.out.mono (below_size HB.out)))
    clear HB HD HE ho
    have HB := HBn
    clear HBn
    have hne : ((x.length : Int) != (z.length : Int)) = false := by rw [G.out.lz]; simp
    go_wp2
    clear hne
    have HL := Aside0.mk (Below.refl w7.heap.size w7)
    go_loopg [75] x.length (fun kq v wr => ∃ j : Int, v = .int .i64 j ∧ Aside0 (0 ≤ j ∧ j + kq = x.length) ∧ Aside0 (Below w7.heap.size w7 wr))
    case atStart => exact ⟨0, rfl, ⟨by simp, by simp⟩, HL⟩
    case round =>
      clear HL
      obtain ⟨j, rfl, HJ, HL⟩ := hrel
      by_cases c : j < (x.length : Int)
      · have HJ1 := HJ.out
        obtain ⟨kq, rfl⟩ : ∃ k', gk = k' + 1 := ⟨gk - 1, by omega⟩
        have HX1 := Aside0.mk (show wrap64 (j + 1) = j + 1 by have := G.out.lx; unfold wrap64; omega)
        have cb := decide_eq_true c
        have p1 := HJ1.1
        have cz : j < (z.length : Int) := by rw [G.out.lz]; exact c
        obtain ⟨s0, s1, s2⟩ := G.out.same j p1 c
        obtain ⟨ad, e1, hx_0, hx_1, hx_2, hx_3⟩ := at_T32 HP3.out j p1 c
        obtain ⟨bd, e2, hz_0, hz_1, hz_2, hz_3⟩ := at_T32 HP6.out j p1 cz
        clear HJ1
        cases e1
        cases e2
        have f0 : ((rd_T32 x j).f0 != (rd_T32 z j).f0) = false := by rw [s0]; simp
        have f1 : ((rd_T32 x j).f1 != (rd_T32 z j).f1) = false := by rw [s1]; simp
        have f2 : ((rd_T32 x j).f2 != wrap64 (-(rd_T32 z j).f2)) = false := by rw [s2]; simp
        clear s0 s1 s2
        replace p1 := eq_true p1
        replace c := eq_true c
        replace cz := eq_true cz
        have hx0 := (HL.out.cell (World.block_lt_of_cell? w7 _ hx_0)).trans hx_0
        have hx1 := (HL.out.cell (World.block_lt_of_cell? w7 _ hx_1)).trans hx_1
        have hx2 := (HL.out.cell (World.block_lt_of_cell? w7 _ hx_2)).trans hx_2
        have hx3 := (HL.out.cell (World.block_lt_of_cell? w7 _ hx_3)).trans hx_3
        go_upto_region 12 with (first | ((with_reducible refine gate_dst (N := 16) rfl ?_); refine box_event ?hg (N := 16) ?hd (cs := #[.int .i64 0, .int .i64 0, .int .i64 0, .int .i64 0]) (t := 32) ?hr ?_; (case hd => rfl); (case hg => rfl); (case hr => first | (go_simp; done) | (go_simp; rfl)); intro gb16 hg wb16 hbox hb; have n0_ := Aside0.mk (below_step (by repeat (first | (with_reducible first | exact HL.out | apply below_alloc | apply pw_below_drewN | apply below_drew1) | exact HL.out)) hb); have GEgb16 := Aside0.mk (show w7.heap.size ≤ gb16 by rw [hg]; exact below_size HL.out); clear HL; have HL := n0_; clear n0_; have BK16 := Aside0.mk hbox; clear hb hbox hg; have hcz_0 : wb16.cell? ⟨gb16, 0, none⟩ = some (.int .i64 0) := (blk_cell BK16.out 0).trans rfl; have hfz_0 := blk_frozen BK16.out 0; have hcz_1 : wb16.cell? ⟨gb16, 1, none⟩ = some (.int .i64 0) := (blk_cell BK16.out 1).trans rfl; have hfz_1 := blk_frozen BK16.out 1; have hcz_2 : wb16.cell? ⟨gb16, 2, none⟩ = some (.int .i64 0) := (blk_cell BK16.out 2).trans rfl; have hfz_2 := blk_frozen BK16.out 2; have hcz_3 : wb16.cell? ⟨gb16, 3, none⟩ = some (.int .i64 0) := (blk_cell BK16.out 3).trans rfl; have hfz_3 := blk_frozen BK16.out 3))
        clear hx0 hx1 hx2 hx3
        (try simp only [Act.put, List.setIfInBounds_toArray, List.set_cons_zero, List.set_cons_succ])
        have BKn := Aside0.mk (blk_put (blk_put (blk_put (blk_put BK16.out 0 (.int .i64 (rd_T32 x j).f0) rfl) 1 (.int .i64 (rd_T32 x j).f1) rfl) 2 (.int .i64 (rd_T32 x j).f2) rfl) 3 (.int .i64 (rd_T32 x j).f3) rfl)
        have HLn := Aside0.mk (below_set (j := 3) (v := .int .i64 (rd_T32 x j).f3) (below_set (j := 2) (v := .int .i64 (rd_T32 x j).f2) (below_set (j := 1) (v := .int .i64 (rd_T32 x j).f1) (below_set (j := 0) (v := .int .i64 (rd_T32 x j).f0) HL.out GEgb16.out) GEgb16.out) GEgb16.out) GEgb16.out)
        clear BK16 HL hcz_0 hcz_1 hcz_2 hcz_3 hfz_0 hfz_1 hfz_2 hfz_3
        have BK16 := BKn
        have HL := HLn
        clear BKn HLn
        generalize (World.setCell (World.setCell (World.setCell (World.setCell wb16 _ _) _ _) _ _) _ _) = ws16 at BK16 HL ⊢
        have hz0 := (HL.out.cell (World.block_lt_of_cell? w7 _ hz_0)).trans hz_0
        have hz1 := (HL.out.cell (World.block_lt_of_cell? w7 _ hz_1)).trans hz_1
        have hz2 := (HL.out.cell (World.block_lt_of_cell? w7 _ hz_2)).trans hz_2
        have hz3 := (HL.out.cell (World.block_lt_of_cell? w7 _ hz_3)).trans hz_3
        go_upto_region 13 with (first | ((with_reducible refine gate_dst (N := 17) rfl ?_); refine box_event ?hg (N := 17) ?hd (cs := #[.int .i64 0, .int .i64 0, .int .i64 0, .int .i64 0]) (t := 32) ?hr ?_; (case hd => rfl); (case hg => rfl); (case hr => first | (go_simp; done) | (go_simp; rfl)); intro gb17 hg wb17 hbox hb; have n0_ := Aside0.mk (below_step (by repeat (first | (with_reducible first | exact HL.out | apply below_alloc | apply pw_below_drewN | apply below_drew1) | exact HL.out)) hb); have GEgb17 := Aside0.mk (show w7.heap.size ≤ gb17 by rw [hg]; exact below_size HL.out); have n3_ := Aside0.mk (blk_below BK16.out hb); have NE := Aside0.mk (show gb16 ≠ gb17 by rw [hg]; exact Nat.ne_of_lt (blk_lt BK16.out)); clear BK16; have BK16 := n3_; clear n3_; clear HL; have HL := n0_; clear n0_; have BK17 := Aside0.mk hbox; clear hb hbox hg; have hcz_0 : wb17.cell? ⟨gb17, 0, none⟩ = some (.int .i64 0) := (blk_cell BK17.out 0).trans rfl; have hfz_0 := blk_frozen BK17.out 0; have hcz_1 : wb17.cell? ⟨gb17, 1, none⟩ = some (.int .i64 0) := (blk_cell BK17.out 1).trans rfl; have hfz_1 := blk_frozen BK17.out 1; have hcz_2 : wb17.cell? ⟨gb17, 2, none⟩ = some (.int .i64 0) := (blk_cell BK17.out 2).trans rfl; have hfz_2 := blk_frozen BK17.out 2; have hcz_3 : wb17.cell? ⟨gb17, 3, none⟩ = some (.int .i64 0) := (blk_cell BK17.out 3).trans rfl; have hfz_3 := blk_frozen BK17.out 3))
        clear hz0 hz1 hz2 hz3
        (try simp only [Act.put, List.setIfInBounds_toArray, List.set_cons_zero, List.set_cons_succ])
        have BKn := Aside0.mk (blk_put (blk_put (blk_put (blk_put BK17.out 0 (.int .i64 (rd_T32 z j).f0) rfl) 1 (.int .i64 (rd_T32 z j).f1) rfl) 2 (.int .i64 (rd_T32 z j).f2) rfl) 3 (.int .i64 (rd_T32 z j).f3) rfl)
        have HLn := Aside0.mk (below_set (j := 3) (v := .int .i64 (rd_T32 z j).f3) (below_set (j := 2) (v := .int .i64 (rd_T32 z j).f2) (below_set (j := 1) (v := .int .i64 (rd_T32 z j).f1) (below_set (j := 0) (v := .int .i64 (rd_T32 z j).f0) HL.out GEgb17.out) GEgb17.out) GEgb17.out) GEgb17.out)
        have BKo := Aside0.mk (blk_far (p := ⟨gb17, 3, none⟩) (blk_far (p := ⟨gb17, 2, none⟩) (blk_far (p := ⟨gb17, 1, none⟩) (blk_far (p := ⟨gb17, 0, none⟩) BK16.out NE.out (.int .i64 (rd_T32 z j).f0)) NE.out (.int .i64 (rd_T32 z j).f1)) NE.out (.int .i64 (rd_T32 z j).f2)) NE.out (.int .i64 (rd_T32 z j).f3))
        clear BK16
        have BK16 := BKo
        clear BKo
        clear BK17 HL hcz_0 hcz_1 hcz_2 hcz_3 hfz_0 hfz_1 hfz_2 hfz_3
        have BK17 := BKn
        have HL := HLn
        clear BKn HLn
        generalize (World.setCell (World.setCell (World.setCell (World.setCell wb17 _ _) _ _) _ _) _ _) = ws17 at BK17 BK16 HL ⊢
        have b0 : ws17.cell? ⟨gb16, 0, none⟩ = some (.int .i64 (rd_T32 x j).f0) := (blk_cell BK16.out 0).trans rfl
        have b1 : ws17.cell? ⟨gb16, 1, none⟩ = some (.int .i64 (rd_T32 x j).f1) := (blk_cell BK16.out 1).trans rfl
        have b2 : ws17.cell? ⟨gb16, 2, none⟩ = some (.int .i64 (rd_T32 x j).f2) := (blk_cell BK16.out 2).trans rfl
        have d0 : ws17.cell? ⟨gb17, 0, none⟩ = some (.int .i64 (rd_T32 z j).f0) := (blk_cell BK17.out 0).trans rfl
        have d1 : ws17.cell? ⟨gb17, 1, none⟩ = some (.int .i64 (rd_T32 z j).f1) := (blk_cell BK17.out 1).trans rfl
        have d2 : ws17.cell? ⟨gb17, 2, none⟩ = some (.int .i64 (rd_T32 z j).f2) := (blk_cell BK17.out 2).trans rfl
        clear hx_0 hx_1 hx_2 hx_3 hz_0 hz_1 hz_2 hz_3
        go_wp2
        go_roundg kq
        case measure => have := HJ.out; omega
        case rel => exact ⟨j + 1, (by (try simp only [i64_w]); first | rfl | rw [HX1.out]), ⟨by have := HJ.out; omega, by have := HJ.out; omega⟩, HL⟩
      · have cb : decide (j < (x.length : Int)) = false := decide_eq_false c
        clear c
        go_wp2
        go_ret
        exact ⟨rfl, HB.out.trans (HL.out.mono (below_size HB.out))⟩
  · exact absurd h (by simp)
def mootkeep4_BackOnce.Pure : Prop := ∀ (l0 : List Int) (l1 : List Int) (a2 : Int), l0.length ≤ maxLen → l0.length * 8 ≤ 140737488351232 → (∀ x ∈ l0, (Lit.int .i64 x).wf = true) → l1.length ≤ maxLen → l1.length * 8 ≤ 140737488351232 → (∀ x ∈ l1, (Lit.int .i64 x).wf = true) → (Lit.int .i64 a2).wf = true → ∃ k, mootkeep4_BackOnce.f k l0 l1 a2 = some true
theorem mootkeep4_BackOnce.walk (P : mootkeep4_BackOnce.Pure) (a0 : Option Addr) (len0 cap0 : Nat) (z0 : List Int) (a1 : Option Addr) (len1 cap1 : Nat) (z1 : List Int) (a2 : Int) (w : World) (w0 : (a0 = none ∧ len0 = 0 ∧ cap0 = 0 ∧ z0 = []) ∨ ∃ x, a0 = some x ∧ len0 ≤ cap0 ∧ cap0 ≤ maxLen ∧ z0.length = cap0 ∧ (∀ i, i < z0.length → w.cell? (x.add i) = some (.int .i64 (z0.getD i 0))) ∧ ∀ n ∈ z0, (Lit.int .i64 n).wf = true) (y0 : len0 * 8 ≤ 140737488351232) (w1 : (a1 = none ∧ len1 = 0 ∧ cap1 = 0 ∧ z1 = []) ∨ ∃ x, a1 = some x ∧ len1 ≤ cap1 ∧ cap1 ≤ maxLen ∧ z1.length = cap1 ∧ (∀ i, i < z1.length → w.cell? (x.add i) = some (.int .i64 (z1.getD i 0))) ∧ ∀ n ∈ z1, (Lit.int .i64 n).wf = true) (y1 : len1 * 8 ≤ 140737488351232) (w2 : (Lit.int .i64 a2).wf = true) :
    Calls Try.prog 3 #[.slice a0 len0 cap0, .slice a1 len1 cap1, .int .i64 a2] w fun e w' => e = .returned (.bool true) ∧ Below w.heap.size w w' := by
  obtain ⟨l0, rfl, hr0, hm0, hw0, hc0⟩ := ReadsInt.ofRowC w0
  obtain ⟨l1, rfl, hr1, hm1, hw1, hc1⟩ := ReadsInt.ofRowC w1
  obtain ⟨k, h⟩ := P l0 l1 a2 hm0 y0 hw0 hm1 y1 hw1 w2
  refine (mootkeep4_BackOnce.calls k _ _ l0 _ _ l1 a2 true w (Kd.C_of_reads (d := (0 : Int)) (h1 := fun _ => rfl) hr0) hc0 (Kd.C_of_reads (d := (0 : Int)) (h1 := fun _ => rfl) hr1) hc1 h).mono ?_
  rintro e w' ⟨rfl, hd⟩
  exact ⟨rfl, hd⟩

end Go.Proofs.Ytbcaaocogphdeaa.PAll
