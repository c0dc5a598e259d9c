-- Printed by this session's wip/myprint.py.
import Derived.Test.YtenhnlclnjnboaaPAllx0
import Derived.Test.YtenhnlclnjnboaaPAllx9
import Derived.Test.YtenhnlclnjnboaaPAllx10
namespace Go.Proofs.Ytenhnlclnjnboaa.PAll
open Go.RowKit Go.Proofs.YtenhnlclnjnboaaW.PrintWords Go.Proofs.YtenhnlclnjnboaaW.PrintLast Go.Proofs.YtenhnlclnjnboaaW.PrintMore
attribute [local go_sem] max2_int min2_int max_two min_two max_three min_three max_four min_four   -- for this text's walks alone
set_option linter.unusedVariables false
set_option linter.unusedSimpArgs false

/-! ### mootkeep4_Entries: function 11 -/
def mootkeep4_Entries.l0 : Nat → List (S35) → Int → Int → Int → List Int → Option ((List (S35)))
  | 0, _, _, _, _, _ => none
  | k + 1, x4, x5, x14, x15, x116000 => if x15 < x14 then ((mootmake_Stream_Next.f x116000 40).bind fun bt121 => ((mootmake_Stream_Next.f bt121.2 6).bind fun bt123 => ((mootmake_Stream_Next.f bt123.2 5).bind fun bt125 => ((mootmake_Stream_Next.f bt125.2 500).bind fun bt127 => (if x4.length < 4398046511104 then (mootkeep4_Entries.l0 k (x4 ++ [(⟨wrap64 (x5 + bt121.1), bt123.1, Int.tmod (wrap64 ((wrap64 (bt123.1 + 1)) + bt125.1)) 6, wrap64 (1 + bt127.1)⟩ : S35)]) (wrap64 (x5 + bt121.1)) x14 (wrap64 (x15 + 1)) bt127.2) else (none)))))) else (some x4)
def mootkeep4_Entries.f (k : Nat) (l0 : List Int) : Option ((List (S35))) := (mootmake_Stream_Next.f l0 20000).bind fun bt116 => ((mootmake_Day.f bt116.1).bind fun t118 => ((mootmake_Stream_Next.f bt116.2 12).bind fun bt119 => (mootkeep4_Entries.l0 k ([] : List (S35)) t118 bt119.1 0 bt119.2)))
theorem mootkeep4_Entries.mono_l : ∀ k, (∀ y0 y1 y2 y3 y4, LeO (mootkeep4_Entries.l0 k y0 y1 y2 y3 y4) (mootkeep4_Entries.l0 (k + 1) y0 y1 y2 y3 y4))
  | 0 => fun _ _ _ _ _ r h => by simp [mootkeep4_Entries.l0] at h
  | k + 1 => by
    have ih0 := mootkeep4_Entries.mono_l k
    · intro y0 y1 y2 y3 y4
      unfold mootkeep4_Entries.l0
      repeat' first
      | (with_reducible exact ih0 _ _ _ _ _)
      | (with_reducible exact LeO.refl _)
      | (with_reducible exact LeO.none _)
      | (with_reducible refine LeO.ite ?_ ?_)
      | (with_reducible refine LeO.bind ?_ (fun _ => ?_))
      | exact ih0 _ _ _ _ _
      | exact LeO.none _
      | refine LeO.ite ?_ ?_
      | refine LeO.bind ?_ (fun _ => ?_)
theorem mootkeep4_Entries.mono : ∀ a0 k, LeO (mootkeep4_Entries.f k a0) (mootkeep4_Entries.f (k + 1) a0) := by
  intro a0 k
  have ih0 := mootkeep4_Entries.mono_l k
  unfold mootkeep4_Entries.f
  repeat' first
      | (with_reducible exact ih0 _ _ _ _ _)
      | (with_reducible exact LeO.refl _)
      | (with_reducible exact LeO.none _)
      | (with_reducible refine LeO.ite ?_ ?_)
      | (with_reducible refine LeO.bind ?_ (fun _ => ?_))
      | exact ih0 _ _ _ _ _
      | exact LeO.none _
      | refine LeO.ite ?_ ?_
      | refine LeO.bind ?_ (fun _ => ?_)
set_option maxHeartbeats 8000000 in
set_option maxRecDepth 100000 in
theorem mootkeep4_Entries.calls (k : Nat) (A0 : Option Addr) (c0 : Nat) (l0 : List Int) (r : List (S35)) (w : World) (hr0 : Kd.C (Kd.int .i64) w A0 l0.length l0) (hc0 : l0.length ≤ c0) (h : mootkeep4_Entries.f k l0 = some r) :
    Calls Try.prog 11 #[.slice A0 l0.length c0] w fun e w' => ∃ v0_ : Value, e = .returned (v0_) ∧ Kd.R k35 35 w' w.heap.size (fun _ => True) v0_ r ∧ Below w.heap.size w w' := by
  have hu69 := Try.underlying69
  have hu35 := Try.underlying35
  have HR0 := Aside0.mk hr0
  have HC0 := Aside0.mk hc0
  clear hr0 hc0
  have HB := Aside0.mk (Below.refl w.heap.size w)
  have H : ((mootmake_Stream_Next.f l0 20000).bind fun bt116 => ((mootmake_Day.f bt116.1).bind fun t118 => ((mootmake_Stream_Next.f bt116.2 12).bind fun bt119 => (mootkeep4_Entries.l0 k ([] : List (S35)) t118 bt119.1 0 bt119.2)))) = some r := h
  clear h
  replace H := Option.bind_eq_some_iff.mp H
  obtain ⟨⟨t116, t117⟩, A20, H⟩ := H
  replace H : ((mootmake_Day.f t116).bind fun t118 => ((mootmake_Stream_Next.f t117 12).bind fun bt119 => (mootkeep4_Entries.l0 k ([] : List (S35)) t118 bt119.1 0 bt119.2))) = some r := H
  have A2 := Aside0.mk A20
  clear A20
  replace H := Option.bind_eq_some_iff.mp H
  obtain ⟨t118, A30, H⟩ := H
  replace H : ((mootmake_Stream_Next.f t117 12).bind fun bt119 => (mootkeep4_Entries.l0 k ([] : List (S35)) t118 bt119.1 0 bt119.2)) = some r := H
  have A3 := Aside0.mk A30
  clear A30
  replace H := Option.bind_eq_some_iff.mp H
  obtain ⟨⟨t119, t120⟩, A40, H⟩ := H
  replace H : (mootkeep4_Entries.l0 k ([] : List (S35)) t118 t119 0 t120) = some r := H
  have A4 := Aside0.mk A40
  clear A40
  have H' := Aside0.mk H
  clear H
  go_enter Try.func11, Try.ntmps11
  go_wp2_with (first | ((with_reducible refine gate_dst (N := 9) rfl ?_); refine box_event ?hg (N := 9) ?hd (cs := #[.slice A0 l0.length c0]) (t := 69) ?hr ?_; (case hd => rfl); (case hg => rfl); (case hr => first | (go_simp; done) | (go_simp; rfl)); intro gb115 hg w5 hbox hb; have n0_ := Aside0.mk (below_step (by repeat (first | (with_reducible first | exact HB.out | apply below_alloc | apply pw_below_drewN | apply below_drew1) | exact HB.out)) hb); have n1_ := Aside0.mk ((IsS69.of_box hbox (by rw [hg]; exact (below_size (by repeat (first | (with_reducible first | exact HB.out | apply below_alloc | apply pw_below_drewN | apply below_drew1) | exact HB.out)))) ⟨HR0.out, HC0.out⟩)); have n2_ := Aside0.mk ((by rw [hg]; exact (below_size (by repeat (first | (with_reducible first | exact HB.out | apply below_alloc | apply pw_below_drewN | apply below_drew1) | exact HB.out))) : w.heap.size ≤ gb115)); have n3_ := Aside0.mk ((by rw [hg]; exact (below_size (by repeat (first | (with_reducible first | exact HB.out | apply below_alloc | apply pw_below_drewN | apply below_drew1) | exact HB.out))) : w.heap.size ≤ gb115)); clear HB; have HB := n0_; have HI115 := n1_; have GW115 := n2_; have GE115 := n3_; clear n0_ n1_ n2_ n3_; clear hb hbox hg) | ((with_reducible refine gate_callee (f := 43) rfl ?_); refine goesL_ (some 11) rfl rfl Try.func43 (by kernel_rfl) rfl #[.pointer (some ⟨gb115, 0, none⟩), .int .i64 20000] rfl (by (try simp only [List.map_toArray, List.map_cons, List.map_nil]); first | done | rfl | (simp only [List.length_drop, List.length_take]; rfl)) ?_; (with_reducible refine (mootmake_Stream_Next.calls gb115 l0 20000 t116 t117 w _ ?side1 ?side2 A2.out).mono ?_); (case side1 => repeat (first | (with_reducible first | exact HI115.out | apply IsS69.alloc | apply IsS69.drewN | apply IsS69.drew | apply IsS69.set_0) | exact HI115.out)); (case side2 => repeat (first | (with_reducible first | exact HB.out | apply below_alloc | apply pw_below_drewN | apply below_drew1 | refine below_set ?_ (IsS69.ge HI115.out)) | exact HB.out)); rintro e w6 ⟨rfl, hi, hb, hk⟩; refine ⟨_, rfl, ?_⟩; have n0_ := Aside0.mk (hb); have n1_ := Aside0.mk (hi); clear HB; clear HI115; have HB := n0_; have HI115 := n1_; clear n0_ n1_; (try clear hb); (try clear hb2); (try clear hk); (try clear hi)) | ((with_reducible refine gate_callee (f := 13) rfl ?_); refine goesL_ (some 12) rfl rfl Try.func13 (by kernel_rfl) rfl #[.int .i64 t116] rfl (by (try simp only [List.map_toArray, List.map_cons, List.map_nil]); first | done | rfl | (simp only [List.length_drop, List.length_take]; rfl)) ?_; (with_reducible refine (mootmake_Day.calls t116 t118 _ A3.out).mono ?_); rintro e w' ⟨rfl, ⟨nd, rfl⟩⟩; refine ⟨_, rfl, ?_⟩) | ((with_reducible refine gate_callee (f := 43) rfl ?_); refine goesL_ (some 14) rfl rfl Try.func43 (by kernel_rfl) rfl #[.pointer (some ⟨gb115, 0, none⟩), .int .i64 12] rfl (by (try simp only [List.map_toArray, List.map_cons, List.map_nil]); first | done | rfl | (simp only [List.length_drop, List.length_take]; rfl)) ?_; (with_reducible refine (mootmake_Stream_Next.calls gb115 t117 12 t119 t120 w _ ?side1 ?side2 A4.out).mono ?_); (case side1 => repeat (first | (with_reducible first | exact HI115.out | apply IsS69.alloc | apply IsS69.drewN | apply IsS69.drew | apply IsS69.set_0) | exact HI115.out)); (case side2 => repeat (first | (with_reducible first | exact HB.out | apply below_alloc | apply pw_below_drewN | apply below_drew1 | refine below_set ?_ (IsS69.ge HI115.out)) | exact HB.out)); rintro e w7 ⟨rfl, hi, hb, hk⟩; refine ⟨_, rfl, ?_⟩; have n0_ := Aside0.mk (hb); have n1_ := Aside0.mk (hi); clear HB; clear HI115; have HB := n0_; have HI115 := n1_; clear n0_ n1_; (try clear hb); (try clear hb2); (try clear hk); (try clear hi)))
  go_loopg [4, 5, 15] k (fun kq v4 v5 v15 w' => ∃ (x4_1 : List (S35)) (x5_1 : Int) (x15_1 : Int) (x116000_1 : List Int), v5 = .int .i64 x5_1 ∧ v15 = .int .i64 x15_1 ∧ Aside0 (mootkeep4_Entries.l0 kq x4_1 x5_1 t119 x15_1 x116000_1 = some r) ∧ Aside0 (kq ≤ k) ∧ Aside0 (Kd.R k35 35 w' w.heap.size (fun _ => True) v4 x4_1) ∧ Aside0 (IsS69 w w' gb115 x116000_1) ∧ Aside0 (Below w.heap.size w w'))
  case atStart => exact ⟨(([] : List (S35))), (t118), (0), (t120), (by first | rfl | (simp; done) | (simp [*]; done)), (by first | rfl | (simp; done) | (simp [*]; done)), H', ⟨Nat.le_refl _⟩, ⟨by first | exact Kd.R_nil _ _ _ _ _ | exact Kd.N_nil _ _ _ _ _ | exact Kd.V_nil _ _ _ _ _ | exact Kd.Q_nil _ _ _ _ _ | exact Kd.S_nil _ _ _ _ _⟩, ⟨by repeat (first | (with_reducible first | exact HI115.out | apply IsS69.alloc | apply IsS69.drewN | apply IsS69.drew | apply IsS69.set_0) | exact HI115.out)⟩, ⟨by repeat (first | (with_reducible first | exact HB.out | apply below_alloc | apply pw_below_drewN | apply below_drew1 | refine below_set ?_ (IsS69.ge HI115.out)) | exact HB.out)⟩⟩
  case round =>
    clear H'
    try clear c1
    try clear p2
    try clear c4
    try clear p4
    obtain ⟨x4_1, x5_1, x15_1, x116000_1, rfl, rfl, HA, HK1, HO_4, HI115, HB⟩ := hrel
    cases gk with
    | zero => exact absurd HA.out (by simp [mootkeep4_Entries.l0])
    | succ k1 =>
      have H := HA.out
      clear HA
      simp only [mootkeep4_Entries.l0] at H
      by_cases c8 : x15_1 < t119
      · rw [if_pos c8] at H
        have c8b0 : decide (x15_1 < t119) = true := decide_eq_true c8
        clear c8
        replace H := Option.bind_eq_some_iff.mp H
        obtain ⟨⟨t121, t122⟩, A90, H⟩ := H
        replace H : ((mootmake_Stream_Next.f t122 6).bind fun bt123 => ((mootmake_Stream_Next.f bt123.2 5).bind fun bt125 => ((mootmake_Stream_Next.f bt125.2 500).bind fun bt127 => (if x4_1.length < 4398046511104 then (mootkeep4_Entries.l0 k1 (x4_1 ++ [(⟨wrap64 (x5_1 + t121), bt123.1, Int.tmod (wrap64 ((wrap64 (bt123.1 + 1)) + bt125.1)) 6, wrap64 (1 + bt127.1)⟩ : S35)]) (wrap64 (x5_1 + t121)) t119 (wrap64 (x15_1 + 1)) bt127.2) else (none))))) = some r := H
        have A9 := Aside0.mk A90
        clear A90
        replace H := Option.bind_eq_some_iff.mp H
        obtain ⟨⟨t123, t124⟩, A100, H⟩ := H
        replace H : ((mootmake_Stream_Next.f t124 5).bind fun bt125 => ((mootmake_Stream_Next.f bt125.2 500).bind fun bt127 => (if x4_1.length < 4398046511104 then (mootkeep4_Entries.l0 k1 (x4_1 ++ [(⟨wrap64 (x5_1 + t121), t123, Int.tmod (wrap64 ((wrap64 (t123 + 1)) + bt125.1)) 6, wrap64 (1 + bt127.1)⟩ : S35)]) (wrap64 (x5_1 + t121)) t119 (wrap64 (x15_1 + 1)) bt127.2) else (none)))) = some r := H
        have A10 := Aside0.mk A100
        clear A100
        replace H := Option.bind_eq_some_iff.mp H
        obtain ⟨⟨t125, t126⟩, A110, H⟩ := H
        replace H : ((mootmake_Stream_Next.f t126 500).bind fun bt127 => (if x4_1.length < 4398046511104 then (mootkeep4_Entries.l0 k1 (x4_1 ++ [(⟨wrap64 (x5_1 + t121), t123, Int.tmod (wrap64 ((wrap64 (t123 + 1)) + t125)) 6, wrap64 (1 + bt127.1)⟩ : S35)]) (wrap64 (x5_1 + t121)) t119 (wrap64 (x15_1 + 1)) bt127.2) else (none))) = some r := H
        have A11 := Aside0.mk A110
        clear A110
        replace H := Option.bind_eq_some_iff.mp H
        obtain ⟨⟨t127, t128⟩, A120, H⟩ := H
        replace H : (if x4_1.length < 4398046511104 then (mootkeep4_Entries.l0 k1 (x4_1 ++ [(⟨wrap64 (x5_1 + t121), t123, Int.tmod (wrap64 ((wrap64 (t123 + 1)) + t125)) 6, wrap64 (1 + t127)⟩ : S35)]) (wrap64 (x5_1 + t121)) t119 (wrap64 (x15_1 + 1)) t128) else (none)) = some r := H
        have A12 := Aside0.mk A120
        clear A120
        by_cases c13 : x4_1.length < 4398046511104
        · rw [if_pos c13] at H
          have LMc13 := Aside0.mk c13
          clear c13
          obtain ⟨y129, hy129⟩ : ∃ y_ : List (S35), y_ = (x4_1 ++ [(⟨wrap64 (x5_1 + t121), t123, Int.tmod (wrap64 ((wrap64 (t123 + 1)) + t125)) 6, wrap64 (1 + t127)⟩ : S35)]) := ⟨_, rfl⟩
          replace H : (mootkeep4_Entries.l0 k1 y129 (wrap64 (x5_1 + t121)) t119 (wrap64 (x15_1 + 1)) t128) = some r := by first | (rw [hy129]; with_reducible exact H) | (have H2_ := (Option.bind_some _ _).symm.trans H; rw [hy129]; with_reducible exact H2_) | (have H2_ := (Option.bind_some _ _).symm.trans H; with_reducible exact H2_) | with_reducible exact H | (rw [hy129]; exact H) | exact H
          have Ny129 := Aside0.mk hy129
          clear hy129
          have H' := Aside0.mk H
          clear H
          go_wp2_with (first | ((with_reducible refine gate_callee (f := 43) rfl ?_); refine goesL_ (some 19) rfl rfl Try.func43 (by kernel_rfl) rfl #[.pointer (some ⟨gb115, 0, none⟩), .int .i64 40] rfl (by (try simp only [List.map_toArray, List.map_cons, List.map_nil]); first | done | rfl | (simp only [List.length_drop, List.length_take]; rfl)) ?_; (with_reducible refine (mootmake_Stream_Next.calls gb115 x116000_1 40 t121 t122 w _ ?side1 ?side2 A9.out).mono ?_); (case side1 => repeat (first | (with_reducible first | exact HI115.out | apply IsS69.alloc | apply IsS69.drewN | apply IsS69.drew | apply IsS69.set_0) | exact HI115.out)); (case side2 => repeat (first | (with_reducible first | exact HB.out | apply below_alloc | apply pw_below_drewN | apply below_drew1 | refine below_set ?_ (IsS69.ge HI115.out)) | exact HB.out)); rintro e w14 ⟨rfl, hi, hb, hk⟩; refine ⟨_, rfl, ?_⟩; have n0_ := Aside0.mk (Kd.R_mono (Kd.R_keep (IsS69.apart (show IsS69 w _ gb115 x116000_1 from by repeat (first | (with_reducible first | exact HI115.out | apply IsS69.alloc | apply IsS69.drewN | apply IsS69.drew | apply IsS69.set_0) | exact HI115.out)) (by (with_reducible repeat (first | apply Kd.R_alloc | apply Kd.R_drewN | apply Kd.R_drew)); exact HO_4.out) (by decide)) hk (fun _ h => h.2)) (fun _ h => h.1)); have n1_ := Aside0.mk (hb); have n2_ := Aside0.mk (hi); clear HO_4; clear HB; clear HI115; have HO_4 := n0_; have HB := n1_; have HI115 := n2_; clear n0_ n1_ n2_; (try clear hb); (try clear hb2); (try clear hk); (try clear hi)) | ((with_reducible refine gate_callee (f := 43) rfl ?_); refine goesL_ (some 22) rfl rfl Try.func43 (by kernel_rfl) rfl #[.pointer (some ⟨gb115, 0, none⟩), .int .i64 6] rfl (by (try simp only [List.map_toArray, List.map_cons, List.map_nil]); first | done | rfl | (simp only [List.length_drop, List.length_take]; rfl)) ?_; (with_reducible refine (mootmake_Stream_Next.calls gb115 t122 6 t123 t124 w _ ?side1 ?side2 A10.out).mono ?_); (case side1 => repeat (first | (with_reducible first | exact HI115.out | apply IsS69.alloc | apply IsS69.drewN | apply IsS69.drew | apply IsS69.set_0) | exact HI115.out)); (case side2 => repeat (first | (with_reducible first | exact HB.out | apply below_alloc | apply pw_below_drewN | apply below_drew1 | refine below_set ?_ (IsS69.ge HI115.out)) | exact HB.out)); rintro e w15 ⟨rfl, hi, hb, hk⟩; refine ⟨_, rfl, ?_⟩; have n0_ := Aside0.mk (Kd.R_mono (Kd.R_keep (IsS69.apart (show IsS69 w _ gb115 t122 from by repeat (first | (with_reducible first | exact HI115.out | apply IsS69.alloc | apply IsS69.drewN | apply IsS69.drew | apply IsS69.set_0) | exact HI115.out)) (by (with_reducible repeat (first | apply Kd.R_alloc | apply Kd.R_drewN | apply Kd.R_drew)); exact HO_4.out) (by decide)) hk (fun _ h => h.2)) (fun _ h => h.1)); have n1_ := Aside0.mk (hb); have n2_ := Aside0.mk (hi); clear HO_4; clear HB; clear HI115; have HO_4 := n0_; have HB := n1_; have HI115 := n2_; clear n0_ n1_ n2_; (try clear hb); (try clear hb2); (try clear hk); (try clear hi)) | ((with_reducible refine gate_callee (f := 43) rfl ?_); refine goesL_ (some 29) rfl rfl Try.func43 (by kernel_rfl) rfl #[.pointer (some ⟨gb115, 0, none⟩), .int .i64 5] rfl (by (try simp only [List.map_toArray, List.map_cons, List.map_nil]); first | done | rfl | (simp only [List.length_drop, List.length_take]; rfl)) ?_; (with_reducible refine (mootmake_Stream_Next.calls gb115 t124 5 t125 t126 w _ ?side1 ?side2 A11.out).mono ?_); (case side1 => repeat (first | (with_reducible first | exact HI115.out | apply IsS69.alloc | apply IsS69.drewN | apply IsS69.drew | apply IsS69.set_0) | exact HI115.out)); (case side2 => repeat (first | (with_reducible first | exact HB.out | apply below_alloc | apply pw_below_drewN | apply below_drew1 | refine below_set ?_ (IsS69.ge HI115.out)) | exact HB.out)); rintro e w16 ⟨rfl, hi, hb, hk⟩; refine ⟨_, rfl, ?_⟩; have n0_ := Aside0.mk (Kd.R_mono (Kd.R_keep (IsS69.apart (show IsS69 w _ gb115 t124 from by repeat (first | (with_reducible first | exact HI115.out | apply IsS69.alloc | apply IsS69.drewN | apply IsS69.drew | apply IsS69.set_0) | exact HI115.out)) (by (with_reducible repeat (first | apply Kd.R_alloc | apply Kd.R_drewN | apply Kd.R_drew)); exact HO_4.out) (by decide)) hk (fun _ h => h.2)) (fun _ h => h.1)); have n1_ := Aside0.mk (hb); have n2_ := Aside0.mk (hi); clear HO_4; clear HB; clear HI115; have HO_4 := n0_; have HB := n1_; have HI115 := n2_; clear n0_ n1_ n2_; (try clear hb); (try clear hb2); (try clear hk); (try clear hi)) | ((with_reducible refine gate_callee (f := 43) rfl ?_); refine goesL_ (some 33) rfl rfl Try.func43 (by kernel_rfl) rfl #[.pointer (some ⟨gb115, 0, none⟩), .int .i64 500] rfl (by (try simp only [List.map_toArray, List.map_cons, List.map_nil]); first | done | rfl | (simp only [List.length_drop, List.length_take]; rfl)) ?_; (with_reducible refine (mootmake_Stream_Next.calls gb115 t126 500 t127 t128 w _ ?side1 ?side2 A12.out).mono ?_); (case side1 => repeat (first | (with_reducible first | exact HI115.out | apply IsS69.alloc | apply IsS69.drewN | apply IsS69.drew | apply IsS69.set_0) | exact HI115.out)); (case side2 => repeat (first | (with_reducible first | exact HB.out | apply below_alloc | apply pw_below_drewN | apply below_drew1 | refine below_set ?_ (IsS69.ge HI115.out)) | exact HB.out)); rintro e w17 ⟨rfl, hi, hb, hk⟩; refine ⟨_, rfl, ?_⟩; have n0_ := Aside0.mk (Kd.R_mono (Kd.R_keep (IsS69.apart (show IsS69 w _ gb115 t126 from by repeat (first | (with_reducible first | exact HI115.out | apply IsS69.alloc | apply IsS69.drewN | apply IsS69.drew | apply IsS69.set_0) | exact HI115.out)) (by (with_reducible repeat (first | apply Kd.R_alloc | apply Kd.R_drewN | apply Kd.R_drew)); exact HO_4.out) (by decide)) hk (fun _ h => h.2)) (fun _ h => h.1)); have n1_ := Aside0.mk (hb); have n2_ := Aside0.mk (hi); clear HO_4; clear HB; clear HI115; have HO_4 := n0_; have HB := n1_; have HI115 := n2_; clear n0_ n1_ n2_; (try clear hb); (try clear hb2); (try clear hk); (try clear hi)) | ((with_reducible refine gate_builtin (b := .append) (xs := #[.tmp 23, .tmp 36]) rfl ?_); at_builtin; refine Kd.R_append k35 (w0 := w) w.heap.size rfl (.tmp 23) (.tmp 36) 24 35 (.agg #[(.int .i64 0), (.int .i64 0), (.int .i64 0), (.int .i64 0)]) 32 rfl Try.underlying24 info35 rfl (by decide) (by omega) u4 x4_1 (⟨wrap64 (x5_1 + t121), t123, Int.tmod (wrap64 ((wrap64 (t123 + 1)) + t125)) 6, wrap64 (1 + t127)⟩ : S35) [.int .i64 (wrap64 (x5_1 + t121)), .int .i64 t123, .int .i64 (Int.tmod (wrap64 ((wrap64 (t123 + 1)) + t125)) 6), .int .i64 (wrap64 (1 + t127))] (fun _ => True) (fun _ => False) rfl rfl ?aP (fun _ hk => hk.elim) ?aF ?aO ?aB ?aS ?aL ?_; (case aP => exact k35_mkM _ _ _ (⟨wrap64 (x5_1 + t121), t123, Int.tmod (wrap64 ((wrap64 (t123 + 1)) + t125)) 6, wrap64 (1 + t127)⟩ : S35)); (case aB => exact (by repeat (first | (with_reducible first | exact HB.out | apply below_alloc | apply pw_below_drewN | apply below_drew1 | refine below_set ?_ (IsS69.ge HI115.out)) | exact HB.out))); (case aF => exact (fun _ _ => trivial)); (case aO => exact (by (with_reducible repeat (first | apply Kd.R_alloc | apply Kd.R_drewN | apply Kd.R_drew)); exact HO_4.out)); (case aS => exact (below_size (by repeat (first | (with_reducible first | exact HB.out | apply below_alloc | apply pw_below_drewN | apply below_drew1 | refine below_set ?_ (IsS69.ge HI115.out)) | exact HB.out)))); (case aL => have := LMc13.out; omega); intro v130 w18 ho hb hg hat; rw [← Ny129.out] at ho; have n0_ := Aside0.mk (IsS69.grown (by repeat (first | (with_reducible first | exact HI115.out | apply IsS69.alloc | apply IsS69.drewN | apply IsS69.drew | apply IsS69.set_0) | exact HI115.out)) hg (IsS69.own_ne HI115.out HO_4.out (by decide))); have n1_ := Aside0.mk (hb); have n2_ := Aside0.mk (ho); clear HI115; clear HB; clear HO_4; have HI115 := n0_; have HB := n1_; have HO131 := n2_; clear n0_ n1_ n2_; clear ho hb hg hat))
          go_roundg k1
          case measure => have := HK1.out; omega
          case rel => exact ⟨(y129), (wrap64 (x5_1 + t121)), (wrap64 (x15_1 + 1)), (t128), (by first | rfl | (simp; done) | (simp [*]; done)), (by first | rfl | (simp; done) | (simp [*]; done)), H', ⟨by have := HK1.out; omega⟩, ⟨by (with_reducible repeat (first | apply Kd.R_alloc | apply Kd.R_drewN | apply Kd.R_drew)); exact HO131.out⟩, ⟨by repeat (first | (with_reducible first | exact HI115.out | apply IsS69.alloc | apply IsS69.drewN | apply IsS69.drew | apply IsS69.set_0) | exact HI115.out)⟩, ⟨by repeat (first | (with_reducible first | exact HB.out | apply below_alloc | apply pw_below_drewN | apply below_drew1 | refine below_set ?_ (IsS69.ge HI115.out)) | exact HB.out)⟩⟩
        · rw [if_neg c13] at H
          exact absurd H (by simp)
      · rw [if_neg c8] at H
        have c8b0 : decide (x15_1 < t119) = false := decide_eq_false c8
        clear c8
        obtain rfl := Option.some.inj H
        go_wp2
        go_ret
        exact ⟨_, by first | rfl | (simp [errW_none, errW_some] <;> rfl) | (simp [*, errW_none, errW_some] <;> rfl), by (with_reducible repeat (first | apply Kd.R_alloc | apply Kd.R_drewN | apply Kd.R_drew)); exact HO_4.out, by repeat (first | (with_reducible first | exact HB.out | apply below_alloc | apply pw_below_drewN | apply below_drew1 | refine below_set ?_ (IsS69.ge HI115.out)) | exact HB.out)⟩

end Go.Proofs.Ytenhnlclnjnboaa.PAll
