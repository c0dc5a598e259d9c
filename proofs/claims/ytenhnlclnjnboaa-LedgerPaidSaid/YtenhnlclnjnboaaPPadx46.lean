-- Printed by this session's wip/myprint.py.
import Derived.Test.YtenhnlclnjnboaaPPadx0
namespace Go.Proofs.Ytenhnlclnjnboaa.PPad
open Go.RowKit Go.Proofs.YtenhnlclnjnboaaW.PrintWords Go.Proofs.YtenhnlclnjnboaaW.PrintLast Go.Proofs.YtenhnlclnjnboaaW.PrintMore
attribute [local go_sem] max2_int min2_int max_two min_two max_three min_three max_four min_four   -- for this text's walks alone
set_option linter.unusedVariables false
set_option linter.unusedSimpArgs false

/-! ### api_Pay_41: function 41 -/
set_option maxHeartbeats 4000000 in
set_option maxRecDepth 100000 in
theorem api_Pay_41.grow (n : Int) (h0 : 0 ≤ n) (h1 : n ≤ 1000000) (w : World) : Calls Try.prog 58 #[.slice none 0 0, .int .i64 n] w fun e w' => ∃ v : Value, e = .returned v ∧ Kd.R k51 51 w' w.heap.size (fun _ => True) v [] ∧ Below w.heap.size w w' := by
  have hb0 : decide (n < 0) = false := decide_eq_false (by omega)
  have hw : IntKind.i64.wrap n = n := by rw [i64_w]; unfold wrap64; omega
  rcases Nat.eq_zero_or_pos n.toNat with hz | hz
  · obtain rfl : n = 0 := by omega
    clear h0 h1 hz hb0 hw
    go_enter Try.func58, Try.ntmps58
    go_wp2
    go_ret
    exact ⟨_, rfl, Kd.R_nil _ _ _ _ _, Below.refl _ _⟩
  · have hb1 : decide (0 < n) = true := decide_eq_true (by omega)
    have H0 := Aside0.mk h0
    have H1 := Aside0.mk h1
    clear h0 h1 hz
    go_enter Try.func58, Try.ntmps58
    go_wp2_with (first | ((with_reducible refine gate_builtin (b := .append) (xs := #[.tmp 20, .tmp 21]) rfl ?_); at_builtin; refine Kd.R_append_zeros k51 (w0 := w) w.heap.size rfl (.tmp 20) (.tmp 21) 48 3 51 (.agg #[(.int .i64 0), (.int .i64 0), (.int .i64 0), (.int .i64 0)]) 32 rfl Try.underlying48 Try.underlying3 info51 rfl (by decide) (by omega) (.slice none 0 0) ([] : List S51) z51 (kx := .i64) n (fun _ => True) rfl rfl (k51_mkM _ _ _ z51) (fun _ _ => trivial) (Kd.R_nil _ _ _ _ _) H0.out (Below.refl _ _) (Nat.le_refl _) (by have := H1.out; simp only [List.length_nil]; omega) ?_; intro v1 w1 ho hb hg hat; obtain ⟨A1, c1, rfl⟩ := Kd.R_slice ho))
    go_ret
    exact ⟨_, rfl, Kd.R_take (m := 0) ho (Nat.zero_le _), hb⟩
set_option maxHeartbeats 4000000 in
set_option maxRecDepth 100000 in
theorem api_Pay_41.at2 (g : Nat) (A0 : Option Addr) (c0 : Nat) (A1 : Option Addr) (c1 : Nat) (l0 l1 : List S51) (w : World) (hg : w.heap[g]? = some (.cells #[.slice A0 l0.length c0, .slice A1 l1.length c1] 48 (0, 0))) (hr0 : Kd.C k51 w A0 l0.length l0) (hr1 : Kd.C k51 w A1 l1.length l1) (h0 : l0.length ≤ 100000) (h1 : l1.length ≤ 100000) :
    Calls Try.prog 41 #[.slice (some ⟨g, 0, none⟩) 2 2] w fun e w' => ∃ v : Value, e = .returned v ∧ Kd.R k51 51 w' w.heap.size (fun _ => True) v (l0 ++ l1) ∧ Below w.heap.size w w' := by
  have d0 : w.cell? ⟨g, 0, none⟩ = some (.slice A0 l0.length c0) := (blk_cell hg 0).trans rfl
  have d1 : w.cell? ⟨g, 1, none⟩ = some (.slice A1 l1.length c1) := (blk_cell hg 1).trans rfl
  have hw0 : IntKind.i64.wrap ((l0.length : Int)) = (l0.length : Int) := by rw [i64_w]; unfold wrap64; omega
  have hb0 : decide ((l0.length : Int) < 0) = false := decide_eq_false (by omega)
  have hw1 : IntKind.i64.wrap ((l0.length : Int) + l1.length) = (l0.length : Int) + l1.length := by rw [i64_w]; unfold wrap64; omega
  have hb1 : decide ((l0.length : Int) + l1.length < 0) = false := decide_eq_false (by omega)
  have H0 := Aside0.mk h0
  have HR0 := Aside0.mk hr0
  have H1 := Aside0.mk h1
  have HR1 := Aside0.mk hr1
  have HG := Aside0.mk hg
  clear h0 hr0 h1 hr1 hg
  go_enter Try.func41, Try.ntmps41
  go_wp2_with fail
  refine wp_loop_rounds 3 ?_
  rw [rounds_succ]
  go_wp2
  rw [rounds_succ]
  go_wp2
  rw [rounds_succ]
  go_wp2_with (go_at_call 58; refine (api_Pay_41.grow ((l0.length : Int) + l1.length) (by have := H0.out; have := H1.out; omega) (by have := H0.out; have := H1.out; omega) w).mono ?_; rintro e w1 ⟨v1, rfl, ho, hb⟩)
  have HO1 := Aside0.mk ho
  have HB1 := Aside0.mk hb
  clear ho hb d0 d1
  refine wp_loop_rounds 3 ?_
  have d0 : w1.cell? ⟨g, 0, none⟩ = some (.slice A0 l0.length c0) := (HB1.out.cell (World.block_lt_of_cell? w _ ((blk_cell HG.out 0).trans rfl))).trans ((blk_cell HG.out 0).trans rfl)
  rw [rounds_succ]
  go_wp2_with (first | ((with_reducible refine gate_builtin (b := .append) (xs := #[.tmp 31, .tmp 32]) rfl ?_); at_builtin; refine Kd.R_append_rows k51 (w0 := w) w.heap.size rfl (.tmp 31) (.tmp 32) 48 51 (.agg #[(.int .i64 0), (.int .i64 0), (.int .i64 0), (.int .i64 0)]) 32 rfl Try.underlying48 info51 rfl (by decide) (by omega) v1 ([] : List S51) l0 A0 l0.length c0 (fun _ => True) (fun _ => False) rfl rfl HO1.out (Kd.C_below HR0.out HB1.out) (fun x cs hc => ?aM) (fun _ h => h.elim) (fun _ _ => trivial) HB1.out (below_size HB1.out) (by have := H0.out; have := H1.out;  (try simp only [List.length_append, List.length_nil]); omega) ?_; (case aM => obtain rfl := k51_open hc; exact k51_mkM _ _ _ _); intro v2 w2 ho hb hgr hat))
  have HO2 := Aside0.mk ho
  have HB2 := Aside0.mk hb
  clear ho hb d0
  have d1 : w2.cell? ⟨g, 1, none⟩ = some (.slice A1 l1.length c1) := (HB2.out.cell (World.block_lt_of_cell? w _ ((blk_cell HG.out 1).trans rfl))).trans ((blk_cell HG.out 1).trans rfl)
  rw [rounds_succ]
  go_wp2_with (first | ((with_reducible refine gate_builtin (b := .append) (xs := #[.tmp 31, .tmp 32]) rfl ?_); at_builtin; refine Kd.R_append_rows k51 (w0 := w) w.heap.size rfl (.tmp 31) (.tmp 32) 48 51 (.agg #[(.int .i64 0), (.int .i64 0), (.int .i64 0), (.int .i64 0)]) 32 rfl Try.underlying48 info51 rfl (by decide) (by omega) v2 ([] ++ l0) l1 A1 l1.length c1 (fun _ => True) (fun _ => False) rfl rfl HO2.out (Kd.C_below HR1.out HB2.out) (fun x cs hc => ?aM) (fun _ h => h.elim) (fun _ _ => trivial) HB2.out (below_size HB2.out) (by have := H0.out; have := H1.out;  (try simp only [List.length_append, List.length_nil]); omega) ?_; (case aM => obtain rfl := k51_open hc; exact k51_mkM _ _ _ _); intro v3 w3 ho hb hgr hat))
  rw [rounds_succ]
  go_wp2
  go_ret
  refine ⟨_, rfl, ?_, hb⟩
  simpa using ho
def api_Pay_41.cat2.f (l0 l1 : List S51) : Option (List S51) := if l0.length ≤ 100000 ∧ l1.length ≤ 100000 then some (l0 ++ l1) else none
theorem api_Pay_41.cat2.calls (A0 : Option Addr) (c0 : Nat) (l0 : List (S51)) (A1 : Option Addr) (c1 : Nat) (l1 : List (S51)) (r : List S51) (w : World) (hr0 : Kd.C k51 w A0 l0.length l0) (hc0 : l0.length ≤ c0) (hr1 : Kd.C k51 w A1 l1.length l1) (hc1 : l1.length ≤ c1) (h : api_Pay_41.cat2.f l0 l1 = some r) {n_ : Nat} (hn_ : w.heap.size = n_ := by first | rfl | simp) :
    Calls Try.prog 41 #[.slice (some ⟨n_, 0, none⟩) 2 2] (w.alloc (.cells #[.slice A0 l0.length c0, .slice A1 l1.length c1] 48)) fun e w' => ∃ v0_ : Value, e = .returned (v0_) ∧ Kd.R k51 51 w' w.heap.size (fun _ => True) v0_ r ∧ Below w.heap.size w w' := by
  subst hn_
  unfold api_Pay_41.cat2.f at h
  split at h
  · rename_i hl
    obtain rfl := Option.some.inj h
    refine (api_Pay_41.at2 w.heap.size A0 c0 A1 c1 l0 l1 _ (blk_new w _) (Kd.C_alloc hr0 _) (Kd.C_alloc hr1 _) hl.1 hl.2).mono ?_
    rintro e w' ⟨v, rfl, ho, hb⟩
    exact ⟨v, rfl, Kd.R_lower ho (by rw [World.size_alloc]; omega), (below_alloc (Below.refl _ _) _).trans (hb.mono (by rw [World.size_alloc]; omega))⟩
  · exact absurd h (by simp)
set_option maxHeartbeats 4000000 in
set_option maxRecDepth 100000 in
theorem api_Pay_41.at3 (g : Nat) (A0 : Option Addr) (c0 : Nat) (A1 : Option Addr) (c1 : Nat) (A2 : Option Addr) (c2 : Nat) (l0 l1 l2 : List S51) (w : World) (hg : w.heap[g]? = some (.cells #[.slice A0 l0.length c0, .slice A1 l1.length c1, .slice A2 l2.length c2] 48 (0, 0))) (hr0 : Kd.C k51 w A0 l0.length l0) (hr1 : Kd.C k51 w A1 l1.length l1) (hr2 : Kd.C k51 w A2 l2.length l2) (h0 : l0.length ≤ 100000) (h1 : l1.length ≤ 100000) (h2 : l2.length ≤ 100000) :
    Calls Try.prog 41 #[.slice (some ⟨g, 0, none⟩) 3 3] w fun e w' => ∃ v : Value, e = .returned v ∧ Kd.R k51 51 w' w.heap.size (fun _ => True) v (l0 ++ l1 ++ l2) ∧ Below w.heap.size w w' := by
  have d0 : w.cell? ⟨g, 0, none⟩ = some (.slice A0 l0.length c0) := (blk_cell hg 0).trans rfl
  have d1 : w.cell? ⟨g, 1, none⟩ = some (.slice A1 l1.length c1) := (blk_cell hg 1).trans rfl
  have d2 : w.cell? ⟨g, 2, none⟩ = some (.slice A2 l2.length c2) := (blk_cell hg 2).trans rfl
  have hw0 : IntKind.i64.wrap ((l0.length : Int)) = (l0.length : Int) := by rw [i64_w]; unfold wrap64; omega
  have hb0 : decide ((l0.length : Int) < 0) = false := decide_eq_false (by omega)
  have hw1 : IntKind.i64.wrap ((l0.length : Int) + l1.length) = (l0.length : Int) + l1.length := by rw [i64_w]; unfold wrap64; omega
  have hb1 : decide ((l0.length : Int) + l1.length < 0) = false := decide_eq_false (by omega)
  have hw2 : IntKind.i64.wrap ((l0.length : Int) + l1.length + l2.length) = (l0.length : Int) + l1.length + l2.length := by rw [i64_w]; unfold wrap64; omega
  have hb2 : decide ((l0.length : Int) + l1.length + l2.length < 0) = false := decide_eq_false (by omega)
  have H0 := Aside0.mk h0
  have HR0 := Aside0.mk hr0
  have H1 := Aside0.mk h1
  have HR1 := Aside0.mk hr1
  have H2 := Aside0.mk h2
  have HR2 := Aside0.mk hr2
  have HG := Aside0.mk hg
  clear h0 hr0 h1 hr1 h2 hr2 hg
  go_enter Try.func41, Try.ntmps41
  go_wp2_with fail
  refine wp_loop_rounds 4 ?_
  rw [rounds_succ]
  go_wp2
  rw [rounds_succ]
  go_wp2
  rw [rounds_succ]
  go_wp2
  rw [rounds_succ]
  go_wp2_with (go_at_call 58; refine (api_Pay_41.grow ((l0.length : Int) + l1.length + l2.length) (by have := H0.out; have := H1.out; have := H2.out; omega) (by have := H0.out; have := H1.out; have := H2.out; omega) w).mono ?_; rintro e w1 ⟨v1, rfl, ho, hb⟩)
  have HO1 := Aside0.mk ho
  have HB1 := Aside0.mk hb
  clear ho hb d0 d1 d2
  refine wp_loop_rounds 4 ?_
  have d0 : w1.cell? ⟨g, 0, none⟩ = some (.slice A0 l0.length c0) := (HB1.out.cell (World.block_lt_of_cell? w _ ((blk_cell HG.out 0).trans rfl))).trans ((blk_cell HG.out 0).trans rfl)
  rw [rounds_succ]
  go_wp2_with (first | ((with_reducible refine gate_builtin (b := .append) (xs := #[.tmp 31, .tmp 32]) rfl ?_); at_builtin; refine Kd.R_append_rows k51 (w0 := w) w.heap.size rfl (.tmp 31) (.tmp 32) 48 51 (.agg #[(.int .i64 0), (.int .i64 0), (.int .i64 0), (.int .i64 0)]) 32 rfl Try.underlying48 info51 rfl (by decide) (by omega) v1 ([] : List S51) l0 A0 l0.length c0 (fun _ => True) (fun _ => False) rfl rfl HO1.out (Kd.C_below HR0.out HB1.out) (fun x cs hc => ?aM) (fun _ h => h.elim) (fun _ _ => trivial) HB1.out (below_size HB1.out) (by have := H0.out; have := H1.out; have := H2.out;  (try simp only [List.length_append, List.length_nil]); omega) ?_; (case aM => obtain rfl := k51_open hc; exact k51_mkM _ _ _ _); intro v2 w2 ho hb hgr hat))
  have HO2 := Aside0.mk ho
  have HB2 := Aside0.mk hb
  clear ho hb d0
  have d1 : w2.cell? ⟨g, 1, none⟩ = some (.slice A1 l1.length c1) := (HB2.out.cell (World.block_lt_of_cell? w _ ((blk_cell HG.out 1).trans rfl))).trans ((blk_cell HG.out 1).trans rfl)
  rw [rounds_succ]
  go_wp2_with (first | ((with_reducible refine gate_builtin (b := .append) (xs := #[.tmp 31, .tmp 32]) rfl ?_); at_builtin; refine Kd.R_append_rows k51 (w0 := w) w.heap.size rfl (.tmp 31) (.tmp 32) 48 51 (.agg #[(.int .i64 0), (.int .i64 0), (.int .i64 0), (.int .i64 0)]) 32 rfl Try.underlying48 info51 rfl (by decide) (by omega) v2 ([] ++ l0) l1 A1 l1.length c1 (fun _ => True) (fun _ => False) rfl rfl HO2.out (Kd.C_below HR1.out HB2.out) (fun x cs hc => ?aM) (fun _ h => h.elim) (fun _ _ => trivial) HB2.out (below_size HB2.out) (by have := H0.out; have := H1.out; have := H2.out;  (try simp only [List.length_append, List.length_nil]); omega) ?_; (case aM => obtain rfl := k51_open hc; exact k51_mkM _ _ _ _); intro v3 w3 ho hb hgr hat))
  have HO3 := Aside0.mk ho
  have HB3 := Aside0.mk hb
  clear ho hb d1
  have d2 : w3.cell? ⟨g, 2, none⟩ = some (.slice A2 l2.length c2) := (HB3.out.cell (World.block_lt_of_cell? w _ ((blk_cell HG.out 2).trans rfl))).trans ((blk_cell HG.out 2).trans rfl)
  rw [rounds_succ]
  go_wp2_with (first | ((with_reducible refine gate_builtin (b := .append) (xs := #[.tmp 31, .tmp 32]) rfl ?_); at_builtin; refine Kd.R_append_rows k51 (w0 := w) w.heap.size rfl (.tmp 31) (.tmp 32) 48 51 (.agg #[(.int .i64 0), (.int .i64 0), (.int .i64 0), (.int .i64 0)]) 32 rfl Try.underlying48 info51 rfl (by decide) (by omega) v3 (([] ++ l0) ++ l1) l2 A2 l2.length c2 (fun _ => True) (fun _ => False) rfl rfl HO3.out (Kd.C_below HR2.out HB3.out) (fun x cs hc => ?aM) (fun _ h => h.elim) (fun _ _ => trivial) HB3.out (below_size HB3.out) (by have := H0.out; have := H1.out; have := H2.out;  (try simp only [List.length_append, List.length_nil]); omega) ?_; (case aM => obtain rfl := k51_open hc; exact k51_mkM _ _ _ _); intro v4 w4 ho hb hgr hat))
  rw [rounds_succ]
  go_wp2
  go_ret
  refine ⟨_, rfl, ?_, hb⟩
  simpa using ho
def api_Pay_41.cat3.f (l0 l1 l2 : List S51) : Option (List S51) := if l0.length ≤ 100000 ∧ l1.length ≤ 100000 ∧ l2.length ≤ 100000 then some (l0 ++ l1 ++ l2) else none
theorem api_Pay_41.cat3.calls (A0 : Option Addr) (c0 : Nat) (l0 : List (S51)) (A1 : Option Addr) (c1 : Nat) (l1 : List (S51)) (A2 : Option Addr) (c2 : Nat) (l2 : List (S51)) (r : List S51) (w : World) (hr0 : Kd.C k51 w A0 l0.length l0) (hc0 : l0.length ≤ c0) (hr1 : Kd.C k51 w A1 l1.length l1) (hc1 : l1.length ≤ c1) (hr2 : Kd.C k51 w A2 l2.length l2) (hc2 : l2.length ≤ c2) (h : api_Pay_41.cat3.f l0 l1 l2 = some r) {n_ : Nat} (hn_ : w.heap.size = n_ := by first | rfl | simp) :
    Calls Try.prog 41 #[.slice (some ⟨n_, 0, none⟩) 3 3] (w.alloc (.cells #[.slice A0 l0.length c0, .slice A1 l1.length c1, .slice A2 l2.length c2] 48)) fun e w' => ∃ v0_ : Value, e = .returned (v0_) ∧ Kd.R k51 51 w' w.heap.size (fun _ => True) v0_ r ∧ Below w.heap.size w w' := by
  subst hn_
  unfold api_Pay_41.cat3.f at h
  split at h
  · rename_i hl
    obtain rfl := Option.some.inj h
    refine (api_Pay_41.at3 w.heap.size A0 c0 A1 c1 A2 c2 l0 l1 l2 _ (blk_new w _) (Kd.C_alloc hr0 _) (Kd.C_alloc hr1 _) (Kd.C_alloc hr2 _) hl.1 hl.2.1 hl.2.2).mono ?_
    rintro e w' ⟨v, rfl, ho, hb⟩
    exact ⟨v, rfl, Kd.R_lower ho (by rw [World.size_alloc]; omega), (below_alloc (Below.refl _ _) _).trans (hb.mono (by rw [World.size_alloc]; omega))⟩
  · exact absurd h (by simp)

end Go.Proofs.Ytenhnlclnjnboaa.PPad
