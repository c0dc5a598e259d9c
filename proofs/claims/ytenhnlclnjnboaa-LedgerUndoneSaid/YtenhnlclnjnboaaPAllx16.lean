-- Printed by this session's wip/myprint.py.
import Derived.Test.YtenhnlclnjnboaaPAllx0
namespace Go.Proofs.Ytenhnlclnjnboaa.PAll
open Go.RowKit Go.Proofs.YtenhnlclnjnboaaW.PrintWords Go.Proofs.YtenhnlclnjnboaaW.PrintLast Go.Proofs.YtenhnlclnjnboaaW.PrintMore
attribute [local go_sem] max2_int min2_int max_two min_two max_three min_three max_four min_four   -- for this text's walks alone
set_option linter.unusedVariables false
set_option linter.unusedSimpArgs false

/-! ### ledger_Entry_17: function 17 -/
def ledger_Entry_17.f (l0 : List (S35)) (a1 : Int) (a2 : Int) : Option (List (S35)) := if 0 ≤ a1 then (if a1 < (l0.length : Int) then (if a2 = a1 + 1 then some (l0.eraseIdx a1.toNat) else none) else none) else none
open Go.Lib in
theorem ledger_Entry_17.clear_run {P : Program} (w : World) (t e ty : TypeId) (z : Value) (zs : List Value) (ht : P.underlying t = some (.slice e)) (hv : ∀ w, (zeroValue e).run P w = .ok z w) (hz : (Builtin.zeroCells z.cells 1).toList = zs) (h1 : ∀ v ∈ zs, v.oneCell' = true) (b o c : Nat)
    (hc : ∀ j, j < zs.length → (w.cell? ⟨b, o + j, none⟩).isSome = true) (hf : ∀ j, j < zs.length → w.frozen? ⟨b, o + j, none⟩ = false) :
    (Builtin.clear_ #[t] ty #[.slice (some ⟨b, o, none⟩) 1 c]).run P w = .ok (.tuple #[]) (w.setCells b o zs) := by
  have hst := run_storeCells_cells (P := P) b o zs 0 w (by simpa using hc) (by simpa using hf) h1
  simp only [Nat.add_zero] at hst
  simp [Builtin.clear_, run_underlying ht, hv, hz, hst]
theorem ledger_Entry_17.R_clear {α : Type} {d : Kd α} {e : Nat} {W : World} {base : Nat} {ok : Nat → Prop} {g m c : Nat} {xs : List α} (zs : List Value) (HO : d.R e W base ok (.slice (some ⟨g, 0, none⟩) m c) xs) (hfit : (m + 1) * d.sz ≤ c * d.sz) (hz : zs.length = d.sz) (h0 : 0 < d.sz ∨ True) :
    d.R e (W.setCells g (m * d.sz) zs) base ok (.slice (some ⟨g, 0, none⟩) m c) xs := by
  obtain ⟨hok, inner, ⟨hin, hor⟩, hr⟩ := HO
  rcases hor with ⟨hn, _⟩ | ⟨g', c', cur, hv, hb, hh, hnc, hcm, hcs, htake⟩
  · simp at hn
  · injection hv with ha hlen hc
    injection ha with ha
    injection ha with hg
    subst hg; subst hc
    have hks : (m + 1) * d.sz = m * d.sz + d.sz := Nat.succ_mul _ _
    obtain ⟨cur', h3, h4, h5⟩ := setCells_row zs (m * d.sz) W cur hh (by rw [hcs]; omega)
    have hfar : ∀ k', k' ≠ g → (W.setCells g (m * d.sz) zs).heap[k']? = W.heap[k']? := fun k' hk' => setCells_far zs _ k' hk'
    refine ⟨hok, inner, ⟨hin, .inr ⟨g, c, cur', by rw [hlen], hb, h3, hnc, hcm, by rw [h4, hcs], ?_⟩⟩, hr.imp_ (fun p q hp => d.M_move (fun k' hk' => hfar k' (fun he => hk'.2 (by rw [he]; simp [Value.ownBlock]))) hp)⟩
    have hle : m * d.sz ≤ cur.toList.length := by rw [Array.length_toList, hcs]; omega
    rw [h5, ← htake, ← hlen, List.append_assoc, List.take_append_of_le_length (by rw [List.length_take, Nat.min_eq_left hle]; exact Nat.le_refl _), List.take_take, Nat.min_self]
theorem ledger_Entry_17.cells {α : Type} {d : Kd α} {e : Nat} {W : World} {base : Nat} {ok : Nat → Prop} {g m c : Nat} {xs : List α} (HO : d.R e W base ok (.slice (some ⟨g, 0, none⟩) m c) xs) (q : Nat) (hq : q < c * d.sz) : (W.cell? ⟨g, q, none⟩).isSome = true ∧ W.frozen? ⟨g, q, none⟩ = false := by
  obtain ⟨hok, inner, ⟨hin, hor⟩, hr⟩ := HO
  rcases hor with ⟨hn, _⟩ | ⟨g', c', cur, hv, hb, hh, hnc, hcm, hcs, htake⟩
  · simp at hn
  · injection hv with ha hlen hc
    injection ha with ha
    injection ha with hg
    subst hg; subst hc
    exact ⟨by rw [cell_of_row W g _ cur e (0, 0) hh]; simp; omega, blk_frozen hh _⟩
theorem ledger_Entry_17.del_step {P : Program} {ops : Array Oper} {o : Oper} {a : Act} {Q : Exit → Act → World → Prop} {Kc : Act → World → Prop} {α : Type} {E : Prop} (d : Kd α) {w0 W : World} (base : Nat) (hg : o.guard = none) (s x : Operand) (t e : TypeId) (ho : o.op = .call { callee := .builtin .append, args := #[s, x], argTypes := #[t, t] })
    (ht : P.underlying t = some (.slice e)) (hinfo : (P.info? e).map (·.size) = some d.sz) {g n c k m c2 : Nat} {A : Option Addr} {xs : List α} {ok : Nat → Prop}
    (hs : a.eval s = .slice (some ⟨g, 0, none⟩) k c) (hx : a.eval x = .slice A m c2) (hA : A = if c = k + 1 then some ⟨g, 0, none⟩ else (some (⟨g, 0, none⟩ : Addr)).map (·.add ((k + 1) * d.sz))) (hm : m = n - (k + 1))
    (HO : d.R e W base ok (.slice (some ⟨g, 0, none⟩) n c) xs) (hk : k < n) (HB : Below base w0 W) (hbase : base ≤ W.heap.size)
    (h : ∀ w1, d.R e w1 base ok (.slice (some ⟨g, 0, none⟩) (n - 1) c) (xs.eraseIdx k) → Below base w0 w1 → W.grownBy w1 (some g) → Kc (a.put o.dst (.slice (some ⟨g, 0, none⟩) (n - 1) c)) w1) :
    if Region.wanted o (yielded ops a.tmps) = true then Oper.wp P o a W Kc Q else E := by
  have hw : Region.wanted o (yielded ops a.tmps) = true := by simp [Region.wanted, hg]
  have z := Kd.R_delete_step (P := P) (ops := ops) (Q := Q) (Kc := Kc) d base hw s x t e ho ht hinfo hs hx hA hm HO hk HB hbase h
  rw [if_pos hw] at z ⊢
  exact z
theorem ledger_Entry_17.cap {α : Type} {d : Kd α} {e : Nat} {W : World} {base : Nat} {ok : Nat → Prop} {g m c : Nat} {xs : List α} (HO : d.R e W base ok (.slice (some ⟨g, 0, none⟩) m c) xs) (h : True ∨ True) : c ≤ maxLen := by
  obtain ⟨hok, inner, ⟨hin, hor⟩, hr⟩ := HO
  rcases hor with ⟨hn, _⟩ | ⟨g', c', cur, hv, hb, hh, hnc, hcm, hcs, htake⟩
  · simp at hn
  · injection hv with ha hlen hc; subst hc; exact hcm
set_option maxHeartbeats 1600000 in
set_option maxRecDepth 100000 in
theorem ledger_Entry_17.calls (P0_ : Nat → Prop) (u9000_ : Value) (l0 : List (S35)) (a1 : Int) (a2 : Int) (r : List (S35)) (w0 w : World) (hB : Below w0.heap.size w0 w) (ho0 : Kd.R k35 35 w w0.heap.size P0_ u9000_ l0) (h : ledger_Entry_17.f l0 a1 a2 = some r) :
    Calls Try.prog 17 #[u9000_, .int .i64 a1, .int .i64 a2] w fun e w' => ∃ v0_ : Value, e = .returned (v0_) ∧ Kd.R k35 35 w' w0.heap.size (fun k_ => (P0_ k_ ∨ w.heap.size ≤ k_)) v0_ r ∧ Below w0.heap.size w0 w' ∧ Kept w w' (fun k_ => P0_ k_) := by
  unfold ledger_Entry_17.f at h
  split at h
  · split at h
    · split at h
      · rename_i h0 h1 h2
        obtain rfl := Option.some.inj h
        clear h
        subst h2
        obtain ⟨i, rfl⟩ := Int.eq_ofNat_of_zero_le h0
        have hi : i < l0.length := by omega
        obtain ⟨g, cap, rfl, hge, hgl, _⟩ := Kd.R_form ho0 (by omega)
        have hr := Kd.R_reads' ho0
        have hP : P0_ g := ho0.1 g (by simp [Value.ownBlock])
        have hcm : cap ≤ maxLen := ledger_Entry_17.cap ho0 (.inl trivial)
        generalize hn : l0.length = n at *
        have hcap : n ≤ cap := hr.2.1
        have hm : cap ≤ 9223372036854775807 := Nat.le_trans hcm (by decide)
        have HO := Aside0.mk ho0
        have HB := Aside0.mk hB
        clear ho0 hB
        rw [show (i : Int) + 1 = ((i + 1 : Nat) : Int) by omega]
        obtain ⟨j, hji⟩ : ∃ j, j = i + 1 := ⟨_, rfl⟩
        rw [← hji]
        have hj : j ≤ n := by omega
        have hij : i ≤ j := by omega
        have hne : ¬ ((i : Int) = (j : Int)) := by omega
        have hnm : n ≤ 9223372036854775807 := by omega
        have hic : i ≤ cap := by omega
        have hjc : j ≤ cap := by omega
        have hin : i ≤ n := by omega
        have mixed : Try.prog.follows Departure.mixedOrders = true := by kernel_rfl
        have t24 := Try.underlying24
        have t35 := Try.underlying35
        have HJ := Aside0.mk hji
        clear hji h0 h1 hr
        go_enter Try.func17, Try.ntmps17
        go_wp2_with fail
        go_region_law_o (refine ledger_Entry_17.del_step k35 (w0 := w0) w0.heap.size rfl (.tmp 22) (.tmp 25) 24 35 rfl Try.underlying24 (by kernel_rfl) (g := g) (n := n) (c := cap) (k := i) (m := n - j) (c2 := cap - j) (A := if cap = j then some ⟨g, 0, none⟩ else some ⟨g, j * 4, none⟩) (by simp [Act.eval, Act.put]) (by simp [Act.eval, Act.put]) (by rw [HJ.out]; first | rfl | (simp [Addr.add, show k35.sz = 4 from rfl]; done)) (by rw [HJ.out]) (by (with_reducible repeat (first | apply Kd.R_alloc | apply Kd.R_drewN | apply Kd.R_drew)); exact HO.out) hi (by repeat (first | (with_reducible first | exact HB.out | apply below_alloc | apply pw_below_drewN | apply below_drew1) | exact HB.out)) (Nat.le_of_lt (Nat.lt_of_le_of_lt hge hgl)) ?_; intro w1 ho hb hg)
        obtain ⟨m, hm1⟩ : ∃ m, n - 1 = m := ⟨_, rfl⟩
        rw [hm1] at ho ⊢
        obtain rfl : n = m + 1 := by omega
        clear hm1
        have HO2 := Aside0.mk ho
        have HB2 := Aside0.mk hb
        have HG := Aside0.mk hg
        have hcm' : ¬ cap = m := by omega
        have hmc : m ≤ cap := by omega
        have hz : (Builtin.zeroCells (Value.agg #[.int .i64 0, .int .i64 0, .int .i64 0, .int .i64 0]).cells 1).toList = [.int .i64 0, .int .i64 0, .int .i64 0, .int .i64 0] := by first | (decide +kernel) | kernel_rfl | (simp [Builtin.zeroCells, Value.cells])
        have hcl : ∀ ty, (Builtin.clear_ #[24] ty #[.slice (some ⟨g, m * 4, none⟩) 1 (cap - m)]).run Try.prog w1 = .ok (.tuple #[]) (w1.setCells g (m * 4) [.int .i64 0, .int .i64 0, .int .i64 0, .int .i64 0]) :=
          fun ty => ledger_Entry_17.clear_run w1 24 35 ty _ _ Try.underlying24 Try.zeroValue35 hz (by simp [Value.oneCell']) g (m * 4) (cap - m) (fun q hq => (ledger_Entry_17.cells HO2.out (m * 4 + q) (by have : q < 4 := hq; show _ < cap * 4; omega)).1) (fun q hq => (ledger_Entry_17.cells HO2.out (m * 4 + q) (by have : q < 4 := hq; show _ < cap * 4; omega)).2)
        clear ho hb hg HO HB
        have hg2 : w1.grownBy (w1.setCells g (m * 4) [.int .i64 0, .int .i64 0, .int .i64 0, .int .i64 0]) (some g) := by
          obtain ⟨s1, s2, s3, s4⟩ := setCells_same g [.int .i64 0, .int .i64 0, .int .i64 0, .int .i64 0] (m * 4) w1
          exact ⟨s1, s2, s3, by rw [s4]; exact Nat.le_refl _, fun k' _ hk' => setCells_far _ _ k' (fun he => hk' (by rw [he]))⟩
        have X1 := Aside0.mk (show k35.R 35 (w1.setCells g (m * 4) [.int .i64 0, .int .i64 0, .int .i64 0, .int .i64 0]) w0.heap.size (fun k_ => (P0_ k_ ∨ w.heap.size ≤ k_)) (.slice (some ⟨g, 0, none⟩) m cap) (l0.eraseIdx i) from Kd.R_mono (ok' := fun k_ => (P0_ k_ ∨ w.heap.size ≤ k_)) (ledger_Entry_17.R_clear [.int .i64 0, .int .i64 0, .int .i64 0, .int .i64 0] HO2.out (show (m + 1) * 4 ≤ cap * 4 by omega) rfl (.inr trivial)) (fun _ h_ => .inl h_))
        have X2 := Aside0.mk (HB2.out.grown hg2 (Nat.le_trans (Nat.le_of_lt (Nat.lt_of_le_of_lt hge hgl)) HG.out.size) (fun k hk => by injection hk with hk; subst hk; exact hge))
        have X3 := Aside0.mk (Kept.of_grown (S := fun k_ => P0_ k_) hg2 (Kept.of_grown (S := fun k_ => P0_ k_) HG.out (Kept.drew (Kept.refl w _)) (fun k hk => .inl (by injection hk with hk; subst hk; exact hP))) (fun k hk => .inl (by injection hk with hk; subst hk; exact hP)))
        clear hg2 HB2 HG HO2
        go_wp2
        all_goals (go_ret; first | exact ⟨_, rfl, X1.out, X2.out, X3.out⟩ | (have hcj : cap = j := (by assumption); subst hcj; exact ⟨_, rfl, X1.out, X2.out, X3.out⟩))
      · exact absurd h (by simp)
    · exact absurd h (by simp)
  · exact absurd h (by simp)


end Go.Proofs.Ytenhnlclnjnboaa.PAll
