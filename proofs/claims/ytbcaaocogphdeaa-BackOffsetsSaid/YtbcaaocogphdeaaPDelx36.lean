-- Printed by this session's wip/myprint.py.
import Derived.Test.YtbcaaocogphdeaaPDelx0
namespace Go.Proofs.Ytbcaaocogphdeaa.PDel
open Go.RowKit Go.Proofs.YtbcaaocogphdeaaW.PrintWords Go.Proofs.YtbcaaocogphdeaaW.PrintLast Go.Proofs.YtbcaaocogphdeaaW.PrintMore
attribute [local go_sem] max2_int min2_int max_two min_two max_three min_three max_four min_four   -- for this text's walks alone
set_option linter.unusedVariables false
set_option linter.unusedSimpArgs false

/-! ### api_Pay_28: function 28 -/
set_option maxHeartbeats 1000000 in
set_option maxRecDepth 100000 in
theorem api_Pay_28.clo (p0 p1 p2 p3 : Int) (w : World) :
    Calls Try.prog 29 #[.agg #[.int .i64 p0, .int .i64 p1, .int .i64 p2, .int .i64 p3]] w fun e w' => e = .returned (.bool (decide (p2 ≥ 0))) ∧ Below w.heap.size w w' := by
  have HB := Aside0.mk (Below.refl w.heap.size w)
  go_enter Try.func29, Try.ntmps29
  go_upto_region 1 with (first | ((with_reducible refine gate_dst (N := 1) rfl ?_); refine box_event ?hg (N := 1) ?hd (cs := #[.int .i64 p0, .int .i64 p1, .int .i64 p2, .int .i64 p3]) (t := 32) ?hr ?_; (case hd => rfl); (case hg => rfl); (case hr => first | (go_simp; done) | (go_simp; rfl)); intro g2 hg w2 hb2 hb; have n0_ := Aside0.mk (below_step HB.out hb); clear HB; have HB := n0_; have BK := Aside0.mk hb2; clear n0_ hb hb2 hg))
  have a2 : w2.cell? ⟨g2, 2, none⟩ = some (.int .i64 p2) := (blk_cell BK.out 2).trans rfl
  go_wp2
  go_ret
  exact ⟨by first | rfl | simp, HB.out⟩
def api_Pay_28.seek : List S32 → Int → Int
  | [], _ => -1
  | p :: r, i => if p.f2 ≥ 0 then i else api_Pay_28.seek r (i + 1)
set_option maxHeartbeats 1000000 in
set_option maxRecDepth 100000 in
theorem api_Pay_28.idx (A0 : Option Addr) (c0 : Nat) (l0 : List S32) (hl : l0.length ≤ 100000) (w : World) (hr0 : Kd.C k32 w A0 l0.length l0) :
    Calls Try.prog 49 #[.slice A0 l0.length c0, .func (.func 29) #[] #[]] w fun e w' => e = .returned (.int .i64 (api_Pay_28.seek l0 0)) ∧ Below w.heap.size w w' := by
  have HR := Aside0.mk hr0
  have HN := Aside0.mk hl
  clear hr0 hl
  go_enter Try.func49, Try.ntmps49
  go_wp2
  go_loopg [8] l0.length (fun kq v wr => ∃ x : Int, v = .int .i64 x ∧ Aside0 (0 ≤ x ∧ x + kq = l0.length) ∧ Aside0 (api_Pay_28.seek (l0.drop x.toNat) x = api_Pay_28.seek l0 0) ∧ Aside0 (Below w.heap.size w wr))
  case atStart => exact ⟨0, rfl, ⟨by simp, by simp⟩, ⟨rfl⟩, ⟨Below.refl _ _⟩⟩
  case round =>
    obtain ⟨x, rfl, HJ, HX, HB⟩ := hrel
    by_cases c : x < (l0.length : Int)
    · have HJ1 := HJ.out
      obtain ⟨kq, rfl⟩ : ∃ k', gk = k' + 1 := ⟨gk - 1, by omega⟩
      have HS := Aside0.mk (show api_Pay_28.seek (l0.drop x.toNat) x = if (rd_T32 l0 x).f2 ≥ 0 then x else api_Pay_28.seek (l0.drop (x + 1).toNat) (x + 1) by
        have e : l0.drop x.toNat = rd_T32 l0 x :: l0.drop (x + 1).toNat := by
          rw [List.drop_eq_getElem_cons (by omega), show (x + 1).toNat = x.toNat + 1 by omega]
          unfold rd_T32
          rw [List.getD_eq_getElem?_getD, List.getElem?_eq_getElem (by omega)]
          rfl
        rw [e]
        rfl)
      have hx1 : IntKind.i64.wrap (x + 1) = x + 1 := by rw [i64_w]; have := HN.out; unfold wrap64; omega
      have cb := decide_eq_true c
      have p1 := HJ1.1
      obtain ⟨ad, e1, hx_0, hx_1, hx_2, hx_3⟩ := at_T32 HR.out x p1 c
      clear HJ1
      cases e1
      replace hx_0 := (HB.out.cell (World.block_lt_of_cell? w _ hx_0)).trans hx_0
      replace hx_1 := (HB.out.cell (World.block_lt_of_cell? w _ hx_1)).trans hx_1
      replace hx_2 := (HB.out.cell (World.block_lt_of_cell? w _ hx_2)).trans hx_2
      replace hx_3 := (HB.out.cell (World.block_lt_of_cell? w _ hx_3)).trans hx_3
      replace p1 := eq_true p1
      replace c := eq_true c
      by_cases hh : (rd_T32 l0 x).f2 ≥ 0
      · have HH := Aside0.mk hh
        clear hh
        go_wp2_with (go_at_call 29; refine (api_Pay_28.clo (rd_T32 l0 x).f0 (rd_T32 l0 x).f1 (rd_T32 l0 x).f2 (rd_T32 l0 x).f3 wr).mono ?_; rintro e w2 ⟨rfl, hb⟩; rw [show decide ((rd_T32 l0 x).f2 ≥ 0) = true from decide_eq_true HH.out]; have HB2 := Aside0.mk (HB.out.trans (hb.mono (below_size HB.out))); clear HB hb; have HB := HB2; clear HB2)
        go_ret
        refine ⟨?_, HB.out⟩
        have e := HX.out
        rw [HS.out, if_pos HH.out] at e
        rw [← e]
        rfl
      · have HH := Aside0.mk hh
        clear hh
        go_wp2_with (go_at_call 29; refine (api_Pay_28.clo (rd_T32 l0 x).f0 (rd_T32 l0 x).f1 (rd_T32 l0 x).f2 (rd_T32 l0 x).f3 wr).mono ?_; rintro e w2 ⟨rfl, hb⟩; rw [show decide ((rd_T32 l0 x).f2 ≥ 0) = false from decide_eq_false HH.out]; have HB2 := Aside0.mk (HB.out.trans (hb.mono (below_size HB.out))); clear HB hb; have HB := HB2; clear HB2)
        go_roundg kq
        case measure => omega
        case rel => exact ⟨x + 1, (by first | with_reducible rfl | rw [Int.natCast_succ] | rw [hx1] | (simp only [i64_w]; rw [show wrap64 (x + 1) = x + 1 from (i64_w _).symm.trans hx1])), ⟨by have := HJ.out; omega, by have := HJ.out; omega⟩, ⟨by have e := HX.out; rw [HS.out, if_neg (by have := HH.out; omega)] at e; exact e⟩, HB⟩
    · have cb : decide (x < (l0.length : Int)) = false := decide_eq_false c
      obtain rfl : x = (l0.length : Int) := by have := HJ.out; omega
      have HV := HX.out
      rw [Int.toNat_natCast, List.drop_length] at HV
      clear c
      go_wp2
      go_ret
      exact ⟨by rw [← HV]; rfl, HB.out⟩
-- what it keeps
def api_Pay_28.keep (l : List S32) : List S32 := l.filter fun p => decide (p.f2 < 0)
theorem api_Pay_28.seek_lt : ∀ (l : List S32) (i : Int), (api_Pay_28.seek l i = -1 ∧ api_Pay_28.keep l = l ∧ (0 ≤ i → True)) ∨ ∃ (a : List S32) (p : S32) (b : List S32), l = a ++ p :: b ∧ api_Pay_28.seek l i = i + a.length ∧ api_Pay_28.keep a = a ∧ p.f2 ≥ 0
  | [], i => .inl ⟨rfl, rfl, fun _ => trivial⟩
  | p :: r, i => by
    unfold api_Pay_28.seek
    by_cases c : p.f2 ≥ 0
    · rw [if_pos c]
      exact .inr ⟨[], p, r, rfl, by simp, rfl, c⟩
    · rw [if_neg c]
      have k1 : api_Pay_28.keep (p :: r) = p :: api_Pay_28.keep r := by unfold api_Pay_28.keep; rw [List.filter_cons, if_pos (decide_eq_true (by omega))]
      rcases api_Pay_28.seek_lt r (i + 1) with ⟨h1, h2, _⟩ | ⟨a, q, b, e, h1, h2, h3⟩
      · exact .inl ⟨h1, by rw [k1, h2], fun _ => trivial⟩
      · refine .inr ⟨p :: a, q, b, by rw [e]; rfl, by rw [h1, List.length_cons]; omega, ?_, h3⟩
        unfold api_Pay_28.keep at h2 ⊢
        rw [List.filter_cons, if_pos (decide_eq_true (by omega)), h2]
open Go.Lib in
/-- clear over a tail of any length. -/
theorem api_Pay_28.clear_run {P : Program} (w : World) (t e ty : TypeId) (z : Value) (zs : List Value) (n : Nat) (ht : P.underlying t = some (.slice e)) (hv : ∀ w, (zeroValue e).run P w = .ok z w) (hz : (Builtin.zeroCells z.cells (n + 1)).toList = zs) (h1 : ∀ v ∈ zs, v.oneCell' = true) (b o c : Nat)
    (hc : ∀ j, j < zs.length → (w.cell? ⟨b, o + j, none⟩).isSome = true) (hf : ∀ j, j < zs.length → w.frozen? ⟨b, o + j, none⟩ = false) :
    (Builtin.clear_ #[t] ty #[.slice (some ⟨b, o, none⟩) (n + 1) c]).run P w = .ok (.tuple #[]) (w.setCells b o zs) := by
  have hst := run_storeCells_cells (P := P) b o zs 0 w (by simpa using hc) (by simpa using hf) h1
  simp only [Nat.add_zero] at hst
  simp [Builtin.clear_, run_underlying ht, hv, hz, hst]
theorem api_Pay_28.R_clear {α : Type} {d : Kd α} {e : Nat} {W : World} {base : Nat} {ok : Nat → Prop} {g m c : Nat} {xs : List α} (zs : List Value) (HO : d.R e W base ok (.slice (some ⟨g, 0, none⟩) m c) xs) (hfit : m * d.sz + zs.length ≤ c * d.sz) :
    d.R e (W.setCells g (m * d.sz) zs) base ok (.slice (some ⟨g, 0, none⟩) m c) xs := by
  obtain ⟨hok, inner, ⟨hin, hor⟩, hr⟩ := HO
  rcases hor with ⟨hn, _⟩ | ⟨g', c', cur, hv, hb, hh, hnc, hcm, hcs, htake⟩
  · simp at hn
  · injection hv with ha hlen hc
    injection ha with ha
    injection ha with hg
    subst hg; subst hc
    obtain ⟨cur', h3, h4, h5⟩ := setCells_row zs (m * d.sz) W cur hh (by rw [hcs]; exact hfit)
    have hfar : ∀ k', k' ≠ g → (W.setCells g (m * d.sz) zs).heap[k']? = W.heap[k']? := fun k' hk' => setCells_far zs _ k' hk'
    refine ⟨hok, inner, ⟨hin, .inr ⟨g, c, cur', by rw [hlen], hb, h3, hnc, hcm, by rw [h4, hcs], ?_⟩⟩, hr.imp_ (fun p q hp => d.M_move (fun k' hk' => hfar k' (fun he => hk'.2 (by rw [he]; simp [Value.ownBlock]))) hp)⟩
    have hle : m * d.sz ≤ cur.toList.length := by rw [Array.length_toList, hcs]; omega
    rw [h5, ← htake, ← hlen, List.append_assoc, List.take_append_of_le_length (by rw [List.length_take, Nat.min_eq_left hle]; exact Nat.le_refl _), List.take_take, Nat.min_self]
theorem api_Pay_28.cells {α : Type} {d : Kd α} {e : Nat} {W : World} {base : Nat} {ok : Nat → Prop} {g m c : Nat} {xs : List α} (HO : d.R e W base ok (.slice (some ⟨g, 0, none⟩) m c) xs) : c ≤ maxLen ∧ ∀ (q : Nat) (hq : q < c * d.sz), (W.cell? ⟨g, q, none⟩).isSome = true ∧ W.frozen? ⟨g, q, none⟩ = false := by
  obtain ⟨hok, inner, ⟨hin, hor⟩, hr⟩ := HO
  rcases hor with ⟨hn, _⟩ | ⟨g', c', cur, hv, hb, hh, hnc, hcm, hcs, htake⟩
  · simp at hn
  · injection hv with ha hlen hc
    injection ha with ha
    injection ha with hg
    subst hg; subst hc
    exact ⟨hcm, fun q hq => ⟨by rw [cell_of_row W g _ cur e (0, 0) hh]; simp; omega, blk_frozen hh _⟩⟩
def api_Pay_28.zs (n : Nat) : List Value := (Builtin.zeroCells (Value.agg #[.int .i64 0, .int .i64 0, .int .i64 0, .int .i64 0]).cells n).toList
theorem api_Pay_28.zs_cells : (Value.agg #[.int .i64 0, .int .i64 0, .int .i64 0, .int .i64 0]).cells = #[.int .i64 0, .int .i64 0, .int .i64 0, .int .i64 0] := by first | rfl | kernel_rfl | simp [Value.cells]
theorem api_Pay_28.zs_len (n : Nat) : (api_Pay_28.zs n).length = n * 4 := by
  unfold api_Pay_28.zs Builtin.zeroCells
  rw [api_Pay_28.zs_cells]
  simp
theorem api_Pay_28.zs_one (n : Nat) : ∀ v ∈ api_Pay_28.zs n, v.oneCell' = true := by
  unfold api_Pay_28.zs Builtin.zeroCells
  rw [api_Pay_28.zs_cells]
  intro v hv
  simp only [Array.toList_map, List.mem_map] at hv
  obtain ⟨q, _, rfl⟩ := hv
  have h4 : q % 4 = 0 ∨ q % 4 = 1 ∨ q % 4 = 2 ∨ q % 4 = 3 := by omega
  show (#[Value.int .i64 0, .int .i64 0, .int .i64 0, .int .i64 0][q % 4]!).oneCell' = true
  rcases h4 with h | h | h | h <;> rw [h] <;> rfl
def api_Pay_28.f (l0 : List S32) : Option (List S32) := if l0.length ≤ 100000 then some (api_Pay_28.keep l0) else none
set_option maxHeartbeats 4000000 in
set_option maxRecDepth 100000 in
theorem api_Pay_28.calls (P0_ : Nat → Prop) (u9000_ : Value) (l0 : List S32) (r : List S32) (w0 w : World) (hB : Below w0.heap.size w0 w) (ho0 : Kd.R k32 32 w w0.heap.size P0_ u9000_ l0) (h : api_Pay_28.f l0 = some r) :
    Calls Try.prog 28 #[u9000_, .func (.func 29) #[] #[]] w fun e w' => ∃ v0_ : Value, e = .returned (v0_) ∧ Kd.R k32 32 w' w0.heap.size (fun k_ => (P0_ k_ ∨ w.heap.size ≤ k_)) v0_ r ∧ Below w0.heap.size w0 w' ∧ Kept w w' (fun k_ => P0_ k_) := by
  unfold api_Pay_28.f at h
  split at h
  · rename_i hl
    obtain rfl := Option.some.inj h
    clear h
    have HN := Aside0.mk hl
    clear hl
    rcases api_Pay_28.seek_lt l0 0 with ⟨h1, h2, _⟩ | ⟨a, p, b, e, h1, h2, h3⟩
    · rw [h2]
      obtain ⟨A, c, rfl⟩ := Kd.R_slice ho0
      have hr := Kd.R_reads' ho0
      go_enter Try.func28, Try.ntmps28
      go_wp2_with (go_at_call 49; refine (api_Pay_28.idx A c l0 HN.out w hr.2.2).mono ?_; rintro e w1 ⟨rfl, hb⟩; rw [h1])
      go_ret
      exact ⟨_, rfl, Kd.R_mono (Kd.R_below ho0 hb) (fun _ h_ => .inl h_), hB.trans (hb.mono (below_size hB)), Kept.of_below hb _⟩
    · obtain ⟨g, cap, rfl, hge, hgl, _⟩ := Kd.R_form ho0 (by rw [e]; simp; omega)
      have hr := Kd.R_reads' ho0
      have hP : P0_ g := ho0.1 g (by simp [Value.ownBlock])
      have k0 : api_Pay_28.keep l0 = a ++ api_Pay_28.keep b := by
        rw [e]
        unfold api_Pay_28.keep at h2 ⊢
        rw [List.filter_append, h2, List.filter_cons, if_neg (by simp; omega)]
      have hlen : l0.length = a.length + 1 + b.length := by rw [e]; simp only [List.length_append, List.length_cons]; omega
      have HI := Aside0.mk (show l0.take a.length ++ api_Pay_28.keep (l0.drop (a.length + 1)) = api_Pay_28.keep l0 by
        rw [k0, e, List.take_append_of_le_length (Nat.le_refl _), List.take_length, show a ++ p :: b = (a ++ [p]) ++ b by simp, List.drop_append_of_le_length (by simp), List.drop_of_length_le (by simp)]; rfl)
      obtain ⟨n, hn⟩ : ∃ n, n = l0.length := ⟨_, rfl⟩
      have HLN := Aside0.mk hn.symm
      have hseek : api_Pay_28.seek l0 0 = (a.length : Int) := by rw [h1]; omega
      have HC := Aside0.mk hr.2.2
      have HO := Aside0.mk ho0
      have HB := Aside0.mk hB
      have HG := Aside0.mk (And.intro hge hP)
      have hcap := Aside0.mk (hn ▸ hr.2.1)
      have hneg : ((a.length : Int) == -1) = false := beq_eq_false_iff_ne.mpr (by omega)
      have hj1 : IntKind.i64.wrap ((a.length : Int) + 1) = ((a.length + 1 : Nat) : Int) := by rw [i64_w]; have := HN.out; unfold wrap64; omega
      obtain ⟨m, hm⟩ : ∃ m, m = a.length := ⟨_, rfl⟩
      have HM := Aside0.mk (show m + 1 ≤ n by omega)
      rw [← hm] at HI hseek hneg hj1
      rw [← hn] at HO HC ⊢
      clear h1 h2 h3 e hr k0 hlen ho0 hB hge hgl hP hm
      have HN2 := Aside0.mk (hn ▸ HN.out)
      have HID := Aside0.mk (api_Pay_28.idx (some ⟨g, 0, none⟩) cap l0 HN.out w (hn ▸ HC.out))
      rw [← hn, hseek] at HID
      clear hn HC hseek
      go_enter Try.func28, Try.ntmps28
      go_wp2_with (go_at_call 49; refine HID.out.mono ?_; rintro e w1 ⟨rfl, hb⟩; have HB1 := Aside0.mk (HB.out.trans (hb.mono (below_size HB.out))); have HO1 := Aside0.mk (Kd.R_below HO.out hb); have HK := Aside0.mk (Kept.of_below hb (fun k_ => P0_ k_)); clear HB HO hb HID; have HB := HB1; have HO := HO1; clear HB1 HO1)
      go_loopg [5, 6] n (fun kq v5 v6 wr => ∃ (xs : List S32) (i j : Nat), v5 = .int .i64 (i : Int) ∧ v6 = .int .i64 (j : Int) ∧ Aside0 (i < j ∧ j + kq = n + m + 1 ∧ j ≤ n) ∧ Aside0 (xs.length = n) ∧ Aside0 (xs.take i ++ api_Pay_28.keep (xs.drop j) = api_Pay_28.keep l0) ∧ Aside0 (Below w0.heap.size w0 wr) ∧ Aside0 (Kd.R k32 32 wr w0.heap.size P0_ (.slice (some ⟨g, 0, none⟩) n cap) xs) ∧ Aside0 (Kept w wr (fun k_ => P0_ k_)))
      case atStart => exact ⟨l0, m, m + 1, rfl, (by rw [Int.natCast_succ]), ⟨by have := HM.out; omega⟩, HLN, HI, HB, HO, HK⟩
      case round =>
        clear HI HB HO HK
        obtain ⟨xs, i, j, rfl, rfl, HJ, HX, HI, HB, HO, HK⟩ := hrel
        by_cases c : (j : Int) < (n : Int)
        · obtain ⟨kq, rfl⟩ : ∃ k', gk = k' + 1 := ⟨gk - 1, by have := HJ.out; omega⟩
          have hx1 : IntKind.i64.wrap ((j : Int) + 1) = ((j + 1 : Nat) : Int) := by rw [i64_w]; have := HN2.out; have := HJ.out; unfold wrap64; omega
          have hx2 : IntKind.i64.wrap ((i : Int) + 1) = ((i + 1 : Nat) : Int) := by rw [i64_w]; have := HN2.out; have := HJ.out; unfold wrap64; omega
          have cb := decide_eq_true c
          have HJC := Aside0.mk (show j < n by omega)
          obtain ⟨ad, e1, hx_0, hx_1, hx_2, hx_3⟩ := at_T32 (HX.out ▸ (Kd.R_reads' HO.out).2.2) (j : Int) (Int.natCast_nonneg _) c
          cases e1
          have p1 := eq_true (Int.natCast_nonneg j)
          replace c := eq_true c
          rw [Int.toNat_natCast] at hx_0 hx_1 hx_2 hx_3
          have hy_0 : wr.cell? ⟨g, j * 4, none⟩ = some (.int .i64 (rd_T32 xs (j : Int)).f0) := by have h := hx_0; simp only [Addr.add, Nat.zero_add, Int.toNat_natCast] at h; rw [if_neg (by have := HJ.out; omega)] at h; exact h
          have hy_1 : wr.cell? ⟨g, j * 4 + 1, none⟩ = some (.int .i64 (rd_T32 xs (j : Int)).f1) := by have h := hx_1; simp only [Addr.add, Nat.zero_add, Int.toNat_natCast] at h; rw [if_neg (by have := HJ.out; omega)] at h; exact h
          have hy_2 : wr.cell? ⟨g, j * 4 + 2, none⟩ = some (.int .i64 (rd_T32 xs (j : Int)).f2) := by have h := hx_2; simp only [Addr.add, Nat.zero_add, Int.toNat_natCast] at h; rw [if_neg (by have := HJ.out; omega)] at h; exact h
          have hy_3 : wr.cell? ⟨g, j * 4 + 3, none⟩ = some (.int .i64 (rd_T32 xs (j : Int)).f3) := by have h := hx_3; simp only [Addr.add, Nat.zero_add, Int.toNat_natCast] at h; rw [if_neg (by have := HJ.out; omega)] at h; exact h
          clear hx_0 hx_1 hx_2 hx_3
          go_upto_region 8 with (first | ((with_reducible refine gate_dst (N := 7) rfl ?_); refine box_event ?hg (N := 7) ?hd (cs := #[.int .i64 0, .int .i64 0, .int .i64 0, .int .i64 0]) (t := 32) ?hr ?_; (case hd => rfl); (case hg => rfl); (case hr => first | (go_simp; done) | (go_simp; rfl)); intro gb hg wb hbox hb; have n0_ := Aside0.mk (below_step (by repeat (first | (with_reducible first | exact HB.out | apply below_alloc | apply pw_below_drewN | apply below_drew1) | exact HB.out)) hb); have nHO_ := Aside0.mk (Kd.R_below (Kd.R_elderB HO.out gb (Nat.le_of_eq hg.symm)) hb); have nHK_ := Aside0.mk (Kept.below HK.out hb); have GE := Aside0.mk (show w0.heap.size ≤ gb by rw [hg]; exact below_size HB.out); have GW := Aside0.mk (show w.heap.size ≤ gb by rw [hg]; exact HK.out.1); clear HB; have HB := n0_; clear n0_; clear HO; have HO := nHO_; clear nHO_; clear HK; have HK := nHK_; clear nHK_; have BK := Aside0.mk hbox; clear hb hbox hg; have hcz_0 : wb.cell? ⟨gb, 0, none⟩ = some (.int .i64 0) := (blk_cell BK.out 0).trans rfl; have hfz_0 := blk_frozen BK.out 0; have hcz_1 : wb.cell? ⟨gb, 1, none⟩ = some (.int .i64 0) := (blk_cell BK.out 1).trans rfl; have hfz_1 := blk_frozen BK.out 1; have hcz_2 : wb.cell? ⟨gb, 2, none⟩ = some (.int .i64 0) := (blk_cell BK.out 2).trans rfl; have hfz_2 := blk_frozen BK.out 2; have hcz_3 : wb.cell? ⟨gb, 3, none⟩ = some (.int .i64 0) := (blk_cell BK.out 3).trans rfl; have hfz_3 := blk_frozen BK.out 3))
          (try simp only [Act.put, List.setIfInBounds_toArray, List.set_cons_zero, List.set_cons_succ])
          have BK1 := Aside0.mk (blk_put (blk_put (blk_put (blk_put BK.out 0 (.int .i64 (rd_T32 xs (j : Int)).f0) rfl) 1 (.int .i64 (rd_T32 xs (j : Int)).f1) rfl) 2 (.int .i64 (rd_T32 xs (j : Int)).f2) rfl) 3 (.int .i64 (rd_T32 xs (j : Int)).f3) rfl)
          have HB1 := Aside0.mk (below_set (j := 3) (v := .int .i64 (rd_T32 xs (j : Int)).f3) (below_set (j := 2) (v := .int .i64 (rd_T32 xs (j : Int)).f2) (below_set (j := 1) (v := .int .i64 (rd_T32 xs (j : Int)).f1) (below_set (j := 0) (v := .int .i64 (rd_T32 xs (j : Int)).f0) HB.out GE.out) GE.out) GE.out) GE.out)
          have HO1 := Aside0.mk (Kd.R_far (p := ⟨gb, 3, none⟩) (Kd.R_far (p := ⟨gb, 2, none⟩) (Kd.R_far (p := ⟨gb, 1, none⟩) (Kd.R_far (p := ⟨gb, 0, none⟩) HO.out (fun _ hk => hk.2) (.int .i64 (rd_T32 xs (j : Int)).f0)) (fun _ hk => hk.2) (.int .i64 (rd_T32 xs (j : Int)).f1)) (fun _ hk => hk.2) (.int .i64 (rd_T32 xs (j : Int)).f2)) (fun _ hk => hk.2) (.int .i64 (rd_T32 xs (j : Int)).f3))
          have HK1 := Aside0.mk (Kept.setCell (p := ⟨gb, 3, none⟩) (Kept.setCell (p := ⟨gb, 2, none⟩) (Kept.setCell (p := ⟨gb, 1, none⟩) (Kept.setCell (p := ⟨gb, 0, none⟩) HK.out (.inr GW.out) (.int .i64 (rd_T32 xs (j : Int)).f0)) (.inr GW.out) (.int .i64 (rd_T32 xs (j : Int)).f1)) (.inr GW.out) (.int .i64 (rd_T32 xs (j : Int)).f2)) (.inr GW.out) (.int .i64 (rd_T32 xs (j : Int)).f3))
          clear BK HB HO HK hcz_0 hcz_1 hcz_2 hcz_3 hfz_0 hfz_1 hfz_2 hfz_3 hy_0 hy_1 hy_2 hy_3 GE GW
          have BK := BK1
          clear BK1
          have HB := HB1
          clear HB1
          have HO := HO1
          clear HO1
          have HK := HK1
          clear HK1
          generalize (World.setCell (World.setCell (World.setCell (World.setCell wb _ _) _ _) _ _) _ _) = ws at BK HB HO HK ⊢
          have hb_0 : ws.cell? ⟨gb, 0, none⟩ = some (.int .i64 (rd_T32 xs (j : Int)).f0) := (blk_cell BK.out 0).trans rfl
          have hb_1 : ws.cell? ⟨gb, 1, none⟩ = some (.int .i64 (rd_T32 xs (j : Int)).f1) := (blk_cell BK.out 1).trans rfl
          have hb_2 : ws.cell? ⟨gb, 2, none⟩ = some (.int .i64 (rd_T32 xs (j : Int)).f2) := (blk_cell BK.out 2).trans rfl
          have hb_3 : ws.cell? ⟨gb, 3, none⟩ = some (.int .i64 (rd_T32 xs (j : Int)).f3) := (blk_cell BK.out 3).trans rfl
          have HD1 := Aside0.mk (show xs.drop j = rd_T32 xs (j : Int) :: xs.drop (j + 1) by rw [List.drop_eq_getElem_cons (by have := HX.out; have := HJC.out; omega)]; unfold rd_T32; rw [Int.toNat_natCast, List.getD_eq_getElem?_getD, List.getElem?_eq_getElem (by have := HX.out; have := HJC.out; omega)]; rfl)
          by_cases cn : (rd_T32 xs (j : Int)).f2 ≥ 0
          · have HS1 := Aside0.mk (show xs.take i ++ api_Pay_28.keep (xs.drop (j + 1)) = api_Pay_28.keep l0 by have h := HI.out; rw [HD1.out] at h; unfold api_Pay_28.keep at h ⊢; rw [List.filter_cons, if_neg (by simp; omega)] at h; exact h)
            have HCN := Aside0.mk cn
            clear cn HD1 HI
            go_wp2_with (go_at_call 29; refine (api_Pay_28.clo (rd_T32 xs (j : Int)).f0 (rd_T32 xs (j : Int)).f1 (rd_T32 xs (j : Int)).f2 (rd_T32 xs (j : Int)).f3 ws).mono ?_; rintro e w2 ⟨rfl, hb⟩; rw [show decide ((rd_T32 xs (j : Int)).f2 ≥ 0) = true from decide_eq_true HCN.out]; have HB1 := Aside0.mk (HB.out.trans (hb.mono (below_size HB.out))); have HO1 := Aside0.mk (Kd.R_below HO.out hb); have HK1 := Aside0.mk (Kept.below HK.out hb); have BK1 := Aside0.mk (blk_below BK.out hb); clear HB HO HK BK hb_0 hb_1 hb_2 hb_3 hb; have HB := HB1; have HO := HO1; have HK := HK1; have BK := BK1; clear HB1 HO1 HK1 BK1)
            go_roundg kq
            case measure => omega
            case rel => exact ⟨xs, i, j + 1, (by first | with_reducible rfl | rw [hx2]), (by first | with_reducible rfl | rw [Int.natCast_succ] | rw [hx1] | (simp only [i64_w]; rw [show wrap64 ((j : Int) + 1) = ((j + 1 : Nat) : Int) from (i64_w _).symm.trans hx1])), ⟨by have := HJ.out; have := HJC.out; omega⟩, HX, HS1, HB, ⟨Kd.R_mono HO.out (fun _ h => h.1)⟩, HK⟩
          · have HCN := Aside0.mk cn
            clear cn
            have HS1 := Aside0.mk (show (xs.set i (rd_T32 xs (j : Int))).take (i + 1) ++ api_Pay_28.keep ((xs.set i (rd_T32 xs (j : Int))).drop (j + 1)) = api_Pay_28.keep l0 by
              have h := HI.out
              have hi : i < xs.length := by have := HX.out; have := HJ.out; have := HJC.out; omega
              rw [HD1.out] at h; unfold api_Pay_28.keep at h ⊢; rw [List.filter_cons, if_pos (decide_eq_true (by have := HCN.out; omega))] at h
              rw [List.drop_set_of_lt (by have := HJ.out; omega), List.take_add_one, List.take_set_of_le (Nat.le_refl _), List.getElem?_set_self hi, ← h, List.append_assoc]; rfl)
            clear HD1 HI
            go_upto_region 9 with (go_at_call 29; refine (api_Pay_28.clo (rd_T32 xs (j : Int)).f0 (rd_T32 xs (j : Int)).f1 (rd_T32 xs (j : Int)).f2 (rd_T32 xs (j : Int)).f3 ws).mono ?_; rintro e w2 ⟨rfl, hb⟩; rw [show decide ((rd_T32 xs (j : Int)).f2 ≥ 0) = false from decide_eq_false HCN.out]; have HB1 := Aside0.mk (HB.out.trans (hb.mono (below_size HB.out))); have HO1 := Aside0.mk (Kd.R_below HO.out hb); have HK1 := Aside0.mk (Kept.below HK.out hb); have BK1 := Aside0.mk (blk_below BK.out hb); clear HB HO HK BK hb_0 hb_1 hb_2 hb_3 hb; have HB := HB1; have HO := HO1; have HK := HK1; have BK := BK1; clear HB1 HO1 HK1 BK1)
            (try simp only [Act.put, List.setIfInBounds_toArray, List.set_cons_zero, List.set_cons_succ])
            have hb_0 : w2.cell? ⟨gb, 0, none⟩ = some (.int .i64 (rd_T32 xs (j : Int)).f0) := (blk_cell BK.out 0).trans rfl
            have hb_1 : w2.cell? ⟨gb, 1, none⟩ = some (.int .i64 (rd_T32 xs (j : Int)).f1) := (blk_cell BK.out 1).trans rfl
            have hb_2 : w2.cell? ⟨gb, 2, none⟩ = some (.int .i64 (rd_T32 xs (j : Int)).f2) := (blk_cell BK.out 2).trans rfl
            have hb_3 : w2.cell? ⟨gb, 3, none⟩ = some (.int .i64 (rd_T32 xs (j : Int)).f3) := (blk_cell BK.out 3).trans rfl
            obtain ⟨cs, hcl, _, hcc, _⟩ := Kd.R_elem HO.out z32 (i : Int) (Int.natCast_nonneg _) (by have := HJ.out; omega)
            have HCC := Aside0.mk hcc
            clear hcc
            have ci := eq_true (show (i : Int) < (n : Int) by have := HJ.out; omega)
            have pi := eq_true (Int.natCast_nonneg i)
            go_wp2_with (refine Kd.R_store k32 (w0 := w0) w0.heap.size rfl rfl 32 (.tmp 33) (.tmp 32) rfl 32 (g := g) (n := n) (cap := cap) (i : Int) 0 xs (rd_T32 xs (j : Int)) (.agg #[.int .i64 (rd_T32 xs (j : Int)).f0, .int .i64 (rd_T32 xs (j : Int)).f1, .int .i64 (rd_T32 xs (j : Int)).f2, .int .i64 (rd_T32 xs (j : Int)).f3]) [.int .i64 (rd_T32 xs (j : Int)).f0, .int .i64 (rd_T32 xs (j : Int)).f1, .int .i64 (rd_T32 xs (j : Int)).f2, .int .i64 (rd_T32 xs (j : Int)).f3] cs (fun k => P0_ k ∧ k ≠ gb) (fun _ => False) rfl (by rw [Int.toNat_natCast]; rfl) rfl rfl (by kernel_rfl) (by simp [Value.oneCell']) HO.out (Int.natCast_nonneg _) (by have := HJ.out; have := HJC.out; omega) hcl HCC.out (by show 0 + 4 ≤ 4; omega) (by rw [List.take_zero, List.drop_of_length_le (by rw [hcl]; show 4 ≤ 0 + 4; omega), List.nil_append, List.append_nil]; exact k32_mkM _ _ _ (rd_T32 xs (j : Int))) (fun _ hk => hk.elim) HB.out ?_; intro w3 hov hbv hgr; have HK1 := Aside0.mk (Kept.of_grown hgr HK.out (fun k e_ => .inl ((Option.some.inj e_) ▸ HG.out.2))); have HO1 := Aside0.mk hov; have HB1 := Aside0.mk hbv; clear HO HB HK BK hb_0 hb_1 hb_2 hb_3 hov hbv hgr; have HO := HO1; have HB := HB1; have HK := HK1; clear HO1 HB1 HK1)
            go_roundg kq
            case measure => omega
            case rel => exact ⟨xs.set i (rd_T32 xs (j : Int)), i + 1, j + 1, (by first | with_reducible rfl | rw [Int.natCast_succ] | rw [hx2]), (by first | with_reducible rfl | rw [Int.natCast_succ] | rw [hx1]), ⟨by have := HJ.out; have := HJC.out; omega⟩, ⟨by rw [List.length_set]; exact HX.out⟩, HS1, HB, ⟨Kd.R_mono HO.out (fun _ h => h.1)⟩, HK⟩
        · have hd : xs.drop j = [] := List.drop_of_length_le (by have := HX.out; have := HJ.out; omega)
          have HT := Aside0.mk (show xs.take i = api_Pay_28.keep l0 by have h := HI.out; rw [hd] at h; simpa [api_Pay_28.keep] using h)
          have cb : decide ((j : Int) < (n : Int)) = false := decide_eq_false c
          have hin : i ≤ n := by have := HJ.out; omega
          have hnc := hcap.out
          have hic : i ≤ cap := by omega
          have hci : ¬ cap = i := by have := HJ.out; omega
          have hcm := (api_Pay_28.cells HO.out).1
          have hcm2 : cap ≤ 9223372036854775807 := Nat.le_trans hcm (by decide)
          have hnm : n ≤ 9223372036854775807 := by omega
          obtain ⟨q, hq⟩ : ∃ q, n - i = q + 1 := ⟨n - i - 1, by have := HJ.out; omega⟩
          have hfit : i * 4 + (api_Pay_28.zs (n - i)).length ≤ cap * 4 := by rw [api_Pay_28.zs_len]; omega
          have HCL := Aside0.mk (show ∀ ty, (Builtin.clear_ #[24] ty #[.slice (some ⟨g, i * 4, none⟩) (n - i) (cap - i)]).run Try.prog wr = .ok (.tuple #[]) (wr.setCells g (i * 4) (api_Pay_28.zs (n - i))) by
            rw [hq]
            exact fun ty => api_Pay_28.clear_run wr 24 32 ty _ _ q Try.underlying24 Try.zeroValue32 rfl (api_Pay_28.zs_one _) g (i * 4) (cap - i) (fun t ht => ((api_Pay_28.cells HO.out).2 (i * 4 + t) (by rw [← hq] at ht; have ht : t < (api_Pay_28.zs (n - i)).length := ht; show _ < cap * 4; omega)).1) (fun t ht => ((api_Pay_28.cells HO.out).2 (i * 4 + t) (by rw [← hq] at ht; have ht : t < (api_Pay_28.zs (n - i)).length := ht; show _ < cap * 4; omega)).2))
          have hg2 : wr.grownBy (wr.setCells g (i * 4) (api_Pay_28.zs (n - i))) (some g) := by
            obtain ⟨s1, s2, s3, s4⟩ := setCells_same g (api_Pay_28.zs (n - i)) (i * 4) wr
            exact ⟨s1, s2, s3, by rw [s4]; exact Nat.le_refl _, fun k' _ hk' => setCells_far _ _ k' (fun he => hk' (by rw [he]))⟩
          have X1 := Aside0.mk (show Kd.R k32 32 (wr.setCells g (i * 4) (api_Pay_28.zs (n - i))) w0.heap.size (fun k_ => (P0_ k_ ∨ w.heap.size ≤ k_)) (.slice (some ⟨g, 0, none⟩) i cap) (api_Pay_28.keep l0) from HT.out ▸ Kd.R_mono (api_Pay_28.R_clear _ (Kd.R_take HO.out (show i ≤ xs.length by have := HX.out; omega)) hfit) (fun _ h_ => .inl h_))
          have X2 := Aside0.mk (HB.out.grown hg2 (below_size HB.out) (fun k hk => by injection hk with hk; subst hk; exact HG.out.1))
          have X3 := Aside0.mk (Kept.of_grown (S := fun k_ => P0_ k_) hg2 HK.out (fun k hk => .inl (by injection hk with hk; subst hk; exact HG.out.2)))
          have t24 := Try.underlying24
          have t32 := Try.underlying32
          have hcl := HCL.out
          clear HB HO HK HI HT hg2 hd hq hfit HCL hcm
          go_wp2
          all_goals (go_ret; exact ⟨_, rfl, X1.out, X2.out, X3.out⟩)
  · exact absurd h (by simp)

end Go.Proofs.Ytbcaaocogphdeaa.PDel
