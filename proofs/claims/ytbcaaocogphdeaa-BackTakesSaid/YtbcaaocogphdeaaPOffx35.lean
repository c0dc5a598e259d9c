-- Printed by this session's wip/myprint.py.
import Derived.Test.YtbcaaocogphdeaaPOffx0
namespace Go.Proofs.Ytbcaaocogphdeaa.POff
open Go.RowKit Go.Proofs.YtbcaaocogphdeaaW.PrintWords Go.Proofs.YtbcaaocogphdeaaW.PrintLast Go.Proofs.YtbcaaocogphdeaaW.PrintMore
attribute [local go_sem] max2_int min2_int max_two min_two max_three min_three max_four min_four   -- for this text's walks alone
set_option linter.unusedVariables false
set_option linter.unusedSimpArgs false

/-! ### api_Pay_49: function 49 -/
set_option maxHeartbeats 1000000 in
set_option maxRecDepth 100000 in
theorem idx_clo (gb : Nat) (f0 f1 f2 p0 p1 p2 p3 : Int) (w : World) (hbox : w.heap[gb]? = some (.cells #[.int .i64 f0, .int .i64 f1, .int .i64 f2] 39 (0, 0))) :
    Calls Try.prog 50 #[.agg #[.int .i64 p0, .int .i64 p1, .int .i64 p2, .int .i64 p3], .pointer (some ⟨gb, 0, none⟩)] w fun e w' => e = .returned (.bool (decide (p0 = f0 ∧ p1 = f1 ∧ f2 ≤ p2))) ∧ Below w.heap.size w w' := by
  generalize hr : decide (p0 = f0 ∧ p1 = f1 ∧ f2 ≤ p2) = r
  have HB := Aside0.mk (Below.refl w.heap.size w)
  have BX := Aside0.mk hbox
  clear hbox
  go_enter Try.func50, Try.ntmps50
  go_upto_region 1 with (first | ((with_reducible refine gate_dst (N := 2) rfl ?_); refine box_event ?hg (N := 2) ?hd (cs := #[.int .i64 p0, .int .i64 p1, .int .i64 p2, .int .i64 p3]) (t := 32) ?hr ?_; (case hd => rfl); (case hg => rfl); (case hr => first | (go_simp; done) | (go_simp; rfl)); intro g2 hg w2 hb2 hb; have n0_ := Aside0.mk (below_step HB.out hb); have n1_ := Aside0.mk (blk_below BX.out hb); clear HB BX; have HB := n0_; have BX := n1_; have BK := Aside0.mk hb2; clear n0_ n1_ hb hb2 hg))
  have a0 : w2.cell? ⟨g2, 0, none⟩ = some (.int .i64 p0) := (blk_cell BK.out 0).trans rfl
  have a1 : w2.cell? ⟨g2, 1, none⟩ = some (.int .i64 p1) := (blk_cell BK.out 1).trans rfl
  have a2 : w2.cell? ⟨g2, 2, none⟩ = some (.int .i64 p2) := (blk_cell BK.out 2).trans rfl
  have b0 : w2.cell? ⟨gb, 0, none⟩ = some (.int .i64 f0) := (blk_cell BX.out 0).trans rfl
  have b1 : w2.cell? ⟨gb, 1, none⟩ = some (.int .i64 f1) := (blk_cell BX.out 1).trans rfl
  have b2 : w2.cell? ⟨gb, 2, none⟩ = some (.int .i64 f2) := (blk_cell BX.out 2).trans rfl
  by_cases c0 : p0 = f0
  · have d0 : (p0 == f0) = true := by simp [c0]
    by_cases c1 : p1 = f1
    · have d1 : (p1 == f1) = true := by simp [c1]
      have e : r = decide (f2 ≤ p2) := by rw [← hr]; simp [c0, c1]
      clear hr
      subst e
      clear c0 c1
      go_wp2
      go_ret
      exact ⟨by first | rfl | simp, HB.out⟩
    · have d1 : (p1 == f1) = false := by simp [c1]
      have e : r = false := by rw [← hr]; simp [c1]
      clear hr
      subst e
      clear c0 c1
      go_wp2
      go_ret
      exact ⟨by first | rfl | simp, HB.out⟩
  · have d0 : (p0 == f0) = false := by simp [c0]
    have e : r = false := by rw [← hr]; simp [c0]
    clear hr
    subst e
    clear c0
    go_wp2
    go_ret
    exact ⟨by first | rfl | simp, HB.out⟩
def idx_hit (f0 f1 f2 : Int) (p : S32) : Bool := decide (p.f0 = f0 ∧ p.f1 = f1 ∧ f2 ≤ p.f2)
def idx_from (f0 f1 f2 : Int) : List S32 → Int → Int
  | [], _ => -1
  | p :: r, i => if idx_hit f0 f1 f2 p = true then i else idx_from f0 f1 f2 r (i + 1)
set_option maxHeartbeats 1000000 in
set_option maxRecDepth 100000 in
theorem idx_calls (gb : Nat) (f0 f1 f2 : Int) (A0 : Option Addr) (c0 : Nat) (l0 : List S32) (hl : l0.length ≤ 100000) (w : World) (hr0 : Kd.C k32 w A0 l0.length l0) (hbox : w.heap[gb]? = some (.cells #[.int .i64 f0, .int .i64 f1, .int .i64 f2] 39 (0, 0))) :
    Calls Try.prog 49 #[.slice A0 l0.length c0, .func (.func 50) #[] #[.pointer (some ⟨gb, 0, none⟩)]] w fun e w' => e = .returned (.int .i64 (idx_from f0 f1 f2 l0 0)) ∧ Below w.heap.size w w' := by
  have HR := Aside0.mk hr0
  have BX := Aside0.mk hbox
  have HN := Aside0.mk hl
  clear hr0 hbox hl
  go_enter Try.func49, Try.ntmps49
  go_wp2
  go_loopg [8] l0.length (fun kq v wr => ∃ x : Int, v = .int .i64 x ∧ Aside0 (0 ≤ x ∧ x + kq = l0.length) ∧ Aside0 (idx_from f0 f1 f2 (l0.drop x.toNat) x = idx_from f0 f1 f2 l0 0) ∧ Aside0 (Below w.heap.size w wr))
  case atStart => exact ⟨0, rfl, ⟨by simp, by simp⟩, ⟨rfl⟩, ⟨Below.refl _ _⟩⟩
  case round =>
    obtain ⟨x, rfl, HJ, HX, HB⟩ := hrel
    by_cases c : x < (l0.length : Int)
    · have HJ1 := HJ.out
      obtain ⟨kq, rfl⟩ : ∃ k', gk = k' + 1 := ⟨gk - 1, by omega⟩
      have HS := Aside0.mk (show idx_from f0 f1 f2 (l0.drop x.toNat) x = if idx_hit f0 f1 f2 (rd_T32 l0 x) = true then x else idx_from f0 f1 f2 (l0.drop (x + 1).toNat) (x + 1) by
        have e : l0.drop x.toNat = rd_T32 l0 x :: l0.drop (x + 1).toNat := by
          rw [List.drop_eq_getElem_cons (by omega), show (x + 1).toNat = x.toNat + 1 by omega]
          unfold rd_T32
          rw [List.getD_eq_getElem?_getD, List.getElem?_eq_getElem (by omega)]
          rfl
        rw [e]
        rfl)
      have hx1 : IntKind.i64.wrap (x + 1) = x + 1 := by rw [i64_w]; have := HN.out; unfold wrap64; omega
      have cb := decide_eq_true c
      have p1 := HJ1.1
      obtain ⟨ad, e1, hx_0, hx_1, hx_2, hx_3⟩ := at_T32 HR.out x p1 c
      clear HJ1
      cases e1
      replace hx_0 := (HB.out.cell (World.block_lt_of_cell? w _ hx_0)).trans hx_0
      replace hx_1 := (HB.out.cell (World.block_lt_of_cell? w _ hx_1)).trans hx_1
      replace hx_2 := (HB.out.cell (World.block_lt_of_cell? w _ hx_2)).trans hx_2
      replace hx_3 := (HB.out.cell (World.block_lt_of_cell? w _ hx_3)).trans hx_3
      replace p1 := eq_true p1
      replace c := eq_true c
      cases hh : idx_hit f0 f1 f2 (rd_T32 l0 x) with
      | true =>
        have HH := Aside0.mk hh
        clear hh
        go_wp2_with (go_at_call 50; refine (idx_clo gb f0 f1 f2 (rd_T32 l0 x).f0 (rd_T32 l0 x).f1 (rd_T32 l0 x).f2 (rd_T32 l0 x).f3 wr (blk_below BX.out HB.out)).mono ?_; rintro e w2 ⟨rfl, hb⟩; rw [show decide ((rd_T32 l0 x).f0 = f0 ∧ (rd_T32 l0 x).f1 = f1 ∧ f2 ≤ (rd_T32 l0 x).f2) = true from HH.out]; have HB2 := Aside0.mk (HB.out.trans (hb.mono (below_size HB.out))); clear HB hb; have HB := HB2; clear HB2)
        go_ret
        refine ⟨?_, HB.out⟩
        have e := HX.out
        rw [HS.out, if_pos HH.out] at e
        rw [← e]
        rfl
      | false =>
        have HH := Aside0.mk hh
        clear hh
        go_wp2_with (go_at_call 50; refine (idx_clo gb f0 f1 f2 (rd_T32 l0 x).f0 (rd_T32 l0 x).f1 (rd_T32 l0 x).f2 (rd_T32 l0 x).f3 wr (blk_below BX.out HB.out)).mono ?_; rintro e w2 ⟨rfl, hb⟩; rw [show decide ((rd_T32 l0 x).f0 = f0 ∧ (rd_T32 l0 x).f1 = f1 ∧ f2 ≤ (rd_T32 l0 x).f2) = false from HH.out]; have HB2 := Aside0.mk (HB.out.trans (hb.mono (below_size HB.out))); clear HB hb; have HB := HB2; clear HB2)
        go_roundg kq
        case measure => omega
        case rel => exact ⟨x + 1, (by first | with_reducible rfl | rw [hx1] | (simp only [i64_w]; rw [show wrap64 (x + 1) = x + 1 from (i64_w _).symm.trans hx1])), ⟨by have := HJ.out; omega, by have := HJ.out; omega⟩, ⟨by have e := HX.out; rw [HS.out, HH.out] at e; simpa using e⟩, HB⟩
    · have cb : decide (x < (l0.length : Int)) = false := decide_eq_false c
      obtain rfl : x = (l0.length : Int) := by have := HJ.out; omega
      have HV := HX.out
      rw [Int.toNat_natCast, List.drop_length] at HV
      clear c
      go_wp2
      go_ret
      exact ⟨by rw [← HV]; rfl, HB.out⟩
def api_Pay_49.f (l0 : List S32) (f0 f1 f2 : Int) : Option Int := if l0.length ≤ 100000 then some (idx_from f0 f1 f2 l0 0) else none
theorem api_Pay_49.calls (A0 : Option Addr) (c0 : Nat) (l0 : List S32) (gb : Nat) (f0 f1 f2 : Int) (r : Int) (w : World) (hr0 : Kd.C k32 w A0 l0.length l0) (hc0 : l0.length ≤ c0) (hbox : w.heap[gb]? = some (.cells #[.int .i64 f0, .int .i64 f1, .int .i64 f2] 39 (0, 0))) (h : api_Pay_49.f l0 f0 f1 f2 = some r) :
    Calls Try.prog 49 #[.slice A0 l0.length c0, .func (.func 50) #[] #[.pointer (some ⟨gb, 0, none⟩)]] w fun e w' => e = .returned (.int .i64 r) ∧ Below w.heap.size w w' := by
  unfold api_Pay_49.f at h
  by_cases c : l0.length ≤ 100000
  · rw [if_pos c] at h
    obtain rfl := Option.some.inj h
    exact idx_calls gb f0 f1 f2 A0 c0 l0 c w hr0 hbox
  · rw [if_neg c] at h
    exact absurd h (by simp)

end Go.Proofs.Ytbcaaocogphdeaa.POff
