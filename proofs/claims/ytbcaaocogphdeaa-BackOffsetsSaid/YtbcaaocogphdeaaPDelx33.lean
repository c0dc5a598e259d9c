-- Printed by this session's wip/myprint.py.
import Derived.Test.YtbcaaocogphdeaaPDelx0
import Derived.Test.YtbcaaocogphdeaaPDelx4
import Derived.Test.YtbcaaocogphdeaaPDelx28
namespace Go.Proofs.Ytbcaaocogphdeaa.PDel
open Go.RowKit Go.Proofs.YtbcaaocogphdeaaW.PrintWords Go.Proofs.YtbcaaocogphdeaaW.PrintLast Go.Proofs.YtbcaaocogphdeaaW.PrintMore
attribute [local go_sem] max2_int min2_int max_two min_two max_three min_three max_four min_four   -- for this text's walks alone
set_option linter.unusedVariables false
set_option linter.unusedSimpArgs false

/-! ### back_Offsets: function 27 -/
section
open Go.Maps
def back_Offsets.upd (M : Int → Int) (k v : Int) : Int → Int := fun j => if j = k then v else M j
/-- Block b is a map of at most n entries from int to int that holds M. -/
def back_Offsets.OM (W : World) (b n : Nat) (M : Int → Int) : Prop := ∃ D : DataW Unit, W.ownsMap Try.prog 3 (plainElem Try.prog 3) b n D ∧ IsMap D ∧ ∀ k, isI64 k = true → D.atKey (.int .i64 k) (.lit (.int .i64 0)) = .lit (.int .i64 (M k))
theorem back_Offsets.kd3 : Keyed Try.prog 3 := int_keyed Try.underlying3
theorem back_Offsets.zero3 (w : World) : (zeroValue 3).run Try.prog w = .ok (.int .i64 0) w := by kernel_rfl
theorem back_Offsets.key3 {k : Int} (h : isI64 k = true) : keyOf Try.prog 3 (.int .i64 k) = some (.int .i64 k) := keyOf_int_mk Try.underlying3 (isI64_wf h)
theorem back_Offsets.OM_made (w : World) : back_Offsets.OM (w.alloc (Obj.map #[] 0)) w.heap.size 0 (fun _ => 0) :=
  ⟨.map [], World.ownsMap_made (H := Unit) w Try.prog 3 (plainElem Try.prog 3), ⟨[], rfl⟩, fun k _ => rfl⟩
theorem back_Offsets.OM_below {W W' : World} {b n : Nat} {M : Int → Int} (h : back_Offsets.OM W b n M) (hb : Below W.heap.size W W') : back_Offsets.OM W' b n M := by
  obtain ⟨D, ho, h1, h2⟩ := h
  exact ⟨D, corr_owns ho hb, h1, h2⟩
theorem back_Offsets.OM_lt {W : World} {b n : Nat} {M : Int → Int} (h : back_Offsets.OM W b n M) : b < W.heap.size := by
  obtain ⟨D, ho, _⟩ := h
  exact ho.lt
theorem back_Offsets.OM_set {W : World} {b n : Nat} {M : Int → Int} (h : back_Offsets.OM W b n M) {g : Nat} (hne : b ≠ g) (j : Nat) (v : Value) : back_Offsets.OM (W.setCell ⟨g, j, none⟩ v) b n M := by
  obtain ⟨D, ho, h1, h2⟩ := h
  exact ⟨D, ho.setCell (a := ⟨g, j, none⟩) hne v, h1, h2⟩
theorem back_Offsets.OM_grown {W W' : World} {b n : Nat} {M : Int → Int} (h : back_Offsets.OM W b n M) {row : Option Nat} (hg : W.grownBy W' row) (hne : some b ≠ row) : back_Offsets.OM W' b n M := by
  obtain ⟨D, ⟨es, clock, he, h3⟩, h1, h2⟩ := h
  exact ⟨D, ⟨es, clock, (hg.block b (Array.getElem?_eq_some_iff.1 he).1 hne).trans he, h3⟩, h1, h2⟩
theorem back_Offsets.look {w : World} {ops : Array Oper} {rest : List Oper} {o : Oper} {a : Act} {Q : Exit → Act → World → Prop} (hg : o.guard = none) (m x : Operand) (hop : o.op = Op.lookup 83 m x false) (b n : Nat) (M : Int → Int) (hm : a.eval m = .map (some b)) (hO : back_Offsets.OM w b n M) (k : Int) (hx : a.eval x = .int .i64 k) (hk : isI64 k = true)
    (hK : wpList Try.prog ops Q rest (a.put o.dst (.int .i64 (M k))) w) : wpList Try.prog ops Q (o :: rest) a w := by
  obtain ⟨D, ho, h1, h2⟩ := hO
  refine wpList_lookup_own_int w hg m x 83 hop 3 3 .i64 back_Offsets.kd3 Try.underlying83 Try.underlying3 (back_Offsets.zero3 w) b n D hm ho _ _ hx (back_Offsets.key3 hk) ?_
  intro c hat _
  rw [h2 k hk] at hat
  have : M k = c := by injection hat with e; injection e
  rw [← this]; exact hK
theorem back_Offsets.put {w : World} {ops : Array Oper} {rest : List Oper} {o : Oper} {a : Act} {Q : Exit → Act → World → Prop} (hg : o.guard = none) (m x v : Operand) (hop : o.op = Op.mapUpdate 83 m x v) (b n : Nat) (M : Int → Int) (hm : a.eval m = .map (some b)) (hO : back_Offsets.OM w b n M) (hn : n < maxLen) (k y : Int) (hx : a.eval x = .int .i64 k) (hv : a.eval v = .int .i64 y) (hk : isI64 k = true) (hy : isI64 y = true)
    (hK : ∀ w', back_Offsets.OM w' b (n + 1) (back_Offsets.upd M k y) → w.grownBy w' (some b) → wpList Try.prog ops Q rest (a.put o.dst undef) w') : wpList Try.prog ops Q (o :: rest) a w := by
  obtain ⟨D, ho, h1, h2⟩ := hO
  refine wpList_mapUpdate_own w hg m x v 83 hop 3 3 back_Offsets.kd3 Try.underlying83 (plainElem Try.prog 3) b n D hm ho hn _ _ _ hx hv (back_Offsets.key3 hk) _ [] (corr_elem hy) ?_
  intro w' ho' hgr
  have hkl : WideAt.IsKeyLit (.int .i64 k) := back_Offsets.kd3.key (back_Offsets.key3 hk)
  refine hK w' ⟨_, ho', h1.put _ _, fun j hj => ?_⟩ hgr
  unfold back_Offsets.upd
  by_cases e : j = k
  · subst e; rw [if_pos rfl, atKey_put_same h1 hkl]
  · rw [if_neg e, atKey_put_other (fun z => e (by injection z)), h2 j hj]
end
/-- What is open of the claims, by party. -/
def back_Offsets.rest : List S32 → (Int → Int) → (Int → Int)
  | [], M => M
  | c :: r, M => back_Offsets.rest r (if c.f2 < 0 then back_Offsets.upd M c.f0 (wrap64 (M c.f0 - c.f2)) else M)
def back_Offsets.part (lim : Int) (p : S32) (M : Int → Int) : Int := mn (mn lim (mx p.f2 0)) (M p.f0)
/-- Payment by payment: what is taken. -/
def back_Offsets.go (lim : Int) : List S32 → (Int → Int) → (Int → Int) → List S39 → List S39 × (Int → Int)
  | [], _, T, out => (out, T)
  | p :: r, M, T, out => if back_Offsets.part lim p M > 0 then back_Offsets.go lim r (back_Offsets.upd M p.f0 (wrap64 (M p.f0 - back_Offsets.part lim p M))) (back_Offsets.upd T p.f0 (wrap64 (T p.f0 + back_Offsets.part lim p M))) (out ++ [⟨p.f0, p.f1, back_Offsets.part lim p M⟩]) else back_Offsets.go lim r M T out
/-- Claim by claim: what is left. -/
def back_Offsets.left : List S32 → (Int → Int) → List S32 → List S32
  | [], _, out => out
  | c :: r, T, out => if c.f2 ≥ 0 then back_Offsets.left r T out else
    if wrap64 (c.f2 + mn (wrap64 (-c.f2)) (T c.f0)) < 0 then back_Offsets.left r (back_Offsets.upd T c.f0 (wrap64 (T c.f0 - mn (wrap64 (-c.f2)) (T c.f0)))) (out ++ [⟨c.f0, c.f1, wrap64 (c.f2 + mn (wrap64 (-c.f2)) (T c.f0)), c.f3⟩])
    else back_Offsets.left r (back_Offsets.upd T c.f0 (wrap64 (T c.f0 - mn (wrap64 (-c.f2)) (T c.f0)))) out
theorem back_Offsets.key_at {l : List S32} (h : corr_wf l = true) (x : Int) (h0 : 0 ≤ x) (h1 : x < l.length) : isI64 (rd_T32 l x).f0 = true ∧ isI64 (rd_T32 l x).f1 = true := by
  have := corr_key_at h x h0 h1
  unfold wfK at this
  simpa using this
theorem back_Offsets.drop_at (l : List S32) (x : Int) (h0 : 0 ≤ x) (h1 : x < l.length) : l.drop x.toNat = rd_T32 l x :: l.drop (x + 1).toNat := by
  rw [List.drop_eq_getElem_cons (by omega), show (x + 1).toNat = x.toNat + 1 by omega]
  unfold rd_T32
  rw [List.getD_eq_getElem?_getD, List.getElem?_eq_getElem (by omega)]
  rfl
theorem back_Offsets.OM_more {W : World} {b n n' : Nat} {M : Int → Int} (h : back_Offsets.OM W b n M) (hn : n ≤ n') : back_Offsets.OM W b n' M := by
  obtain ⟨D, ho, h1, h2⟩ := h
  exact ⟨D, ho.mono hn, h1, h2⟩
theorem back_Offsets.info39 : (Try.prog.info? 39).map (fun i => (i.zero, i.size, i.bytes)) = some (some (.agg #[(.int .i64 0), (.int .i64 0), (.int .i64 0)]), 3, 24) := by kernel_rfl
-- WALK
set_option maxHeartbeats 4000000 in
set_option maxRecDepth 100000 in
theorem back_Offsets.good (k : Nat) (A0 : Option Addr) (c0 : Nat) (l0 : List S32) (A1 : Option Addr) (c1 : Nat) (l1 : List S32) (a2 : Int) (w : World) (hr0 : Kd.C k32 w A0 l0.length l0) (hc0 : l0.length ≤ c0) (hr1 : Kd.C k32 w A1 l1.length l1) (hc1 : l1.length ≤ c1)
    (h0 : back_Check.f k l0 = some 0) (h1 : back_Check.f k l1 = some 0) (hd1 : ¬ a2 < 0) (hw0 : corr_wf l0 = true) (hw1 : corr_wf l1 = true) (hl0 : l0.length ≤ 1000) (hl1 : l1.length ≤ 1000) (r1 : List S39) (T1 : Int → Int) (hgo : back_Offsets.go a2 l1 (back_Offsets.rest l0 (fun _ => 0)) (fun _ => 0) [] = (r1, T1)) :
    Calls Try.prog 27 #[.slice A0 l0.length c0, .slice A1 l1.length c1, .int .i64 a2] w fun e w' => ∃ v0_ v1_ : Value, e = .returned (.tuple #[v0_, v1_, .int .i64 0]) ∧ Kd.R k39 39 w' w.heap.size (fun _ => True) v0_ r1 ∧ Kd.R k32 32 w' w.heap.size (fun _ => True) v1_ (back_Offsets.left l0 T1 []) ∧ Below w.heap.size w w' := by
  have i0 : ∀ w, (Instr.index 73 (.agg #[.slice A0 l0.length c0, .slice A1 l1.length c1]) (.int .i64 0)).run Try.prog w = .ok (.slice A0 l0.length c0) w := fun _ => by kernel_rfl
  have i1 : ∀ w, (Instr.index 73 (.agg #[.slice A0 l0.length c0, .slice A1 l1.length c1]) (.int .i64 1)).run Try.prog w = .ok (.slice A1 l1.length c1) w := fun _ => by kernel_rfl
  have hd0 : decide (a2 < 0) = false := decide_eq_false hd1
  have hmm := @run_makeMap Try.prog
  clear hd1
  go_enter Try.func27, Try.ntmps27
  go_wp2_with fail
  refine wp_loop_rounds 3 ?_
  rw [rounds_succ]
  go_wp2_with (go_at_call 24; refine (back_Check.calls k _ _ l0 0 _ hr0 hc0 h0).mono ?_; rintro e w1 ⟨rfl, hb⟩)
  rw [rounds_succ]
  go_wp2_with (go_at_call 24; refine (back_Check.calls k _ _ l1 0 _ (Kd.C_below hr1 hb) hc1 h1).mono ?_; rintro e w2 ⟨rfl, hb2⟩)
  rw [rounds_succ]
  go_wp2
  have HB := Aside0.mk (below_alloc (hb.trans (hb2.mono hb.size)) (Obj.map #[] 0))
  have HO := Aside0.mk (back_Offsets.OM_made w2)
  have HM := Aside0.mk (show w.heap.size ≤ w2.heap.size from Nat.le_trans hb.size hb2.size)
  generalize w2.alloc (Obj.map #[] 0) = w3 at HB HO ⊢
  generalize w2.heap.size = m1 at HO HM ⊢
  clear hb hb2 h0 h1 hmm i0 i1
  obtain ⟨M1, hM1⟩ : ∃ M1, M1 = back_Offsets.rest l0 (fun _ => 0) := ⟨_, rfl⟩
  have HM1 := Aside0.mk hM1
  rw [← hM1] at hgo
  have HGO := Aside0.mk hgo
  have HR0 := Aside0.mk hr0
  have HR1 := Aside0.mk hr1
  have HW0 := Aside0.mk hw0
  have HW1 := Aside0.mk hw1
  have HL0 := Aside0.mk hl0
  have HL1 := Aside0.mk hl1
  clear hM1 hgo hr0 hr1 hw0 hw1 hl0 hl1 hc0 hc1
-- LOOPS
  go_loopg [41] l0.length (fun kq v wr => ∃ x : Int, v = .int .i64 x ∧ Aside0 (0 ≤ x ∧ x + kq = l0.length) ∧ Aside0 (Below w.heap.size w wr) ∧ Aside0 (∃ M, back_Offsets.OM wr m1 x.toNat M ∧ back_Offsets.rest (l0.drop x.toNat) M = M1))
  case atStart => exact ⟨0, rfl, ⟨by simp, by simp⟩, HB, ⟨⟨_, HO.out, HM1.out.symm⟩⟩⟩
  case round =>
    clear HB HO
    obtain ⟨x, rfl, HJ, HB, HD⟩ := hrel
    obtain ⟨M, HO0, HS0⟩ := HD.out
    have HO := Aside0.mk HO0
    have HS := Aside0.mk HS0
    clear HO0 HS0 HD
    by_cases c : x < (l0.length : Int)
    · have HJ1 := HJ.out
      obtain ⟨kq, rfl⟩ : ∃ k', gk = k' + 1 := ⟨gk - 1, by omega⟩
      have hx1 : IntKind.i64.wrap (x + 1) = x + 1 := by rw [i64_w]; have := HL0.out; unfold wrap64; omega
      have HN := Aside0.mk (show x.toNat < maxLen by have := HL0.out; unfold maxLen; omega)
      have HKK := Aside0.mk (back_Offsets.key_at HW0.out x HJ1.1 c)
      have HD1 := Aside0.mk (back_Offsets.drop_at l0 x HJ1.1 c)
      have cb := decide_eq_true c
      have p1 := HJ1.1
      obtain ⟨ad, e1, hx_0, hx_1, hx_2, hx_3⟩ := at_T32 HR0.out x p1 c
      clear HJ1
      cases e1
      replace hx_0 := (HB.out.cell (World.block_lt_of_cell? w _ hx_0)).trans hx_0
      replace hx_1 := (HB.out.cell (World.block_lt_of_cell? w _ hx_1)).trans hx_1
      replace hx_2 := (HB.out.cell (World.block_lt_of_cell? w _ hx_2)).trans hx_2
      replace hx_3 := (HB.out.cell (World.block_lt_of_cell? w _ hx_3)).trans hx_3
      replace p1 := eq_true p1
      replace c := eq_true c
      go_upto_region 14 with (first | ((with_reducible refine gate_dst (N := 14) rfl ?_); refine box_event ?hg (N := 14) ?hd (cs := #[.int .i64 0, .int .i64 0, .int .i64 0, .int .i64 0]) (t := 32) ?hr ?_; (case hd => rfl); (case hg => rfl); (case hr => first | (go_simp; done) | (go_simp; rfl)); intro gb hg wb hbox hb; have n0_ := Aside0.mk (below_step (by repeat (first | (with_reducible first | exact HB.out | apply below_alloc | apply pw_below_drewN | apply below_drew1) | exact HB.out)) hb); have GNm1 := Aside0.mk (show gb ≠ m1 by rw [hg]; exact Nat.ne_of_gt (back_Offsets.OM_lt HO.out)); have nHO_ := Aside0.mk (back_Offsets.OM_below HO.out hb); have GE := Aside0.mk (show w.heap.size ≤ gb by rw [hg]; exact HB.out.size); clear HB; have HB := n0_; clear n0_; clear HO; have HO := nHO_; clear nHO_; have BK := Aside0.mk hbox; clear hb hbox hg; have hcz_0 : wb.cell? ⟨gb, 0, none⟩ = some (.int .i64 0) := (blk_cell BK.out 0).trans rfl; have hfz_0 := blk_frozen BK.out 0; have hcz_1 : wb.cell? ⟨gb, 1, none⟩ = some (.int .i64 0) := (blk_cell BK.out 1).trans rfl; have hfz_1 := blk_frozen BK.out 1; have hcz_2 : wb.cell? ⟨gb, 2, none⟩ = some (.int .i64 0) := (blk_cell BK.out 2).trans rfl; have hfz_2 := blk_frozen BK.out 2; have hcz_3 : wb.cell? ⟨gb, 3, none⟩ = some (.int .i64 0) := (blk_cell BK.out 3).trans rfl; have hfz_3 := blk_frozen BK.out 3))
      (try simp only [Act.put, List.setIfInBounds_toArray, List.set_cons_zero, List.set_cons_succ])
      have BK1 := Aside0.mk (blk_put (blk_put (blk_put (blk_put BK.out 0 (.int .i64 (rd_T32 l0 x).f0) rfl) 1 (.int .i64 (rd_T32 l0 x).f1) rfl) 2 (.int .i64 (rd_T32 l0 x).f2) rfl) 3 (.int .i64 (rd_T32 l0 x).f3) rfl)
      have HB1 := Aside0.mk (below_set (j := 3) (v := .int .i64 (rd_T32 l0 x).f3) (below_set (j := 2) (v := .int .i64 (rd_T32 l0 x).f2) (below_set (j := 1) (v := .int .i64 (rd_T32 l0 x).f1) (below_set (j := 0) (v := .int .i64 (rd_T32 l0 x).f0) HB.out GE.out) GE.out) GE.out) GE.out)
      have HO1 := Aside0.mk (back_Offsets.OM_set (back_Offsets.OM_set (back_Offsets.OM_set (back_Offsets.OM_set HO.out (Ne.symm GNm1.out) 0 (.int .i64 (rd_T32 l0 x).f0)) (Ne.symm GNm1.out) 1 (.int .i64 (rd_T32 l0 x).f1)) (Ne.symm GNm1.out) 2 (.int .i64 (rd_T32 l0 x).f2)) (Ne.symm GNm1.out) 3 (.int .i64 (rd_T32 l0 x).f3))
      clear BK HB HO hcz_0 hcz_1 hcz_2 hcz_3 hfz_0 hfz_1 hfz_2 hfz_3 hx_0 hx_1 hx_2 hx_3 GE GNm1
      have BK := BK1
      clear BK1
      have HB := HB1
      clear HB1
      have HO := HO1
      clear HO1
      generalize (World.setCell (World.setCell (World.setCell (World.setCell wb _ _) _ _) _ _) _ _) = ws at BK HB HO ⊢
      have hb_0 : ws.cell? ⟨gb, 0, none⟩ = some (.int .i64 (rd_T32 l0 x).f0) := (blk_cell BK.out 0).trans rfl
      have hb_1 : ws.cell? ⟨gb, 1, none⟩ = some (.int .i64 (rd_T32 l0 x).f1) := (blk_cell BK.out 1).trans rfl
      have hb_2 : ws.cell? ⟨gb, 2, none⟩ = some (.int .i64 (rd_T32 l0 x).f2) := (blk_cell BK.out 2).trans rfl
      have hb_3 : ws.cell? ⟨gb, 3, none⟩ = some (.int .i64 (rd_T32 l0 x).f3) := (blk_cell BK.out 3).trans rfl
      by_cases cn : (rd_T32 l0 x).f2 < 0
      · have cnb := decide_eq_true cn
        have HS1 := Aside0.mk (show back_Offsets.rest (l0.drop (x + 1).toNat) (back_Offsets.upd M (rd_T32 l0 x).f0 (wrap64 (M (rd_T32 l0 x).f0 - (rd_T32 l0 x).f2))) = M1 by have := HS.out; rw [HD1.out, back_Offsets.rest, if_pos cn] at this; exact this)
        clear cn HS
        go_wp2_with (first | (at_lookup; refine back_Offsets.look rfl _ _ rfl m1 _ M rfl HO.out _ rfl HKK.out.1 ?_) | (at_mapUpdate; refine back_Offsets.put rfl _ _ _ rfl m1 _ M rfl HO.out HN.out _ _ rfl rfl HKK.out.1 (wrap_isI64 _) ?_; intro wu ho hgr))
        have HBn := Aside0.mk (HB.out.grown hgr HB.out.size (fun k hk => by injection hk with hk; subst hk; exact HM.out))
        go_roundg kq
        case measure => omega
        case rel => exact ⟨x + 1, (by first | with_reducible rfl | rw [hx1] | (simp only [i64_w]; rw [show wrap64 (x + 1) = x + 1 from (i64_w _).symm.trans hx1])), ⟨by have := HJ.out; omega, by have := HJ.out; omega⟩, HBn, ⟨_, (show (x + 1).toNat = x.toNat + 1 by have := HJ.out; omega) ▸ ho, HS1.out⟩⟩
      · have cnb : decide ((rd_T32 l0 x).f2 < 0) = false := decide_eq_false cn
        have HS1 := Aside0.mk (show back_Offsets.rest (l0.drop (x + 1).toNat) M = M1 by have := HS.out; rw [HD1.out, back_Offsets.rest, if_neg cn] at this; exact this)
        clear cn HS
        go_wp2
        go_roundg kq
        case measure => omega
        case rel => exact ⟨x + 1, (by first | with_reducible rfl | rw [hx1] | (simp only [i64_w]; rw [show wrap64 (x + 1) = x + 1 from (i64_w _).symm.trans hx1])), ⟨by have := HJ.out; omega, by have := HJ.out; omega⟩, HB, ⟨_, back_Offsets.OM_more HO.out (show x.toNat ≤ (x + 1).toNat by have := HJ.out; omega), HS1.out⟩⟩
    · have cb : decide (x < (l0.length : Int)) = false := decide_eq_false c
      obtain rfl : x = (l0.length : Int) := by have := HJ.out; omega
      have HM2 := Aside0.mk (show M = M1 by have := HS.out; rw [Int.toNat_natCast, List.drop_length] at this; exact this)
      have HO1 := Aside0.mk (show back_Offsets.OM wr m1 l0.length M1 by have := HO.out; rw [HM2.out, Int.toNat_natCast] at this; exact this)
      clear HO HM2 HS HJ c
      have HO := HO1
      clear HO1
      have hmm := @run_makeMap Try.prog
      go_wp2
      clear hmm
      have HB1 := Aside0.mk (below_alloc HB.out (Obj.map #[] 0))
      have HT := Aside0.mk (back_Offsets.OM_made wr)
      have HO1 := Aside0.mk (back_Offsets.OM_below HO.out (below_alloc (Below.refl wr.heap.size wr) (Obj.map #[] 0)))
      have HMT := Aside0.mk (show w.heap.size ≤ wr.heap.size from HB.out.size)
      have NMT := Aside0.mk (show m1 ≠ wr.heap.size from Nat.ne_of_lt (back_Offsets.OM_lt HO.out))
      clear HB HO
      have HB := HB1
      have HO := HO1
      clear HB1 HO1
      generalize wr.alloc (Obj.map #[] 0) = w5 at HB HO HT ⊢
      generalize wr.heap.size = m2 at HT HMT NMT ⊢
      go_loopg [15, 59] l1.length (fun kq v15 v59 wr => ∃ (out : List S39) (x : Int), v59 = .int .i64 x ∧ Aside0 (0 ≤ x ∧ x + kq = l1.length) ∧ Aside0 (Below w.heap.size w wr) ∧ Aside0 (Kd.R k39 39 wr w.heap.size (fun k_ => k_ ≠ m1 ∧ k_ ≠ m2) v15 out) ∧ Aside0 (out.length ≤ x.toNat) ∧ Aside0 (∃ M T, back_Offsets.OM wr m1 (l0.length + x.toNat) M ∧ back_Offsets.OM wr m2 x.toNat T ∧ back_Offsets.go a2 (l1.drop x.toNat) M T out = (r1, T1)))
      case atStart => exact ⟨[], 0, rfl, ⟨by simp, by simp⟩, HB, ⟨Kd.R_nil _ _ _ _ _⟩, ⟨Nat.zero_le _⟩, ⟨⟨M1, _, HO.out, HT.out, HGO.out⟩⟩⟩
      case round =>
        clear HB HO HT HGO
        obtain ⟨out, x, rfl, HJ, HB, HR, HOL, HD⟩ := hrel
        obtain ⟨M, T, HO0, HT0, HS0⟩ := HD.out
        have HO := Aside0.mk HO0
        have HT := Aside0.mk HT0
        have HS := Aside0.mk HS0
        clear HO0 HT0 HS0 HD
        by_cases c : x < (l1.length : Int)
        · have HJ1 := HJ.out
          obtain ⟨kq, rfl⟩ : ∃ k', gk = k' + 1 := ⟨gk - 1, by omega⟩
          have hx1 : IntKind.i64.wrap (x + 1) = x + 1 := by rw [i64_w]; have := HL1.out; unfold wrap64; omega
          have HN := Aside0.mk (show x.toNat < maxLen by have := HL1.out; unfold maxLen; omega)
          have HKK := Aside0.mk (back_Offsets.key_at HW1.out x HJ1.1 c)
          have HD1 := Aside0.mk (back_Offsets.drop_at l1 x HJ1.1 c)
          have cb := decide_eq_true c
          have p1 := HJ1.1
          obtain ⟨ad, e1, hx_0, hx_1, hx_2, hx_3⟩ := at_T32 HR1.out x p1 c
          clear HJ1
          cases e1
          replace hx_0 := (HB.out.cell (World.block_lt_of_cell? w _ hx_0)).trans hx_0
          replace hx_1 := (HB.out.cell (World.block_lt_of_cell? w _ hx_1)).trans hx_1
          replace hx_2 := (HB.out.cell (World.block_lt_of_cell? w _ hx_2)).trans hx_2
          replace hx_3 := (HB.out.cell (World.block_lt_of_cell? w _ hx_3)).trans hx_3
          replace p1 := eq_true p1
          replace c := eq_true c
          go_upto_region 22 with (first | ((with_reducible refine gate_dst (N := 18) rfl ?_); refine box_event ?hg (N := 18) ?hd (cs := #[.int .i64 0, .int .i64 0, .int .i64 0, .int .i64 0]) (t := 32) ?hr ?_; (case hd => rfl); (case hg => rfl); (case hr => first | (go_simp; done) | (go_simp; rfl)); intro gb hg wb hbox hb; have n0_ := Aside0.mk (below_step (by repeat (first | (with_reducible first | exact HB.out | apply below_alloc | apply pw_below_drewN | apply below_drew1) | exact HB.out)) hb); have GNm1 := Aside0.mk (show gb ≠ m1 by rw [hg]; exact Nat.ne_of_gt (back_Offsets.OM_lt HO.out)); have nHO_ := Aside0.mk (back_Offsets.OM_below HO.out hb); have GNm2 := Aside0.mk (show gb ≠ m2 by rw [hg]; exact Nat.ne_of_gt (back_Offsets.OM_lt HT.out)); have nHT_ := Aside0.mk (back_Offsets.OM_below HT.out hb); have nHR_ := Aside0.mk (Kd.R_below (Kd.R_elderB HR.out gb (Nat.le_of_eq hg.symm)) hb); have GE := Aside0.mk (show w.heap.size ≤ gb by rw [hg]; exact HB.out.size); clear HB; have HB := n0_; clear n0_; clear HO; have HO := nHO_; clear nHO_; clear HT; have HT := nHT_; clear nHT_; clear HR; have HR := nHR_; clear nHR_; have BK := Aside0.mk hbox; clear hb hbox hg; have hcz_0 : wb.cell? ⟨gb, 0, none⟩ = some (.int .i64 0) := (blk_cell BK.out 0).trans rfl; have hfz_0 := blk_frozen BK.out 0; have hcz_1 : wb.cell? ⟨gb, 1, none⟩ = some (.int .i64 0) := (blk_cell BK.out 1).trans rfl; have hfz_1 := blk_frozen BK.out 1; have hcz_2 : wb.cell? ⟨gb, 2, none⟩ = some (.int .i64 0) := (blk_cell BK.out 2).trans rfl; have hfz_2 := blk_frozen BK.out 2; have hcz_3 : wb.cell? ⟨gb, 3, none⟩ = some (.int .i64 0) := (blk_cell BK.out 3).trans rfl; have hfz_3 := blk_frozen BK.out 3))
          (try simp only [Act.put, List.setIfInBounds_toArray, List.set_cons_zero, List.set_cons_succ])
          have BK1 := Aside0.mk (blk_put (blk_put (blk_put (blk_put BK.out 0 (.int .i64 (rd_T32 l1 x).f0) rfl) 1 (.int .i64 (rd_T32 l1 x).f1) rfl) 2 (.int .i64 (rd_T32 l1 x).f2) rfl) 3 (.int .i64 (rd_T32 l1 x).f3) rfl)
          have HB1 := Aside0.mk (below_set (j := 3) (v := .int .i64 (rd_T32 l1 x).f3) (below_set (j := 2) (v := .int .i64 (rd_T32 l1 x).f2) (below_set (j := 1) (v := .int .i64 (rd_T32 l1 x).f1) (below_set (j := 0) (v := .int .i64 (rd_T32 l1 x).f0) HB.out GE.out) GE.out) GE.out) GE.out)
          have HO1 := Aside0.mk (back_Offsets.OM_set (back_Offsets.OM_set (back_Offsets.OM_set (back_Offsets.OM_set HO.out (Ne.symm GNm1.out) 0 (.int .i64 (rd_T32 l1 x).f0)) (Ne.symm GNm1.out) 1 (.int .i64 (rd_T32 l1 x).f1)) (Ne.symm GNm1.out) 2 (.int .i64 (rd_T32 l1 x).f2)) (Ne.symm GNm1.out) 3 (.int .i64 (rd_T32 l1 x).f3))
          have HT1 := Aside0.mk (back_Offsets.OM_set (back_Offsets.OM_set (back_Offsets.OM_set (back_Offsets.OM_set HT.out (Ne.symm GNm2.out) 0 (.int .i64 (rd_T32 l1 x).f0)) (Ne.symm GNm2.out) 1 (.int .i64 (rd_T32 l1 x).f1)) (Ne.symm GNm2.out) 2 (.int .i64 (rd_T32 l1 x).f2)) (Ne.symm GNm2.out) 3 (.int .i64 (rd_T32 l1 x).f3))
          have HR1 := Aside0.mk (Kd.R_far (p := ⟨gb, 3, none⟩) (Kd.R_far (p := ⟨gb, 2, none⟩) (Kd.R_far (p := ⟨gb, 1, none⟩) (Kd.R_far (p := ⟨gb, 0, none⟩) HR.out (fun _ hk => hk.2) (.int .i64 (rd_T32 l1 x).f0)) (fun _ hk => hk.2) (.int .i64 (rd_T32 l1 x).f1)) (fun _ hk => hk.2) (.int .i64 (rd_T32 l1 x).f2)) (fun _ hk => hk.2) (.int .i64 (rd_T32 l1 x).f3))
          clear BK HB HO HT HR hcz_0 hcz_1 hcz_2 hcz_3 hfz_0 hfz_1 hfz_2 hfz_3 hx_0 hx_1 hx_2 hx_3 GE GNm1 GNm2
          have BK := BK1
          clear BK1
          have HB := HB1
          clear HB1
          have HO := HO1
          clear HO1
          have HT := HT1
          clear HT1
          have HR := HR1
          clear HR1
          generalize (World.setCell (World.setCell (World.setCell (World.setCell wb _ _) _ _) _ _) _ _) = ws at BK HB HO HT HR ⊢
          have hb_0 : ws.cell? ⟨gb, 0, none⟩ = some (.int .i64 (rd_T32 l1 x).f0) := (blk_cell BK.out 0).trans rfl
          have hb_1 : ws.cell? ⟨gb, 1, none⟩ = some (.int .i64 (rd_T32 l1 x).f1) := (blk_cell BK.out 1).trans rfl
          have hb_2 : ws.cell? ⟨gb, 2, none⟩ = some (.int .i64 (rd_T32 l1 x).f2) := (blk_cell BK.out 2).trans rfl
          have hb_3 : ws.cell? ⟨gb, 3, none⟩ = some (.int .i64 (rd_T32 l1 x).f3) := (blk_cell BK.out 3).trans rfl
          go_upto_region 23 with (at_lookup; refine back_Offsets.look rfl _ _ rfl m1 _ M rfl HO.out _ rfl HKK.out.1 ?_)
          generalize hpn : (if M (rd_T32 l1 x).f0 < (if (if (rd_T32 l1 x).f2 < 0 then 0 else (rd_T32 l1 x).f2) < a2 then (if (rd_T32 l1 x).f2 < 0 then 0 else (rd_T32 l1 x).f2) else a2) then M (rd_T32 l1 x).f0 else (if (if (rd_T32 l1 x).f2 < 0 then 0 else (rd_T32 l1 x).f2) < a2 then (if (rd_T32 l1 x).f2 < 0 then 0 else (rd_T32 l1 x).f2) else a2)) = pn
          generalize (if (if (rd_T32 l1 x).f2 < 0 then 0 else (rd_T32 l1 x).f2) < a2 then (if (rd_T32 l1 x).f2 < 0 then 0 else (rd_T32 l1 x).f2) else a2) = q0
          try generalize (if (rd_T32 l1 x).f2 < 0 then 0 else (rd_T32 l1 x).f2) = q1
          have HP := Aside0.mk (show back_Offsets.part a2 (rd_T32 l1 x) M = pn from hpn)
          clear hpn
          have HFR := Aside0.mk (show ∀ k, ws.heap.size ≤ k → (k ≠ m1 ∧ k ≠ m2) ∧ k ≠ gb from fun k hk => ⟨⟨fun e => by have := back_Offsets.OM_lt HO.out; omega, fun e => by have := back_Offsets.OM_lt HT.out; omega⟩, fun e => by have := (Array.getElem?_eq_some_iff.1 BK.out).1; omega⟩)
          have HN2 := Aside0.mk (show l0.length + x.toNat < maxLen by have := HL0.out; have := HL1.out; have := HJ.out; unfold maxLen; omega)
          by_cases cp : pn > 0
          · have cpb := decide_eq_true cp
            have HS1 := Aside0.mk (show back_Offsets.go a2 (l1.drop (x + 1).toNat) (back_Offsets.upd M (rd_T32 l1 x).f0 (wrap64 (M (rd_T32 l1 x).f0 - pn))) (back_Offsets.upd T (rd_T32 l1 x).f0 (wrap64 (T (rd_T32 l1 x).f0 + pn))) (out ++ [⟨(rd_T32 l1 x).f0, (rd_T32 l1 x).f1, pn⟩]) = (r1, T1) by have := HS.out; rw [HD1.out, back_Offsets.go, HP.out, if_pos cp] at this; exact this)
            clear HS cp
            go_upto_region 25 with ((with_reducible refine gate_builtin (b := .append) (xs := #[.tmp 74, .tmp 81]) rfl ?_); at_builtin; refine Kd.R_append k39 (w0 := w) w.heap.size rfl (.tmp 74) (.tmp 81) 34 39 (.agg #[(.int .i64 0), (.int .i64 0), (.int .i64 0)]) 24 rfl Try.underlying34 back_Offsets.info39 rfl (by decide) (by omega) _ out (⟨(rd_T32 l1 x).f0, (rd_T32 l1 x).f1, pn⟩ : S39) [.int .i64 (rd_T32 l1 x).f0, .int .i64 (rd_T32 l1 x).f1, .int .i64 pn] (fun k => (k ≠ m1 ∧ k ≠ m2) ∧ k ≠ gb) (fun _ => False) rfl (by first | rfl | (rw [World.size_alloc]; rfl)) (k39_mkM _ _ _ (⟨(rd_T32 l1 x).f0, (rd_T32 l1 x).f1, pn⟩ : S39)) (fun _ hk => hk.elim) HFR.out HR.out HB.out (below_size HB.out) (by have := HOL.out; have := HJ.out; have := HL1.out; omega) ?_; intro v1 w1 hov hbv hgr hat)
            (try simp only [Act.put, List.setIfInBounds_toArray, List.set_cons_zero, List.set_cons_succ])
            have HO1 := Aside0.mk (back_Offsets.OM_grown HO.out hgr (fun e => (HR.out.1 m1 e.symm).1.1 rfl))
            have HT1 := Aside0.mk (back_Offsets.OM_grown HT.out hgr (fun e => (HR.out.1 m2 e.symm).1.2 rfl))
            have HB1 := Aside0.mk hbv
            have HR1 := Aside0.mk hov
            have BK1 := Aside0.mk ((hgr.block gb (Array.getElem?_eq_some_iff.1 BK.out).1 (fun e => (HR.out.1 gb e.symm).2 rfl)).trans BK.out)
            clear HO HT HB HR BK hb_0 hb_1 hb_2 hb_3
            have HO := HO1
            clear HO1
            have HT := HT1
            clear HT1
            have HB := HB1
            clear HB1
            have HR := HR1
            clear HR1
            have BK := BK1
            clear BK1
            have hb_0 : w1.cell? ⟨gb, 0, none⟩ = some (.int .i64 (rd_T32 l1 x).f0) := (blk_cell BK.out 0).trans rfl
            have hb_1 : w1.cell? ⟨gb, 1, none⟩ = some (.int .i64 (rd_T32 l1 x).f1) := (blk_cell BK.out 1).trans rfl
            have hb_2 : w1.cell? ⟨gb, 2, none⟩ = some (.int .i64 (rd_T32 l1 x).f2) := (blk_cell BK.out 2).trans rfl
            have hb_3 : w1.cell? ⟨gb, 3, none⟩ = some (.int .i64 (rd_T32 l1 x).f3) := (blk_cell BK.out 3).trans rfl
            clear hov hbv hgr hat HFR
            go_upto_region 26 with (first | (at_lookup; refine back_Offsets.look rfl _ _ rfl m1 _ M rfl HO.out _ rfl HKK.out.1 ?_) | (at_mapUpdate; refine back_Offsets.put rfl _ _ _ rfl m1 _ M rfl HO.out HN2.out _ _ rfl rfl HKK.out.1 (wrap_isI64 _) ?_; intro w2 ho hgr))
            (try simp only [Act.put, List.setIfInBounds_toArray, List.set_cons_zero, List.set_cons_succ])
            have GNm1 := Aside0.mk (show gb ≠ m1 from fun e => by have := BK.out; have := HO.out; obtain ⟨D, ⟨es, clk, he, _⟩, _⟩ := this; rw [e] at BK; have := he.symm.trans BK.out; simp at this)
            have GNm2 := Aside0.mk (show gb ≠ m2 from fun e => by have := BK.out; have := HT.out; obtain ⟨D, ⟨es, clk, he, _⟩, _⟩ := this; rw [e] at BK; have := he.symm.trans BK.out; simp at this)
            have HO1 := Aside0.mk ho
            have HT1 := Aside0.mk (back_Offsets.OM_grown HT.out hgr (fun e => NMT.out (Option.some.inj e).symm))
            have HB1 := Aside0.mk (HB.out.grown hgr HB.out.size (fun k hk => by injection hk with hk; subst hk; exact HM.out))
            have HR1 := Aside0.mk (Kd.R_grown HR.out hgr (fun k hk e => hk.1.1 (Option.some.inj e)))
            have BK1 := Aside0.mk ((hgr.block gb (Array.getElem?_eq_some_iff.1 BK.out).1 (fun e => GNm1.out (Option.some.inj e))).trans BK.out)
            clear HO HT HB HR BK hb_0 hb_1 hb_2 hb_3
            have HO := HO1
            clear HO1
            have HT := HT1
            clear HT1
            have HB := HB1
            clear HB1
            have HR := HR1
            clear HR1
            have BK := BK1
            clear BK1
            have hb_0 : w2.cell? ⟨gb, 0, none⟩ = some (.int .i64 (rd_T32 l1 x).f0) := (blk_cell BK.out 0).trans rfl
            have hb_1 : w2.cell? ⟨gb, 1, none⟩ = some (.int .i64 (rd_T32 l1 x).f1) := (blk_cell BK.out 1).trans rfl
            have hb_2 : w2.cell? ⟨gb, 2, none⟩ = some (.int .i64 (rd_T32 l1 x).f2) := (blk_cell BK.out 2).trans rfl
            have hb_3 : w2.cell? ⟨gb, 3, none⟩ = some (.int .i64 (rd_T32 l1 x).f3) := (blk_cell BK.out 3).trans rfl
            clear ho hgr
            go_wp2_with (first | (at_lookup; refine back_Offsets.look rfl _ _ rfl m2 _ T rfl HT.out _ rfl HKK.out.1 ?_) | (at_mapUpdate; refine back_Offsets.put rfl _ _ _ rfl m2 _ T rfl HT.out HN.out _ _ rfl rfl HKK.out.1 (wrap_isI64 _) ?_; intro w3 ho hgr))
            (try simp only [Act.put, List.setIfInBounds_toArray, List.set_cons_zero, List.set_cons_succ])
            have HO1 := Aside0.mk (back_Offsets.OM_grown HO.out hgr (fun e => NMT.out (Option.some.inj e)))
            have HT1 := Aside0.mk ho
            have HB1 := Aside0.mk (HB.out.grown hgr HB.out.size (fun k hk => by injection hk with hk; subst hk; exact HMT.out))
            have HR1 := Aside0.mk (Kd.R_grown HR.out hgr (fun k hk e => hk.1.2 (Option.some.inj e)))
            have BK1 := Aside0.mk ((hgr.block gb (Array.getElem?_eq_some_iff.1 BK.out).1 (fun e => GNm2.out (Option.some.inj e))).trans BK.out)
            clear HO HT HB HR BK hb_0 hb_1 hb_2 hb_3
            have HO := HO1
            clear HO1
            have HT := HT1
            clear HT1
            have HB := HB1
            clear HB1
            have HR := HR1
            clear HR1
            have BK := BK1
            clear BK1
            have hb_0 : w3.cell? ⟨gb, 0, none⟩ = some (.int .i64 (rd_T32 l1 x).f0) := (blk_cell BK.out 0).trans rfl
            have hb_1 : w3.cell? ⟨gb, 1, none⟩ = some (.int .i64 (rd_T32 l1 x).f1) := (blk_cell BK.out 1).trans rfl
            have hb_2 : w3.cell? ⟨gb, 2, none⟩ = some (.int .i64 (rd_T32 l1 x).f2) := (blk_cell BK.out 2).trans rfl
            have hb_3 : w3.cell? ⟨gb, 3, none⟩ = some (.int .i64 (rd_T32 l1 x).f3) := (blk_cell BK.out 3).trans rfl
            go_roundg kq
            case measure => omega
            case rel => exact ⟨_, x + 1, (by first | with_reducible rfl | rw [hx1] | (simp only [i64_w]; rw [show wrap64 (x + 1) = x + 1 from (i64_w _).symm.trans hx1])), ⟨by have := HJ.out; omega, by have := HJ.out; omega⟩, HB, ⟨Kd.R_mono HR.out (fun _ h => h.1)⟩, ⟨by have := HOL.out; have := HJ.out; rw [List.length_append, List.length_singleton]; omega⟩, ⟨⟨_, _, back_Offsets.OM_more HO.out (show l0.length + x.toNat + 1 ≤ l0.length + (x + 1).toNat by have := HJ.out; omega), back_Offsets.OM_more HT.out (show x.toNat + 1 ≤ (x + 1).toNat by have := HJ.out; omega), HS1.out⟩⟩⟩
          · have cpb : decide (pn > 0) = false := decide_eq_false cp
            have HS1 := Aside0.mk (show back_Offsets.go a2 (l1.drop (x + 1).toNat) M T out = (r1, T1) by have := HS.out; rw [HD1.out, back_Offsets.go, HP.out, if_neg cp] at this; exact this)
            clear HS cp
            go_wp2
            go_roundg kq
            case measure => omega
            case rel => exact ⟨out, x + 1, (by first | with_reducible rfl | rw [hx1] | (simp only [i64_w]; rw [show wrap64 (x + 1) = x + 1 from (i64_w _).symm.trans hx1])), ⟨by have := HJ.out; omega, by have := HJ.out; omega⟩, HB, ⟨Kd.R_mono HR.out (fun _ h => h.1)⟩, ⟨by have := HOL.out; have := HJ.out; omega⟩, ⟨⟨_, _, back_Offsets.OM_more HO.out (by have := HJ.out; omega), back_Offsets.OM_more HT.out (by have := HJ.out; omega), HS1.out⟩⟩⟩
        · have cb : decide (x < (l1.length : Int)) = false := decide_eq_false c
          obtain rfl : x = (l1.length : Int) := by have := HJ.out; omega
          have HS1 := Aside0.mk (show (out, T) = (r1, T1) by have := HS.out; rw [Int.toNat_natCast, List.drop_length, back_Offsets.go] at this; exact this)
          obtain rfl : out = r1 := congrArg Prod.fst HS1.out
          obtain rfl : T = T1 := congrArg Prod.snd HS1.out
          have HT1 := Aside0.mk (show back_Offsets.OM wr m2 l1.length T by have := HT.out; rw [Int.toNat_natCast] at this; exact this)
          clear HO HT HS HS1 HJ c
          have HT := HT1
          clear HT1
          go_wp2
          have HT1 := Aside0.mk (show back_Offsets.OM wr m2 (l1.length + (0 : Int).toNat) T from HT.out)
          clear HT
          have HT := HT1
          clear HT1
          generalize hRES : back_Offsets.left l0 T [] = RES
          have HRES := Aside0.mk hRES
          go_loopg [20, 98] l0.length (fun kq v20 v98 wr => ∃ (lo : List S32) (x : Int), v98 = .int .i64 x ∧ Aside0 (0 ≤ x ∧ x + kq = l0.length) ∧ Aside0 (Below w.heap.size w wr) ∧ Aside0 (Kd.R k39 39 wr w.heap.size (fun k_ => k_ ≠ m2) u15 out) ∧ Aside0 (Kd.R k32 32 wr w.heap.size (fun k_ => k_ ≠ m2 ∧ some k_ ≠ u15.ownBlock) v20 lo) ∧ Aside0 (lo.length ≤ x.toNat) ∧ Aside0 (∃ T, back_Offsets.OM wr m2 (l1.length + x.toNat) T ∧ back_Offsets.left (l0.drop x.toNat) T lo = RES))
          case atStart => exact ⟨[], 0, rfl, ⟨by simp, by simp⟩, HB, ⟨Kd.R_mono HR.out (fun _ h => h.2)⟩, ⟨Kd.R_nil _ _ _ _ _⟩, ⟨Nat.zero_le _⟩, ⟨⟨T, HT.out, hRES⟩⟩⟩
          case round =>
            clear HB HT HR HOL hRES
            obtain ⟨lo, x, rfl, HJ, HB, HR, HQ, HOL, HD⟩ := hrel
            obtain ⟨T, HT0, HS0⟩ := HD.out
            have HT := Aside0.mk HT0
            have HS := Aside0.mk HS0
            clear HT0 HS0 HD
            by_cases c : x < (l0.length : Int)
            · have HJ1 := HJ.out
              obtain ⟨kq, rfl⟩ : ∃ k', gk = k' + 1 := ⟨gk - 1, by omega⟩
              have hx1 : IntKind.i64.wrap (x + 1) = x + 1 := by rw [i64_w]; have := HL0.out; unfold wrap64; omega
              have HN := Aside0.mk (show x.toNat < maxLen by have := HL0.out; unfold maxLen; omega)
              have HKK := Aside0.mk (back_Offsets.key_at HW0.out x HJ1.1 c)
              have HD1 := Aside0.mk (back_Offsets.drop_at l0 x HJ1.1 c)
              have cb := decide_eq_true c
              have p1 := HJ1.1
              obtain ⟨ad, e1, hx_0, hx_1, hx_2, hx_3⟩ := at_T32 HR0.out x p1 c
              clear HJ1
              cases e1
              replace hx_0 := (HB.out.cell (World.block_lt_of_cell? w _ hx_0)).trans hx_0
              replace hx_1 := (HB.out.cell (World.block_lt_of_cell? w _ hx_1)).trans hx_1
              replace hx_2 := (HB.out.cell (World.block_lt_of_cell? w _ hx_2)).trans hx_2
              replace hx_3 := (HB.out.cell (World.block_lt_of_cell? w _ hx_3)).trans hx_3
              replace p1 := eq_true p1
              replace c := eq_true c
              go_upto_region 32 with (first | ((with_reducible refine gate_dst (N := 22) rfl ?_); refine box_event ?hg (N := 22) ?hd (cs := #[.int .i64 0, .int .i64 0, .int .i64 0, .int .i64 0]) (t := 32) ?hr ?_; (case hd => rfl); (case hg => rfl); (case hr => first | (go_simp; done) | (go_simp; rfl)); intro gb hg wb hbox hb; have n0_ := Aside0.mk (below_step (by repeat (first | (with_reducible first | exact HB.out | apply below_alloc | apply pw_below_drewN | apply below_drew1) | exact HB.out)) hb); have GNm2 := Aside0.mk (show gb ≠ m2 by rw [hg]; exact Nat.ne_of_gt (back_Offsets.OM_lt HT.out)); have nHT_ := Aside0.mk (back_Offsets.OM_below HT.out hb); have nHR_ := Aside0.mk (Kd.R_below (Kd.R_elderB HR.out gb (Nat.le_of_eq hg.symm)) hb); have nHQ_ := Aside0.mk (Kd.R_below (Kd.R_elderB HQ.out gb (Nat.le_of_eq hg.symm)) hb); have GE := Aside0.mk (show w.heap.size ≤ gb by rw [hg]; exact HB.out.size); clear HB; have HB := n0_; clear n0_; clear HT; have HT := nHT_; clear nHT_; clear HR; have HR := nHR_; clear nHR_; clear HQ; have HQ := nHQ_; clear nHQ_; have BK := Aside0.mk hbox; clear hb hbox hg; have hcz_0 : wb.cell? ⟨gb, 0, none⟩ = some (.int .i64 0) := (blk_cell BK.out 0).trans rfl; have hfz_0 := blk_frozen BK.out 0; have hcz_1 : wb.cell? ⟨gb, 1, none⟩ = some (.int .i64 0) := (blk_cell BK.out 1).trans rfl; have hfz_1 := blk_frozen BK.out 1; have hcz_2 : wb.cell? ⟨gb, 2, none⟩ = some (.int .i64 0) := (blk_cell BK.out 2).trans rfl; have hfz_2 := blk_frozen BK.out 2; have hcz_3 : wb.cell? ⟨gb, 3, none⟩ = some (.int .i64 0) := (blk_cell BK.out 3).trans rfl; have hfz_3 := blk_frozen BK.out 3))
              (try simp only [Act.put, List.setIfInBounds_toArray, List.set_cons_zero, List.set_cons_succ])
              have BK1 := Aside0.mk (blk_put (blk_put (blk_put (blk_put BK.out 0 (.int .i64 (rd_T32 l0 x).f0) rfl) 1 (.int .i64 (rd_T32 l0 x).f1) rfl) 2 (.int .i64 (rd_T32 l0 x).f2) rfl) 3 (.int .i64 (rd_T32 l0 x).f3) rfl)
              have HB1 := Aside0.mk (below_set (j := 3) (v := .int .i64 (rd_T32 l0 x).f3) (below_set (j := 2) (v := .int .i64 (rd_T32 l0 x).f2) (below_set (j := 1) (v := .int .i64 (rd_T32 l0 x).f1) (below_set (j := 0) (v := .int .i64 (rd_T32 l0 x).f0) HB.out GE.out) GE.out) GE.out) GE.out)
              have HT1 := Aside0.mk (back_Offsets.OM_set (back_Offsets.OM_set (back_Offsets.OM_set (back_Offsets.OM_set HT.out (Ne.symm GNm2.out) 0 (.int .i64 (rd_T32 l0 x).f0)) (Ne.symm GNm2.out) 1 (.int .i64 (rd_T32 l0 x).f1)) (Ne.symm GNm2.out) 2 (.int .i64 (rd_T32 l0 x).f2)) (Ne.symm GNm2.out) 3 (.int .i64 (rd_T32 l0 x).f3))
              have HR1 := Aside0.mk (Kd.R_far (p := ⟨gb, 3, none⟩) (Kd.R_far (p := ⟨gb, 2, none⟩) (Kd.R_far (p := ⟨gb, 1, none⟩) (Kd.R_far (p := ⟨gb, 0, none⟩) HR.out (fun _ hk => hk.2) (.int .i64 (rd_T32 l0 x).f0)) (fun _ hk => hk.2) (.int .i64 (rd_T32 l0 x).f1)) (fun _ hk => hk.2) (.int .i64 (rd_T32 l0 x).f2)) (fun _ hk => hk.2) (.int .i64 (rd_T32 l0 x).f3))
              have HQ1 := Aside0.mk (Kd.R_far (p := ⟨gb, 3, none⟩) (Kd.R_far (p := ⟨gb, 2, none⟩) (Kd.R_far (p := ⟨gb, 1, none⟩) (Kd.R_far (p := ⟨gb, 0, none⟩) HQ.out (fun _ hk => hk.2) (.int .i64 (rd_T32 l0 x).f0)) (fun _ hk => hk.2) (.int .i64 (rd_T32 l0 x).f1)) (fun _ hk => hk.2) (.int .i64 (rd_T32 l0 x).f2)) (fun _ hk => hk.2) (.int .i64 (rd_T32 l0 x).f3))
              clear BK HB HT HR HQ hcz_0 hcz_1 hcz_2 hcz_3 hfz_0 hfz_1 hfz_2 hfz_3 hx_0 hx_1 hx_2 hx_3 
              have BK := BK1
              clear BK1
              have HB := HB1
              clear HB1
              have HT := HT1
              clear HT1
              have HR := HR1
              clear HR1
              have HQ := HQ1
              clear HQ1
              generalize (World.setCell (World.setCell (World.setCell (World.setCell wb _ _) _ _) _ _) _ _) = ws at BK HB HT HR HQ ⊢
              have hb_0 : ws.cell? ⟨gb, 0, none⟩ = some (.int .i64 (rd_T32 l0 x).f0) := (blk_cell BK.out 0).trans rfl
              have hb_1 : ws.cell? ⟨gb, 1, none⟩ = some (.int .i64 (rd_T32 l0 x).f1) := (blk_cell BK.out 1).trans rfl
              have hb_2 : ws.cell? ⟨gb, 2, none⟩ = some (.int .i64 (rd_T32 l0 x).f2) := (blk_cell BK.out 2).trans rfl
              have hb_3 : ws.cell? ⟨gb, 3, none⟩ = some (.int .i64 (rd_T32 l0 x).f3) := (blk_cell BK.out 3).trans rfl
              have HFR := Aside0.mk (show ∀ k, ws.heap.size ≤ k → (k ≠ m2 ∧ some k ≠ u15.ownBlock) ∧ k ≠ gb from fun k hk => ⟨⟨fun e => by have := back_Offsets.OM_lt HT.out; omega, fun e => ((Kd.R_elderB HR.out k hk).1 k e.symm).2 rfl⟩, fun e => by have := (Array.getElem?_eq_some_iff.1 BK.out).1; omega⟩)
              have HN2 := Aside0.mk (show l1.length + x.toNat < maxLen by have := HL0.out; have := HL1.out; have := HJ.out; unfold maxLen; omega)
              by_cases cn : (rd_T32 l0 x).f2 ≥ 0
              · have cnb := decide_eq_true cn
                have HS1 := Aside0.mk (show back_Offsets.left (l0.drop (x + 1).toNat) T lo = RES by have := HS.out; rw [HD1.out, back_Offsets.left, if_pos cn] at this; exact this)
                clear cn HS
                go_wp2
                go_roundg kq
                case measure => omega
                case rel => exact ⟨lo, x + 1, (by first | with_reducible rfl | rw [hx1] | (simp only [i64_w]; rw [show wrap64 (x + 1) = x + 1 from (i64_w _).symm.trans hx1])), ⟨by have := HJ.out; omega, by have := HJ.out; omega⟩, HB, ⟨Kd.R_mono HR.out (fun _ h => h.1)⟩, ⟨Kd.R_mono HQ.out (fun _ h => h.1)⟩, ⟨by have := HOL.out; have := HJ.out; omega⟩, ⟨⟨_, back_Offsets.OM_more HT.out (by have := HJ.out; omega), HS1.out⟩⟩⟩
              · have cnb : decide ((rd_T32 l0 x).f2 ≥ 0) = false := decide_eq_false cn
                go_upto_region 34 with (at_lookup; refine back_Offsets.look rfl _ _ rfl m2 _ T rfl HT.out _ rfl HKK.out.1 ?_)
                (try simp only [Act.put, List.setIfInBounds_toArray, List.set_cons_zero, List.set_cons_succ])
                generalize hpn : (if T (rd_T32 l0 x).f0 < wrap64 (-(rd_T32 l0 x).f2) then T (rd_T32 l0 x).f0 else wrap64 (-(rd_T32 l0 x).f2)) = pn
                have HP := Aside0.mk (show mn (wrap64 (-(rd_T32 l0 x).f2)) (T (rd_T32 l0 x).f0) = pn from hpn)
                clear hpn
                have HS1 := Aside0.mk (show (if (wrap64 ((rd_T32 l0 x).f2 + pn)) < 0 then back_Offsets.left (l0.drop (x + 1).toNat) (back_Offsets.upd T (rd_T32 l0 x).f0 (wrap64 (T (rd_T32 l0 x).f0 - pn))) (lo ++ [⟨(rd_T32 l0 x).f0, (rd_T32 l0 x).f1, (wrap64 ((rd_T32 l0 x).f2 + pn)), (rd_T32 l0 x).f3⟩]) else back_Offsets.left (l0.drop (x + 1).toNat) (back_Offsets.upd T (rd_T32 l0 x).f0 (wrap64 (T (rd_T32 l0 x).f0 - pn))) lo) = RES by have := HS.out; rw [HD1.out, back_Offsets.left, if_neg cn, HP.out] at this; exact this)
                clear HS cn HP
                go_upto_region 35 with (first | (at_lookup; refine back_Offsets.look rfl _ _ rfl m2 _ T rfl HT.out _ rfl HKK.out.1 ?_) | (at_mapUpdate; refine back_Offsets.put rfl _ _ _ rfl m2 _ T rfl HT.out HN2.out _ _ rfl rfl HKK.out.1 (wrap_isI64 _) ?_; intro w2 ho hgr))
                (try simp only [Act.put, List.setIfInBounds_toArray, List.set_cons_zero, List.set_cons_succ])
                have HB1 := Aside0.mk (HB.out.grown hgr HB.out.size (fun k hk => by injection hk with hk; subst hk; exact HMT.out))
                have HR1 := Aside0.mk (Kd.R_grown HR.out hgr (fun k hk e => hk.1 (Option.some.inj e)))
                have HQ1 := Aside0.mk (Kd.R_grown HQ.out hgr (fun k hk e => hk.1.1 (Option.some.inj e)))
                have BK1 := Aside0.mk ((hgr.block gb (Array.getElem?_eq_some_iff.1 BK.out).1 (fun e => GNm2.out (Option.some.inj e))).trans BK.out)
                have HT1 := Aside0.mk ho
                clear HB HR HQ BK HT hb_0 hb_1 hb_2 hb_3
                have HB := HB1
                clear HB1
                have HR := HR1
                clear HR1
                have HQ := HQ1
                clear HQ1
                have BK := BK1
                clear BK1
                have HT := HT1
                clear HT1
                have hb_0 : w2.cell? ⟨gb, 0, none⟩ = some (.int .i64 (rd_T32 l0 x).f0) := (blk_cell BK.out 0).trans rfl
                have hb_1 : w2.cell? ⟨gb, 1, none⟩ = some (.int .i64 (rd_T32 l0 x).f1) := (blk_cell BK.out 1).trans rfl
                have hb_2 : w2.cell? ⟨gb, 2, none⟩ = some (.int .i64 (rd_T32 l0 x).f2) := (blk_cell BK.out 2).trans rfl
                have hb_3 : w2.cell? ⟨gb, 3, none⟩ = some (.int .i64 (rd_T32 l0 x).f3) := (blk_cell BK.out 3).trans rfl
                clear ho hgr
                have hfz_2 := blk_frozen BK.out 2
                repeat (go_not_at_region 36; first | go_values | go_skip | go_guarded | go_step | go_upon | go_back)
                clear hfz_2
                (try simp only [Act.put, List.setIfInBounds_toArray, List.set_cons_zero, List.set_cons_succ])
                have HB1 := Aside0.mk (below_set (j := 2) (v := (.int .i64 (wrap64 ((rd_T32 l0 x).f2 + pn)))) HB.out GE.out)
                have HR1 := Aside0.mk (Kd.R_far (p := ⟨gb, 2, none⟩) HR.out (fun _ hk => hk.2) (.int .i64 (wrap64 ((rd_T32 l0 x).f2 + pn))))
                have HQ1 := Aside0.mk (Kd.R_far (p := ⟨gb, 2, none⟩) HQ.out (fun _ hk => hk.2) (.int .i64 (wrap64 ((rd_T32 l0 x).f2 + pn))))
                have BK1 := Aside0.mk (blk_put BK.out 2 (.int .i64 (wrap64 ((rd_T32 l0 x).f2 + pn))) rfl)
                have HT1 := Aside0.mk (back_Offsets.OM_set HT.out (Ne.symm GNm2.out) 2 (.int .i64 (wrap64 ((rd_T32 l0 x).f2 + pn))))
                clear HB HR HQ BK HT hb_0 hb_1 hb_2 hb_3
                have HB := HB1
                clear HB1
                have HR := HR1
                clear HR1
                have HQ := HQ1
                clear HQ1
                have BK := BK1
                clear BK1
                have HT := HT1
                clear HT1
                have hb_0 : (w2.setCell ⟨gb, 2, none⟩ (.int .i64 (wrap64 ((rd_T32 l0 x).f2 + pn)))).cell? ⟨gb, 0, none⟩ = some (.int .i64 (rd_T32 l0 x).f0) := (blk_cell BK.out 0).trans rfl
                have hb_1 : (w2.setCell ⟨gb, 2, none⟩ (.int .i64 (wrap64 ((rd_T32 l0 x).f2 + pn)))).cell? ⟨gb, 1, none⟩ = some (.int .i64 (rd_T32 l0 x).f1) := (blk_cell BK.out 1).trans rfl
                have hb_2 : (w2.setCell ⟨gb, 2, none⟩ (.int .i64 (wrap64 ((rd_T32 l0 x).f2 + pn)))).cell? ⟨gb, 2, none⟩ = some (.int .i64 (wrap64 ((rd_T32 l0 x).f2 + pn))) := (blk_cell BK.out 2).trans rfl
                have hb_3 : (w2.setCell ⟨gb, 2, none⟩ (.int .i64 (wrap64 ((rd_T32 l0 x).f2 + pn)))).cell? ⟨gb, 3, none⟩ = some (.int .i64 (rd_T32 l0 x).f3) := (blk_cell BK.out 3).trans rfl
                generalize World.setCell w2 _ _ = w3 at HB HR HQ BK HT hb_0 hb_1 hb_2 hb_3 ⊢
                have HFR := Aside0.mk (show ∀ k, w3.heap.size ≤ k → (k ≠ m2 ∧ some k ≠ u15.ownBlock) ∧ k ≠ gb from fun k hk => ⟨⟨fun e => by have := back_Offsets.OM_lt HT.out; omega, fun e => ((Kd.R_elderB HR.out k hk).1 k e.symm).2 rfl⟩, fun e => by have := (Array.getElem?_eq_some_iff.1 BK.out).1; omega⟩)
                by_cases cl : (wrap64 ((rd_T32 l0 x).f2 + pn)) < 0
                · have clb := decide_eq_true cl
                  have HS2 := Aside0.mk ((if_pos cl).symm.trans HS1.out)
                  clear cl HS1
                  go_wp2_with ((with_reducible refine gate_builtin (b := .append) (xs := #[.tmp 127, .tmp 129]) rfl ?_); at_builtin; refine Kd.R_append k32 (w0 := w) w.heap.size rfl (.tmp 127) (.tmp 129) 24 32 (.agg #[(.int .i64 0), (.int .i64 0), (.int .i64 0), (.int .i64 0)]) 32 rfl Try.underlying24 info32 rfl (by decide) (by omega) _ lo (⟨(rd_T32 l0 x).f0, (rd_T32 l0 x).f1, (wrap64 ((rd_T32 l0 x).f2 + pn)), (rd_T32 l0 x).f3⟩ : S32) [.int .i64 (rd_T32 l0 x).f0, .int .i64 (rd_T32 l0 x).f1, .int .i64 (wrap64 ((rd_T32 l0 x).f2 + pn)), .int .i64 (rd_T32 l0 x).f3] (fun k => (k ≠ m2 ∧ some k ≠ u15.ownBlock) ∧ k ≠ gb) (fun _ => False) rfl (by first | rfl | (rw [World.size_alloc]; rfl)) (k32_mkM _ _ _ (⟨(rd_T32 l0 x).f0, (rd_T32 l0 x).f1, (wrap64 ((rd_T32 l0 x).f2 + pn)), (rd_T32 l0 x).f3⟩ : S32)) (fun _ hk => hk.elim) HFR.out HQ.out HB.out (below_size HB.out) (by have := HOL.out; have := HJ.out; have := HL0.out; omega) ?_; intro v4 w4 hov hbv hgr hat)
                  have HR1 := Aside0.mk (Kd.R_grown2 HR.out rfl hgr (fun k hk e => (HQ.out.1 k hk).1.2 e))
                  have HT1 := Aside0.mk (back_Offsets.OM_grown HT.out hgr (fun e => (HQ.out.1 m2 e.symm).1.1 rfl))
                  have BK1 := Aside0.mk ((hgr.block gb (Array.getElem?_eq_some_iff.1 BK.out).1 (fun e => (HQ.out.1 gb e.symm).2 rfl)).trans BK.out)
                  have HQ1 := Aside0.mk hov
                  have HB1 := Aside0.mk hbv
                  clear HR HT BK HQ HB hb_0 hb_1 hb_2 hb_3
                  have HR := HR1
                  clear HR1
                  have HT := HT1
                  clear HT1
                  have BK := BK1
                  clear BK1
                  have HQ := HQ1
                  clear HQ1
                  have HB := HB1
                  clear HB1
                  have hb_0 : w4.cell? ⟨gb, 0, none⟩ = some (.int .i64 (rd_T32 l0 x).f0) := (blk_cell BK.out 0).trans rfl
                  have hb_1 : w4.cell? ⟨gb, 1, none⟩ = some (.int .i64 (rd_T32 l0 x).f1) := (blk_cell BK.out 1).trans rfl
                  have hb_2 : w4.cell? ⟨gb, 2, none⟩ = some (.int .i64 (wrap64 ((rd_T32 l0 x).f2 + pn))) := (blk_cell BK.out 2).trans rfl
                  have hb_3 : w4.cell? ⟨gb, 3, none⟩ = some (.int .i64 (rd_T32 l0 x).f3) := (blk_cell BK.out 3).trans rfl
                  go_roundg kq
                  case measure => omega
                  case rel => exact ⟨_, x + 1, (by first | with_reducible rfl | rw [hx1] | (simp only [i64_w]; rw [show wrap64 (x + 1) = x + 1 from (i64_w _).symm.trans hx1])), ⟨by have := HJ.out; omega, by have := HJ.out; omega⟩, HB, ⟨Kd.R_mono HR.out (fun _ h => h.1)⟩, ⟨Kd.R_mono HQ.out (fun _ h => h.1)⟩, ⟨by have := HOL.out; have := HJ.out; rw [List.length_append, List.length_singleton]; omega⟩, ⟨⟨_, back_Offsets.OM_more HT.out (show l1.length + x.toNat + 1 ≤ l1.length + (x + 1).toNat by have := HJ.out; omega), HS2.out⟩⟩⟩
                · have clb : decide ((wrap64 ((rd_T32 l0 x).f2 + pn)) < 0) = false := decide_eq_false cl
                  have HS2 := Aside0.mk ((if_neg cl).symm.trans HS1.out)
                  clear cl HS1
                  go_wp2
                  go_roundg kq
                  case measure => omega
                  case rel => exact ⟨lo, x + 1, (by first | with_reducible rfl | rw [hx1] | (simp only [i64_w]; rw [show wrap64 (x + 1) = x + 1 from (i64_w _).symm.trans hx1])), ⟨by have := HJ.out; omega, by have := HJ.out; omega⟩, HB, ⟨Kd.R_mono HR.out (fun _ h => h.1)⟩, ⟨Kd.R_mono HQ.out (fun _ h => h.1)⟩, ⟨by have := HOL.out; have := HJ.out; omega⟩, ⟨⟨_, back_Offsets.OM_more HT.out (show l1.length + x.toNat + 1 ≤ l1.length + (x + 1).toNat by have := HJ.out; omega), HS2.out⟩⟩⟩
            · have cb : decide (x < (l0.length : Int)) = false := decide_eq_false c
              obtain rfl : x = (l0.length : Int) := by have := HJ.out; omega
              have HS1 := Aside0.mk (show lo = RES by have := HS.out; rw [Int.toNat_natCast, List.drop_length, back_Offsets.left] at this; exact this)
              clear HT HS HJ c
              obtain rfl : lo = _ := HS1.out.trans HRES.out.symm
              go_wp2
              go_ret3
              exact ⟨_, _, rfl, Kd.R_mono HR.out (fun _ _ => trivial), Kd.R_mono HQ.out (fun _ _ => trivial), HB.out⟩
set_option maxHeartbeats 4000000 in
set_option maxRecDepth 100000 in
theorem back_Offsets.bad1 (k : Nat) (A0 : Option Addr) (c0 : Nat) (l0 : List S32) (A1 : Option Addr) (c1 : Nat) (l1 : List S32) (a2 : Int) (e0 : Int) (w : World) (hr0 : Kd.C k32 w A0 l0.length l0) (hc0 : l0.length ≤ c0) (h0 : back_Check.f k l0 = some e0) (hne : e0 ≠ 0) :
    Calls Try.prog 27 #[.slice A0 l0.length c0, .slice A1 l1.length c1, .int .i64 a2] w fun e w' => e = .returned (.tuple #[.slice none 0 0, .slice none 0 0, .int .i64 e0]) ∧ Below w.heap.size w w' := by
  have i0 : ∀ w, (Instr.index 73 (.agg #[.slice A0 l0.length c0, .slice A1 l1.length c1]) (.int .i64 0)).run Try.prog w = .ok (.slice A0 l0.length c0) w := fun _ => by kernel_rfl
  have hb0 : (e0 != 0) = true := bne_iff_ne.mpr hne
  have hb1 : (e0 == 0) = false := beq_eq_false_iff_ne.mpr hne
  go_enter Try.func27, Try.ntmps27
  go_wp2_with fail
  refine wp_loop_rounds 1 ?_
  rw [rounds_succ]
  go_wp2_with (go_at_call 24; refine (back_Check.calls k _ _ l0 e0 _ hr0 hc0 h0).mono ?_; rintro e w1 ⟨rfl, hb⟩)
  go_ret3
  exact ⟨rfl, hb⟩
set_option maxHeartbeats 4000000 in
set_option maxRecDepth 100000 in
theorem back_Offsets.bad2 (k : Nat) (A0 : Option Addr) (c0 : Nat) (l0 : List S32) (A1 : Option Addr) (c1 : Nat) (l1 : List S32) (a2 : Int) (e1 : Int) (w : World) (hr0 : Kd.C k32 w A0 l0.length l0) (hc0 : l0.length ≤ c0) (hr1 : Kd.C k32 w A1 l1.length l1) (hc1 : l1.length ≤ c1)
    (h0 : back_Check.f k l0 = some 0) (h1 : back_Check.f k l1 = some e1) (hne : e1 ≠ 0) :
    Calls Try.prog 27 #[.slice A0 l0.length c0, .slice A1 l1.length c1, .int .i64 a2] w fun e w' => e = .returned (.tuple #[.slice none 0 0, .slice none 0 0, .int .i64 e1]) ∧ Below w.heap.size w w' := by
  have i0 : ∀ w, (Instr.index 73 (.agg #[.slice A0 l0.length c0, .slice A1 l1.length c1]) (.int .i64 0)).run Try.prog w = .ok (.slice A0 l0.length c0) w := fun _ => by kernel_rfl
  have i1 : ∀ w, (Instr.index 73 (.agg #[.slice A0 l0.length c0, .slice A1 l1.length c1]) (.int .i64 1)).run Try.prog w = .ok (.slice A1 l1.length c1) w := fun _ => by kernel_rfl
  have hb0 : (e1 != 0) = true := bne_iff_ne.mpr hne
  have hb1 : (e1 == 0) = false := beq_eq_false_iff_ne.mpr hne
  go_enter Try.func27, Try.ntmps27
  go_wp2_with fail
  refine wp_loop_rounds 2 ?_
  rw [rounds_succ]
  go_wp2_with (go_at_call 24; refine (back_Check.calls k _ _ l0 0 _ hr0 hc0 h0).mono ?_; rintro e w1 ⟨rfl, hb⟩)
  rw [rounds_succ]
  go_wp2_with (go_at_call 24; refine (back_Check.calls k _ _ l1 e1 _ (Kd.C_below hr1 hb) hc1 h1).mono ?_; rintro e w2 ⟨rfl, hb2⟩)
  go_ret3
  exact ⟨rfl, hb.trans (hb2.mono hb.size)⟩
set_option maxHeartbeats 4000000 in
set_option maxRecDepth 100000 in
theorem back_Offsets.bad3 (k : Nat) (A0 : Option Addr) (c0 : Nat) (l0 : List S32) (A1 : Option Addr) (c1 : Nat) (l1 : List S32) (a2 : Int) (w : World) (hr0 : Kd.C k32 w A0 l0.length l0) (hc0 : l0.length ≤ c0) (hr1 : Kd.C k32 w A1 l1.length l1) (hc1 : l1.length ≤ c1)
    (h0 : back_Check.f k l0 = some 0) (h1 : back_Check.f k l1 = some 0) (hd : a2 < 0) :
    Calls Try.prog 27 #[.slice A0 l0.length c0, .slice A1 l1.length c1, .int .i64 a2] w fun e w' => e = .returned (.tuple #[.slice none 0 0, .slice none 0 0, .int .i64 1]) ∧ Below w.heap.size w w' := by
  have i0 : ∀ w, (Instr.index 73 (.agg #[.slice A0 l0.length c0, .slice A1 l1.length c1]) (.int .i64 0)).run Try.prog w = .ok (.slice A0 l0.length c0) w := fun _ => by kernel_rfl
  have i1 : ∀ w, (Instr.index 73 (.agg #[.slice A0 l0.length c0, .slice A1 l1.length c1]) (.int .i64 1)).run Try.prog w = .ok (.slice A1 l1.length c1) w := fun _ => by kernel_rfl
  have hd0 : decide (a2 < 0) = true := decide_eq_true hd
  clear hd
  go_enter Try.func27, Try.ntmps27
  go_wp2_with fail
  refine wp_loop_rounds 3 ?_
  rw [rounds_succ]
  go_wp2_with (go_at_call 24; refine (back_Check.calls k _ _ l0 0 _ hr0 hc0 h0).mono ?_; rintro e w1 ⟨rfl, hb⟩)
  rw [rounds_succ]
  go_wp2_with (go_at_call 24; refine (back_Check.calls k _ _ l1 0 _ (Kd.C_below hr1 hb) hc1 h1).mono ?_; rintro e w2 ⟨rfl, hb2⟩)
  rw [rounds_succ]
  go_wp2
  go_ret3
  exact ⟨rfl, hb.trans (hb2.mono hb.size)⟩
def back_Offsets.took (l0 l1 : List S32) (a2 : Int) : List S39 × (Int → Int) := back_Offsets.go a2 l1 (back_Offsets.rest l0 (fun _ => 0)) (fun _ => 0) []
/-- back.Offsets: what it answers, where all that it reads is well. -/
def back_Offsets.f (l0 l1 : List S32) (a2 : Int) : Option (List S39 × List S32 × Int) :=
  (back_Check.f (2 * (l0.length + l1.length) + 4) l0).bind fun e0 => if e0 = 0 then ((back_Check.f (2 * (l0.length + l1.length) + 4) l1).bind fun e1 => if e1 = 0 then (if a2 < 0 then some ([], [], 1) else
    if (corr_wf l0 && corr_wf l1 && decide (l0.length ≤ 1000 ∧ l1.length ≤ 1000)) = true then some ((back_Offsets.took l0 l1 a2).1, back_Offsets.left l0 (back_Offsets.took l0 l1 a2).2 [], 0) else none) else some ([], [], e1)) else some ([], [], e0)
theorem back_Offsets.calls (A0 : Option Addr) (c0 : Nat) (l0 : List (S32)) (A1 : Option Addr) (c1 : Nat) (l1 : List (S32)) (a2 : Int) (r1 : List (S39)) (r2 : List (S32)) (r3 : Int) (w : World) (hr0 : Kd.C k32 w A0 l0.length l0) (hc0 : l0.length ≤ c0) (hr1 : Kd.C k32 w A1 l1.length l1) (hc1 : l1.length ≤ c1) (h : back_Offsets.f l0 l1 a2 = some (r1, r2, r3)) :
    Calls Try.prog 27 #[.slice A0 l0.length c0, .slice A1 l1.length c1, .int .i64 a2] w fun e w' => ∃ v0_ v1_ : Value, e = .returned (.tuple #[v0_, v1_, .int .i64 r3]) ∧ Kd.R k39 39 w' w.heap.size (fun _ => True) v0_ r1 ∧ Kd.R k32 32 w' w.heap.size (fun _ => True) v1_ r2 ∧ Below w.heap.size w w' := by
  unfold back_Offsets.f at h
  obtain ⟨e0, h0, h⟩ := Option.bind_eq_some_iff.mp h
  by_cases z0 : e0 = 0
  · subst z0
    rw [if_pos rfl] at h
    obtain ⟨e1, h1, h⟩ := Option.bind_eq_some_iff.mp h
    by_cases z1 : e1 = 0
    · subst z1
      rw [if_pos rfl] at h
      by_cases d1 : a2 < 0
      · rw [if_pos d1] at h
        have h := Option.some.inj h
        injection h with e1 e2
        injection e2 with e2 e3
        subst e1 e2 e3
        exact Calls.mono (back_Offsets.bad3 _ A0 c0 l0 A1 c1 l1 a2 w hr0 hc0 hr1 hc1 h0 h1 d1) (fun e w' ⟨he, hb⟩ => ⟨_, _, he, Kd.R_nil _ _ _ _ _, Kd.R_nil _ _ _ _ _, hb⟩)
      · rw [if_neg d1] at h
        by_cases z : (corr_wf l0 && corr_wf l1 && decide (l0.length ≤ 1000 ∧ l1.length ≤ 1000)) = true
        · rw [if_pos z] at h
          have h := Option.some.inj h
          injection h with e1 e2
          injection e2 with e2 e3
          subst e1 e2 e3
          rw [Bool.and_eq_true, Bool.and_eq_true, decide_eq_true_eq] at z
          exact back_Offsets.good _ A0 c0 l0 A1 c1 l1 a2 w hr0 hc0 hr1 hc1 h0 h1 d1 z.1.1 z.1.2 z.2.1 z.2.2 _ _ rfl
        · rw [if_neg z] at h
          exact absurd h (by simp)
    · rw [if_neg z1] at h
      have h := Option.some.inj h
      injection h with e1 e2
      injection e2 with e2 e3
      subst e1 e2 e3
      exact Calls.mono (back_Offsets.bad2 _ A0 c0 l0 A1 c1 l1 a2 _ w hr0 hc0 hr1 hc1 h0 h1 z1) (fun e w' ⟨he, hb⟩ => ⟨_, _, he, Kd.R_nil _ _ _ _ _, Kd.R_nil _ _ _ _ _, hb⟩)
  · rw [if_neg z0] at h
    have h := Option.some.inj h
    injection h with e1 e2
    injection e2 with e2 e3
    subst e1 e2 e3
    exact Calls.mono (back_Offsets.bad1 _ A0 c0 l0 A1 c1 l1 a2 _ w hr0 hc0 h0 z0) (fun e w' ⟨he, hb⟩ => ⟨_, _, he, Kd.R_nil _ _ _ _ _, Kd.R_nil _ _ _ _ _, hb⟩)

end Go.Proofs.Ytbcaaocogphdeaa.PDel
