-- Printed by this session's wip/myprint.py.
import Derived.Test.YtghnbiknghelpaaPBtlx0
namespace Go.Proofs.Ytghnbiknghelpaa.PBtl
open Go.RowKit Go.Proofs.YtghnbiknghelpaaW.PrintWords Go.Proofs.YtghnbiknghelpaaW.PrintLast Go.Proofs.YtghnbiknghelpaaW.PrintMore
attribute [local go_sem] max2_int min2_int max_two min_two max_three min_three max_four min_four   -- for this text's walks alone
set_option linter.unusedVariables false
set_option linter.unusedSimpArgs false

/-! ### mootref4_Stands: function 26 -/
section
open Go.Deep
def mootref4_Stands.hit (W O : List Int) (s : Int → Bool) (k : Int) (j : Nat) : Bool := decide (rd O j = k) && (decide (rd W k ≤ rd W j) && s j)
/-- Does piece k stand (fuel: as many as come behind it). -/
def mootref4_Stands.sis (W O : List Int) : Nat → Int → Bool
  | 0, _ => true
  | d + 1, k => !((List.range W.length).any fun j => mootref4_Stands.hit W O (mootref4_Stands.sis W O d) k j)
def mootref4_Stands.sfrom (W O : List Int) (d : Nat) (k : Int) (i : Nat) : Bool := !(((List.range W.length).drop i).any fun j => mootref4_Stands.hit W O (mootref4_Stands.sis W O d) k j)
theorem mootref4_Stands.sfrom_step (W O : List Int) (d : Nat) (k : Int) (i : Nat) (h : i < W.length) : mootref4_Stands.sfrom W O d k i = if mootref4_Stands.hit W O (mootref4_Stands.sis W O d) k i = true then false else mootref4_Stands.sfrom W O d k (i + 1) := by
  unfold mootref4_Stands.sfrom
  rw [List.drop_eq_getElem_cons (by simpa using h), List.any_cons, List.getElem_range]
  cases mootref4_Stands.hit W O (mootref4_Stands.sis W O d) k i <;> simp
/-- What the closure reads. -/
def mootref4_Stands.SW (W O : List Int) (AW AO : Option Addr) (cW cO gw go gf : Nat) (w : World) : Prop :=
  Kd.C (Kd.int .i64) w AW W.length W ∧ Kd.C (Kd.int .i64) w AO O.length O ∧ w.cell? ⟨gw, 0, none⟩ = some (.slice AW W.length cW) ∧ w.cell? ⟨go, 0, none⟩ = some (.slice AO O.length cO) ∧
    w.cell? ⟨gf, 0, none⟩ = some (.func (.func 51) #[] #[.pointer (some ⟨gw, 0, none⟩), .pointer (some ⟨go, 0, none⟩), .pointer (some ⟨gf, 0, none⟩)])
theorem mootref4_Stands.SW.drewN {W O : List Int} {AW AO : Option Addr} {cW cO gw go gf : Nat} {w : World} (h : mootref4_Stands.SW W O AW AO cW cO gw go gf w) (m : Nat) : mootref4_Stands.SW W O AW AO cW cO gw go gf (w.drewN m) :=
  ⟨Kd.C_drewN h.1 m, Kd.C_drewN h.2.1 m, h.2.2.1, h.2.2.2.1, h.2.2.2.2⟩
set_option maxHeartbeats 4000000 in
set_option maxRecDepth 100000 in
theorem mootref4_Stands.clo (W O : List Int) (AW AO : Option Addr) (cW cO gw go gf : Nat) (hl : O.length = W.length) (hn : W.length ≤ 100000) (hv : ∀ j : Nat, j < W.length → rd O j < j) : ∀ (d : Nat) (k : Int) (w : World), 0 ≤ k → k < W.length → (W.length : Int) ≤ k + d → mootref4_Stands.SW W O AW AO cW cO gw go gf w →
    Calls Try.prog 51 #[.int .i64 k, .pointer (some ⟨gw, 0, none⟩), .pointer (some ⟨go, 0, none⟩), .pointer (some ⟨gf, 0, none⟩)] w fun e w' => e = .returned (.bool (mootref4_Stands.sis W O d k)) ∧ ∃ m, w' = w.drewN m := by
  intro d
  induction d with
  | zero => intro k w h0 h1 h2 hs; omega
  | succ d ih =>
    intro k w h0 h1 h2 hs
    have HS := Aside0.mk hs
    have HL := Aside0.mk hl
    have HN := Aside0.mk hn
    have HV := Aside0.mk hv
    have HK := Aside0.mk (And.intro h0 (And.intro h1 h2))
    have IH := Aside0.mk ih
    have bw := hs.2.2.1
    clear hs hl hn hv h0 h1 h2 ih
    go_enter Try.func51, Try.ntmps51
    go_wp2
    clear bw
    go_loopg [9, 6] W.length (fun kq v9 v6 wr => ∃ x : Int, v9 = .int .i64 x ∧ Aside0 (0 ≤ x ∧ x + kq = W.length) ∧ Aside0 (mootref4_Stands.sfrom W O d k x.toNat = mootref4_Stands.sis W O (d + 1) k) ∧ Aside0 (∃ m, wr = w.drewN m))
    case atStart => exact ⟨0, rfl, ⟨by simp, by simp⟩, ⟨rfl⟩, ⟨0, by first | rfl | simp [World.drewN]⟩⟩
    case round =>
      obtain ⟨x, rfl, HJ, HX, HQ⟩ := hrel
      obtain ⟨m, rfl⟩ := HQ.out
      clear HQ
      have SM := Aside0.mk (HS.out.drewN m)
      by_cases c : x < (W.length : Int)
      · have HJ1 := HJ.out
        have HN1 := HN.out
        obtain ⟨kq, rfl⟩ : ∃ k', gk = k' + 1 := ⟨gk - 1, by omega⟩
        have HT := Aside0.mk (mootref4_Stands.sfrom_step W O d k x.toNat (by omega))
        have hx1 : IntKind.i64.wrap (x + 1) = x + 1 := by rw [i64_w]; unfold wrap64; omega
        have hxt : (x + 1).toNat = x.toNat + 1 := by omega
        have hxx : ((x.toNat : Nat) : Int) = x := by omega
        have p1 := HJ1.1
        have HK1 := HK.out
        obtain ⟨aW, eW, hWx⟩ := Kd.at_int HS.out.1 x p1 c
        obtain ⟨aW', eW', hWk⟩ := Kd.at_int HS.out.1 k HK1.1 HK1.2.1
        obtain ⟨aO, eO, hOx⟩ := Kd.at_int HS.out.2.1 x p1 (by rw [HL.out]; exact c)
        have hvx := HV.out x.toNat (by omega)
        rw [hxx] at hvx
        have bw := HS.out.2.2.1
        have bo := HS.out.2.2.2.1
        have bf := HS.out.2.2.2.2
        subst eW
        subst eO
        obtain rfl := Option.some.inj eW'
        have cb := decide_eq_true c
        have cbO : decide (x < (O.length : Int)) = true := decide_eq_true (by rw [HL.out]; exact c)
        have p2 := decide_eq_true HK1.1
        have p3 := decide_eq_true HK1.2.1
        have p0 := decide_eq_true p1
        have q0 : (0 ≤ x) = True := eq_true p1
        have q1 : (x < (W.length : Int)) = True := eq_true c
        have q2 : (x < (O.length : Int)) = True := eq_true (by rw [HL.out]; exact c)
        have q3 : (0 ≤ k) = True := eq_true HK1.1
        have q4 : (k < (W.length : Int)) = True := eq_true HK1.2.1
        have HM : (mootref4_Stands.hit W O (mootref4_Stands.sis W O d) k x.toNat) = (decide (rd O x = k) && (decide (rd W k ≤ rd W x) && mootref4_Stands.sis W O d x)) := by unfold mootref4_Stands.hit; rw [hxx]
        have fin : mootref4_Stands.hit W O (mootref4_Stands.sis W O d) k x.toNat = false → Aside0 (mootref4_Stands.sfrom W O d k (x + 1).toNat = mootref4_Stands.sis W O (d + 1) k) := fun h => ⟨by have e := HX.out; rw [HT.out, h, if_neg (by simp)] at e; rw [hxt]; exact e⟩
        have FIN := Aside0.mk fin
        have HM' := Aside0.mk HM
        have IHX := Aside0.mk (show rd O x = k → ∀ w', mootref4_Stands.SW W O (some aW) (some aO) cW cO gw go gf w' → Calls Try.prog 51 #[.int .i64 x, .pointer (some ⟨gw, 0, none⟩), .pointer (some ⟨go, 0, none⟩), .pointer (some ⟨gf, 0, none⟩)] w' fun e w'' => e = .returned (.bool (mootref4_Stands.sis W O d x)) ∧ ∃ m, w'' = w'.drewN m from fun e w' hw' => IH.out x w' p1 c (by omega) hw')
        have HXX := Aside0.mk (And.intro hx1 (And.intro p1 (And.intro c HJ1)))
        have cH := Aside0.mk c
        clear fin HM HJ1 HN1 hvx hxt hxx HK1 p1 c hx1
        by_cases c1 : rd O x = k
        · have d1 : (rd O x == k) = true := by simp [c1]
          have IHY := Aside0.mk (IHX.out c1)
          have C1 := Aside0.mk c1
          clear c1
          by_cases c2 : rd W k ≤ rd W x
          · have d2 := decide_eq_true c2
            have C2 := Aside0.mk c2
            clear c2
            cases hh : mootref4_Stands.sis W O d x with
            | true =>
              have HH := Aside0.mk hh
              have IHB := Aside0.mk (show ∀ q, Calls Try.prog 51 #[.int .i64 x, .pointer (some ⟨gw, 0, none⟩), .pointer (some ⟨go, 0, none⟩), .pointer (some ⟨gf, 0, none⟩)] (w.drewN (m + q)) fun e w'' => e = .returned (.bool true) ∧ ∃ n, w'' = w.drewN (m + n) from fun q => (IHY.out _ (HS.out.drewN (m + q))).mono fun e w'' ⟨he, p, hp⟩ => ⟨by rw [he, hh], q + p, by rw [hp, World.drewN_drewN, Nat.add_assoc]⟩)
              clear hh
              go_wp2
              go_quiet ((go_at_call 51; exact IHB.out _))
              go_wp2
              go_ret
              refine ⟨?_, ⟨m + nq, by first | rfl | exact World.drewN_drewN _ _ _⟩⟩
              have e := HX.out
              rw [HT.out, HM'.out, HH.out, decide_eq_true C1.out, decide_eq_true C2.out, if_pos (by rfl)] at e
              rw [← e]; rfl
            | false =>
              have HH := Aside0.mk hh
              have IHB := Aside0.mk (show ∀ q, Calls Try.prog 51 #[.int .i64 x, .pointer (some ⟨gw, 0, none⟩), .pointer (some ⟨go, 0, none⟩), .pointer (some ⟨gf, 0, none⟩)] (w.drewN (m + q)) fun e w'' => e = .returned (.bool false) ∧ ∃ n, w'' = w.drewN (m + n) from fun q => (IHY.out _ (HS.out.drewN (m + q))).mono fun e w'' ⟨he, p, hp⟩ => ⟨by rw [he, hh], q + p, by rw [hp, World.drewN_drewN, Nat.add_assoc]⟩)
              clear hh
              have hfin := FIN.out (by rw [HM'.out, HH.out]; simp)
              go_wp2
              go_quiet ((go_at_call 51; exact IHB.out _))
              go_wp2
              go_roundg kq
              case measure => have := HXX.out; omega
              case rel => exact ⟨x + 1, (by first | rfl | rw [HXX.out.1] | rw [show wrap64 (x + 1) = x + 1 from (i64_w _).symm.trans HXX.out.1]), ⟨by have := HXX.out; omega, by have := HXX.out; omega⟩, hfin, ⟨m + nq, by first | rfl | exact World.drewN_drewN _ _ _⟩⟩
          · have d2 := decide_eq_false c2
            have C2 := Aside0.mk c2
            clear c2
            have hfin := FIN.out (by rw [HM'.out, decide_eq_false C2.out]; simp)
            go_wp2
            go_quiet (fail)
            go_wp2
            go_roundg kq
            case measure => have := HXX.out; omega
            case rel => exact ⟨x + 1, (by first | rfl | rw [HXX.out.1] | rw [show wrap64 (x + 1) = x + 1 from (i64_w _).symm.trans HXX.out.1]), ⟨by have := HXX.out; omega, by have := HXX.out; omega⟩, hfin, ⟨m + nq, by first | rfl | exact World.drewN_drewN _ _ _⟩⟩
        · have d1 : (rd O x == k) = false := by simp [c1]
          have C1 := Aside0.mk c1
          clear c1
          have hfin := FIN.out (by rw [HM'.out, decide_eq_false C1.out]; simp)
          go_wp2
          go_quiet (fail)
          go_wp2
          go_roundg kq
          case measure => have := HXX.out; omega
          case rel => exact ⟨x + 1, (by first | rfl | rw [HXX.out.1] | rw [show wrap64 (x + 1) = x + 1 from (i64_w _).symm.trans HXX.out.1]), ⟨by have := HXX.out; omega, by have := HXX.out; omega⟩, hfin, ⟨m + nq, by first | rfl | exact World.drewN_drewN _ _ _⟩⟩
      · have cb : decide (x < (W.length : Int)) = false := decide_eq_false c
        have hx : x.toNat = W.length := by have := HJ.out; omega
        have e := HX.out
        rw [hx, show mootref4_Stands.sfrom W O d k W.length = true by unfold mootref4_Stands.sfrom; rw [List.drop_of_length_le (by simp)]; rfl] at e
        have E := Aside0.mk e
        clear e hx c
        go_wp2
        go_ret
        exact ⟨by rw [← E.out]; rfl, m, rfl⟩
def mootref4_Stands.f (l0 l1 : List Int) : Option (List Bool) := if (decide (l1.length = l0.length ∧ l0.length ≤ 100000) && (List.range l0.length).all fun j : Nat => decide (rd l1 (j : Int) < (j : Int))) = true then some ((List.range l0.length).map fun k : Nat => mootref4_Stands.sis l0 l1 l0.length (k : Int)) else none
set_option maxHeartbeats 4000000 in
set_option maxRecDepth 100000 in
theorem mootref4_Stands.calls (A0 : Option Addr) (c0 : Nat) (l0 : List Int) (A1 : Option Addr) (c1 : Nat) (l1 : List Int) (r : List Bool) (w : World) (hr0 : Kd.C (Kd.int .i64) w A0 l0.length l0) (hc0 : l0.length ≤ c0) (hr1 : Kd.C (Kd.int .i64) w A1 l1.length l1) (hc1 : l1.length ≤ c1) (h : mootref4_Stands.f l0 l1 = some r) :
    Calls Try.prog 26 #[.slice A0 l0.length c0, .slice A1 l1.length c1] w fun e w' => ∃ v0_ : Value, e = .returned (v0_) ∧ Kd.R Kd.bool 4 w' w.heap.size (fun _ => True) v0_ r ∧ Below w.heap.size w w' := by
  unfold mootref4_Stands.f at h
  split at h
  · rename_i hg
    rw [Bool.and_eq_true, decide_eq_true_eq] at hg
    obtain ⟨⟨hl, hn⟩, hv0⟩ := hg
    have hv : ∀ j : Nat, j < l0.length → rd l1 (j : Int) < (j : Int) := fun j hj => by
      have := List.all_eq_true.1 hv0 j (List.mem_range.2 hj)
      simpa using this
    have hr := Option.some.inj h
    clear h hv0
    have HR := Aside0.mk hr
    have HL := Aside0.mk hl
    have HN := Aside0.mk hn
    have HV := Aside0.mk hv
    have HR0 := Aside0.mk hr0
    have HR1 := Aside0.mk hr1
    have HB := Aside0.mk (Below.refl w.heap.size w)
    have d0 : decide (0 ≤ (l0.length : Int)) = true := decide_eq_true (by omega)
    have d1 : ((l0.length : Int) : Int).toNat ≤ 281474976710656 := by omega
    have D1 := Aside0.mk d1
    clear hr hl hn hv hr0 hr1 hc0 hc1 d1
    have hu90 := Try.underlying90
    have hu22 := Try.underlying22
    go_enter Try.func26, Try.ntmps26
    go_upto_region 4 with (first
      | ((with_reducible refine gate_dst (N := 2) rfl ?_); refine box_event ?hg (N := 2) ?hd (cs := #[.slice A0 l0.length c0]) (t := 22) ?hr ?_; (case hd => rfl); (case hg => rfl); (case hr => first | (go_simp; done) | (go_simp; rfl)); intro gw hg w1 hbox hb; have n0_ := Aside0.mk (below_step HB.out hb); have BW := Aside0.mk hbox; have GW := Aside0.mk (show w.heap.size ≤ gw by rw [hg]; exact Nat.le_refl _); clear HB; have HB := n0_; clear n0_ hb hbox hg; have cw1 : w1.cell? ⟨gw, 0, none⟩ = some (.slice A0 l0.length c0) := (blk_cell BW.out 0).trans rfl)
      | ((with_reducible refine gate_dst (N := 3) rfl ?_); refine box_event ?hg (N := 3) ?hd (cs := #[.slice A1 l1.length c1]) (t := 22) ?hr ?_; (case hd => rfl); (case hg => rfl); (case hr => first | (go_simp; done) | (go_simp; rfl)); intro go hg w2 hbox hb; have n0_ := Aside0.mk (below_step HB.out hb); have n1_ := Aside0.mk (blk_below BW.out hb); have BO := Aside0.mk hbox; have GO := Aside0.mk (show w.heap.size ≤ go by rw [hg]; exact below_size HB.out); clear HB BW cw1; have HB := n0_; have BW := n1_; clear n0_ n1_ hb hbox hg; have cw1 : w2.cell? ⟨gw, 0, none⟩ = some (.slice A0 l0.length c0) := (blk_cell BW.out 0).trans rfl)
      | ((with_reducible refine gate_dst (N := 10) rfl ?_); refine Kd.R_make Kd.bool _ 4 rfl (N := 10) rfl 36 _ _ rfl (l0.length : Int) rfl rfl Try.underlying36 (.bool false) 1 info4 rfl (by decide) (by omega) false (ok := fun _ => True) (okp := fun _ => True) rfl (fun _ hk => hk) trivial (Int.natCast_nonneg _) (Nat.le_trans (Nat.mul_le_mul_right _ (D1.out : (l0.length : Int).toNat ≤ 281474976710656)) (by omega)) (Below.refl _ _) (Nat.le_refl _) ?_; intro vx w3 ho hb hg_ hnew_; clear hg_ hnew_; have n0_ := Aside0.mk (Kd.R_lower ho (below_size HB.out)); have n1_ := Aside0.mk (blk_below BW.out hb); have n2_ := Aside0.mk (blk_below BO.out hb); have n3_ := Aside0.mk (below_step HB.out hb); clear HB BW BO cw1; have HB := n3_; have BW := n1_; have BO := n2_; have HO := n0_; clear n0_ n1_ n2_ n3_ hb ho)
      | ((with_reducible refine gate_dst (N := 6) rfl ?_); refine box_event ?hg (N := 6) ?hd (cs := #[.nilFunc]) (t := 90) ?hr ?_; (case hd => rfl); (case hg => rfl); (case hr => first | (go_simp; done) | (go_simp; rfl)); intro gf hg w4 hbox hb; have n0_ := Aside0.mk (below_step HB.out hb); have n1_ := Aside0.mk (blk_below BW.out hb); have n2_ := Aside0.mk (blk_below BO.out hb); have n3_ := Aside0.mk (Kd.R_below HO.out hb); have BF := Aside0.mk hbox; have GF := Aside0.mk (show w.heap.size ≤ gf by rw [hg]; exact below_size HB.out); have NW := Aside0.mk (show gw ≠ gf by rw [hg]; exact Nat.ne_of_lt (blk_lt BW.out)); have NO := Aside0.mk (show go ≠ gf by rw [hg]; exact Nat.ne_of_lt (blk_lt BO.out)); clear HB BW BO HO; have HB := n0_; have BW := n1_; have BO := n2_; have HO := n3_; clear n0_ n1_ n2_ n3_ hb hbox hg; have cf1 : w4.cell? ⟨gf, 0, none⟩ = some .nilFunc := (blk_cell BF.out 0).trans rfl; have ff1 := blk_frozen BF.out 0)
      | ((with_reducible refine gate_store (t := 90) (p := 6) rfl ?_); refine store_event (t := 90) (p := 6) (v := ?vo_w5) (w1 := (w4.setCell ⟨gf, 0, none⟩ (.func (.func 51) #[] #[.pointer (some ⟨gw, 0, none⟩), .pointer (some ⟨go, 0, none⟩), .pointer (some ⟨gf, 0, none⟩)]))) ?hg ?ho ?hn ?hr ?_; (case ho => rfl); (case hg => rfl); (case hn => rfl); (case hr => first | (go_simp; done) | (go_simp; rfl)); intro w5 hw; have n0_ := Aside0.mk (show Below w.heap.size w w5 by rw [hw]; exact below_set HB.out GF.out); have n1_ := Aside0.mk (show w5.heap[gw]? = some (.cells #[.slice A0 l0.length c0] 22) by rw [hw]; exact blk_far BW.out NW.out _); have n2_ := Aside0.mk (show w5.heap[go]? = some (.cells #[.slice A1 l1.length c1] 22) by rw [hw]; exact blk_far BO.out NO.out _); have n3_ := Aside0.mk (show w5.heap[gf]? = some (.cells #[.func (.func 51) #[] #[.pointer (some ⟨gw, 0, none⟩), .pointer (some ⟨go, 0, none⟩), .pointer (some ⟨gf, 0, none⟩)]] 90) by rw [hw]; exact blk_put BF.out 0 _ rfl); have n4_ := Aside0.mk (show Kd.R Kd.bool 4 w5 w.heap.size (fun _ => True) vx (List.replicate (l0.length : Int).toNat false) by rw [hw]; exact Kd.R_set HO.out BF.out (by decide) 0 _); clear HB BW BO BF HO cf1 ff1 hw; have HB := n0_; have BW := n1_; have BO := n2_; have BF := n3_; have HO := n4_; clear n0_ n1_ n2_ n3_ n4_)
      )
    obtain ⟨xs0, hxs0⟩ : ∃ xs0, xs0 = List.replicate (l0.length : Int).toNat false := ⟨_, rfl⟩
    have HO0 := HO.out
    rw [← hxs0] at HO0
    have XL := Aside0.mk (show xs0.length = l0.length by rw [hxs0]; simp)
    clear HO hxs0
    obtain ⟨Ax, cx, ex⟩ := Kd.R_slice HO0
    subst ex
    have HO := Aside0.mk HO0
    clear HO0
    go_wp2
    go_loopg [14, 7] l0.length (fun kq v14 v7 wr => ∃ (x : Int) (xs : List Bool), v14 = .int .i64 x ∧ Aside0 (0 ≤ x ∧ x + kq = l0.length) ∧ Aside0 (xs.length = l0.length) ∧ Aside0 (∀ j : Nat, j < x.toNat → xs[j]? = some (mootref4_Stands.sis l0 l1 l0.length (j : Int))) ∧ Aside0 (Kd.R Kd.bool 4 wr w.heap.size (fun _ => True) (.slice Ax xs0.length cx) xs) ∧ Aside0 (wr.heap[gw]? = some (.cells #[.slice A0 l0.length c0] 22)) ∧ Aside0 (wr.heap[go]? = some (.cells #[.slice A1 l1.length c1] 22)) ∧ Aside0 (wr.heap[gf]? = some (.cells #[.func (.func 51) #[] #[.pointer (some ⟨gw, 0, none⟩), .pointer (some ⟨go, 0, none⟩), .pointer (some ⟨gf, 0, none⟩)]] 90)) ∧ Aside0 (Below w.heap.size w wr))
    case atStart => exact ⟨0, xs0, rfl, ⟨by simp, by simp⟩, XL, ⟨fun j hj => absurd hj (by simp)⟩, HO, BW, BO, BF, HB⟩
    case round =>
      clear HO BW BO BF HB
      obtain ⟨x, xs, rfl, HJ, XS, HX, HO, BW, BO, BF, HB⟩ := hrel
      have XS1 := XS.out
      have XL1 := XL.out
      by_cases c : x < (l0.length : Int)
      · have HJ1 := HJ.out
        have HN1 := HN.out
        obtain ⟨kq, rfl⟩ : ∃ k', gk = k' + 1 := ⟨gk - 1, by omega⟩
        have hx1 : wrap64 (x + 1) = x + 1 := by unfold wrap64; omega
        have hxt : (x + 1).toNat = x.toNat + 1 := by omega
        have hxx : ((x.toNat : Nat) : Int) = x := by omega
        have hxl : x.toNat < xs.length := by omega
        have p1 := HJ1.1
        have cx1 : x < (xs0.length : Int) := by omega
        obtain ⟨gx, co, eo, gb, gl, cl, HG⟩ := Kd.R_form HO.out (by omega)
        injection eo with ea_ en_ ec_
        subst ea_
        subst ec_
        clear en_
        have cbX : decide (x < (l0.length : Int)) = true := decide_eq_true c
        have cb0 : decide (x < (xs0.length : Int)) = true := decide_eq_true cx1
        have p0 : decide (0 ≤ x) = true := decide_eq_true p1
        obtain ⟨hx0, hf0⟩ := Kd.R_celln false HO.out x p1 cx1
        have q0 : (0 ≤ x) = True := eq_true p1
        have q1 : (x < (xs0.length : Int)) = True := eq_true cx1
        have SWx := Aside0.mk (show mootref4_Stands.SW l0 l1 A0 A1 c0 c1 gw go gf wr from ⟨Kd.C_below HR0.out HB.out, Kd.C_below HR1.out HB.out, (blk_cell BW.out 0).trans rfl, (blk_cell BO.out 0).trans rfl, (blk_cell BF.out 0).trans rfl⟩)
        have cf : wr.cell? ⟨gf, 0, none⟩ = some (.func (.func 51) #[] #[.pointer (some ⟨gw, 0, none⟩), .pointer (some ⟨go, 0, none⟩), .pointer (some ⟨gf, 0, none⟩)]) := (blk_cell BF.out 0).trans rfl
        obtain ⟨b, hb_⟩ : ∃ b, b = mootref4_Stands.sis l0 l1 l0.length x := ⟨_, rfl⟩
        have CL := Aside0.mk (show Calls Try.prog 51 #[.int .i64 x, .pointer (some ⟨gw, 0, none⟩), .pointer (some ⟨go, 0, none⟩), .pointer (some ⟨gf, 0, none⟩)] wr fun e w' => e = .returned (.bool b) ∧ ∃ m, w' = wr.drewN m by
          rw [hb_]; exact mootref4_Stands.clo l0 l1 A0 A1 c0 c1 gw go gf HL.out HN1 HV.out l0.length x wr p1 c (by omega) SWx.out)
        have NX := Aside0.mk (show Aside0 (xs.length = l0.length) → Aside0 (∀ j : Nat, j < (x + 1).toNat → (xs.set x.toNat b)[j]? = some (mootref4_Stands.sis l0 l1 l0.length (j : Int))) from fun _ => ⟨fun j hj => by
          rw [List.getElem?_set]
          by_cases e : x.toNat = j
          · subst e
            rw [if_pos rfl, if_pos hxl, hb_, hxx]
          · rw [if_neg e]
            exact HX.out j (by omega)⟩)
        have HX1 := Aside0.mk hx1
        have GB := Aside0.mk gb
        have HXL := Aside0.mk (show (xs.set x.toNat b).length = l0.length by rw [List.length_set]; exact XS1)
        have cH := Aside0.mk c
        clear HJ1 HN1 hx1 hxt hxx hxl p1 cx1 gb gl cl HG c hb_ XS1 XL1
        go_wp2_with (first
          | (go_at_call 51; refine CL.out.mono ?_; rintro e w6 ⟨rfl, m, rfl⟩; clear CL)
          | ((with_reducible refine gate_store (t := 4) (p := 22) rfl ?_); have HP := Kd.R_putg (Kd.R_drewN HO.out m) x b; refine store_event (t := 4) (p := 22) (v := ?vo_w7) (w1 := ((wr.drewN m).setCell ⟨gx, (x : Int).toNat, none⟩ (.bool b))) ?hg ?ho ?hn ?hr ?_; (case ho => rfl); (case hg => rfl); (case hn => rfl); (case hr => first | (go_simp; done) | (go_simp; rfl)); intro w7 hw; have hg : (wr.drewN m).grownBy w7 (some gx) := (by rw [hw]; exact HP.2); have hp_ : Kd.R Kd.bool 4 w7 w.heap.size (fun _ => True) (.slice (some ⟨gx, 0, none⟩) xs0.length cx) (xs.set x.toNat b) := (by rw [hw]; exact HP.1); clear HP; have n0_ := Aside0.mk hp_; have n1_ := Aside0.mk (blk_grown (blk_drewN BW.out m) hg (Kd.R_ne (Kd.R_drewN HO.out m) (blk_drewN BW.out m) (by decide))); have n2_ := Aside0.mk (blk_grown (blk_drewN BO.out m) hg (Kd.R_ne (Kd.R_drewN HO.out m) (blk_drewN BO.out m) (by decide))); have n3_ := Aside0.mk (blk_grown (blk_drewN BF.out m) hg (Kd.R_ne (Kd.R_drewN HO.out m) (blk_drewN BF.out m) (by decide))); have n4_ := Aside0.mk (show Below w.heap.size w w7 by rw [hw]; exact below_set (pw_below_drewN HB.out m) GB.out); clear HO BW BO BF HB hw hg hp_; have HO := n0_; have BW := n1_; have BO := n2_; have BF := n3_; have HB := n4_; clear n0_ n1_ n2_ n3_ n4_))
        go_roundg kq
        case measure => have := HJ.out; omega
        case rel => exact ⟨x + 1, xs.set x.toNat b, (by first | rfl | rw [HX1.out] | (simp only [i64_w]; rw [HX1.out])), ⟨by have := HJ.out; omega, by have := HJ.out; omega⟩, HXL, NX.out XS, HO, BW, BO, BF, HB⟩
      · have cbX : decide (x < (xs0.length : Int)) = false := decide_eq_false (by rw [XL1]; exact c)
        have HJ1 := HJ.out
        have hxl : x.toNat = l0.length := by omega
        have e : xs = r := by
          rw [← HR.out]
          apply List.ext_getElem?
          intro j
          by_cases hj : j < l0.length
          · rw [HX.out j (by omega), List.getElem?_map, List.getElem?_range hj]
            rfl
          · rw [List.getElem?_eq_none (by omega), List.getElem?_eq_none (by simp; omega)]
        have E := Aside0.mk e
        clear e hxl HJ1 c XS1
        have XE := Aside0.mk XL1
        clear XL1
        go_wp2
        go_ret
        refine ⟨_, rfl, ?_, HB.out⟩
        have := HO.out
        rw [E.out] at this
        exact this
  · exact absurd h (by simp)
end

end Go.Proofs.Ytghnbiknghelpaa.PBtl
