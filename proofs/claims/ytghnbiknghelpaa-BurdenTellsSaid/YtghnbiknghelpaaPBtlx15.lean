-- Printed by this session's wip/myprint.py.
import Derived.Test.YtghnbiknghelpaaPBtlx0
namespace Go.Proofs.Ytghnbiknghelpaa.PBtl
open Go.RowKit Go.Proofs.YtghnbiknghelpaaW.PrintWords Go.Proofs.YtghnbiknghelpaaW.PrintLast Go.Proofs.YtghnbiknghelpaaW.PrintMore
attribute [local go_sem] max2_int min2_int max_two min_two max_three min_three max_four min_four   -- for this text's walks alone
set_option linter.unusedVariables false
set_option linter.unusedSimpArgs false

/-! ### mootref4_Proof: function 28 -/
section
open Go.Deep Go.ChangeMaps Go.WideElems Go.MapKept Go.Maps
/-- What two numbers side by side read as. -/
def mootref4_Proof.RV (v : Value) : Option (DataW Unit × List MemPlace) :=
  match v with
  | .agg cs => match cs.toList with
    | [.int .i64 a, .int .i64 b] => some (.agg [.lit (.int .i64 a), .lit (.int .i64 b)], [])
    | _ => none
  | _ => none
theorem mootref4_Proof.RV_inv {v : Value} {y : DataW Unit × List MemPlace} (h : mootref4_Proof.RV v = some y) : ∃ c : Int × Int, v = .agg #[.int .i64 c.1, .int .i64 c.2] := by
  unfold mootref4_Proof.RV at h
  split at h
  · rename_i cs
    split at h
    · rename_i a b e
      exact ⟨(a, b), by rw [show cs = #[.int .i64 a, .int .i64 b] from Array.toList_inj.1 e]⟩
    · exact absurd h (by simp)
  · exact absurd h (by simp)
theorem mootref4_Proof.kd3 : Keyed Try.prog 3 := int_keyed Try.underlying3
theorem mootref4_Proof.ins {w : World} {ops : Array Oper} {rest : List Oper} {o : Oper} {act : Act} {Q : Exit → Act → World → Prop} {b n : Nat} {D : DataW Unit} {M N : Tmp} {k a c : Int} (hg : o.guard = none) (hd : o.dst = none) (hop : o.op = Op.insert 92 (.tmp M) (.const (.int .i64 k)) (.tmp N))
    (hm : act.eval (.tmp M) = .map (some b)) (hx : act.eval (.tmp N) = .agg #[.int .i64 a, .int .i64 c]) (ho : w.ownsMap Try.prog 3 mootref4_Proof.RV b n D) (hn : n < 1000) (hk : (Lit.int .i64 k).wf = true)
    (h : ∀ w', w'.ownsMap Try.prog 3 mootref4_Proof.RV b (n + 1) (D.put (.int .i64 k) (.agg [.lit (.int .i64 a), .lit (.int .i64 c)])) → w.grownBy w' (some b) → wpList Try.prog ops Q rest act w') : wpList Try.prog ops Q (o :: rest) act w := by
  have hv' : act.eval (.const (.int .i64 k)) = .int .i64 k := rfl
  refine wpList_plain hg fun K' hK' => ?_
  obtain ⟨w', hrun, r1, r2⟩ := ho.update mootref4_Proof.kd3 Try.underlying92 (by unfold maxLen; omega) (keyOf_int_mk Try.underlying3 hk) (show mootref4_Proof.RV (.agg #[.int .i64 a, .int .i64 c]) = some (.agg [.lit (.int .i64 a), .lit (.int .i64 c)], []) from rfl)
  unfold Oper.wp
  simp [execOp, hop, hm, hx, hv', hrun, Result.andThen]
  refine hK' _ _ ?_
  rw [hd]
  exact h w' r1 r2
def mootref4_Proof.meets (a b s : Int) : Bool := if s = 1 then decide (b < a) else if s = 2 then decide (0 < a ∧ wrap64 (b * 3) ≤ a) else if s = 3 then decide (0 < a ∧ b < 1) else false
def mootref4_Proof.val (yes no s : Int) : Int := if mootref4_Proof.meets yes no s = true then 1 else if mootref4_Proof.meets no yes s = true then 0 else 2
/-- What is still to come, and what is known of what has come. -/
def mootref4_Proof.Inv (yes no s : Int) (left : Lit → Bool) : Prop :=
  (left (.int .i64 1) = false → mootref4_Proof.meets yes no s = false) ∧ (left (.int .i64 0) = false → mootref4_Proof.meets no yes s = false) ∧ ∀ kl, left kl = true → kl = .int .i64 1 ∨ kl = .int .i64 0
def mootref4_Proof.D (yes no : Int) : DataW Unit := ((DataW.map []).put (.int .i64 1) (.agg [.lit (.int .i64 yes), .lit (.int .i64 no)])).put (.int .i64 0) (.agg [.lit (.int .i64 no), .lit (.int .i64 yes)])
theorem mootref4_Proof.isKey (k : Int) (hk : (Lit.int .i64 k).wf = true) : WideAt.IsKeyLit (.int .i64 k) := mootref4_Proof.kd3.key (keyOf_int_mk Try.underlying3 hk)
theorem mootref4_Proof.start (yes no s : Int) : mootref4_Proof.Inv yes no s (Maps.has (mootref4_Proof.D yes no)) := by
  have i1 : IsMap ((DataW.map [] : DataW Unit).put (.int .i64 1) (.agg [.lit (.int .i64 yes), .lit (.int .i64 no)])) := IsMap.put ⟨[], rfl⟩ _ _
  refine ⟨fun h => ?_, fun h => ?_, fun kl h => ?_⟩
  · unfold mootref4_Proof.D at h
    rw [has_put_other (by simp), has_put_same ⟨[], rfl⟩ (mootref4_Proof.isKey 1 (by decide))] at h
    exact absurd h (by simp)
  · unfold mootref4_Proof.D at h
    rw [has_put_same i1 (mootref4_Proof.isKey 0 (by decide))] at h
    exact absurd h (by simp)
  · unfold mootref4_Proof.D at h
    by_cases e0 : kl = .int .i64 0
    · exact .inr e0
    · rw [has_put_other e0] at h
      by_cases e1 : kl = .int .i64 1
      · exact .inl e1
      · rw [has_put_other e1] at h
        exact absurd h (by simp [Maps.has])
/-- A round: what has come did not do. -/
theorem mootref4_Proof.Inv.next {yes no s x : Int} {left : Lit → Bool} (h : mootref4_Proof.Inv yes no s left) (h1 : x = 1 → mootref4_Proof.meets yes no s = false) (h0 : x = 0 → mootref4_Proof.meets no yes s = false) : mootref4_Proof.Inv yes no s (fun z => left z && !z.sameKey (.int .i64 x)) := by
  refine ⟨fun e => ?_, fun e => ?_, fun kl e => ?_⟩
  · rcases Bool.and_eq_false_iff.1 e with e | e
    · exact h.1 e
    · by_cases hx : x = 1
      · exact h1 hx
      · rw [Go.Maps.sameKey_ne (fun z => hx (by injection z with _ z; exact z.symm))] at e
        exact absurd e (by simp)
  · rcases Bool.and_eq_false_iff.1 e with e | e
    · exact h.2.1 e
    · by_cases hx : x = 0
      · exact h0 hx
      · rw [Go.Maps.sameKey_ne (fun z => hx (by injection z with _ z; exact z.symm))] at e
        exact absurd e (by simp)
  · exact h.2.2 kl (Bool.and_eq_true _ _ ▸ e).1
theorem mootref4_Proof.at1 (yes no : Int) (zd : DataW Unit) : (mootref4_Proof.D yes no).atKey (.int .i64 1) zd = .agg [.lit (.int .i64 yes), .lit (.int .i64 no)] := by
  unfold mootref4_Proof.D
  rw [atKey_put_other (by simp), atKey_put_same ⟨[], rfl⟩ (mootref4_Proof.isKey 1 (by decide))]
theorem mootref4_Proof.at0 (yes no : Int) (zd : DataW Unit) : (mootref4_Proof.D yes no).atKey (.int .i64 0) zd = .agg [.lit (.int .i64 no), .lit (.int .i64 yes)] := by
  unfold mootref4_Proof.D
  rw [atKey_put_same (IsMap.put ⟨[], rfl⟩ _ _) (mootref4_Proof.isKey 0 (by decide))]
theorem mootref4_Proof.ranges_below {w w' : World} {b r n : Nat} {D : DataW Unit} {left : Lit → Bool} {cnt : Nat} (h : w.ranges Try.prog 3 mootref4_Proof.RV b r n D left cnt) (hb : Below w.heap.size w w') : w'.ranges Try.prog 3 mootref4_Proof.RV b r n D left cnt := by
  have hl := h.owns.lt
  obtain ⟨es, clock, since, seen, c0, h1, h2, h3, h4, h5, h6⟩ := h
  exact ⟨es, clock, since, seen, c0, (hb.block b hl).trans h1, h2, h3, h4, (hb.block r (Array.getElem?_eq_some_iff.1 h5).1).trans h5, h6⟩
theorem mootref4_Proof.come {yes no s x a b : Int} {left : Lit → Bool} {kl : Lit} {y : DataW Unit × List MemPlace} (h : mootref4_Proof.Inv yes no s left) (hkey : keyOf Try.prog 3 (.int .i64 x) = some kl) (hlk : left kl = true) (hv : mootref4_Proof.RV (.agg #[.int .i64 a, .int .i64 b]) = some y) (hat : ∀ zd, (mootref4_Proof.D yes no).atKey kl zd = y.1) :
    (x = 1 ∧ a = yes ∧ b = no ∨ x = 0 ∧ a = no ∧ b = yes) ∧ kl = .int .i64 x := by
  obtain ⟨x', ex, rfl, _⟩ := Maps.keyOf_int_inv Try.underlying3 hkey
  injection ex with _ ex
  subst ex
  have e : y = (.agg [.lit (.int .i64 a), .lit (.int .i64 b)], []) := (Option.some.inj hv).symm
  subst e
  refine ⟨?_, rfl⟩
  have hz := hat (.map [])
  rcases h.2.2 _ hlk with q | q
  · injection q with _ q
    subst q
    rw [mootref4_Proof.at1] at hz
    simp at hz
    exact .inl ⟨rfl, hz.1.symm, hz.2.symm⟩
  · injection q with _ q
    subst q
    rw [mootref4_Proof.at0] at hz
    simp at hz
    exact .inr ⟨rfl, hz.1.symm, hz.2.symm⟩
set_option maxHeartbeats 4000000 in
set_option maxRecDepth 100000 in
theorem mootref4_Proof.walk (yes no s : Int) (hb : (mootref4_Proof.meets yes no s && mootref4_Proof.meets no yes s) = false) (w : World) :
    Calls Try.prog 28 #[.int .i64 yes, .int .i64 no, .int .i64 s] w fun e w' => e = .returned (.int .i64 (mootref4_Proof.val yes no s)) ∧ Below w.heap.size w w' := by
  have HBT := Aside0.mk hb
  have hmm := @run_makeMap Try.prog
  have hu91 := Try.underlying91
  clear hb
  have HB := Aside0.mk (Below.refl w.heap.size w)
  go_enter Try.func28, Try.ntmps28
  go_upto_block 0 with (first
    | (at_range; have HQ := Aside0.mk (show w2.heap.size = w2.heap.size from rfl); refine wpList_range_own _ rfl _ 92 rfl 3 91 mootref4_Proof.kd3 Try.underlying92 mootref4_Proof.RV mb _ (mootref4_Proof.D yes no) rfl HO.out ?_; intro w3 hrg hg hs; have HR := Aside0.mk hrg; have GR := Aside0.mk (show w.heap.size ≤ w2.heap.size from below_size HB.out); have n0_ := Aside0.mk (HB.out.grown hg (below_size HB.out) (fun k hk => by cases hk)); clear HB HO hg hrg hs HQ; have HB := n0_; clear n0_; generalize w2.heap.size = rr at HR GR ⊢)
    | ((with_reducible refine gate_dst (N := 11) rfl ?_); refine Kd.event_run rfl (w1 := w.alloc (.map #[] 0)) (v := .map (some w.heap.size)) (by simp [execOp, run_makeMap, Result.andThen]) ?_; have HO := Aside0.mk (World.ownsMap_made (H := Unit) w Try.prog 3 mootref4_Proof.RV); have n0_ := Aside0.mk (below_alloc HB.out (Obj.map #[] 0)); clear HB; have HB := n0_; clear n0_; have HM := Aside0.mk (Nat.le_refl w.heap.size); generalize w.alloc (Obj.map #[] 0) = w0 at HO HB ⊢; generalize hmb : w.heap.size = mb at HO ⊢; rw [show (w.heap.size ≤ w.heap.size) = (w.heap.size ≤ mb) by rw [hmb]] at HM; clear hmb)
    | (refine mootref4_Proof.ins (M := 11) (N := 14) (k := 1) (a := yes) (c := no) rfl rfl rfl rfl rfl HO.out (by omega) (by decide) ?_; intro w1 ho1 hg1; have n0_ := Aside0.mk ho1; have n1_ := Aside0.mk (HB.out.grown hg1 (Nat.le_of_lt (Nat.lt_of_le_of_lt HM.out HO.out.lt)) (fun k hk => by injection hk with hk; subst hk; exact HM.out)); clear HO HB ho1 hg1; have HO := n0_; have HB := n1_; clear n0_ n1_)
    | (refine mootref4_Proof.ins (M := 11) (N := 17) (k := 0) (a := no) (c := yes) rfl rfl rfl rfl rfl HO.out (by omega) (by decide) ?_; intro w2 ho2 hg2; have n0_ := Aside0.mk ho2; have n1_ := Aside0.mk (HB.out.grown hg2 (Nat.le_of_lt (Nat.lt_of_le_of_lt HM.out HO.out.lt)) (fun k hk => by injection hk with hk; subst hk; exact HM.out)); clear HO HB ho2 hg2; have HO := n0_; have HB := n1_; clear n0_ n1_))
  (try simp only [Act.put, List.setIfInBounds_toArray, List.set_cons_zero, List.set_cons_succ])
  have HI := Aside0.mk (mootref4_Proof.start yes no s)
  clear hmm
  go_wp2
  go_loopg [7] (Go.Maps.size (mootref4_Proof.D yes no)) (fun kq v wr => ∃ left : Lit → Bool, Aside0 (wr.ranges Try.prog 3 mootref4_Proof.RV mb rr (0 + 1 + 1) (mootref4_Proof.D yes no) left kq) ∧ Aside0 (mootref4_Proof.Inv yes no s left) ∧ Aside0 (Below w.heap.size w wr))
  case atStart => exact ⟨_, HR, HI, HB⟩
  case round =>
    clear HR HI HB
    obtain ⟨left, HR, HI, HB⟩ := hrel
    go_upto_region 5 with (first
      | (at_next; refine wpList_next_ranges _ rfl _ rfl 3 mootref4_Proof.kd3 mootref4_Proof.RV (Value.int .i64) (fun c : Int × Int => Value.agg #[.int .i64 c.1, .int .i64 c.2]) (fun key kl h => by obtain ⟨x, rfl, _⟩ := Maps.keyOf_int_inv Try.underlying3 h; exact ⟨x, rfl⟩) (fun v y h => mootref4_Proof.RV_inv h) mb rr (0 + 1 + 1) (mootref4_Proof.D yes no) left gk rfl HR.out ?_ ?_ <;> first | (rintro x ⟨a, b⟩ kl y w7 cnt1 hkey hlk hv hat hrg1 hlt hg1 hs1 hen; obtain ⟨hx, rfl⟩ := mootref4_Proof.come HI.out hkey hlk hv hat; have CM := Aside0.mk hx; have n0_ := Aside0.mk (HB.out.grown hg1 (below_size HB.out) (fun k hk => by injection hk with hk; subst hk; exact GR.out)); have HRn := Aside0.mk hrg1; have HLT := Aside0.mk hlt; clear hkey hlk hv hat HB HR hs1 hg1 hrg1 hlt hx; have HB := n0_; clear n0_) | (intro hc0 hl0; have HD := Aside0.mk hl0; clear hl0 hc0))
      | ((with_reducible refine gate_dst (N := 8) rfl ?_); refine box_event ?hg (N := 8) ?hd (cs := #[.int .i64 0, .int .i64 0]) (t := 91) ?hr ?_; (case hd => rfl); (case hg => rfl); (case hr => first | (go_simp; done) | (go_simp; rfl)); intro gp hg w8 hbox hb; have n0_ := Aside0.mk (below_step HB.out hb); have n1_ := Aside0.mk (mootref4_Proof.ranges_below HRn.out hb); have BP := Aside0.mk hbox; have GP := Aside0.mk (show w.heap.size ≤ gp by rw [hg]; exact below_size HB.out); have NP := Aside0.mk (show mb ≠ gp ∧ rr ≠ gp by rw [hg]; exact ⟨Nat.ne_of_lt HRn.out.owns.lt, Nat.ne_of_lt HRn.out.lt⟩); clear HB HRn hbox hb hg; have HB := n0_; have HRn := n1_; clear n0_ n1_; have c0 : w8.cell? ⟨gp, 0, none⟩ = some (.int .i64 0) := (blk_cell BP.out 0).trans rfl; have c1 : w8.cell? ⟨gp, 1, none⟩ = some (.int .i64 0) := (blk_cell BP.out 1).trans rfl; have f0 := blk_frozen BP.out 0; have f1 := blk_frozen BP.out 1))
    · go_ret
      refine ⟨?_, HB.out⟩
      rw [show mootref4_Proof.val yes no s = 2 by unfold mootref4_Proof.val; rw [HI.out.1 (HD.out _), HI.out.2.1 (HD.out _)]; rfl]
      rfl
    · have hgr : w8.grownBy ((w8.setCell ⟨gp, 0, none⟩ (.int .i64 a)).setCell ⟨gp, 1, none⟩ (.int .i64 b)) (some gp) := ⟨rfl, rfl, rfl, by simp, fun i hi hne => (Below.heap_setCell _ ⟨gp, 1, none⟩ _ i (fun e => hne (congrArg some e))).trans (Below.heap_setCell w8 ⟨gp, 0, none⟩ _ i (fun e => hne (congrArg some e)))⟩
      have HRm := Aside0.mk (HRn.out.kept hgr (fun e => NP.out.1 (Option.some.inj e)) (fun e => NP.out.2 (Option.some.inj e)))
      have HBm := Aside0.mk (show Below w.heap.size w ((w8.setCell ⟨gp, 0, none⟩ (.int .i64 a)).setCell ⟨gp, 1, none⟩ (.int .i64 b)) from below_set (below_set HB.out GP.out) GP.out)
      have b0 : ((w8.setCell ⟨gp, 0, none⟩ (.int .i64 a)).setCell ⟨gp, 1, none⟩ (.int .i64 b)).cell? ⟨gp, 0, none⟩ = some (.int .i64 a) := (blk_cell (blk_set (blk_set BP.out 0 (.int .i64 a)) 1 (.int .i64 b)) 0).trans rfl
      have b1 : ((w8.setCell ⟨gp, 0, none⟩ (.int .i64 a)).setCell ⟨gp, 1, none⟩ (.int .i64 b)).cell? ⟨gp, 1, none⟩ = some (.int .i64 b) := (blk_cell (blk_set (blk_set BP.out 0 (.int .i64 a)) 1 (.int .i64 b)) 1).trans rfl
      generalize (w8.setCell ⟨gp, 0, none⟩ (.int .i64 a)).setCell ⟨gp, 1, none⟩ (.int .i64 b) = w9 at HRm HBm b0 b1 hgr ⊢
      clear HRn HB hgr c0 c1 f0 f1 BP
      go_quiet (fail)
      have HRq := Aside0.mk (mootref4_Proof.ranges_below HRm.out (pw_below_drewN (Below.refl _ _) nq))
      have HBq := Aside0.mk (pw_below_drewN HBm.out nq)
      clear HRm HBm b0 b1
      have yes_ := Aside0.mk (show mootref4_Proof.meets a b s = true → mootref4_Proof.val yes no s = x from fun h => by
        have hb := HBT.out
        unfold mootref4_Proof.val
        rcases CM.out with ⟨rfl, rfl, rfl⟩ | ⟨rfl, rfl, rfl⟩
        · rw [if_pos h]
        · rw [h, Bool.and_true] at hb; rw [hb, if_neg (by simp), if_pos h])
      have no_ := Aside0.mk (show mootref4_Proof.meets a b s = false → Aside0 (mootref4_Proof.Inv yes no s (fun z => left z && !z.sameKey (.int .i64 x))) from fun h => ⟨HI.out.next (fun hx => by
        rcases CM.out with ⟨_, rfl, rfl⟩ | ⟨q, _, _⟩
        · exact h
        · omega) (fun hx => by
        rcases CM.out with ⟨q, _, _⟩ | ⟨_, rfl, rfl⟩
        · omega
        · exact h)⟩)
      by_cases s1 : s = 1
      · have t1 : (s == 1) = true := by simp [s1]
        by_cases c1 : b < a
        · have d1 := decide_eq_true c1
          have hm := Aside0.mk (yes_.out (by simp [mootref4_Proof.meets, s1, c1]))
          clear s1 c1
          go_wp2
          go_ret
          exact ⟨by rw [hm.out]; rfl, HBq.out⟩
        · have d1 := decide_eq_false c1
          have hm := no_.out (by simp [mootref4_Proof.meets, s1, c1])
          have t2 : (s == 2) = false := by simp [s1]
          have t3 : (s == 3) = false := by simp [s1]
          clear s1 c1
          go_wp2
          go_roundg cnt1
          case measure => exact HLT.out
          case rel => exact ⟨_, HRq, hm, HBq⟩
      · have t1 : (s == 1) = false := by simp [s1]
        by_cases s2 : s = 2
        · have t2 : (s == 2) = true := by simp [s2]
          have t3 : (s == 3) = false := by simp [s2]
          by_cases c1 : 0 < a
          · have d1 := decide_eq_true c1
            by_cases c2 : wrap64 (b * 3) ≤ a
            · have d2 := decide_eq_true c2
              have hm := Aside0.mk (yes_.out (by simp [mootref4_Proof.meets, s2, c1, c2]))
              clear s1 s2 c1 c2
              go_wp2
              go_ret
              exact ⟨by rw [hm.out]; rfl, HBq.out⟩
            · have d2 := decide_eq_false c2
              have hm := no_.out (by simp [mootref4_Proof.meets, s2, c1, c2])
              clear s1 s2 c1 c2
              go_wp2
              go_roundg cnt1
              case measure => exact HLT.out
              case rel => exact ⟨_, HRq, hm, HBq⟩
          · have d1 := decide_eq_false c1
            have hm := no_.out (by simp [mootref4_Proof.meets, s2, c1])
            clear s1 s2 c1
            go_wp2
            go_roundg cnt1
            case measure => exact HLT.out
            case rel => exact ⟨_, HRq, hm, HBq⟩
        · have t2 : (s == 2) = false := by simp [s2]
          by_cases s3 : s = 3
          · have t3 : (s == 3) = true := by simp [s3]
            by_cases c1 : 0 < a
            · have d1 := decide_eq_true c1
              by_cases c2 : b < 1
              · have d2 := decide_eq_true c2
                have hm := Aside0.mk (yes_.out (by simp [mootref4_Proof.meets, s3, c1, c2]))
                clear s1 s2 s3 c1 c2
                go_wp2
                go_ret
                exact ⟨by rw [hm.out]; rfl, HBq.out⟩
              · have d2 := decide_eq_false c2
                have hm := no_.out (by simp [mootref4_Proof.meets, s3, c1, c2])
                clear s1 s2 s3 c1 c2
                go_wp2
                go_roundg cnt1
                case measure => exact HLT.out
                case rel => exact ⟨_, HRq, hm, HBq⟩
            · have d1 := decide_eq_false c1
              have hm := no_.out (by simp [mootref4_Proof.meets, s3, c1])
              clear s1 s2 s3 c1
              go_wp2
              go_roundg cnt1
              case measure => exact HLT.out
              case rel => exact ⟨_, HRq, hm, HBq⟩
          · have t3 : (s == 3) = false := by simp [s3]
            have hm := no_.out (by simp [mootref4_Proof.meets, s1, s2, s3])
            clear s1 s2 s3
            go_wp2
            go_roundg cnt1
            case measure => exact HLT.out
            case rel => exact ⟨_, HRq, hm, HBq⟩
def mootref4_Proof.f (a0 a1 a2 : Int) : Option Int := if (mootref4_Proof.meets a0 a1 a2 && mootref4_Proof.meets a1 a0 a2) = true then none else some (mootref4_Proof.val a0 a1 a2)
theorem mootref4_Proof.calls (a0 a1 a2 : Int) (r : Int) (w : World) (h : mootref4_Proof.f a0 a1 a2 = some r) : Calls Try.prog 28 #[.int .i64 a0, .int .i64 a1, .int .i64 a2] w fun e w' => e = .returned (.int .i64 r) ∧ Below w.heap.size w w' := by
  unfold mootref4_Proof.f at h
  split at h
  · exact absurd h (by simp)
  · rename_i hb
    obtain rfl := Option.some.inj h
    exact mootref4_Proof.walk a0 a1 a2 (by simpa using hb) w
end

end Go.Proofs.Ytghnbiknghelpaa.PBtl
