/- The law BurdenTells in plain Lean: evidence stands, counts and proves as by the second implementation. -/
import Derived.Test.YtghnbiknghelpaaPBtlx16
import Derived.Test.YtghnbiknghelpaaPBtlx0
import Derived.Test.YtghnbiknghelpaaPBtlx4
import Derived.Test.YtghnbiknghelpaaPBtlx5
import Derived.Test.YtghnbiknghelpaaPBtlx7
import Derived.Test.YtghnbiknghelpaaPBtlx9
import Derived.Test.YtghnbiknghelpaaPBtlx11
import Derived.Test.YtghnbiknghelpaaPBtlx16a
import Derived.Test.YtghnbiknghelpaaBtlQ
namespace Go.Proofs.Ytghnbiknghelpaa.Pure
open Go.RowKit Go.Proofs.Ytghnbiknghelpaa.PBtl Go.Proofs.YtghnbiknghelpaaW.PrintWords Go.Proofs.YtghnbiknghelpaaW.PrintLast
set_option linter.unusedVariables false
set_option linter.unusedSimpArgs false

theorem proves_ok : Ev (fun k => mootlaw4_proves.f k) true := Ev.of (mootlaw4_proves.mono) (k := 20) (by decide +kernel)
theorem nilBytes : (⟨#[]⟩ : ByteArray).toList = [] := by unfold ByteArray.toList ByteArray.toList.loop; rfl
/-- What Fact makes of what was found. -/
def factV (is : Bool) (a0 : Int) (a1 : ByteArray) (a4 a5 a6 : Int) : Int × ByteArray × Int × Int × Int × Int × Int × Int := (a0, a1, 1, if is = true then 1 else 0, a4, a5, a6, 0)
theorem fact_ok (a b c : Int) (l : List S34) (hi : okI a b c) (hl : okL l) (f0 : Int) (f1 : ByteArray) (f2 f3 f4 f5 f6 : Int) : Ev (fun k => burden_Fact.f k a b c l f0 f1 f2 f3 f4 f5 f6) (factV (findV a b (proofV (yesS l (stand 0 l)) (noS l (stand 0 l)) c)).1 f0 f1 f4 f5 f6) := by
  unfold burden_Fact.f factV
  refine Ev.bind (find_ok a b c l hi hl) (Ev.ite_pos (findL_e a b _) ?_)
  by_cases h : (findV a b (proofV (yesS l (stand 0 l)) (noS l (stand 0 l)) c)).1 = true
  · exact Ev.ite_pos h (Ev.some_ (by simp only [h, if_true]))
  · exact Ev.ite_neg h (Ev.some_ (by rw [Bool.eq_false_iff.mpr h]; rfl))
/-- The rest, where all is told alike. -/
theorem bt_j6 (a b c : Int) (n : Int) (f0 : Int) (f1 : ByteArray) (f2 f3 f4 f5 f6 : Int) (hn : n = 0 ∨ n = 1 ∨ n = 2) (x : Int × ByteArray × Int × Int × Int × Int × Int × Int) (hx : x = factV (findV a b n).1 f0 f1 f4 f5 f6) :
    Ev (fun k => mootlaw4_BurdenTells.j6 k n (findV a b n).1 (findV a b n).2.1 false a b c f0 f1 f2 f3 f4 f5 f6 x.1 x.2.1 x.2.2.1 x.2.2.2.1 x.2.2.2.2.1 x.2.2.2.2.2.1 x.2.2.2.2.2.2.1) true := by
  subst hx
  have j7 : ∀ (is : Bool) (why : Int), Ev (fun k => mootlaw4_BurdenTells.j7 k is why is why f0 f1 f2 f3 f4 f5 f6 (factV is f0 f1 f4 f5 f6).1 (factV is f0 f1 f4 f5 f6).2.1 (factV is f0 f1 f4 f5 f6).2.2.1 (factV is f0 f1 f4 f5 f6).2.2.2.1 (factV is f0 f1 f4 f5 f6).2.2.2.2.1 (factV is f0 f1 f4 f5 f6).2.2.2.2.2.1 (factV is f0 f1 f4 f5 f6).2.2.2.2.2.2.1) true := by
    intro is why
    apply Ev.step
    · intro k; rw [mootlaw4_BurdenTells.j7]
    · cases is with
      | true => exact Ev.ite_pos rfl (Ev.ite_pos rfl (Ev.ite_pos rfl (Ev.some_ (by simp [factV]))))
      | false => exact Ev.ite_neg (by simp) (Ev.ite_pos rfl (Ev.ite_pos rfl (Ev.some_ (by simp [factV]))))
  apply Ev.step
  · intro k; rw [mootlaw4_BurdenTells.j6]
  · refine Ev.ite_neg (by simp) ?_
    by_cases c2 : n = 2
    · refine Ev.ite_pos c2 ?_
      by_cases ca : a = 2
      · refine Ev.ite_pos ca ?_
        have e : findV a b n = (b == 2, 3, 0) := by unfold findV; rw [if_pos c2, if_pos ca]
        rw [e]; exact j7 _ _
      · refine Ev.ite_neg ca ?_
        have e : findV a b n = (a == 1, 2, 0) := by unfold findV; rw [if_pos c2, if_neg ca]
        rw [e]; exact j7 _ _
    · refine Ev.ite_neg c2 ?_
      have e : findV a b n = (n == 1, 1, 0) := by unfold findV; rw [if_neg c2]
      rw [e]; exact j7 _ _
theorem dy_ex (s f : Bool) (w : Int) (h1 : 1 ≤ w) (h2 : w ≤ 100) : ∃ dy dn : Int, dy = (if s = true then (if f = true then w else 0) else 0) ∧ dn = (if s = true then (if f = true then 0 else w) else 0) ∧ 0 ≤ dy ∧ dy ≤ 100 ∧ 0 ≤ dn ∧ dn ≤ 100 ∧ ((s && f) = true → dy = w) ∧ ((s && f) = false → dy = 0) ∧ ((s && !f) = true → dn = w) ∧ ((s && !f) = false → dn = 0) := by
  refine ⟨_, _, rfl, rfl, ?_⟩
  cases s <;> cases f <;> simp <;> omega
theorem nexti (i : Nat) (h : i < 100000) : wrap64 ((i : Int) + 1) = ((i + 1 : Nat) : Int) := by rw [w64 (by omega) (by omega)]; omega
theorem proofV_is (y n s : Int) : proofV y n s = 0 ∨ proofV y n s = 1 ∨ proofV y n s = 2 := by
  unfold proofV
  split
  · exact .inr (.inl rfl)
  · split
    · exact .inl rfl
    · exact .inr (.inr rfl)
theorem bt_l1 (a b c : Int) (hi : okI a b c) (l : List S34) (hl : okL l) (f0 : Int) (f1 : ByteArray) (f2 f3 f4 f5 f6 : Int) (v : Int) (hv : v = proofV (yesS l (stand 0 l)) (noS l (stand 0 l)) c) (x : Int × ByteArray × Int × Int × Int × Int × Int × Int) (hx : x = factV (findV a b v).1 f0 f1 f4 f5 f6) :
    ∀ (d i : Nat) (y n : Int), i + d = l.length → 0 ≤ y → y ≤ 100 * i → 0 ≤ n → n ≤ 100 * i → y + yesS (l.drop i) ((stand 0 l).drop i) = yesS l (stand 0 l) → n + noS (l.drop i) ((stand 0 l).drop i) = noS l (stand 0 l) →
    Ev (fun k => mootlaw4_BurdenTells.l1 k (stand 0 l) (yesS l (stand 0 l)) (noS l (stand 0 l)) v (findV a b v).1 (findV a b v).2.1 (stand 0 l) y n l (l.length : Int) (i : Int) a b c f0 f1 f2 f3 f4 f5 f6 x.1 x.2.1 x.2.2.1 x.2.2.2.1 x.2.2.2.2.1 x.2.2.2.2.2.1 x.2.2.2.2.2.2.1) true := by
  have hn := hl.1
  have hbd := yes_bd l (stand 0 l) (okL_mem hl)
  intro d
  induction d with
  | zero =>
    intro i y n h hy0 hy1 hn0 hn1 ey en
    rw [List.drop_of_length_le (by omega)] at ey en
    simp only [yesS, noS, Int.add_zero] at ey en
    apply Ev.step
    · intro k; rw [mootlaw4_BurdenTells.l1]
    · refine Ev.ite_neg (by omega) (Ev.bind (equalB (stand 0 l) (by rw [stand_len]; omega)) ?_)
      refine Ev.ite_pos rfl ?_
      refine Ev.ite_pos ey.symm ?_
      refine Ev.ite_pos en.symm ?_
      refine Ev.bind (Ev.kon (proofR_ok y n c (by omega) (by omega) (by omega) (by omega) hi.2.2.2.2.1 hi.2.2.2.2.2)) ?_
      rw [ey, en, ← hv]
      have := bt_j6 a b c v f0 f1 f2 f3 f4 f5 f6 (hv ▸ proofV_is _ _ _) x hx
      simpa using this
  | succ d ih =>
    intro i y n h hy0 hy1 hn0 hn1 ey en
    have hsl := stand_len l 0
    have hil : i < l.length := by omega
    have hil2 : i < (stand 0 l).length := by omega
    obtain ⟨h1, h2, h3, h4⟩ := hl.2 i hil
    have hw0 := Aside0.mk (nexti i (by omega))
    have hlt : (i : Int) < (l.length : Int) := by omega
    have hlt2 : (i : Int) < ((stand 0 l).length : Int) := by omega
    have hge : (0 : Int) ≤ (i : Int) := Int.natCast_nonneg i
    obtain ⟨p, hp⟩ : ∃ p, p = rdP l i := ⟨_, rfl⟩
    obtain ⟨s, hs⟩ : ∃ s, s = (stand 0 l).getD i false := ⟨_, rfl⟩
    rw [← hp] at h1 h2 h3 h4
    obtain ⟨dy, dn, hdy, hdn, dy0, dy1, dn0, dn1, k1, k2, k3, k4⟩ := dy_ex s p.f0 p.f1 h1 h2
    rw [drop_cons l z34 i hil, drop_cons (stand 0 l) false i hil2, yesS, show l.getD i z34 = p from hp.symm, ← hs, ← hdy] at ey
    rw [drop_cons l z34 i hil, drop_cons (stand 0 l) false i hil2, noS, show l.getD i z34 = p from hp.symm, ← hs, ← hdn] at en
    clear hdy hdn hbd
    have IH := ih (i + 1) (y + dy) (n + dn) (by omega) (by omega) (by omega) (by omega) (by omega) (by omega) (by omega)
    have wy : wrap64 (y + p.f1) = y + p.f1 := w64 (by omega) (by omega)
    have wn : wrap64 (n + p.f1) = n + p.f1 := by clear wy; exact w64 (by omega) (by omega)
    clear ih ey en
    have hw := hw0.out
    apply Ev.step
    · intro k; rw [mootlaw4_BurdenTells.l1]
    · refine Ev.ite_pos hlt (Ev.ite_pos hge (Ev.ite_pos hlt (Ev.ite_pos hlt2 ?_)))
      simp only [rd_nat, rdOf_nat, ← hp, ← hs]
      have j5 : ∀ (q : Bool), q = (s && !p.f0) → Ev (fun k => mootlaw4_BurdenTells.j5 k (stand 0 l) (yesS l (stand 0 l)) (noS l (stand 0 l)) v (findV a b v).1 (findV a b v).2.1 (stand 0 l) (y + dy) n l (l.length : Int) (i : Int) q a b c f0 f1 f2 f3 f4 f5 f6 x.1 x.2.1 x.2.2.1 x.2.2.2.1 x.2.2.2.2.1 x.2.2.2.2.2.1 x.2.2.2.2.2.2.1 p.f0 p.f1 p.f2) true := by
        intro q hq
        apply Ev.step
        · intro k; rw [mootlaw4_BurdenTells.j5]
        · rw [hw]
          by_cases cq : q = true
          · refine Ev.ite_pos cq ?_
            rw [wn, show n + p.f1 = n + dn by rw [k3 (hq ▸ cq)]]
            exact IH
          · refine Ev.ite_neg cq ?_
            rw [k4 (hq ▸ Bool.eq_false_iff.mpr cq), Int.add_zero] at IH
            exact IH
      have j4 : Ev (fun k => mootlaw4_BurdenTells.j4 k (stand 0 l) (yesS l (stand 0 l)) (noS l (stand 0 l)) v (findV a b v).1 (findV a b v).2.1 (stand 0 l) (y + dy) n (i : Int) l (l.length : Int) (i : Int) a b c f0 f1 f2 f3 f4 f5 f6 x.1 x.2.1 x.2.2.1 x.2.2.2.1 x.2.2.2.2.1 x.2.2.2.2.2.1 x.2.2.2.2.2.2.1 p.f0 p.f1 p.f2) true := by
        apply Ev.step
        · intro k; rw [mootlaw4_BurdenTells.j4]
        · refine Ev.ite_pos hge (Ev.ite_pos hlt2 ?_)
          simp only [rdOf_nat, ← hs]
          by_cases cs : s = true
          · exact Ev.ite_pos cs (j5 _ (by rw [cs, Bool.true_and]))
          · exact Ev.ite_neg cs (j5 _ (by rw [Bool.eq_false_iff.mpr cs, Bool.false_and]))
      have j3 : ∀ (q : Bool), q = (s && p.f0) → Ev (fun k => mootlaw4_BurdenTells.j3 k (stand 0 l) (yesS l (stand 0 l)) (noS l (stand 0 l)) v (findV a b v).1 (findV a b v).2.1 (stand 0 l) y n (i : Int) l (l.length : Int) (i : Int) q a b c f0 f1 f2 f3 f4 f5 f6 x.1 x.2.1 x.2.2.1 x.2.2.2.1 x.2.2.2.2.1 x.2.2.2.2.2.1 x.2.2.2.2.2.2.1 p.f0 p.f1 p.f2) true := by
        intro q hq
        apply Ev.step
        · intro k; rw [mootlaw4_BurdenTells.j3]
        · by_cases cq : q = true
          · refine Ev.ite_pos cq ?_
            rw [wy, show y + p.f1 = y + dy by rw [k1 (hq ▸ cq)]]
            exact j4
          · refine Ev.ite_neg cq ?_
            rw [k2 (hq ▸ Bool.eq_false_iff.mpr cq), Int.add_zero] at j4
            exact j4
      by_cases cs : s = true
      · exact Ev.ite_pos cs (j3 _ (by rw [cs, Bool.true_and]))
      · exact Ev.ite_neg cs (j3 _ (by rw [Bool.eq_false_iff.mpr cs, Bool.false_and]))
theorem bt_l0 (a b c : Int) (hi : okI a b c) (l : List S34) (hl : okL l) (f0 : Int) (f1 : ByteArray) (f2 f3 f4 f5 f6 : Int) (v : Int) (hv : v = proofV (yesS l (stand 0 l)) (noS l (stand 0 l)) c) (x : Int × ByteArray × Int × Int × Int × Int × Int × Int) (hx : x = factV (findV a b v).1 f0 f1 f4 f5 f6) :
    ∀ (d i : Nat) (W O : List Int), i + d = l.length → W = (l.take i).map S34.f1 → O = (l.take i).map S34.f2 →
    Ev (fun k => mootlaw4_BurdenTells.l0 k l (stand 0 l) (yesS l (stand 0 l)) (noS l (stand 0 l)) v (findV a b v).1 (findV a b v).2.1 W O l (l.length : Int) (i : Int) a b c f0 f1 f2 f3 f4 f5 f6 x.1 x.2.1 x.2.2.1 x.2.2.2.1 x.2.2.2.2.1 x.2.2.2.2.2.1 x.2.2.2.2.2.2.1) true := by
  have hn := hl.1
  intro d
  induction d with
  | zero =>
    intro i W O h hW hO
    rw [List.take_of_length_le (by omega)] at hW hO
    subst hW hO
    apply Ev.step
    · intro k; rw [mootlaw4_BurdenTells.l0]
    · refine Ev.ite_neg (by omega) (Ev.bind (Ev.kon (stands_ok l hl)) ?_)
      exact bt_l1 a b c hi l hl f0 f1 f2 f3 f4 f5 f6 v hv x hx l.length 0 0 0 (by omega) (by omega) (by omega) (by omega) (by omega) (by simp) (by simp)
  | succ d ih =>
    intro i W O h hW hO
    have hlt : (i : Int) < (l.length : Int) := by omega
    have hge : (0 : Int) ≤ (i : Int) := Int.natCast_nonneg i
    have hget : l[i]? = some (rd_T34 l (i : Int)) := by
      rw [List.getElem?_eq_getElem (by omega)]
      simp [rd_T34, List.getD_eq_getElem?_getD, show i < l.length by omega]
    apply Ev.step
    · intro k; rw [mootlaw4_BurdenTells.l0]
    · refine Ev.ite_pos hlt (Ev.ite_pos hge (Ev.ite_pos hlt ?_))
      refine Ev.bind (Ev.now _) ?_
      refine Ev.ite_pos (by rw [hW, List.length_map, List.length_take, List.length_singleton]; omega) ?_
      refine Ev.bind (Ev.now _) ?_
      refine Ev.ite_pos (by rw [hO, List.length_map, List.length_take, List.length_singleton]; omega) ?_
      rw [show wrap64 ((i : Int) + 1) = ((i + 1 : Nat) : Int) by rw [w64 (by omega) (by omega)]; omega]
      refine ih (i + 1) _ _ (by omega) ?_ ?_
      · rw [hW, List.take_add_one, hget, List.map_append]; rfl
      · rw [hO, List.take_add_one, hget, List.map_append]; rfl
theorem BurdenTells : mootlaw4_BurdenTells.Pure := by
  intro a b c l f0 f1 f2 f3 f4 f5 f6 _ _ _ _ _ _ _ _ _ _ _ _ _
  refine Ev.rounds ?_
  refine Ev.congr (fun k => by unfold mootlaw4_BurdenTells.f; rfl) ?_
  refine Ev.bind proves_ok ?_
  refine Ev.ite_pos rfl ?_
  refine Ev.bind (issueFault_ok a b c l) ?_
  by_cases hF : faultV a b c l = 0
  · obtain ⟨hi, hl⟩ := fault_zero hF
    have hc := check_fault a b c l
    rw [hF] at hc ⊢
    refine Ev.bind (standing_ok a b c l hi hl) ?_
    refine Ev.bind (sums_ok a b c l hi hl) ?_
    refine Ev.bind (proof_ok a b c l hi hl) ?_
    refine Ev.bind (find_ok a b c l hi hl) ?_
    refine Ev.bind (fact_ok a b c l hi hl f0 f1 f2 f3 f4 f5 f6) ?_
    refine Ev.bind hc ?_
    refine Ev.ite_pos rfl (Ev.ite_pos rfl (Ev.ite_pos rfl (Ev.ite_pos rfl (Ev.ite_pos (findL_e a b _) ?_))))
    apply Ev.step
    · intro k; rw [mootlaw4_BurdenTells.j0]
    · refine Ev.ite_neg (by simp [factV]) (Ev.ite_pos rfl ?_)
      exact bt_l0 a b c hi l hl f0 f1 f2 f3 f4 f5 f6 _ rfl _ rfl l.length 0 [] [] (by omega) rfl rfl
  · have h1 : Ev (fun k => burden_Standing.f k a b c l) ([], faultV a b c l) := by
      unfold burden_Standing.f
      exact Ev.bind (check_fault a b c l) (Ev.ite_neg hF (Ev.now _))
    have h2 : Ev (fun k => burden_Sums.f k a b c l) (0, 0, faultV a b c l) := by
      unfold burden_Sums.f
      exact Ev.bind h1 (Ev.ite_neg hF (Ev.now _))
    have h3 : Ev (fun k => burden_Proof.f k a b c l) (0, faultV a b c l) := by
      unfold burden_Proof.f
      exact Ev.bind h2 (Ev.ite_neg hF (Ev.now _))
    have h4 := find_fault a b c l hF
    have h5 : Ev (fun k => burden_Fact.f k a b c l f0 f1 f2 f3 f4 f5 f6) (0, (⟨#[]⟩ : ByteArray), 0, 0, 0, 0, 0, faultV a b c l) := by
      unfold burden_Fact.f
      exact Ev.bind h4 (Ev.ite_neg hF (Ev.now _))
    have h6 := check_fault a b c l
    generalize faultV a b c l = F at hF h1 h2 h3 h4 h5 h6 ⊢
    refine Ev.bind h1 ?_
    refine Ev.bind h2 ?_
    refine Ev.bind h3 ?_
    refine Ev.bind h4 ?_
    refine Ev.bind h5 ?_
    refine Ev.bind h6 ?_
    refine Ev.ite_pos rfl (Ev.ite_pos rfl (Ev.ite_pos rfl (Ev.ite_pos rfl (Ev.ite_pos rfl ?_))))
    apply Ev.step
    · intro k; rw [mootlaw4_BurdenTells.j0]
    · refine Ev.ite_neg (by simp) (Ev.ite_neg hF ?_)
      refine Ev.ite_pos rfl ?_
      refine Ev.ite_pos (show wrap64 (wrap64 (wrap64 (0 + 0) + 0) + 0) = 0 by rw [w64 (a := 0 + 0) (by omega) (by omega), w64 (a := 0 + 0 + 0) (by omega) (by omega), w64 (by omega) (by omega)]; rfl) ?_
      refine Ev.ite_neg (by simp) (Ev.some_ ?_)
      rw [nilBytes]; rfl
end Go.Proofs.Ytghnbiknghelpaa.Pure
