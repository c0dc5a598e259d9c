import Derived.Test.YtghnbiknghelpaaPAllx0
import Derived.Test.YtghnbiknghelpaaPAllx4
import Derived.Test.YtghnbiknghelpaaPAllx5
import Derived.Test.YtghnbiknghelpaaPAllx6
import Derived.Test.YtghnbiknghelpaaPAllx7
import Derived.Test.YtghnbiknghelpaaPAllx8
import Derived.Test.YtghnbiknghelpaaPAllx9
import Derived.Test.YtghnbiknghelpaaPAllx10
import Derived.Test.YtghnbiknghelpaaPAllx13
import Derived.Test.YtghnbiknghelpaaLemA
namespace Go.Proofs.Ytghnbiknghelpaa.Pure
open Go.RowKit Go.Proofs.Ytghnbiknghelpaa.PAll Go.Proofs.YtghnbiknghelpaaW.PrintWords Go.Proofs.YtghnbiknghelpaaW.PrintLast
set_option linter.unusedVariables false

def rdP (l : List S34) (i : Nat) : S34 := l.getD i z34
theorem rd_nat (l : List S34) (i : Nat) : rd_T34 l (i : Int) = rdP l i := rfl

/-- A piece that Check lets by, at place i. -/
def okP (p : S34) (i : Nat) : Prop := 1 ≤ p.f1 ∧ p.f1 ≤ 100 ∧ -1 ≤ p.f2 ∧ p.f2 < (i : Int)
def okL (l : List S34) : Prop := l.length ≤ 100 ∧ ∀ i, i < l.length → okP (rdP l i) i
def okI (a b c : Int) : Prop := 0 ≤ a ∧ a ≤ 2 ∧ 1 ≤ b ∧ b ≤ 2 ∧ 1 ≤ c ∧ c ≤ 3

theorem check_l0 (l : List S34) (hl : okL l) : ∀ d i : Nat, i + d = l.length → Ev (fun k => burden_Check.l0 k l (l.length : Int) (i : Int)) 0 := by
  obtain ⟨hn, hv⟩ := hl
  intro d
  induction d with
  | zero =>
    intro i h
    apply Ev.step
    · intro k; rw [burden_Check.l0]
    · exact Ev.ite_neg (by omega) (Ev.now 0)
  | succ d ih =>
    intro i h
    obtain ⟨h1, h2, h3, h4⟩ := hv i (by omega)
    have e := ih (i + 1) (by omega)
    apply Ev.step
    · intro k; rw [burden_Check.l0]
    · refine Ev.ite_pos (by omega) (Ev.ite_pos (by omega) (Ev.ite_pos (by omega) (Ev.ite_neg (by rw [rd_nat]; omega) ?_)))
      simp only [rd_nat]
      apply Ev.step
      · intro k; rw [burden_Check.j2]
      · refine Ev.ite_neg (by simp; omega) (Ev.ite_neg (by omega) (Ev.ite_neg (by omega) ?_))
        rw [w64 (by omega) (by omega)]
        exact e
theorem check_ok (a b c : Int) (l : List S34) (hi : okI a b c) (hl : okL l) : Ev (fun k => burden_Check.f k a b c l) 0 := by
  obtain ⟨h1, h2, h3, h4, h5, h6⟩ := hi
  unfold burden_Check.f
  refine Ev.ite_neg (by omega) (Ev.ite_neg (by omega) (Ev.ite_neg (by omega) (Ev.ite_neg (by omega) (Ev.ite_neg (by omega) ?_))))
  apply Ev.step
  · intro k; rw [burden_Check.j0]
  · exact Ev.ite_neg (by simp; omega) (Ev.ite_neg (by have := hl.1; omega) (check_l0 l hl l.length 0 (by omega)))

/-! Standing -/
def hits (i : Nat) (w : Int) (q : S34 × Bool) : Bool := decide (q.1.f2 = (i : Int)) && q.2 && decide (q.1.f1 ≥ w)
theorem hits_t {i : Nat} {w : Int} {p : S34} {b : Bool} (h1 : p.f2 = (i : Int)) (h2 : b = true) (h3 : p.f1 ≥ w) : hits i w (p, b) = true := by simp [hits, h1, h2, h3]
theorem hits_f1 {i : Nat} {w : Int} {p : S34} {b : Bool} (h1 : ¬ p.f2 = (i : Int)) : hits i w (p, b) = false := by simp [hits, h1]
theorem hits_f2 {i : Nat} {w : Int} {p : S34} {b : Bool} (h2 : ¬ b = true) : hits i w (p, b) = false := by simp at h2; simp [hits, h2]
theorem hits_f3 {i : Nat} {w : Int} {p : S34} {b : Bool} (h3 : ¬ p.f1 ≥ w) : hits i w (p, b) = false := by simp only [hits, decide_eq_false h3, Bool.and_false]
def stand : Nat → List S34 → List Bool
  | _, [] => []
  | k, p :: ps => (!((ps.zip (stand (k + 1) ps)).any (hits k p.f1))) :: stand (k + 1) ps
theorem stand_len (l : List S34) : ∀ k, (stand k l).length = l.length := by
  induction l with
  | nil => intro k; rfl
  | cons p ps ih => intro k; simp [stand, ih]
theorem rdOf_nat (x : List Bool) (i : Nat) : rdOf false x (i : Int) = x.getD i false := rfl
theorem stand_l1 (l : List S34) (i : Nat) (n : Nat) (hn : l.length = n) (hbig : n ≤ 100) (hi : i < n) (r : List Bool × Int) : ∀ (d j : Nat) (x : List Bool), j + d = n → i < j → x.length = n →
    Ev (fun k => burden_Standing.l0 k l (x.set i (x.getD i false && !(((l.drop j).zip (x.drop j)).any (hits i (rdP l i).f1)))) ((i : Int) - 1)) r →
    Ev (fun k => burden_Standing.l1 k l x (i : Int) (j : Int)) r := by
  intro d
  induction d with
  | zero =>
    intro j x hj hij hx h
    have hz : ((l.drop j).zip (x.drop j)) = [] := by rw [List.drop_of_length_le (by omega)]; rfl
    rw [hz] at h
    simp only [List.any_nil, Bool.not_false, Bool.and_true] at h
    have hs : x.set i (x.getD i false) = x := by
      apply List.ext_getElem (by simp)
      intro m h1 h2
      rw [List.getElem_set]
      split
      · subst_vars; simp [List.getD_eq_getElem?_getD, h2]
      · rfl
    rw [hs] at h
    apply Ev.step
    · intro k; rw [burden_Standing.l1]
    · refine Ev.ite_neg (by omega) ?_
      rw [w64 (by omega) (by omega)]
      exact h
  | succ d ih =>
    intro j x hj hij hx h
    rw [drop_cons l z34 j (by omega), drop_cons x false j (by omega), List.zip_cons_cons, List.any_cons] at h
    have hw : wrap64 ((j : Int) + 1) = ((j + 1 : Nat) : Int) := by rw [w64 (by omega) (by omega)]; omega
    apply Ev.step
    · intro k; rw [burden_Standing.l1]
    · refine Ev.ite_pos (by omega) (Ev.ite_pos (by omega) ?_)
      rw [hw]
      simp only [rd_nat, rdOf_nat]
      by_cases c1 : (rdP l j).f2 = (i : Int)
      · refine Ev.ite_pos c1 (Ev.ite_pos (by omega) ?_)
        by_cases c2 : x.getD j false = true
        · refine Ev.ite_pos c2 (Ev.ite_pos (by omega) (Ev.ite_pos (by omega) ?_))
          by_cases c3 : (rdP l j).f1 ≥ (rdP l i).f1
          · refine Ev.ite_pos c3 (Ev.ite_pos (by omega) ?_)
            have hh : hits i (rdP l i).f1 (l.getD j z34, x.getD j false) = true := hits_t c1 c2 c3
            rw [hh, Bool.true_or, Bool.not_true, Bool.and_false] at h
            refine ih (j + 1) (x.set i false) (by omega) (by omega) (by simp [hx]) ?_
            have e1 : (x.set i false).getD i false = false := getD_set_self _ _ _ _ (by omega)
            rw [e1, Bool.false_and, List.set_set]
            exact h
          · refine Ev.ite_neg c3 ?_
            have hh : hits i (rdP l i).f1 (l.getD j z34, x.getD j false) = false := hits_f3 c3
            rw [hh, Bool.false_or] at h
            exact ih (j + 1) x (by omega) (by omega) hx h
        · refine Ev.ite_neg c2 ?_
          have hh : hits i (rdP l i).f1 (l.getD j z34, x.getD j false) = false := hits_f2 c2
          rw [hh, Bool.false_or] at h
          exact ih (j + 1) x (by omega) (by omega) hx h
      · refine Ev.ite_neg c1 ?_
        have hh : hits i (rdP l i).f1 (l.getD j z34, x.getD j false) = false := hits_f1 c1
        rw [hh, Bool.false_or] at h
        exact ih (j + 1) x (by omega) (by omega) hx h
theorem stand_l0 (l : List S34) (hbig : l.length ≤ 100) : ∀ (m : Nat) (x : List Bool), m ≤ l.length → x.length = l.length → x.drop m = stand m (l.drop m) →
    Ev (fun k => burden_Standing.l0 k l x ((m : Int) - 1)) (stand 0 l, 0) := by
  intro m
  induction m with
  | zero =>
    intro x _ hx hs
    apply Ev.step
    · intro k; rw [burden_Standing.l0]
    · refine Ev.ite_neg (by omega) (Ev.some_ ?_)
      rw [← show x = stand 0 l from hs]
  | succ m ih =>
    intro x hm hx hs
    have hc : ((m + 1 : Nat) : Int) - 1 = (m : Int) := by omega
    rw [hc]
    apply Ev.step
    · intro k; rw [burden_Standing.l0]
    · refine Ev.ite_pos (by omega) (Ev.ite_pos (by omega) (Ev.ite_pos (by omega) ?_))
      rw [show wrap64 ((m : Int) + 1) = ((m + 1 : Nat) : Int) by rw [w64 (by omega) (by omega)]; omega, Int.toNat_natCast]
      refine stand_l1 l m l.length rfl hbig (by omega) _ (l.length - (m + 1)) (m + 1) (x.set m true) (by omega) (by omega) (by simp [hx]) ?_
      have e1 : (x.set m true).getD m false = true := getD_set_self _ _ _ _ (by omega)
      have e2 : (x.set m true).drop (m + 1) = x.drop (m + 1) := by rw [List.drop_set_of_lt (by omega)]
      rw [e1, e2, hs, Bool.true_and, List.set_set]
      refine ih _ (by omega) (by simp [hx]) ?_
      rw [drop_cons l z34 m (by omega), stand]
      rw [drop_cons _ false m (by simp; omega)]
      congr 1
      · exact getD_set_self _ _ _ _ (by omega)
      · rw [List.drop_set_of_lt (by omega), hs]
theorem standing_ok (a b c : Int) (l : List S34) (hi : okI a b c) (hl : okL l) : Ev (fun k => burden_Standing.f k a b c l) (stand 0 l, 0) := by
  unfold burden_Standing.f
  refine Ev.bind (check_ok a b c l hi hl) (Ev.ite_pos rfl (Ev.ite_pos (by omega) (Ev.ite_pos (by have := hl.1; omega) ?_)))
  rw [w64 (by omega) (by have := hl.1; omega)]
  exact stand_l0 l hl.1 l.length _ (Nat.le_refl _) (by simp) (by rw [List.drop_of_length_le (by simp), List.drop_of_length_le (by simp)]; rfl)

/-! Sums, Proof, Find -/
def yesS : List S34 → List Bool → Int
  | p :: ps, b :: bs => (if b = true then (if p.f0 = true then p.f1 else 0) else 0) + yesS ps bs
  | _, _ => 0
def noS : List S34 → List Bool → Int
  | p :: ps, b :: bs => (if b = true then (if p.f0 = true then 0 else p.f1) else 0) + noS ps bs
  | _, _ => 0
theorem sums_l0 (l : List S34) (hl : okL l) (x : List Bool) (hx : x.length = l.length) : ∀ (d i : Nat) (a b : Int), i + d = l.length → 0 ≤ a → a ≤ 100 * i → 0 ≤ b → b ≤ 100 * i →
    Ev (fun k => burden_Sums.l0 k x a b l (l.length : Int) (i : Int)) (a + yesS (l.drop i) (x.drop i), b + noS (l.drop i) (x.drop i), 0) := by
  obtain ⟨hn, hv⟩ := hl
  intro d
  induction d with
  | zero =>
    intro i a b h ha ha1 hb hb1
    apply Ev.step
    · intro k; rw [burden_Sums.l0]
    · refine Ev.ite_neg (by omega) (Ev.some_ ?_)
      rw [List.drop_of_length_le (by omega)]
      simp [yesS, noS]
  | succ d ih =>
    intro i a b h ha ha1 hb hb1
    obtain ⟨h1, h2, h3, h4⟩ := hv i (by omega)
    have hw : wrap64 ((i : Int) + 1) = ((i + 1 : Nat) : Int) := by rw [w64 (by omega) (by omega)]; omega
    rw [drop_cons l z34 i (by omega), drop_cons x false i (by omega), yesS, noS]
    apply Ev.step
    · intro k; rw [burden_Sums.l0]
    · refine Ev.ite_pos (by omega) (Ev.ite_pos (by omega) (Ev.ite_pos (by omega) (Ev.ite_pos (by omega) ?_)))
      rw [hw]
      simp only [rd_nat, rdOf_nat]
      by_cases c1 : x.getD i false = true
      · refine Ev.ite_pos c1 ?_
        rw [if_pos c1, if_pos c1]
        by_cases c2 : (rdP l i).f0 = true
        · refine Ev.ite_pos c2 ?_
          rw [w64 (by omega) (by omega)]
          have e := ih (i + 1) (a + (rdP l i).f1) b (by omega) (by omega) (by omega) (by omega) (by omega)
          rw [if_pos (show (l.getD i z34).f0 = true from c2), if_pos (show (l.getD i z34).f0 = true from c2), Int.zero_add, ← Int.add_assoc]
          exact e
        · refine Ev.ite_neg c2 ?_
          rw [w64 (by omega) (by omega)]
          have e := ih (i + 1) a (b + (rdP l i).f1) (by omega) (by omega) (by omega) (by omega) (by omega)
          rw [if_neg (show ¬ (l.getD i z34).f0 = true from c2), if_neg (show ¬ (l.getD i z34).f0 = true from c2), Int.zero_add, ← Int.add_assoc b]
          exact e
      · refine Ev.ite_neg c1 ?_
        rw [if_neg c1, if_neg c1, Int.zero_add, Int.zero_add]
        exact ih (i + 1) a b (by omega) (by omega) (by omega) (by omega) (by omega)
theorem yes_bd (l : List S34) : ∀ (x : List Bool), (∀ p ∈ l, 0 ≤ p.f1 ∧ p.f1 ≤ 100) → 0 ≤ yesS l x ∧ yesS l x ≤ 100 * l.length ∧ 0 ≤ noS l x ∧ noS l x ≤ 100 * l.length := by
  induction l with
  | nil => intro x _; simp [yesS, noS]
  | cons p ps ih =>
    intro x h
    cases x with
    | nil => simp [yesS, noS]; omega
    | cons b bs =>
      have h0 := h p (by simp)
      have h1 := ih bs (fun q hq => h q (by simp [hq]))
      simp only [yesS, noS, List.length_cons]
      cases b <;> cases p.f0 <;> simp <;> omega
theorem okL_mem {l : List S34} (h : okL l) : ∀ p ∈ l, 0 ≤ p.f1 ∧ p.f1 ≤ 100 := by
  intro p hp
  obtain ⟨i, hi, rfl⟩ := List.getElem_of_mem hp
  have := h.2 i hi
  have e : rdP l i = l[i] := by simp [rdP, List.getD_eq_getElem?_getD, hi]
  rw [e] at this
  exact ⟨by have := this.1; omega, this.2.1⟩
theorem sums_ok (a b c : Int) (l : List S34) (hi : okI a b c) (hl : okL l) : Ev (fun k => burden_Sums.f k a b c l) (yesS l (stand 0 l), noS l (stand 0 l), 0) := by
  unfold burden_Sums.f
  refine Ev.bind (standing_ok a b c l hi hl) (Ev.ite_pos rfl ?_)
  have e := sums_l0 l hl (stand 0 l) (stand_len l 0) l.length 0 0 0 (by omega) (by omega) (by omega) (by omega) (by omega)
  simp only [List.drop_zero, Int.zero_add] at e
  exact e
def meetsB (a b s : Int) : Bool := if s = 1 then decide (a > b) else if s = 2 then decide (a > 0 ∧ a ≥ 3 * b) else decide (a > 0 ∧ b = 0)
theorem meets_ok (a b s : Int) (ha : 0 ≤ b) (hb : b ≤ 100000) : burden_meets.f a b s = some (meetsB a b s) := by
  unfold burden_meets.f meetsB
  rw [w64 (by omega) (by omega)]
  by_cases h1 : s = 1
  · rw [if_pos h1, if_pos h1]
  · rw [if_neg h1, if_neg h1]
    by_cases h2 : s = 2
    · rw [if_pos h2, if_pos h2]
      by_cases h3 : a > 0
      · rw [if_pos h3]; simp [h3]
      · rw [if_neg h3]; simp [h3]
    · rw [if_neg h2, if_neg h2]
      by_cases h3 : a > 0
      · rw [if_pos h3]; congr 1; rw [Bool.eq_iff_iff]; simp [h3]
      · rw [if_neg h3]; simp [h3]
def proofV (y n s : Int) : Int := if meetsB y n s = true then 1 else if meetsB n y s = true then 0 else 2
theorem proof_ok (a b c : Int) (l : List S34) (hi : okI a b c) (hl : okL l) : Ev (fun k => burden_Proof.f k a b c l) (proofV (yesS l (stand 0 l)) (noS l (stand 0 l)) c, 0) := by
  obtain ⟨h1, h2, h3, h4⟩ := yes_bd l (stand 0 l) (okL_mem hl)
  have hn := hl.1
  unfold burden_Proof.f
  refine Ev.bind (sums_ok a b c l hi hl) (Ev.ite_pos rfl ?_)
  simp only
  rw [meets_ok _ _ _ (by omega) (by omega), meets_ok _ _ _ (by omega) (by omega)]
  simp only [Option.bind_some, proofV]
  cases meetsB (yesS l (stand 0 l)) (noS l (stand 0 l)) c
  · cases meetsB (noS l (stand 0 l)) (yesS l (stand 0 l)) c
    · exact Ev.some_ rfl
    · exact Ev.some_ rfl
  · exact Ev.some_ rfl
def findV (a b v : Int) : Bool × Int × Int := if v = 2 then (if a = 2 then (b == 2, 3, 0) else (a == 1, 2, 0)) else (v == 1, 1, 0)
theorem find_ok (a b c : Int) (l : List S34) (hi : okI a b c) (hl : okL l) : Ev (fun k => burden_Find.f k a b c l) (findV a b (proofV (yesS l (stand 0 l)) (noS l (stand 0 l)) c)) := by
  unfold burden_Find.f
  refine Ev.bind (proof_ok a b c l hi hl) (Ev.ite_pos rfl ?_)
  simp only
  unfold findV
  split
  · split <;> exact Ev.now _
  · exact Ev.now _

/-! Evidence -/
/-- What Evidence makes. -/
def madeP (p : S34) (i : Nat) : Prop := 1 ≤ p.f1 ∧ p.f1 ≤ 9 ∧ -1 ≤ p.f2 ∧ p.f2 < (i : Int)
def madeL (l : List S34) : Prop := ∀ i, i < l.length → madeP (rdP l i) i
theorem rdP_append_left (l m : List S34) (i : Nat) (h : i < l.length) : rdP (l ++ m) i = rdP l i := by
  simp [rdP, List.getD_eq_getElem?_getD, List.getElem?_append, h]
theorem rdP_append_last (l : List S34) (p : S34) : rdP (l ++ [p]) l.length = p := by
  simp [rdP, List.getD_eq_getElem?_getD]
theorem madeL_snoc {l : List S34} {p : S34} (h : madeL l) (hp : madeP p l.length) : madeL (l ++ [p]) := by
  intro i hi
  by_cases c : i < l.length
  · rw [rdP_append_left _ _ _ c]; exact h i c
  · obtain rfl : i = l.length := by simp at hi; omega
    rw [rdP_append_last]; exact hp
theorem evid_l0 (n : Nat) (hn : n ≤ 7) (a b c : Int) : ∀ (d i : Nat) (x : List S34) (s : List Int), i + d = n → x.length = i → madeL x → wfL s →
    ∃ y, Ev (fun k => mootkeep4_Evidence.l0 k x (n : Int) (i : Int) s a b c) (a, b, c, y) ∧ y.length = n ∧ madeL y := by
  intro d
  induction d with
  | zero =>
    intro i x s h hx hm hs
    refine ⟨x, ?_, by omega, hm⟩
    apply Ev.step
    · intro k; rw [mootkeep4_Evidence.l0]
    · exact Ev.ite_neg (by omega) (Ev.now _)
  | succ d ih =>
    intro i x s h hx hm hs
    obtain ⟨r1, s1, e1, a1, b1, _, w1⟩ := next_ok s 2 hs (by omega)
    obtain ⟨r2, s2, e2, a2, b2, _, w2⟩ := next_ok s1 9 w1 (by omega)
    obtain ⟨r3, s3, e3, a3, b3, _, w3⟩ := next_ok s2 ((i : Int) + 1) w2 (by omega)
    have b2' := b2 (by omega)
    have b3' := b3 (by omega)
    obtain ⟨y, hy, hl, hm'⟩ := ih (i + 1) (x ++ [(⟨(r1 == 0), 1 + r2, r3 - 1⟩ : S34)]) s3 (by omega) (by simp [hx]) (madeL_snoc hm ⟨by simp only; omega, by simp only; omega, by simp only; omega, by simp only; omega⟩) w3
    refine ⟨y, ?_, hl, hm'⟩
    apply Ev.step
    · intro k; rw [mootkeep4_Evidence.l0]
    · refine Ev.ite_pos (by omega) ?_
      have hw : wrap64 ((i : Int) + 1) = ((i + 1 : Nat) : Int) := by rw [w64 (by omega) (by omega)]; omega
      rw [hw, show ((i + 1 : Nat) : Int) = (i : Int) + 1 by omega]
      simp only [e1, e2, e3, Option.bind_some]
      rw [w64 (by omega) (by omega), w64 (by omega) (by omega)]
      exact Ev.ite_pos (by omega) hy
theorem evid_ok (l : List Int) (hl : wfL l) : ∃ a b c y, Ev (fun k => mootkeep4_Evidence.f k l) (a, b, c, y) ∧ okI a b c ∧ y.length ≤ 7 ∧ madeL y := by
  obtain ⟨r1, s1, e1, a1, b1, _, w1⟩ := next_ok l 3 hl (by omega)
  obtain ⟨r2, s2, e2, a2, b2, _, w2⟩ := next_ok s1 2 w1 (by omega)
  obtain ⟨r3, s3, e3, a3, b3, _, w3⟩ := next_ok s2 3 w2 (by omega)
  obtain ⟨r4, s4, e4, a4, b4, _, w4⟩ := next_ok s3 8 w3 (by omega)
  have b1' := b1 (by omega)
  have b2' := b2 (by omega)
  have b3' := b3 (by omega)
  have b4' := b4 (by omega)
  obtain ⟨n, rfl⟩ := Int.eq_ofNat_of_zero_le a4
  obtain ⟨y, hy, hn, hm⟩ := evid_l0 n (by omega) r1 (1 + r2) (1 + r3) n 0 [] s4 (by omega) rfl (by intro i hi; simp at hi) w4
  refine ⟨r1, 1 + r2, 1 + r3, y, ?_, ⟨by omega, by omega, by omega, by omega, by omega, by omega⟩, by omega, hm⟩
  unfold mootkeep4_Evidence.f
  simp only [e1, e2, e3, e4, Option.bind_some]
  rw [w64 (by omega) (by omega), w64 (by omega) (by omega)]
  exact hy
theorem found_ok : Ev (fun k => mootkeep4_found.f k) true := Ev.of (mootkeep4_found.mono) (k := 20) (by decide +kernel)
theorem okL_made {l : List S34} (h : madeL l) (hn : l.length ≤ 100) : okL l := ⟨hn, fun i hi => ⟨(h i hi).1, by have := (h i hi).2.1; omega, (h i hi).2.2.1, (h i hi).2.2.2⟩⟩
theorem okL_snoc {l : List S34} {p : S34} (h : okL l) (hn : l.length < 100) (hp : okP p l.length) : okL (l ++ [p]) := by
  refine ⟨by simp; omega, fun i hi => ?_⟩
  by_cases c : i < l.length
  · rw [rdP_append_left _ _ _ c]; exact h.2 i c
  · obtain rfl : i = l.length := by simp at hi; omega
    rw [rdP_append_last]; exact hp
/-- A further piece that rebuts nothing: the others stand as before. -/
theorem stand_snoc (p : S34) (hp : p.f2 = -1) (l : List S34) : ∀ k, stand k (l ++ [p]) = stand k l ++ [true] := by
  induction l with
  | nil => intro k; simp [stand]
  | cons q qs ih =>
    intro k
    rw [List.cons_append, stand, stand, ih, List.cons_append]
    congr 1
    rw [List.zip_append (stand_len qs (k + 1)).symm, List.any_append]
    have : hits k q.f1 (p, true) = false := hits_f1 (by omega)
    simp [this]
theorem yes_snoc (p : S34) (l : List S34) : ∀ x : List Bool, x.length = l.length → yesS (l ++ [p]) (x ++ [true]) = yesS l x + (if p.f0 = true then p.f1 else 0) ∧ noS (l ++ [p]) (x ++ [true]) = noS l x + (if p.f0 = true then 0 else p.f1) := by
  induction l with
  | nil => intro x hx; have : x = [] := List.length_eq_zero_iff.1 hx; subst this; simp [yesS, noS]
  | cons q qs ih =>
    intro x hx
    cases x with
    | nil => simp at hx
    | cons b bs =>
      have := ih bs (by simpa using hx)
      simp only [List.cons_append, yesS, noS]
      omega
end Go.Proofs.Ytghnbiknghelpaa.Pure
