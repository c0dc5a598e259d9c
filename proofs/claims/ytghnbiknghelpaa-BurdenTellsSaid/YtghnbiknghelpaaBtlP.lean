/- Plain lemmas, picked by pick.py out of this seat's other plain texts. -/
import Derived.Test.YtghnbiknghelpaaPBtlx0
import Derived.Test.YtghnbiknghelpaaPBtlx3
import Derived.Test.YtghnbiknghelpaaPBtlx4
import Derived.Test.YtghnbiknghelpaaPBtlx5
import Derived.Test.YtghnbiknghelpaaPBtlx6
import Derived.Test.YtghnbiknghelpaaPBtlx7
import Derived.Test.YtghnbiknghelpaaPBtlx8
import Derived.Test.YtghnbiknghelpaaPBtlx10
namespace Go.Proofs.Ytghnbiknghelpaa.Pure
open Go.RowKit Go.Proofs.Ytghnbiknghelpaa.PBtl Go.Proofs.YtghnbiknghelpaaW.PrintWords Go.Proofs.YtghnbiknghelpaaW.PrintLast
set_option linter.unusedVariables false
set_option linter.unusedSimpArgs false

theorem w64 {a : Int} (h0 : -9223372036854775808 ≤ a) (h1 : a ≤ 9223372036854775807) : wrap64 a = a := by unfold wrap64; omega
theorem Ev.ite_pos {α : Type} {c : Prop} [Decidable c] {f g : Nat → Option α} {r : α} (hc : c) (h : Ev f r) : Ev (fun k => if c then f k else g k) r := Ev.congr (fun _ => if_pos hc) h
theorem Ev.ite_neg {α : Type} {c : Prop} [Decidable c] {f g : Nat → Option α} {r : α} (hc : ¬ c) (h : Ev g r) : Ev (fun k => if c then f k else g k) r := Ev.congr (fun _ => if_neg hc) h
theorem Ev.some_ {α : Type} {r r' : α} (h : r = r') : Ev (fun _ => some r) r' := h ▸ Ev.now r
theorem Ev.res {α : Type} {g : Nat → Option α} {r r' : α} (e : r' = r) (h : Ev g r) : Ev g r' := e ▸ h
theorem drop_cons {α : Type} (l : List α) (z : α) (i : Nat) (h : i < l.length) : l.drop i = l.getD i z :: l.drop (i + 1) := by
  rw [List.drop_eq_getElem_cons h]; simp [List.getD_eq_getElem?_getD, h]
theorem getD_set_self {α : Type} (x : List α) (m : Nat) (b c : α) (h : m < x.length) : (x.set m b).getD m c = b := by simp [List.getD_eq_getElem?_getD, h]
theorem wf_bd {x : Int} (h : (Lit.int .i64 x).wf = true) : -9223372036854775808 ≤ x ∧ x ≤ 9223372036854775807 := by
  simpa [Lit.wf, IntKind.min, IntKind.max, IntKind.signed, IntKind.bits] using h
def rdP (l : List S34) (i : Nat) : S34 := l.getD i z34
theorem rd_nat (l : List S34) (i : Nat) : rd_T34 l (i : Int) = rdP l i := rfl
def okP (p : S34) (i : Nat) : Prop := 1 ≤ p.f1 ∧ p.f1 ≤ 100 ∧ -1 ≤ p.f2 ∧ p.f2 < (i : Int)
def okL (l : List S34) : Prop := l.length ≤ 100 ∧ ∀ i, i < l.length → okP (rdP l i) i
def okI (a b c : Int) : Prop := 0 ≤ a ∧ a ≤ 2 ∧ 1 ≤ b ∧ b ≤ 2 ∧ 1 ≤ c ∧ c ≤ 3
theorem check_l0 (l : List S34) (hl : okL l) : ∀ d i : Nat, i + d = l.length → Ev (fun k => burden_Check.l0 k l (l.length : Int) (i : Int)) 0 := by
  obtain ⟨hn, hv⟩ := hl
  intro d
  induction d with
  | zero =>
    intro i h
    apply Ev.step
    · intro k; rw [burden_Check.l0]
    · exact Ev.ite_neg (by omega) (Ev.now 0)
  | succ d ih =>
    intro i h
    obtain ⟨h1, h2, h3, h4⟩ := hv i (by omega)
    have e := ih (i + 1) (by omega)
    apply Ev.step
    · intro k; rw [burden_Check.l0]
    · refine Ev.ite_pos (by omega) (Ev.ite_pos (by omega) (Ev.ite_pos (by omega) (Ev.ite_neg (by rw [rd_nat]; omega) ?_)))
      simp only [rd_nat]
      apply Ev.step
      · intro k; rw [burden_Check.j2]
      · refine Ev.ite_neg (by simp; omega) (Ev.ite_neg (by omega) (Ev.ite_neg (by omega) ?_))
        rw [w64 (by omega) (by omega)]
        exact e
theorem check_ok (a b c : Int) (l : List S34) (hi : okI a b c) (hl : okL l) : Ev (fun k => burden_Check.f k a b c l) 0 := by
  obtain ⟨h1, h2, h3, h4, h5, h6⟩ := hi
  unfold burden_Check.f
  refine Ev.ite_neg (by omega) (Ev.ite_neg (by omega) (Ev.ite_neg (by omega) (Ev.ite_neg (by omega) (Ev.ite_neg (by omega) ?_))))
  apply Ev.step
  · intro k; rw [burden_Check.j0]
  · exact Ev.ite_neg (by simp; omega) (Ev.ite_neg (by have := hl.1; omega) (check_l0 l hl l.length 0 (by omega)))

/-! Standing -/
def hits (i : Nat) (w : Int) (q : S34 × Bool) : Bool := decide (q.1.f2 = (i : Int)) && q.2 && decide (q.1.f1 ≥ w)
theorem hits_t {i : Nat} {w : Int} {p : S34} {b : Bool} (h1 : p.f2 = (i : Int)) (h2 : b = true) (h3 : p.f1 ≥ w) : hits i w (p, b) = true := by simp [hits, h1, h2, h3]
theorem hits_f1 {i : Nat} {w : Int} {p : S34} {b : Bool} (h1 : ¬ p.f2 = (i : Int)) : hits i w (p, b) = false := by simp [hits, h1]
theorem hits_f2 {i : Nat} {w : Int} {p : S34} {b : Bool} (h2 : ¬ b = true) : hits i w (p, b) = false := by simp at h2; simp [hits, h2]
theorem hits_f3 {i : Nat} {w : Int} {p : S34} {b : Bool} (h3 : ¬ p.f1 ≥ w) : hits i w (p, b) = false := by simp only [hits, decide_eq_false h3, Bool.and_false]
def stand : Nat → List S34 → List Bool
  | _, [] => []
  | k, p :: ps => (!((ps.zip (stand (k + 1) ps)).any (hits k p.f1))) :: stand (k + 1) ps
theorem stand_len (l : List S34) : ∀ k, (stand k l).length = l.length := by
  induction l with
  | nil => intro k; rfl
  | cons p ps ih => intro k; simp [stand, ih]
theorem rdOf_nat (x : List Bool) (i : Nat) : rdOf false x (i : Int) = x.getD i false := rfl
theorem stand_l1 (l : List S34) (i : Nat) (n : Nat) (hn : l.length = n) (hbig : n ≤ 100) (hi : i < n) (r : List Bool × Int) : ∀ (d j : Nat) (x : List Bool), j + d = n → i < j → x.length = n →
    Ev (fun k => burden_Standing.l0 k l (x.set i (x.getD i false && !(((l.drop j).zip (x.drop j)).any (hits i (rdP l i).f1)))) ((i : Int) - 1)) r →
    Ev (fun k => burden_Standing.l1 k l x (i : Int) (j : Int)) r := by
  intro d
  induction d with
  | zero =>
    intro j x hj hij hx h
    have hz : ((l.drop j).zip (x.drop j)) = [] := by rw [List.drop_of_length_le (by omega)]; rfl
    rw [hz] at h
    simp only [List.any_nil, Bool.not_false, Bool.and_true] at h
    have hs : x.set i (x.getD i false) = x := by
      apply List.ext_getElem (by simp)
      intro m h1 h2
      rw [List.getElem_set]
      split
      · subst_vars; simp [List.getD_eq_getElem?_getD, h2]
      · rfl
    rw [hs] at h
    apply Ev.step
    · intro k; rw [burden_Standing.l1]
    · refine Ev.ite_neg (by omega) ?_
      rw [w64 (by omega) (by omega)]
      exact h
  | succ d ih =>
    intro j x hj hij hx h
    rw [drop_cons l z34 j (by omega), drop_cons x false j (by omega), List.zip_cons_cons, List.any_cons] at h
    have hw : wrap64 ((j : Int) + 1) = ((j + 1 : Nat) : Int) := by rw [w64 (by omega) (by omega)]; omega
    apply Ev.step
    · intro k; rw [burden_Standing.l1]
    · refine Ev.ite_pos (by omega) (Ev.ite_pos (by omega) ?_)
      rw [hw]
      simp only [rd_nat, rdOf_nat]
      by_cases c1 : (rdP l j).f2 = (i : Int)
      · refine Ev.ite_pos c1 (Ev.ite_pos (by omega) ?_)
        by_cases c2 : x.getD j false = true
        · refine Ev.ite_pos c2 (Ev.ite_pos (by omega) (Ev.ite_pos (by omega) ?_))
          by_cases c3 : (rdP l j).f1 ≥ (rdP l i).f1
          · refine Ev.ite_pos c3 (Ev.ite_pos (by omega) ?_)
            have hh : hits i (rdP l i).f1 (l.getD j z34, x.getD j false) = true := hits_t c1 c2 c3
            rw [hh, Bool.true_or, Bool.not_true, Bool.and_false] at h
            refine ih (j + 1) (x.set i false) (by omega) (by omega) (by simp [hx]) ?_
            have e1 : (x.set i false).getD i false = false := getD_set_self _ _ _ _ (by omega)
            rw [e1, Bool.false_and, List.set_set]
            exact h
          · refine Ev.ite_neg c3 ?_
            have hh : hits i (rdP l i).f1 (l.getD j z34, x.getD j false) = false := hits_f3 c3
            rw [hh, Bool.false_or] at h
            exact ih (j + 1) x (by omega) (by omega) hx h
        · refine Ev.ite_neg c2 ?_
          have hh : hits i (rdP l i).f1 (l.getD j z34, x.getD j false) = false := hits_f2 c2
          rw [hh, Bool.false_or] at h
          exact ih (j + 1) x (by omega) (by omega) hx h
      · refine Ev.ite_neg c1 ?_
        have hh : hits i (rdP l i).f1 (l.getD j z34, x.getD j false) = false := hits_f1 c1
        rw [hh, Bool.false_or] at h
        exact ih (j + 1) x (by omega) (by omega) hx h
theorem stand_l0 (l : List S34) (hbig : l.length ≤ 100) : ∀ (m : Nat) (x : List Bool), m ≤ l.length → x.length = l.length → x.drop m = stand m (l.drop m) →
    Ev (fun k => burden_Standing.l0 k l x ((m : Int) - 1)) (stand 0 l, 0) := by
  intro m
  induction m with
  | zero =>
    intro x _ hx hs
    apply Ev.step
    · intro k; rw [burden_Standing.l0]
    · refine Ev.ite_neg (by omega) (Ev.some_ ?_)
      rw [← show x = stand 0 l from hs]
  | succ m ih =>
    intro x hm hx hs
    have hc : ((m + 1 : Nat) : Int) - 1 = (m : Int) := by omega
    rw [hc]
    apply Ev.step
    · intro k; rw [burden_Standing.l0]
    · refine Ev.ite_pos (by omega) (Ev.ite_pos (by omega) (Ev.ite_pos (by omega) ?_))
      rw [show wrap64 ((m : Int) + 1) = ((m + 1 : Nat) : Int) by rw [w64 (by omega) (by omega)]; omega, Int.toNat_natCast]
      refine stand_l1 l m l.length rfl hbig (by omega) _ (l.length - (m + 1)) (m + 1) (x.set m true) (by omega) (by omega) (by simp [hx]) ?_
      have e1 : (x.set m true).getD m false = true := getD_set_self _ _ _ _ (by omega)
      have e2 : (x.set m true).drop (m + 1) = x.drop (m + 1) := by rw [List.drop_set_of_lt (by omega)]
      rw [e1, e2, hs, Bool.true_and, List.set_set]
      refine ih _ (by omega) (by simp [hx]) ?_
      rw [drop_cons l z34 m (by omega), stand]
      rw [drop_cons _ false m (by simp; omega)]
      congr 1
      · exact getD_set_self _ _ _ _ (by omega)
      · rw [List.drop_set_of_lt (by omega), hs]
theorem standing_ok (a b c : Int) (l : List S34) (hi : okI a b c) (hl : okL l) : Ev (fun k => burden_Standing.f k a b c l) (stand 0 l, 0) := by
  unfold burden_Standing.f
  refine Ev.bind (check_ok a b c l hi hl) (Ev.ite_pos rfl (Ev.ite_pos (by omega) (Ev.ite_pos (by have := hl.1; omega) ?_)))
  rw [w64 (by omega) (by have := hl.1; omega)]
  exact stand_l0 l hl.1 l.length _ (Nat.le_refl _) (by simp) (by rw [List.drop_of_length_le (by simp), List.drop_of_length_le (by simp)]; rfl)

/-! Sums, Proof, Find -/
def yesS : List S34 → List Bool → Int
  | p :: ps, b :: bs => (if b = true then (if p.f0 = true then p.f1 else 0) else 0) + yesS ps bs
  | _, _ => 0
def noS : List S34 → List Bool → Int
  | p :: ps, b :: bs => (if b = true then (if p.f0 = true then 0 else p.f1) else 0) + noS ps bs
  | _, _ => 0
theorem sums_l0 (l : List S34) (hl : okL l) (x : List Bool) (hx : x.length = l.length) : ∀ (d i : Nat) (a b : Int), i + d = l.length → 0 ≤ a → a ≤ 100 * i → 0 ≤ b → b ≤ 100 * i →
    Ev (fun k => burden_Sums.l0 k x a b l (l.length : Int) (i : Int)) (a + yesS (l.drop i) (x.drop i), b + noS (l.drop i) (x.drop i), 0) := by
  obtain ⟨hn, hv⟩ := hl
  intro d
  induction d with
  | zero =>
    intro i a b h ha ha1 hb hb1
    apply Ev.step
    · intro k; rw [burden_Sums.l0]
    · refine Ev.ite_neg (by omega) (Ev.some_ ?_)
      rw [List.drop_of_length_le (by omega)]
      simp [yesS, noS]
  | succ d ih =>
    intro i a b h ha ha1 hb hb1
    obtain ⟨h1, h2, h3, h4⟩ := hv i (by omega)
    have hw : wrap64 ((i : Int) + 1) = ((i + 1 : Nat) : Int) := by rw [w64 (by omega) (by omega)]; omega
    rw [drop_cons l z34 i (by omega), drop_cons x false i (by omega), yesS, noS]
    apply Ev.step
    · intro k; rw [burden_Sums.l0]
    · refine Ev.ite_pos (by omega) (Ev.ite_pos (by omega) (Ev.ite_pos (by omega) (Ev.ite_pos (by omega) ?_)))
      rw [hw]
      simp only [rd_nat, rdOf_nat]
      by_cases c1 : x.getD i false = true
      · refine Ev.ite_pos c1 ?_
        rw [if_pos c1, if_pos c1]
        by_cases c2 : (rdP l i).f0 = true
        · refine Ev.ite_pos c2 ?_
          rw [w64 (by omega) (by omega)]
          have e := ih (i + 1) (a + (rdP l i).f1) b (by omega) (by omega) (by omega) (by omega) (by omega)
          rw [if_pos (show (l.getD i z34).f0 = true from c2), if_pos (show (l.getD i z34).f0 = true from c2), Int.zero_add, ← Int.add_assoc]
          exact e
        · refine Ev.ite_neg c2 ?_
          rw [w64 (by omega) (by omega)]
          have e := ih (i + 1) a (b + (rdP l i).f1) (by omega) (by omega) (by omega) (by omega) (by omega)
          rw [if_neg (show ¬ (l.getD i z34).f0 = true from c2), if_neg (show ¬ (l.getD i z34).f0 = true from c2), Int.zero_add, ← Int.add_assoc b]
          exact e
      · refine Ev.ite_neg c1 ?_
        rw [if_neg c1, if_neg c1, Int.zero_add, Int.zero_add]
        exact ih (i + 1) a b (by omega) (by omega) (by omega) (by omega) (by omega)
theorem yes_bd (l : List S34) : ∀ (x : List Bool), (∀ p ∈ l, 0 ≤ p.f1 ∧ p.f1 ≤ 100) → 0 ≤ yesS l x ∧ yesS l x ≤ 100 * l.length ∧ 0 ≤ noS l x ∧ noS l x ≤ 100 * l.length := by
  induction l with
  | nil => intro x _; simp [yesS, noS]
  | cons p ps ih =>
    intro x h
    cases x with
    | nil => simp [yesS, noS]; omega
    | cons b bs =>
      have h0 := h p (by simp)
      have h1 := ih bs (fun q hq => h q (by simp [hq]))
      simp only [yesS, noS, List.length_cons]
      cases b <;> cases p.f0 <;> simp <;> omega
theorem okL_mem {l : List S34} (h : okL l) : ∀ p ∈ l, 0 ≤ p.f1 ∧ p.f1 ≤ 100 := by
  intro p hp
  obtain ⟨i, hi, rfl⟩ := List.getElem_of_mem hp
  have := h.2 i hi
  have e : rdP l i = l[i] := by simp [rdP, List.getD_eq_getElem?_getD, hi]
  rw [e] at this
  exact ⟨by have := this.1; omega, this.2.1⟩
theorem sums_ok (a b c : Int) (l : List S34) (hi : okI a b c) (hl : okL l) : Ev (fun k => burden_Sums.f k a b c l) (yesS l (stand 0 l), noS l (stand 0 l), 0) := by
  unfold burden_Sums.f
  refine Ev.bind (standing_ok a b c l hi hl) (Ev.ite_pos rfl ?_)
  have e := sums_l0 l hl (stand 0 l) (stand_len l 0) l.length 0 0 0 (by omega) (by omega) (by omega) (by omega) (by omega)
  simp only [List.drop_zero, Int.zero_add] at e
  exact e
def meetsB (a b s : Int) : Bool := if s = 1 then decide (a > b) else if s = 2 then decide (a > 0 ∧ a ≥ 3 * b) else decide (a > 0 ∧ b = 0)
theorem meets_ok (a b s : Int) (ha : 0 ≤ b) (hb : b ≤ 100000) : burden_meets.f a b s = some (meetsB a b s) := by
  unfold burden_meets.f meetsB
  rw [w64 (by omega) (by omega)]
  by_cases h1 : s = 1
  · rw [if_pos h1, if_pos h1]
  · rw [if_neg h1, if_neg h1]
    by_cases h2 : s = 2
    · rw [if_pos h2, if_pos h2]
      by_cases h3 : a > 0
      · rw [if_pos h3]; simp [h3]
      · rw [if_neg h3]; simp [h3]
    · rw [if_neg h2, if_neg h2]
      by_cases h3 : a > 0
      · rw [if_pos h3]; congr 1; rw [Bool.eq_iff_iff]; simp [h3]
      · rw [if_neg h3]; simp [h3]
def proofV (y n s : Int) : Int := if meetsB y n s = true then 1 else if meetsB n y s = true then 0 else 2
theorem proof_ok (a b c : Int) (l : List S34) (hi : okI a b c) (hl : okL l) : Ev (fun k => burden_Proof.f k a b c l) (proofV (yesS l (stand 0 l)) (noS l (stand 0 l)) c, 0) := by
  obtain ⟨h1, h2, h3, h4⟩ := yes_bd l (stand 0 l) (okL_mem hl)
  have hn := hl.1
  unfold burden_Proof.f
  refine Ev.bind (sums_ok a b c l hi hl) (Ev.ite_pos rfl ?_)
  simp only
  rw [meets_ok _ _ _ (by omega) (by omega), meets_ok _ _ _ (by omega) (by omega)]
  simp only [Option.bind_some, proofV]
  cases meetsB (yesS l (stand 0 l)) (noS l (stand 0 l)) c
  · cases meetsB (noS l (stand 0 l)) (yesS l (stand 0 l)) c
    · exact Ev.some_ rfl
    · exact Ev.some_ rfl
  · exact Ev.some_ rfl
def findV (a b v : Int) : Bool × Int × Int := if v = 2 then (if a = 2 then (b == 2, 3, 0) else (a == 1, 2, 0)) else (v == 1, 1, 0)
theorem find_ok (a b c : Int) (l : List S34) (hi : okI a b c) (hl : okL l) : Ev (fun k => burden_Find.f k a b c l) (findV a b (proofV (yesS l (stand 0 l)) (noS l (stand 0 l)) c)) := by
  unfold burden_Find.f
  refine Ev.bind (proof_ok a b c l hi hl) (Ev.ite_pos rfl ?_)
  simp only
  unfold findV
  split
  · split <;> exact Ev.now _
  · exact Ev.now _

/-! Evidence -/
theorem findL_e (a b v : Int) : (findV a b v).2.2 = 0 := by unfold findV; by_cases h : v = 2 <;> by_cases h2 : a = 2 <;> simp [h, h2]
theorem meets_not (y n s : Int) (hy : 0 ≤ y) (hn : 0 ≤ n) (h1 : meetsB y n s = true) : meetsB n y s = false := by
  unfold meetsB at *
  by_cases c1 : s = 1
  · rw [if_pos c1] at *; simp at *; omega
  · rw [if_neg c1] at *
    by_cases c2 : s = 2
    · rw [if_pos c2] at *; simp at *; omega
    · rw [if_neg c2] at *; simp at *; omega
def faultP (i : Nat) (p : S34) : Int := if p.f1 < 1 ∨ p.f1 > 100 then 1 else if p.f2 < -1 ∨ p.f2 ≥ (i : Int) then 9 else 0
def faultL : Nat → List S34 → Int
  | _, [] => 0
  | i, p :: ps => if faultP i p = 0 then faultL (i + 1) ps else faultP i p
def faultV (a b c : Int) (l : List S34) : Int := if a < 0 ∨ a > 2 ∨ b < 1 ∨ b > 2 ∨ c < 1 ∨ c > 3 then 1 else if l.length > 100 then 2 else faultL 0 l
theorem fault_zero {a b c : Int} {l : List S34} (h : faultV a b c l = 0) : okI a b c ∧ okL l := by
  unfold faultV at h
  split at h
  · omega
  · split at h
    · omega
    · refine ⟨by unfold okI; omega, by omega, ?_⟩
      have key : ∀ (m : List S34) (i : Nat), faultL i m = 0 → ∀ j, j < m.length → okP (rdP m j) (i + j) := by
        intro m
        induction m with
        | nil => intro i _ j hj; simp at hj
        | cons p ps ih =>
          intro i hm j hj
          rw [faultL] at hm
          split at hm
          · rename_i hp
            cases j with
            | zero =>
              show okP p (i + 0)
              unfold faultP at hp
              split at hp
              · omega
              · split at hp
                · omega
                · unfold okP; omega
            | succ j =>
              have := ih (i + 1) hm j (by simpa using hj)
              rw [show i + (j + 1) = i + 1 + j by omega]
              exact this
          · exact absurd hm (by assumption)
      intro i hi
      have := key l 0 h i hi
      rwa [Nat.zero_add] at this
theorem checkF_l0 (l : List S34) (hn : l.length ≤ 100) : ∀ (d i : Nat), i + d = l.length → Ev (fun k => burden_Check.l0 k l (l.length : Int) (i : Int)) (faultL i (l.drop i)) := by
  intro d
  induction d with
  | zero =>
    intro i h
    rw [List.drop_of_length_le (by omega)]
    apply Ev.step
    · intro k; rw [burden_Check.l0]
    · exact Ev.ite_neg (by omega) (Ev.now _)
  | succ d ih =>
    intro i h
    have e := ih (i + 1) (by omega)
    rw [drop_cons l z34 i (by omega), faultL]
    have j2 : ∀ z : Bool, z = decide ((rdP l i).f1 < 1 ∨ (rdP l i).f1 > 100) → Ev (fun k => burden_Check.j2 k (i : Int) l (l.length : Int) (i : Int) z (rdP l i).f0 (rdP l i).f1 (rdP l i).f2) (if faultP i (rdP l i) = 0 then faultL (i + 1) (l.drop (i + 1)) else faultP i (rdP l i)) := by
      intro z hz
      apply Ev.step
      · intro k; rw [burden_Check.j2]
      · unfold faultP
        by_cases c : (rdP l i).f1 < 1 ∨ (rdP l i).f1 > 100
        · refine Ev.ite_pos (by rw [hz]; exact decide_eq_true c) (Ev.some_ ?_)
          rw [if_pos c, if_neg (by decide)]
        · refine Ev.ite_neg (by rw [hz, decide_eq_false c]; decide) ?_
          by_cases c2 : (rdP l i).f2 < -1
          · refine Ev.ite_pos c2 (Ev.some_ ?_)
            rw [if_neg c, if_pos (Or.inl c2), if_neg (by decide)]
          · refine Ev.ite_neg c2 ?_
            by_cases c3 : (rdP l i).f2 ≥ (i : Int)
            · refine Ev.ite_pos c3 (Ev.some_ ?_)
              rw [if_neg c, if_pos (Or.inr c3), if_neg (by decide)]
            · refine Ev.ite_neg c3 ?_
              rw [show wrap64 ((i : Int) + 1) = ((i + 1 : Nat) : Int) by rw [w64 (by omega) (by omega)]; omega]
              refine Ev.res ?_ e
              rw [if_neg c, if_pos (if_neg (fun q => q.elim c2 c3))]
    apply Ev.step
    · intro k; rw [burden_Check.l0]
    · refine Ev.ite_pos (by omega) (Ev.ite_pos (by omega) (Ev.ite_pos (by omega) ?_))
      simp only [rd_nat]
      by_cases c : (rdP l i).f1 < 1
      · exact Ev.ite_pos c (j2 true (decide_eq_true (Or.inl c)).symm)
      · refine Ev.ite_neg c (j2 (decide ((rdP l i).f1 > 100)) ?_)
        by_cases c9 : (rdP l i).f1 > 100
        · rw [decide_eq_true c9, decide_eq_true (Or.inr c9)]
        · rw [decide_eq_false c9, decide_eq_false (fun q => q.elim c c9)]
theorem check_fault (a b c : Int) (l : List S34) : Ev (fun k => burden_Check.f k a b c l) (faultV a b c l) := by
  have j0 : ∀ z : Bool, Ev (fun k => burden_Check.j0 k l z) (if z = true then 1 else if l.length > 100 then 2 else faultL 0 l) := by
    intro z
    apply Ev.step
    · intro k; rw [burden_Check.j0]
    · by_cases cz : z = true
      · exact Ev.res (if_pos cz) (Ev.ite_pos cz (Ev.now _))
      · refine Ev.res (if_neg cz) (Ev.ite_neg cz ?_)
        by_cases cl : l.length > 100
        · exact Ev.res (if_pos cl) (Ev.ite_pos (by omega) (Ev.now _))
        · refine Ev.res (if_neg cl) (Ev.ite_neg (by omega) ?_)
          have e := checkF_l0 l (by omega) l.length 0 (by omega)
          simpa using e
  unfold burden_Check.f faultV
  by_cases c1 : a < 0
  · exact Ev.res (if_pos (by omega)) (Ev.ite_pos c1 (j0 true))
  · refine Ev.ite_neg c1 ?_
    by_cases c2 : a > 2
    · exact Ev.res (if_pos (by omega)) (Ev.ite_pos c2 (j0 true))
    · refine Ev.ite_neg c2 ?_
      by_cases c3 : b < 1
      · exact Ev.res (if_pos (by omega)) (Ev.ite_pos c3 (j0 true))
      · refine Ev.ite_neg c3 ?_
        by_cases c4 : b > 2
        · exact Ev.res (if_pos (by omega)) (Ev.ite_pos c4 (j0 true))
        · refine Ev.ite_neg c4 ?_
          by_cases c5 : c < 1
          · exact Ev.res (if_pos (by omega)) (Ev.ite_pos c5 (j0 true))
          · refine Ev.ite_neg c5 ?_
            by_cases c6 : c > 3
            · refine Ev.res (if_pos (by omega)) ?_; rw [decide_eq_true c6]; exact j0 true
            · refine Ev.res (if_neg (by omega)) ?_; rw [decide_eq_false c6]; exact j0 false
theorem find_fault (a b c : Int) (l : List S34) (h : faultV a b c l ≠ 0) : Ev (fun k => burden_Find.f k a b c l) (false, 0, faultV a b c l) := by
  have h1 : Ev (fun k => burden_Standing.f k a b c l) ([], faultV a b c l) := by
    unfold burden_Standing.f
    exact Ev.bind (check_fault a b c l) (Ev.ite_neg h (Ev.now _))
  have h2 : Ev (fun k => burden_Sums.f k a b c l) (0, 0, faultV a b c l) := by
    unfold burden_Sums.f
    exact Ev.bind h1 (Ev.ite_neg h (Ev.now _))
  have h3 : Ev (fun k => burden_Proof.f k a b c l) (0, faultV a b c l) := by
    unfold burden_Proof.f
    exact Ev.bind h2 (Ev.ite_neg h (Ev.now _))
  unfold burden_Find.f
  exact Ev.bind h3 (Ev.ite_neg h (Ev.now _))
theorem issueFault_l0 (l : List S34) (hn : l.length ≤ 100) : ∀ (d i : Nat), i + d = l.length → Ev (fun k => mootlaw4_issueFault.l0 k l (l.length : Int) (i : Int)) (faultL i (l.drop i)) := by
  intro d
  induction d with
  | zero =>
    intro i h
    rw [List.drop_of_length_le (by omega)]
    apply Ev.step
    · intro k; rw [mootlaw4_issueFault.l0]
    · exact Ev.ite_neg (by omega) (Ev.now _)
  | succ d ih =>
    intro i h
    have e := ih (i + 1) (by omega)
    rw [drop_cons l z34 i (by omega), faultL]
    have j2 : ∀ z : Bool, z = decide ((rdP l i).f1 < 1 ∨ (rdP l i).f1 > 100) → Ev (fun k => mootlaw4_issueFault.j2 k (i : Int) l (l.length : Int) (i : Int) z (rdP l i).f0 (rdP l i).f1 (rdP l i).f2) (if faultP i (rdP l i) = 0 then faultL (i + 1) (l.drop (i + 1)) else faultP i (rdP l i)) := by
      intro z hz
      apply Ev.step
      · intro k; rw [mootlaw4_issueFault.j2]
      · unfold faultP
        by_cases c : (rdP l i).f1 < 1 ∨ (rdP l i).f1 > 100
        · refine Ev.ite_pos (by rw [hz]; exact decide_eq_true c) (Ev.some_ ?_)
          rw [if_pos c, if_neg (by decide)]
        · refine Ev.ite_neg (by rw [hz, decide_eq_false c]; decide) ?_
          by_cases c2 : (rdP l i).f2 < -1
          · refine Ev.ite_pos c2 (Ev.some_ ?_)
            rw [if_neg c, if_pos (Or.inl c2), if_neg (by decide)]
          · refine Ev.ite_neg c2 ?_
            by_cases c3 : (rdP l i).f2 ≥ (i : Int)
            · refine Ev.ite_pos c3 (Ev.some_ ?_)
              rw [if_neg c, if_pos (Or.inr c3), if_neg (by decide)]
            · refine Ev.ite_neg c3 ?_
              rw [show wrap64 ((i : Int) + 1) = ((i + 1 : Nat) : Int) by rw [w64 (by omega) (by omega)]; omega]
              refine Ev.res ?_ e
              rw [if_neg c, if_pos (if_neg (fun q => q.elim c2 c3))]
    apply Ev.step
    · intro k; rw [mootlaw4_issueFault.l0]
    · refine Ev.ite_pos (by omega) (Ev.ite_pos (by omega) (Ev.ite_pos (by omega) ?_))
      simp only [rd_nat]
      by_cases c : (rdP l i).f1 < 1
      · exact Ev.ite_pos c (j2 true (decide_eq_true (Or.inl c)).symm)
      · refine Ev.ite_neg c (j2 (decide ((rdP l i).f1 > 100)) ?_)
        by_cases c9 : (rdP l i).f1 > 100
        · rw [decide_eq_true c9, decide_eq_true (Or.inr c9)]
        · rw [decide_eq_false c9, decide_eq_false (fun q => q.elim c c9)]
theorem issueFault_ok (a b c : Int) (l : List S34) : Ev (fun k => mootlaw4_issueFault.f k a b c l) (faultV a b c l) := by
  have j0 : ∀ z : Bool, Ev (fun k => mootlaw4_issueFault.j0 k l z) (if z = true then 1 else if l.length > 100 then 2 else faultL 0 l) := by
    intro z
    apply Ev.step
    · intro k; rw [mootlaw4_issueFault.j0]
    · by_cases cz : z = true
      · exact Ev.res (if_pos cz) (Ev.ite_pos cz (Ev.now _))
      · refine Ev.res (if_neg cz) (Ev.ite_neg cz ?_)
        by_cases cl : l.length > 100
        · exact Ev.res (if_pos cl) (Ev.ite_pos (by omega) (Ev.now _))
        · refine Ev.res (if_neg cl) (Ev.ite_neg (by omega) ?_)
          have e := issueFault_l0 l (by omega) l.length 0 (by omega)
          simpa using e
  have tail : ¬ (a < 0 ∨ a > 2 ∨ b < 1 ∨ b > 2) → Ev (fun k => if c < 1 then mootlaw4_issueFault.j0 k l true else mootlaw4_issueFault.j0 k l (decide (c > 3))) (faultV a b c l) := by
    intro h
    unfold faultV
    by_cases c5 : c < 1
    · exact Ev.res (if_pos (by omega)) (Ev.ite_pos c5 (j0 true))
    · refine Ev.ite_neg c5 ?_
      by_cases c6 : c > 3
      · refine Ev.res (if_pos (by omega)) ?_; rw [decide_eq_true c6]; exact j0 true
      · refine Ev.res (if_neg (by omega)) ?_; rw [decide_eq_false c6]; exact j0 false
  unfold mootlaw4_issueFault.f
  by_cases c1 : a < 0
  · refine Ev.res (show faultV a b c l = 1 by unfold faultV; rw [if_pos (by omega)]) (Ev.ite_pos c1 (j0 true))
  · refine Ev.ite_neg c1 ?_
    by_cases c2 : a > 2
    · refine Ev.res (show faultV a b c l = 1 by unfold faultV; rw [if_pos (by omega)]) (Ev.ite_pos c2 (j0 true))
    · refine Ev.ite_neg c2 ?_
      by_cases c3 : b = 1
      · exact Ev.ite_pos c3 (tail (by omega))
      · refine Ev.ite_neg c3 ?_
        by_cases c4 : b = 2
        · exact Ev.ite_pos c4 (tail (by omega))
        · exact Ev.ite_neg c4 (Ev.res (show faultV a b c l = 1 by unfold faultV; rw [if_pos (by omega)]) (j0 true))
end Go.Proofs.Ytghnbiknghelpaa.Pure
