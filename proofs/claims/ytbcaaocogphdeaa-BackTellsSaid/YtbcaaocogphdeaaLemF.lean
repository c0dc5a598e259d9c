/- Plain lemmas: Check and its reference at any payments; Correct at any payments that stand; what Correct answers, entry by entry. -/
import Derived.Test.YtbcaaocogphdeaaPAllx0
import Derived.Test.YtbcaaocogphdeaaPAllx4
import Derived.Test.YtbcaaocogphdeaaPAllx28
import Derived.Test.YtbcaaocogphdeaaPAllx29
import Derived.Test.YtbcaaocogphdeaaPAllx38
import Derived.Test.YtbcaaocogphdeaaPAllx43
import Derived.Test.YtbcaaocogphdeaaLemE
namespace Go.Proofs.Ytbcaaocogphdeaa.Pure
open Go.RowKit Go.Proofs.Ytbcaaocogphdeaa.PAll Go.Proofs.YtbcaaocogphdeaaW.PrintWords Go.Proofs.YtbcaaocogphdeaaW.PrintLast
set_option linter.unusedVariables false
set_option linter.unusedSimpArgs false

def payV (p : S32) : Int := if p.f2 < -1099511627776 ∨ p.f2 > 1099511627776 then 2 else if p.f3 < 0 ∨ p.f3 > 1048575 ∨ p.f1 < 0 ∨ p.f1 > 1048575 then 1 else 0
def payC : List S32 → Int
  | [] => 0
  | p :: r => if payV p = 0 then payC r else payV p
def payF (l : List S32) : Int := if l.length > 1000 then 2 else payC l
theorem payV_ok {p : S32} (h : payV p = 0) : okP p := by
  unfold payV at h
  unfold okP
  split at h
  · omega
  · split at h
    · omega
    · omega
theorem payC_ok {l : List S32} (h : payC l = 0) : ∀ p ∈ l, okP p := by
  induction l with
  | nil => simp
  | cons p r ih =>
    unfold payC at h
    split at h
    · rename_i h0
      intro q hq
      rcases List.mem_cons.1 hq with rfl | hq
      · exact payV_ok h0
      · exact ih h q hq
    · rename_i h0
      exact absurd h h0
theorem payF_ok {l : List S32} (h : payF l = 0) : l.length ≤ 1000 ∧ ∀ p ∈ l, okP p := by
  unfold payF at h
  split at h
  · omega
  · exact ⟨by omega, payC_ok h⟩
theorem drop_rd (l : List S32) (i : Nat) (h : i < l.length) : l.drop i = rd_T32 l (i : Int) :: l.drop (i + 1) := by
  rw [drop_cons l z32 i h]
  rfl
theorem next_i {l : List S32} {i n : Nat} (hi : i + (n + 1) = l.length) (hn : l.length ≤ 100000) : wrap64 ((i : Int) + 1) = ((i + 1 : Nat) : Int) := by rw [w64 (by omega) (by omega)]; omega
theorem checkF_l0 (l : List S32) (hn : l.length ≤ 1000) : ∀ (n i : Nat), i + n = l.length → ∀ k, 2 * n + 1 ≤ k → back_Check.l0 k l (l.length : Int) (i : Int) = some (payC (l.drop i)) := by
  intro n
  induction n with
  | zero =>
    intro i hi k hk
    obtain ⟨k, rfl⟩ : ∃ j, k = j + 1 := ⟨k - 1, by omega⟩
    rw [back_Check.l0, if_neg (by omega), List.drop_of_length_le (by omega), payC]
  | succ n ih =>
    intro i hi k hk
    obtain ⟨k, rfl⟩ : ∃ j, k = j + 1 + 1 := ⟨k - 2, by omega⟩
    have hr := ih (i + 1) (by omega) k (by omega)
    rw [drop_rd l i (by omega), payC, back_Check.l0, if_pos (by omega), if_pos (by omega), if_pos (by omega)]
    generalize rd_T32 l (i : Int) = p
    unfold payV
    by_cases c1 : p.f2 < -1099511627776
    · rw [if_pos c1, back_Check.j1, if_pos rfl, if_pos (Or.inl c1), if_neg (by omega)]
    · rw [if_neg c1, back_Check.j1]
      by_cases c2 : p.f2 > 1099511627776
      · rw [if_pos (decide_eq_true c2), if_pos (Or.inr c2), if_neg (by omega)]
      · rw [if_neg (by simpa using c2), if_neg (show ¬ (p.f2 < -1099511627776 ∨ p.f2 > 1099511627776) by omega)]
        by_cases c3 : p.f3 < 0
        · rw [if_pos c3, if_pos (Or.inl c3), if_neg (by omega)]
        · rw [if_neg c3]
          by_cases c4 : p.f3 > 1048575
          · rw [if_pos c4, if_pos (Or.inr (Or.inl c4)), if_neg (by omega)]
          · rw [if_neg c4]
            by_cases c5 : p.f1 < 0
            · rw [if_pos c5, if_pos (Or.inr (Or.inr (Or.inl c5))), if_neg (by omega)]
            · rw [if_neg c5]
              by_cases c6 : p.f1 > 1048575
              · rw [if_pos c6, if_pos (Or.inr (Or.inr (Or.inr c6))), if_neg (by omega)]
              · rw [if_neg c6, if_neg (show ¬ (p.f3 < 0 ∨ p.f3 > 1048575 ∨ p.f1 < 0 ∨ p.f1 > 1048575) by omega), if_pos rfl, next_i hi (by omega)]
                exact hr
theorem checkF (l : List S32) (k : Nat) (hk : 2 * l.length + 1 ≤ k) : back_Check.f k l = some (payF l) := by
  unfold back_Check.f payF
  by_cases c : l.length > 1000
  · rw [if_pos (by omega), if_pos c]
  · rw [if_neg (by omega), if_neg c]
    exact checkF_l0 l (by omega) l.length 0 (by omega) k hk
theorem faultF_l0 (l : List S32) (hn : l.length ≤ 1000) : ∀ (n i : Nat), i + n = l.length → ∀ k, 2 * n + 1 ≤ k → mootlaw4_paysFault.l0 k l (l.length : Int) (i : Int) = some (payC (l.drop i)) := by
  intro n
  induction n with
  | zero =>
    intro i hi k hk
    obtain ⟨k, rfl⟩ : ∃ j, k = j + 1 := ⟨k - 1, by omega⟩
    rw [mootlaw4_paysFault.l0, if_neg (by omega), List.drop_of_length_le (by omega), payC]
  | succ n ih =>
    intro i hi k hk
    obtain ⟨k, rfl⟩ : ∃ j, k = j + 1 + 1 := ⟨k - 2, by omega⟩
    have hr := ih (i + 1) (by omega) k (by omega)
    rw [drop_rd l i (by omega), payC, mootlaw4_paysFault.l0, if_pos (by omega), if_pos (by omega), if_pos (by omega)]
    generalize rd_T32 l (i : Int) = p
    unfold payV
    by_cases c1 : p.f2 < -1099511627776
    · rw [if_pos c1, mootlaw4_paysFault.j1, if_pos rfl, if_pos (Or.inl c1), if_neg (by omega)]
    · rw [if_neg c1, mootlaw4_paysFault.j1]
      by_cases c2 : p.f2 > 1099511627776
      · rw [if_pos (decide_eq_true c2), if_pos (Or.inr c2), if_neg (by omega)]
      · rw [if_neg (by simpa using c2), if_neg (show ¬ (p.f2 < -1099511627776 ∨ p.f2 > 1099511627776) by omega)]
        have e1 : mn p.f3 p.f1 = min p.f3 p.f1 := by unfold mn; split <;> omega
        have e2 : mx p.f3 p.f1 = max p.f3 p.f1 := by unfold mx; split <;> omega
        rw [e1, e2]
        by_cases c3 : min p.f3 p.f1 < 0
        · rw [if_pos c3, if_pos (show p.f3 < 0 ∨ p.f3 > 1048575 ∨ p.f1 < 0 ∨ p.f1 > 1048575 by omega), if_neg (by omega)]
        · rw [if_neg c3]
          by_cases c4 : max p.f3 p.f1 > 1048575
          · rw [if_pos c4, if_pos (show p.f3 < 0 ∨ p.f3 > 1048575 ∨ p.f1 < 0 ∨ p.f1 > 1048575 by omega), if_neg (by omega)]
          · rw [if_neg c4, if_neg (show ¬ (p.f3 < 0 ∨ p.f3 > 1048575 ∨ p.f1 < 0 ∨ p.f1 > 1048575) by omega), if_pos rfl, next_i hi (by omega)]
            exact hr
theorem faultF (l : List S32) (k : Nat) (hk : 2 * l.length + 1 ≤ k) : mootlaw4_paysFault.f k l = some (payF l) := by
  unfold mootlaw4_paysFault.f payF
  by_cases c : l.length > 1000
  · rw [if_pos (by omega), if_pos c]
  · rw [if_neg (by omega), if_neg c]
    exact faultF_l0 l (by omega) l.length 0 (by omega) k hk
theorem corrects_ok (k : Nat) (hk : 3 ≤ k) : mootlaw4_corrects.f k = some true := by
  obtain ⟨j, rfl⟩ : ∃ j, k = j + 1 + 1 := ⟨k - 2, by omega⟩
  unfold mootlaw4_corrects.f
  rw [corrected_one]
  simp only [Option.bind_some, if_true]
  have e : api_Pay_22.f (j + 1 + 1) [(⟨1, 2, 3, 9⟩ : S32)] [(⟨1, 2, 3, 9⟩ : S32)] = some true := by
    simp [api_Pay_22.f, api_Pay_22.l0, rd_T32, wrap64]
  rw [e]
  rfl
/-- Correct's fault, and what it answers with none. -/
def corrF (a b : List S32) (d : Int) : Int := if payF a = 0 then (if payF b = 0 then (if d < 0 ∨ d > 1048575 then 1 else 0) else payF b) else payF a
theorem correct_bad (a b : List S32) (d : Int) (h : corrF a b d ≠ 0) : back_Correct.f a b d = some ([], corrF a b d) := by
  unfold back_Correct.f
  unfold corrF at h ⊢
  rw [checkF a _ (by omega), checkF b _ (by omega)]
  simp only [Option.bind_some]
  by_cases c1 : payF a = 0
  · rw [if_pos c1] at h ⊢
    rw [if_pos c1]
    by_cases c2 : payF b = 0
    · rw [if_pos c2] at h ⊢
      rw [if_pos c2]
      by_cases c3 : d < 0
      · rw [if_pos c3, if_pos (Or.inl c3)]
      · rw [if_neg c3]
        by_cases c4 : d > 1048575
        · rw [if_pos c4, if_pos (Or.inr c4)]
        · rw [if_neg (show ¬ (d < 0 ∨ d > 1048575) by omega)] at h
          exact absurd rfl h
    · rw [if_neg c2, if_neg c2]
  · rw [if_neg c1, if_neg c1]
theorem correct_good (a b : List S32) (d : Int) (h : corrF a b d = 0) (wa : corr_wf a = true) (wb : corr_wf b = true) : back_Correct.f a b d = some (pay_sort (corr_list (sums a b) d), 0) ∧ a.length ≤ 1000 ∧ b.length ≤ 1000 ∧ (∀ p ∈ a, okP p) ∧ (∀ p ∈ b, okP p) := by
  unfold corrF at h
  split at h
  · rename_i c1
    split at h
    · rename_i c2
      split at h
      · omega
      · rename_i c3
        obtain ⟨a1, a2⟩ := payF_ok c1
        obtain ⟨b1, b2⟩ := payF_ok c2
        refine ⟨?_, a1, b1, a2, b2⟩
        unfold back_Correct.f
        rw [checkF a _ (by omega), checkF b _ (by omega), c1, c2]
        simp only [Option.bind_some, if_true]
        rw [if_neg (by omega), if_neg (by omega), if_pos (by rw [wa, wb]; simp [a1, b1])]
        rfl
    · rename_i c2
      exact absurd h c2
  · rename_i c1
    exact absurd h c1
/-- What a correction is, entry by entry. -/
structure Is (a b : List S32) (d : Int) (x : List S32) : Prop where
  len : x.length ≤ 2000
  ent : ∀ p ∈ x, p.f2 ≠ 0 ∧ p.f3 = d ∧ -2199023255552000 ≤ p.f2 ∧ p.f2 ≤ 2199023255552000
  tot_ : ∀ k, tot k x = tot k b - tot k a
  inc : x.Pairwise (fun p q => p.f0 < q.f0 ∨ (p.f0 = q.f0 ∧ p.f1 < q.f1))
theorem is_corr (a b : List S32) (d : Int) (ha : a.length ≤ 1000) (hb : b.length ≤ 1000) (h1 : ∀ p ∈ a, okP p) (h2 : ∀ p ∈ b, okP p) : Is a b d (pay_sort (corr_list (sums a b) d)) := by
  have hs := fun k => sums_get a b ha hb h1 h2 k
  have nd := sums_nodup a b
  obtain ⟨p1, s1⟩ := pay_perm (corr_list (sums a b) d)
  refine ⟨?_, ?_, ?_, ?_⟩
  · rw [p1.length_eq]
    have e1 := corr_list_len (sums a b) d
    have e2 := len_fill (-1) a (corr_fill 1 [] b)
    have e3 := len_fill 1 b []
    unfold sums at e1
    simp only [List.length_nil] at e3
    unfold sums
    omega
  · intro p hp
    obtain ⟨a1, a2, a3⟩ := (mem_list nd d p).1 (p1.mem_iff.1 hp)
    rw [hs] at a2
    have t1 := tot_bd (p.f0, p.f1) 1099511627776 (by omega) a (fun p hp => by have := h1 p hp; unfold okP at this; omega)
    have t2 := tot_bd (p.f0, p.f1) 1099511627776 (by omega) b (fun p hp => by have := h2 p hp; unfold okP at this; omega)
    exact ⟨a3, a1, by omega, by omega⟩
  · intro k
    rw [tot_perm k p1, tot_list d k _ nd, hs]
  · have nk : (pay_sort (corr_list (sums a b) d)).Pairwise (fun p q => p ≠ q) := p1.symm.nodup (nodup_list nd d)
    refine (s1.and nk).imp_of_mem ?_
    intro p q hp hq ⟨h3, h4⟩
    rw [pay_lt] at h3
    simp only [decide_eq_false_iff_not] at h3
    have hp' := (mem_list nd d p).1 (p1.mem_iff.1 hp)
    have hq' := (mem_list nd d q).1 (p1.mem_iff.1 hq)
    apply Classical.byContradiction
    intro hn
    have e0 : p.f0 = q.f0 := by omega
    have e1 : p.f1 = q.f1 := by omega
    have e2 : p.f2 = q.f2 := by rw [hp'.2.1, hq'.2.1, e0, e1]
    have e3 : p.f3 = q.f3 := by rw [hp'.1, hq'.1]
    apply h4
    cases p
    cases q
    simp only at e0 e1 e2 e3
    subst e0 e1 e2 e3
    rfl
end Go.Proofs.Ytbcaaocogphdeaa.Pure
