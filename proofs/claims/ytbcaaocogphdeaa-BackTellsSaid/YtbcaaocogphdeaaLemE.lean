/- Plain lemmas: a party's sum over a month; corrections of payments within bounds. -/
import Derived.Test.YtbcaaocogphdeaaPAllx0
import Derived.Test.YtbcaaocogphdeaaPAllx28
import Derived.Test.YtbcaaocogphdeaaPAllx45
import Derived.Test.YtbcaaocogphdeaaLemD
namespace Go.Proofs.Ytbcaaocogphdeaa.Pure
open Go.RowKit Go.Proofs.Ytbcaaocogphdeaa.PAll Go.Proofs.YtbcaaocogphdeaaW.PrintWords Go.Proofs.YtbcaaocogphdeaaW.PrintLast
set_option linter.unusedVariables false
set_option linter.unusedSimpArgs false

theorem sum_l0 (l : List S32) (hn : l.length ≤ 1000) (h : ∀ p ∈ l, -3000000 ≤ p.f2 ∧ p.f2 ≤ 3000000) (who m : Int) : ∀ (n i : Nat) (s : Int), i + n = l.length → -(3000000 * (i : Int)) ≤ s → s ≤ 3000000 * (i : Int) → ∀ k, n + 1 ≤ k → pay_Sum.l0 k who m (m + 1) s l (l.length : Int) (i : Int) = some (s + tot (who, m) (l.drop i)) := by
  intro n
  induction n with
  | zero =>
    intro i s hi h1 h2 k hk
    obtain ⟨k, rfl⟩ : ∃ j, k = j + 1 := ⟨k - 1, by omega⟩
    rw [pay_Sum.l0, if_neg (by omega), List.drop_of_length_le (by omega)]
    simp [tot]
  | succ n ih =>
    intro i s hi h1 h2 k hk
    obtain ⟨k, rfl⟩ : ∃ j, k = j + 1 := ⟨k - 1, by omega⟩
    have hb := h _ (rd_mem (l := l) (i := (i : Int)) (by omega) (by omega))
    have hd : l.drop i = rd_T32 l (i : Int) :: l.drop (i + 1) := by
      rw [drop_cons l z32 i (by omega)]
      rfl
    rw [hd, tot, pay_Sum.l0, if_pos (by omega), if_pos (by omega), if_pos (by omega)]
    rw [show wrap64 ((i : Int) + 1) = ((i + 1 : Nat) : Int) by rw [w64 (by omega) (by omega)]; omega]
    generalize rd_T32 l (i : Int) = p at hb
    by_cases e0 : p.f0 = who
    · rw [if_pos e0]
      by_cases e1 : p.f1 ≥ m
      · rw [if_pos e1]
        by_cases e2 : p.f1 < m + 1
        · have e3 : p.f1 = m := by omega
          rw [if_pos e2, if_pos (show (p.f0, p.f1) = (who, m) by rw [e0, e3]), w64 (by omega) (by omega), ih (i + 1) (s + p.f2) (by omega) (by omega) (by omega) k (by omega)]
          congr 1
          omega
        · rw [if_neg e2, if_neg (show ¬ (p.f0, p.f1) = (who, m) by intro z; injection z with _ z; omega), ih (i + 1) s (by omega) (by omega) (by omega) k (by omega)]
          congr 1
          omega
      · rw [if_neg e1, if_neg (show ¬ (p.f0, p.f1) = (who, m) by intro z; injection z with _ z; omega), ih (i + 1) s (by omega) (by omega) (by omega) k (by omega)]
        congr 1
        omega
    · rw [if_neg e0, if_neg (show ¬ (p.f0, p.f1) = (who, m) by intro z; injection z with z _; omega), ih (i + 1) s (by omega) (by omega) (by omega) k (by omega)]
      congr 1
      omega
theorem sum_ok (l : List S32) (hn : l.length ≤ 1000) (h : ∀ p ∈ l, -3000000 ≤ p.f2 ∧ p.f2 ≤ 3000000) (who m : Int) (k : Nat) (hk : l.length + 1 ≤ k) : pay_Sum.f k l who m (m + 1) = some (tot (who, m) l) := by
  unfold pay_Sum.f
  have := sum_l0 l hn h who m l.length 0 0 (by omega) (by omega) (by omega) k hk
  simpa using this
theorem corr_any (a b : List S32) (d : Int) (ha : a.length ≤ 40) (hb : b.length ≤ 40) (h1 : ∀ p ∈ a, okP p ∧ -20000 ≤ p.f2 ∧ p.f2 ≤ 20000 ∧ 0 ≤ p.f0 ∧ p.f0 ≤ 1000) (h2 : ∀ p ∈ b, okP p ∧ -20000 ≤ p.f2 ∧ p.f2 ≤ 20000 ∧ 0 ≤ p.f0 ∧ p.f0 ≤ 1000) (hd0 : 700000 ≤ d) (hd1 : d ≤ 739999) :
    ∃ x, back_Correct.f a b d = some (x, 0) ∧ x.length ≤ 80 ∧ (∀ p ∈ x, -3000000 ≤ p.f2 ∧ p.f2 ≤ 3000000) ∧ ∀ k, tot k x = tot k b - tot k a := by
  have hs := fun k => sums_get a b (by omega) (by omega) (fun p hp => (h1 p hp).1) (fun p hp => (h2 p hp).1) k
  refine ⟨pay_sort (corr_list (sums a b) d), correct_ok a b d (by omega) (by omega) (fun p hp => (h1 p hp).1) (fun p hp => (h2 p hp).1) (fun p hp => by have := h1 p hp; omega) (fun p hp => by have := h2 p hp; omega) (by omega) (by omega), ?_, ?_, ?_⟩
  · rw [(pay_perm _).1.length_eq]
    have e1 := corr_list_len (sums a b) d
    have e2 := len_fill (-1) a (corr_fill 1 [] b)
    have e3 := len_fill 1 b []
    unfold sums at e1
    simp only [List.length_nil] at e3
    unfold sums
    omega
  · intro p hp
    have hp' := (pay_perm _).1.mem_iff.1 hp
    obtain ⟨a1, a2, a3⟩ := (mem_list (sums_nodup a b) d p).1 hp'
    rw [hs] at a2
    have t1 := tot_bd (p.f0, p.f1) 20000 (by omega) a (fun p hp => by have := h1 p hp; omega)
    have t2 := tot_bd (p.f0, p.f1) 20000 (by omega) b (fun p hp => by have := h2 p hp; omega)
    omega
  · intro k
    rw [tot_perm k (pay_perm _).1, tot_list d k _ (sums_nodup a b), hs]
end Go.Proofs.Ytbcaaocogphdeaa.Pure
