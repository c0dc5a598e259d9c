/- Plain lemmas: what is left of a sorted list without its repeats. -/
import Derived.Test.YtenhnlclnjnboaaPTelx0
import Derived.Lib.SlicesCompact
namespace Go.Proofs.Ytenhnlclnjnboaa.Pure
open Go.Lib
theorem upto_inv (zs : List Int) (hs : zs.Pairwise (· ≤ ·)) : ∀ m, m ≤ zs.length →
    (compactUpTo zs.toArray m).Pairwise (· < ·) ∧ (∀ x, x ∈ compactUpTo zs.toArray m ↔ ∃ j, j < m ∧ zs.getD j 0 = x) ∧ ∀ j, j < m → ∀ x ∈ compactUpTo zs.toArray m, x ≤ zs.getD (m - 1) 0 := by
  have hd : ∀ j, j < zs.length → zs.toArray[j]! = zs.getD j 0 := by
    intro j hj
    simp [hj]
  have hle : ∀ i j, i ≤ j → j < zs.length → zs.getD i 0 ≤ zs.getD j 0 := by
    intro i j hij hj
    rcases Nat.lt_or_ge i j with h | h
    · have := List.pairwise_iff_getElem.1 hs i j (by omega) hj h
      simpa [List.getD_eq_getElem?_getD, hj, show i < zs.length by omega] using this
    · obtain rfl : i = j := by omega
      exact Int.le_refl _
  intro m
  induction m with
  | zero =>
    intro _
    refine ⟨by simp [compactUpTo], fun x => by simp [compactUpTo], fun j hj => by omega⟩
  | succ m ih =>
    intro hm
    obtain ⟨h1, h2, h3⟩ := ih (by omega)
    rw [compactUpTo_succ]
    by_cases hk : keeps zs.toArray m = true
    · rw [if_pos hk, hd m (by omega)]
      have hlt : ∀ x ∈ compactUpTo zs.toArray m, x < zs.getD m 0 := by
        intro x hx
        obtain ⟨j, hj, _⟩ := (h2 x).1 hx
        have h4 := h3 j hj x hx
        have h5 := hle (m - 1) m (by omega) (by omega)
        have h6 : zs.getD m 0 ≠ zs.getD (m - 1) 0 := by
          unfold keeps at hk
          have := of_decide_eq_true hk
          rw [hd m (by omega), hd (m - 1) (by omega)] at this
          rcases this with h | h
          · omega
          · exact h
        omega
      refine ⟨?_, ?_, ?_⟩
      · rw [List.pairwise_append]
        exact ⟨h1, by simp, fun x hx y hy => by rw [List.mem_singleton.1 hy]; exact hlt x hx⟩
      · intro x
        rw [List.mem_append, h2 x, List.mem_singleton]
        constructor
        · rintro (⟨j, hj, e⟩ | rfl)
          · exact ⟨j, by omega, e⟩
          · exact ⟨m, by omega, rfl⟩
        · rintro ⟨j, hj, e⟩
          rcases Nat.lt_or_ge j m with h | h
          · exact .inl ⟨j, h, e⟩
          · obtain rfl : j = m := by omega
            exact .inr e.symm
      · intro j hj x hx
        rw [show m + 1 - 1 = m by omega]
        rcases List.mem_append.1 hx with h | h
        · exact Int.le_of_lt (hlt x h)
        · rw [List.mem_singleton.1 h]; exact Int.le_refl _
    · rw [if_neg hk, List.append_nil]
      have hk' : m ≠ 0 ∧ zs.getD m 0 = zs.getD (m - 1) 0 := by
        unfold keeps at hk
        rw [decide_eq_true_eq, hd m (by omega), hd (m - 1) (by omega)] at hk
        constructor
        · intro h; exact hk (.inl h)
        · apply Classical.byContradiction; intro h; exact hk (.inr h)
      refine ⟨h1, ?_, ?_⟩
      · intro x
        rw [h2 x]
        constructor
        · rintro ⟨j, hj, e⟩; exact ⟨j, by omega, e⟩
        · rintro ⟨j, hj, e⟩
          rcases Nat.lt_or_ge j m with h | h
          · exact ⟨j, h, e⟩
          · obtain rfl : j = m := by omega
            exact ⟨j - 1, by omega, by rw [← hk'.2]; exact e⟩
      · intro j hj x hx
        rw [show m + 1 - 1 = m by omega, hk'.2]
        obtain ⟨i, hi, _⟩ := (h2 x).1 hx
        exact h3 i hi x hx
theorem compact_strict (zs : List Int) (hs : zs.Pairwise (· ≤ ·)) : (compact zs).Pairwise (· < ·) := (upto_inv zs hs zs.length (Nat.le_refl _)).1
theorem compact_mem (zs : List Int) (hs : zs.Pairwise (· ≤ ·)) (x : Int) : x ∈ compact zs ↔ x ∈ zs := by
  unfold compact
  rw [(upto_inv zs hs zs.length (Nat.le_refl _)).2.1 x, List.mem_iff_getElem]
  constructor
  · rintro ⟨j, hj, e⟩
    exact ⟨j, hj, by simpa [List.getD_eq_getElem?_getD, hj] using e⟩
  · rintro ⟨j, hj, e⟩
    exact ⟨j, hj, by simpa [List.getD_eq_getElem?_getD, hj] using e⟩
theorem compact_len_le (zs : List Int) : (compact zs).length ≤ zs.length := by
  unfold compact compactUpTo
  rw [List.length_map]
  exact Nat.le_trans (List.length_filter_le _ _) (by simp)
theorem compact_self (zs : List Int) (hs : zs.Pairwise (· < ·)) : compact zs = zs := by
  refine compact_all zs (fun j hj => ?_)
  unfold keeps
  apply decide_eq_true
  rcases Nat.eq_zero_or_pos j with h | h
  · exact .inl h
  · refine .inr ?_
    have := List.pairwise_iff_getElem.1 hs (j - 1) j (by omega) hj (by omega)
    have e1 : zs.toArray[j]! = zs[j] := by simp [hj]
    have e2 : zs.toArray[j - 1]! = zs[j - 1] := by simp [show j - 1 < zs.length by omega]
    rw [e1, e2]
    omega
end Go.Proofs.Ytenhnlclnjnboaa.Pure
