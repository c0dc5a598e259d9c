import Derived.Test.YtbcaaocogphdeaaPCapx0
import Derived.Test.YtbcaaocogphdeaaPCapx26
import Derived.Test.YtbcaaocogphdeaaCapB
/- Plain lemmas: what cap.Budget comes to: rank by rank, each rank by cap.split; what is known of the result. -/
section
namespace Go.Proofs.Ytbcaaocogphdeaa.Pure
open Go.RowKit Go.Proofs.Ytbcaaocogphdeaa.PCap Go.Proofs.YtbcaaocogphdeaaW.PrintWords Go.Proofs.YtbcaaocogphdeaaW.PrintLast
set_option linter.unusedVariables false
set_option linter.unusedSimpArgs false

theorem rdS_get {l : List S59} {i : Nat} (h : i < l.length) : rd_T59 l (i : Int) = l[i] := by
  unfold rd_T59
  rw [Int.toNat_natCast, List.getD_eq_getElem?_getD, List.getElem?_eq_getElem h]
  rfl
theorem rdS_at {A B : List S59} {x : S59} {i : Int} (hi : i = A.length) : rd_T59 (A ++ x :: B) i = x := by
  subst hi
  unfold rd_T59
  rw [Int.toNat_natCast, List.getD_eq_getElem?_getD, List.getElem?_append_right (Nat.le_refl _), Nat.sub_self]
  rfl
theorem rdS_mem {l : List S59} {i : Int} (h0 : 0 ≤ i) (h1 : i < (l.length : Int)) : rd_T59 l i ∈ l := by
  obtain ⟨m, rfl⟩ : ∃ m : Nat, i = (m : Int) := ⟨i.toNat, by omega⟩
  rw [rdS_get (by omega)]
  exact List.getElem_mem _
theorem rd_mapS {f : S59 → Int} {l : List S59} {i : Int} (h0 : 0 ≤ i) (h1 : i < (l.length : Int)) : rd (l.map f) i = f (rd_T59 l i) := by
  obtain ⟨m, rfl⟩ : ∃ m : Nat, i = (m : Int) := ⟨i.toNat, by omega⟩
  rw [rd_get (by rw [List.length_map]; omega), rdS_get (by omega), List.getElem_map]
/-- Claims within bounds. -/
def ClOk (x : List S59) : Prop := x.length ≤ 200 ∧ ∀ c ∈ x, 0 ≤ c.f4 ∧ c.f4 ≤ 1099511627776
theorem check_l0 : ∀ (x2 x1 : List S59), ClOk (x1 ++ x2) → Ev (fun k => cap_Check.l0 k (x1 ++ x2) ((x1 ++ x2).length : Int) (x1.length : Int)) 0 := by
  intro x2
  induction x2 with
  | nil =>
    intro x1 h
    apply Ev.step
    · intro k; rw [cap_Check.l0]
    · exact Ev.ite_neg (by simp) (Ev.now _)
  | cons c x2 ih =>
    intro x1 h
    have e : x1 ++ c :: x2 = (x1 ++ [c]) ++ x2 := by simp
    have hl := h.1
    simp only [List.length_append, List.length_cons] at hl
    have d := h.2 c (by simp)
    have := ih (x1 ++ [c]) (by rw [← e]; exact h)
    rw [← e, show ((x1 ++ [c]).length : Int) = x1.length + 1 by rw [List.length_append, List.length_singleton]; omega] at this
    apply Ev.step
    · intro k; rw [cap_Check.l0]
    · rw [rdS_at rfl]
      refine Ev.ite_pos (by simp only [List.length_append, List.length_cons]; omega) (Ev.ite_pos (by omega) (Ev.ite_pos (by simp only [List.length_append, List.length_cons]; omega) (Ev.ite_neg (by omega) (Ev.ite_neg (by omega) ?_))))
      rw [w64 (a := (x1.length : Int) + 1) (by omega) (by omega)]
      exact this
theorem check_ok {x : List S59} (h : ClOk x) : Ev (fun k => cap_Check.f k x) 0 := by
  unfold cap_Check.f
  refine Ev.ite_neg (by have := h.1; omega) ?_
  have := check_l0 x [] (by simpa using h)
  simpa using this
/-! the ranks -/
theorem compact_mem {l : List Int} (hs : l.Pairwise (· ≤ ·)) (x : Int) : x ∈ Go.Lib.compact l ↔ x ∈ l := by
  unfold Go.Lib.compact Go.Lib.compactUpTo
  rw [List.mem_map]
  constructor
  · rintro ⟨i, hi, rfl⟩
    have h1 := List.mem_range.1 (List.mem_filter.1 hi).1
    simp only [List.getElem!_toArray]
    rw [getElem!_pos l i h1]
    exact List.getElem_mem h1
  · intro hx
    obtain ⟨j, hj, e⟩ := List.getElem_of_mem hx
    have key : ∀ j (hj : j < l.length), l[j] = x → ∃ i, i ∈ (List.range l.length).filter (Go.Lib.keeps l.toArray) ∧ l.toArray[i]! = x := by
      intro j
      induction j with
      | zero =>
        intro hj e
        refine ⟨0, List.mem_filter.2 ⟨List.mem_range.2 hj, by simp [Go.Lib.keeps]⟩, ?_⟩
        simp only [List.getElem!_toArray]
        rw [getElem!_pos l 0 hj]; exact e
      | succ j ih =>
        intro hj e
        by_cases c : l[j] = l[j + 1]
        · exact ih (by omega) (c.trans e)
        · refine ⟨j + 1, List.mem_filter.2 ⟨List.mem_range.2 hj, ?_⟩, ?_⟩
          · simp only [Go.Lib.keeps, List.getElem!_toArray, Nat.add_sub_cancel]
            rw [getElem!_pos l (j + 1) hj, getElem!_pos l j (by omega)]
            simp
            first | exact fun h => c h.symm | exact fun h => c h | omega
          · simp only [List.getElem!_toArray]
            rw [getElem!_pos l (j + 1) hj]; exact e
    exact key j hj e
theorem compact_lt {l : List Int} (hs : l.Pairwise (· ≤ ·)) : (Go.Lib.compact l).Pairwise (· < ·) := by
  unfold Go.Lib.compact Go.Lib.compactUpTo
  rw [List.pairwise_map]
  have h1 : ((List.range l.length).filter (Go.Lib.keeps l.toArray)).Pairwise (· < ·) := List.Pairwise.filter _ List.pairwise_lt_range
  refine List.Pairwise.imp_of_mem ?_ h1
  intro i j hi hj hij
  have li := List.mem_range.1 (List.mem_filter.1 hi).1
  have lj := List.mem_range.1 (List.mem_filter.1 hj).1
  have kj := (List.mem_filter.1 hj).2
  obtain ⟨j, rfl⟩ : ∃ m, j = m + 1 := ⟨j - 1, by omega⟩
  simp only [Go.Lib.keeps, List.getElem!_toArray, Nat.add_sub_cancel] at kj ⊢
  rw [getElem!_pos l (j + 1) lj, getElem!_pos l j (by omega)] at kj
  rw [getElem!_pos l (j + 1) lj, getElem!_pos l i li]
  have p1 := List.pairwise_iff_getElem.1 hs j (j + 1) (by omega) lj (by omega)
  have p2 : l[i] ≤ l[j] := by
    rcases Nat.lt_or_eq_of_le (show i ≤ j by omega) with h | h
    · exact List.pairwise_iff_getElem.1 hs i j li (by omega) h
    · subst h; omega
  have ne : l[j + 1] ≠ l[j] := by simpa using kj
  omega
def rnk (x : List S59) : List Int := Go.Lib.compact ((x.map (·.f3)).mergeSort fun a b => decide (a ≤ b))
theorem sorted_ms (l : List Int) : (l.mergeSort fun a b => decide (a ≤ b)).Pairwise (· ≤ ·) := by
  have := List.pairwise_mergeSort (le := fun a b : Int => decide (a ≤ b)) (by intro a b c; simp; omega) (by intro a b; simp; omega) l
  exact this.imp (by simp)
theorem rnk_lt (x : List S59) : (rnk x).Pairwise (· < ·) := compact_lt (sorted_ms _)
theorem rnk_mem (x : List S59) (r : Int) : r ∈ rnk x ↔ ∃ c ∈ x, c.f3 = r := by
  unfold rnk
  rw [compact_mem (sorted_ms _), List.mem_mergeSort, List.mem_map]
theorem rnk_len (x : List S59) : (rnk x).length ≤ x.length := by
  unfold rnk
  refine Nat.le_trans (Go.Proofs.Ytbcaaocogphdeaa.Open.compact_len _) ?_
  rw [List.length_mergeSort, List.length_map]
  exact Nat.le_refl _
theorem ranks_ok {x : List S59} (hl : x.length ≤ 200) : Ev (fun k => cap_ranks.f k x) (rnk x) := by
  have go : ∀ (x2 x1 : List S59), (x1 ++ x2).length ≤ 200 → Ev (fun k => cap_ranks.l0 k (x1.map (·.f3)) (x1 ++ x2) ((x1 ++ x2).length : Int) (x1.length : Int)) (rnk (x1 ++ x2)) := by
    intro x2
    induction x2 with
    | nil =>
      intro x1 h
      simp only [List.append_nil] at *
      apply Ev.step
      · intro k; rw [cap_ranks.l0]
      · refine Ev.ite_neg (by omega) ?_
        refine Ev.bind (a := (x1.map (·.f3)).mergeSort fun a b => decide (a ≤ b)) ?_ ?_
        · unfold slices_Sort_int_int.f
          exact Ev.ite_pos (by rw [List.length_map]; omega) (Ev.now _)
        · refine Ev.bind (a := rnk x1) ?_ (Ev.now _)
          unfold slices_Compact_int_int.f
          exact Ev.ite_pos (by rw [List.length_mergeSort, List.length_map]; omega) (Ev.now _)
    | cons c x2 ih =>
      intro x1 h
      have e : x1 ++ c :: x2 = (x1 ++ [c]) ++ x2 := by simp
      have hl := h
      simp only [List.length_append, List.length_cons] at hl
      have := ih (x1 ++ [c]) (by rw [← e]; exact h)
      rw [← e, show ((x1 ++ [c]).length : Int) = x1.length + 1 by rw [List.length_append, List.length_singleton]; omega, List.map_append, List.map_singleton] at this
      apply Ev.step
      · intro k; rw [cap_ranks.l0]
      · rw [rdS_at rfl]
        refine Ev.ite_pos (by simp only [List.length_append, List.length_cons]; omega) (Ev.ite_pos (by omega) (Ev.ite_pos (by simp only [List.length_append, List.length_cons]; omega) (Ev.ite_pos (by rw [List.length_map]; omega) ?_)))
        rw [w64 (a := (x1.length : Int) + 1) (by omega) (by omega)]
        exact this
  have := go x [] (by simpa using hl)
  simpa [cap_ranks.f] using this
end Go.Proofs.Ytbcaaocogphdeaa.Pure
end
