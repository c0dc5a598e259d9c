/- A piece that is rebutted by a stronger one does not count; without evidence the presumption, or the burden, decides: for every list of raw numbers. -/
import Derived.Test.YtghnbiknghelpaaPAllx6
import Derived.Test.YtghnbiknghelpaaLemB
namespace Go.Proofs.Ytghnbiknghelpaa.Pure
open Go.RowKit Go.Proofs.Ytghnbiknghelpaa.PAll Go.Proofs.YtghnbiknghelpaaW.PrintWords Go.Proofs.YtghnbiknghelpaaW.PrintLast
set_option linter.unusedVariables false
set_option linter.unusedSimpArgs false

/-- The pieces that rebut the first m ones. -/
def reb (l : List S34) (m : Nat) : List S34 := (List.range m).map fun k => ⟨(rdP l k).f0, 100, (k : Int)⟩
theorem reb_succ (l : List S34) (m : Nat) : reb l (m + 1) = reb l m ++ [⟨(rdP l m).f0, 100, (m : Int)⟩] := by
  simp [reb, List.range_succ]
theorem reb_len (l : List S34) (m : Nat) : (reb l m).length = m := by simp [reb]
theorem rdP_append_right (l m : List S34) (i : Nat) (h : l.length ≤ i) : rdP (l ++ m) i = rdP m (i - l.length) := by
  simp [rdP, List.getD_eq_getElem?_getD, List.getElem?_append, Nat.not_lt.2 h]
theorem okL_reb {l : List S34} (h : okL l) (hn : l.length ≤ 50) : okL (l ++ reb l l.length) := by
  refine ⟨by rw [List.length_append, reb_len]; omega, fun i hi => ?_⟩
  rw [List.length_append, reb_len] at hi
  by_cases c : i < l.length
  · rw [rdP_append_left _ _ _ c]; exact h.2 i c
  · rw [rdP_append_right _ _ _ (by omega)]
    have e : rdP (reb l l.length) (i - l.length) = ⟨(rdP l (i - l.length)).f0, 100, ((i - l.length : Nat) : Int)⟩ := by
      have : i - l.length < l.length := by omega
      simp [rdP, reb, List.getD_eq_getElem?_getD, this]
    rw [e]
    exact ⟨by simp, by simp, by simp only; omega, by simp only; omega⟩
/-- None of these rebuts another of them. -/
theorem stand_none (n : Nat) (m : List S34) (hm : ∀ q ∈ m, q.f2 < (n : Int)) : ∀ k, n ≤ k → stand k m = List.replicate m.length true := by
  induction m with
  | nil => intro k _; rfl
  | cons p ps ih =>
    intro k hk
    rw [stand, ih (fun q hq => hm q (by simp [hq])) (k + 1) (by omega), List.length_cons, List.replicate_succ]
    congr 1
    rw [Bool.not_eq_true', List.any_eq_false]
    rintro ⟨q, b⟩ hq
    have := hm q (by simp [(List.of_mem_zip hq).1])
    rw [hits_f1 (by omega)]
    exact Bool.false_ne_true
/-- Each of the first ones is rebutted. -/
theorem stand_reb (m : List S34) (n : Nat) (hm : ∀ q ∈ m, q.f2 < (n : Int)) (l : List S34) : ∀ k, k + l.length = n → (∀ j, j < l.length → ∃ q ∈ m, q.f2 = ((k + j : Nat) : Int) ∧ q.f1 ≥ (rdP l j).f1) →
    stand k (l ++ m) = List.replicate l.length false ++ List.replicate m.length true := by
  induction l with
  | nil =>
    intro k hk _
    simp only [List.length_nil, Nat.add_zero] at hk
    subst hk
    exact stand_none k m hm k (Nat.le_refl _)
  | cons p ps ih =>
    intro k hk h
    rw [List.length_cons] at hk
    have hi := ih (k + 1) (by omega) (fun j hj => by
      obtain ⟨q, hq, h1, h2⟩ := h (j + 1) (by rw [List.length_cons]; omega)
      exact ⟨q, hq, by rw [h1]; omega, h2⟩)
    rw [List.cons_append, stand, hi, List.length_cons, List.replicate_succ, List.cons_append]
    congr 1
    rw [Bool.not_eq_false', List.any_eq_true]
    obtain ⟨q, hq, h1, h2⟩ := h 0 (by simp)
    rw [List.zip_append (by simp)]
    refine ⟨(q, true), List.mem_append_right _ ?_, hits_t (by rw [h1]; omega) rfl h2⟩
    obtain ⟨i, hi2, rfl⟩ := List.getElem_of_mem hq
    rw [List.mem_iff_getElem]
    exact ⟨i, by simp [hi2], by simp⟩
theorem index_none (x : List Bool) (v : Bool) (hx : ∀ b ∈ x, b = !v) (hn : x.length ≤ 100) : ∀ (d i : Nat), i + d = x.length → Ev (fun k => slices_Index_bool_bool.l0 k x v (x.length : Int) (i : Int)) (-1) := by
  intro d
  induction d with
  | zero =>
    intro i h
    apply Ev.step
    · intro k; rw [slices_Index_bool_bool.l0]
    · exact Ev.ite_neg (by omega) (Ev.now _)
  | succ d ih =>
    intro i h
    apply Ev.step
    · intro k; rw [slices_Index_bool_bool.l0]
    · refine Ev.ite_pos (by omega) (Ev.ite_pos (by omega) (Ev.ite_pos (by omega) (Ev.ite_neg ?_ ?_)))
      · have e : rdOf false x (i : Int) = !v := by
          rw [rdOf_nat, List.getD_eq_getElem?_getD, List.getElem?_eq_getElem (by omega)]
          exact hx _ (List.getElem_mem _)
        rw [e]; cases v <;> decide
      · rw [show wrap64 ((i : Int) + 1) = ((i + 1 : Nat) : Int) by rw [w64 (by omega) (by omega)]; omega]
        exact ih (i + 1) (by omega)
theorem contains_none (x : List Bool) (v : Bool) (hx : ∀ b ∈ x, b = !v) (hn : x.length ≤ 100) : Ev (fun k => slices_Contains_bool_bool.f k x v) false := by
  unfold slices_Contains_bool_bool.f slices_Index_bool_bool.f
  exact Ev.bind (index_none x v hx hn x.length 0 (by omega)) (Ev.some_ (by decide))
theorem rebuts_l0 (l : List S34) (hn : l.length ≤ 50) (a b c : Int) (hr : Ev (fun k => mootkeep4_BurdenRebuts.l0 k (l ++ reb l l.length) (l.length : Int) (l.length : Int) (l.length : Int) a b c) true) :
    ∀ (d i : Nat), i + d = l.length → Ev (fun k => mootkeep4_BurdenRebuts.l0 k (l ++ reb l i) (l.length : Int) (l.length : Int) (i : Int) a b c) true := by
  intro d
  induction d with
  | zero => intro i h; obtain rfl : i = l.length := by omega
            exact hr
  | succ d ih =>
    intro i h
    have hl : (l ++ reb l i).length = l.length + i := by rw [List.length_append, reb_len]
    apply Ev.step
    · intro k; rw [mootkeep4_BurdenRebuts.l0]
    · refine Ev.ite_pos (by omega) (Ev.ite_pos (by omega) (Ev.ite_pos (by omega) (Ev.ite_pos (by omega) ?_)))
      rw [show wrap64 ((i : Int) + 1) = ((i + 1 : Nat) : Int) by rw [w64 (by omega) (by omega)]; omega]
      have e := ih (i + 1) (by omega)
      rw [reb_succ, ← List.append_assoc] at e
      rw [rd_nat, rdP_append_left _ _ _ (by omega)]
      exact e
theorem rebuts_j1 (a b c : Int) (hi : okI a b c) : Ev (fun k => mootkeep4_BurdenRebuts.j1 k false a b c) true := by
  apply Ev.step
  · intro k; rw [mootkeep4_BurdenRebuts.j1]
  · refine Ev.ite_neg (by decide) ?_
    have f := find_ok a b c [] hi ⟨by simp, fun i hi => by simp at hi⟩
    have e : proofV (yesS [] (stand 0 [])) (noS [] (stand 0 [])) c = 2 := by
      obtain ⟨h1, h2, h3, h4, h5, h6⟩ := hi
      have hc : c = 1 ∨ c = 2 ∨ c = 3 := by omega
      rcases hc with rfl | rfl | rfl <;> simp [proofV, meetsB, yesS, noS]
    rw [e] at f
    refine Ev.bind f ?_
    by_cases ha : a = 2
    · refine Ev.ite_pos ha (Ev.ite_pos (by simp [findV, ha]) (Ev.ite_pos (by simp [findV, ha]) (Ev.some_ ?_)))
      simp [findV, ha]
    · refine Ev.ite_neg ha (Ev.ite_pos (by simp [findV, ha]) (Ev.ite_pos (by simp [findV, ha]) (Ev.some_ ?_)))
      simp [findV, ha]
theorem BurdenRebuts : mootkeep4_BurdenRebuts.Pure := by
  intro l0 _ _ hl
  obtain ⟨a, b, c, y, hy, hi, hn, hm⟩ := evid_ok l0 hl
  have hL := okL_made hm (by omega)
  have hL2 := okL_reb hL (by omega)
  have hs := standing_ok a b c _ hi hL2
  have hst : stand 0 (y ++ reb y y.length) = List.replicate y.length false ++ List.replicate y.length true := by
    rw [stand_reb (reb y y.length) y.length ?_ y 0 (by omega) ?_, reb_len]
    · intro q hq
      simp only [reb, List.mem_map, List.mem_range] at hq
      obtain ⟨k, hk, rfl⟩ := hq
      simp only; omega
    · intro j hj
      refine ⟨⟨(rdP y j).f0, 100, (j : Int)⟩, ?_, by simp, ?_⟩
      · simp only [reb, List.mem_map, List.mem_range]; exact ⟨j, hj, rfl⟩
      · have := (hL.2 j hj).2.1; simp only; omega
  rw [hst] at hs
  have hlen : (List.replicate y.length false ++ List.replicate y.length true).length = y.length + y.length := by simp
  refine Ev.rounds ?_
  unfold mootkeep4_BurdenRebuts.f
  refine Ev.bind found_ok (Ev.ite_pos rfl ?_)
  refine Ev.bind hy ?_
  have hend := rebuts_l0 y (by omega) a b c ?_ y.length 0 (by omega)
  · simpa [reb] using hend
  · apply Ev.step
    · intro k; rw [mootkeep4_BurdenRebuts.l0]
    · refine Ev.ite_neg (by omega) ?_
      refine Ev.bind hs (Ev.ite_pos rfl (Ev.ite_pos ?_ (Ev.ite_pos (by omega) (Ev.ite_pos ?_ ?_))))
      · simp only [hlen]; rw [w64 (by omega) (by omega)]; omega
      · simp only [hlen]; omega
      · simp only [Int.toNat_natCast]
        rw [List.take_append_of_le_length (by simp), List.take_of_length_le (by simp), List.drop_append_of_le_length (by simp), List.drop_of_length_le (by simp), List.nil_append]
        refine Ev.bind (contains_none _ true (by simp) (by simp; omega)) (Ev.ite_neg (by decide) ?_)
        exact Ev.bind (contains_none _ false (by simp) (by simp; omega)) (rebuts_j1 a b c hi)
end Go.Proofs.Ytghnbiknghelpaa.Pure
