/- Plain lemmas: which pieces stand, by the reference's recursion; what it takes for proved. -/
import Derived.Test.YtghnbiknghelpaaPBtlx0
import Derived.Test.YtghnbiknghelpaaPBtlx13
import Derived.Test.YtghnbiknghelpaaPBtlx14
import Derived.Test.YtghnbiknghelpaaPBtlx15
import Derived.Test.YtghnbiknghelpaaBtlP
namespace Go.Proofs.Ytghnbiknghelpaa.Pure
open Go.RowKit Go.Proofs.Ytghnbiknghelpaa.PBtl Go.Proofs.YtghnbiknghelpaaW.PrintWords Go.Proofs.YtghnbiknghelpaaW.PrintLast
set_option linter.unusedVariables false
set_option linter.unusedSimpArgs false

theorem Ev.kon {α : Type} {g : Option α} {r : α} (h : g = some r) : Ev (fun _ => g) r := ⟨0, fun _ _ => h⟩
theorem stand_drop (l : List S34) : ∀ (k j : Nat), (stand k l).drop j = stand (k + j) (l.drop j) := by
  induction l with
  | nil => intro k j; simp [stand]
  | cons p r ih =>
    intro k j
    cases j with
    | zero => rfl
    | succ j =>
      simp only [stand, List.drop_succ_cons]
      rw [ih (k + 1) j]
      congr 1
      omega
theorem rd_f1 (l : List S34) (j : Nat) (h : j < l.length) : rd (l.map S34.f1) (j : Int) = (rdP l j).f1 := by
  unfold rd rdP
  simp [List.getD_eq_getElem?_getD, h]
theorem rd_f2 (l : List S34) (j : Nat) (h : j < l.length) : rd (l.map S34.f2) (j : Int) = (rdP l j).f2 := by
  unfold rd rdP
  simp [List.getD_eq_getElem?_getD, h]
theorem stand_at (l : List S34) (k : Nat) (h : k < l.length) : (stand 0 l).getD k false = !(((l.drop (k + 1)).zip ((stand 0 l).drop (k + 1))).any (hits k (rdP l k).f1)) := by
  have e := stand_drop l 0 k
  have e2 := stand_drop l 0 (k + 1)
  have hl : k < (stand 0 l).length := by rw [stand_len]; exact h
  rw [e2]
  rw [drop_cons l z34 k h, drop_cons (stand 0 l) false k hl, stand] at e
  have := (List.cons.inj e).1
  rw [this]
  simp [rdP]
theorem any_zip (l : List S34) (s : List Bool) (hs : s.length = l.length) (k : Nat) (w : Int) : (((l.drop (k + 1)).zip (s.drop (k + 1))).any (hits k w)) = true ↔ ∃ j, k < j ∧ j < l.length ∧ hits k w (rdP l j, s.getD j false) = true := by
  rw [List.any_eq_true]
  constructor
  · rintro ⟨q, hq, hh⟩
    obtain ⟨i, hi, e⟩ := List.getElem_of_mem hq
    rw [List.length_zip, List.length_drop, List.length_drop, hs] at hi
    refine ⟨k + 1 + i, by omega, by omega, ?_⟩
    have : q = (rdP l (k + 1 + i), s.getD (k + 1 + i) false) := by
      rw [← e, List.getElem_zip, List.getElem_drop, List.getElem_drop]
      unfold rdP
      rw [List.getD_eq_getElem?_getD, List.getD_eq_getElem?_getD, List.getElem?_eq_getElem (by omega), List.getElem?_eq_getElem (by omega)]
      rfl
    rw [← this]; exact hh
  · rintro ⟨j, h1, h2, hh⟩
    refine ⟨_, ?_, hh⟩
    have hlen : j - (k + 1) < ((l.drop (k + 1)).zip (s.drop (k + 1))).length := by rw [List.length_zip, List.length_drop, List.length_drop, hs]; omega
    have e : ((l.drop (k + 1)).zip (s.drop (k + 1)))[j - (k + 1)] = (rdP l j, s.getD j false) := by
      rw [List.getElem_zip, List.getElem_drop, List.getElem_drop]
      unfold rdP
      rw [List.getD_eq_getElem?_getD, List.getD_eq_getElem?_getD, List.getElem?_eq_getElem (by omega), List.getElem?_eq_getElem (by omega)]
      simp [show k + 1 + (j - (k + 1)) = j by omega]
    rw [← e]
    exact List.getElem_mem hlen
theorem sis_ok (l : List S34) (hl : okL l) : ∀ (d k : Nat), k < l.length → l.length ≤ k + d → mootref4_Stands.sis (l.map S34.f1) (l.map S34.f2) d (k : Int) = (stand 0 l).getD k false := by
  intro d
  induction d with
  | zero => intro k h1 h2; omega
  | succ d ih =>
    intro k h1 h2
    rw [stand_at l k h1, mootref4_Stands.sis]
    congr 1
    rw [Bool.eq_iff_iff, any_zip l (stand 0 l) (stand_len l 0), List.any_eq_true]
    constructor
    · rintro ⟨j, hj, hh⟩
      rw [List.mem_range, List.length_map] at hj
      unfold mootref4_Stands.hit at hh
      simp only [Bool.and_eq_true, decide_eq_true_eq] at hh
      obtain ⟨a, b, c⟩ := hh
      rw [rd_f2 l j hj] at a
      rw [rd_f1 l k h1, rd_f1 l j hj] at b
      have := (hl.2 j hj).2.2.2
      refine ⟨j, by omega, hj, hits_t a ?_ b⟩
      rw [← ih j hj (by omega)]; exact c
    · rintro ⟨j, h3, hj, hh⟩
      refine ⟨j, by rw [List.mem_range, List.length_map]; exact hj, ?_⟩
      unfold hits at hh
      simp only [Bool.and_eq_true, decide_eq_true_eq] at hh
      unfold mootref4_Stands.hit
      simp only [Bool.and_eq_true, decide_eq_true_eq]
      refine ⟨?_, ?_, ?_⟩
      · rw [rd_f2 l j hj]; exact hh.1.1
      · rw [rd_f1 l k h1, rd_f1 l j hj]; exact hh.2
      · rw [ih j hj (by omega)]; exact hh.1.2
theorem stands_ok (l : List S34) (hl : okL l) : mootref4_Stands.f (l.map S34.f1) (l.map S34.f2) = some (stand 0 l) := by
  have hn := hl.1
  unfold mootref4_Stands.f
  rw [if_pos]
  · congr 1
    apply List.ext_getElem?
    intro i
    by_cases h : i < l.length
    · rw [List.getElem?_map, List.length_map, List.getElem?_range h, Option.map_some, sis_ok l hl l.length i h (by omega), List.getD_eq_getElem?_getD, List.getElem?_eq_getElem (by rw [stand_len]; exact h)]
      rfl
    · rw [List.getElem?_eq_none (by simp; omega), List.getElem?_eq_none (by rw [stand_len]; omega)]
  · rw [Bool.and_eq_true, decide_eq_true_eq, List.all_eq_true]
    refine ⟨by simp; omega, fun j hj => ?_⟩
    rw [List.mem_range, List.length_map] at hj
    rw [rd_f2 l j hj]
    exact decide_eq_true (hl.2 j hj).2.2.2
theorem meets_eq (a b s : Int) (ha : 0 ≤ a) (hb : 0 ≤ b) (hb2 : b ≤ 100000) (h1 : 1 ≤ s) (h2 : s ≤ 3) : mootref4_Proof.meets a b s = meetsB a b s := by
  unfold mootref4_Proof.meets meetsB
  by_cases c1 : s = 1
  · rw [if_pos c1, if_pos c1]
  · rw [if_neg c1, if_neg c1]
    by_cases c2 : s = 2
    · rw [if_pos c2, if_pos c2, w64 (by omega) (by omega), decide_eq_decide]
      omega
    · rw [if_neg c2, if_neg c2, if_pos (by omega), decide_eq_decide]
      omega
theorem proofR_ok (a b s : Int) (ha : 0 ≤ a) (hb : 0 ≤ b) (ha2 : a ≤ 100000) (hb2 : b ≤ 100000) (h1 : 1 ≤ s) (h2 : s ≤ 3) : mootref4_Proof.f a b s = some (proofV a b s) := by
  unfold mootref4_Proof.f mootref4_Proof.val proofV
  rw [meets_eq a b s ha hb hb2 h1 h2, meets_eq b a s hb ha ha2 h1 h2]
  rw [if_neg]
  intro h
  rw [Bool.and_eq_true] at h
  rw [meets_not a b s ha hb h.1] at h
  exact absurd h.2 (by simp)
theorem equalB_l0 (x : List Bool) (hx : x.length ≤ 1000) : ∀ (n i : Nat), i + n = x.length → Ev (fun k => slices_Equal_bool_bool.l0 k x x (x.length : Int) (i : Int)) true := by
  intro n
  induction n with
  | zero =>
    intro i hi
    apply Ev.step
    · intro k; rw [slices_Equal_bool_bool.l0]
    · exact Ev.ite_neg (by omega) (Ev.now _)
  | succ n ih =>
    intro i hi
    have hlt : (i : Int) < (x.length : Int) := by omega
    apply Ev.step
    · intro k; rw [slices_Equal_bool_bool.l0]
    · refine Ev.ite_pos hlt (Ev.ite_pos (Int.natCast_nonneg i) (Ev.ite_pos hlt (Ev.ite_pos hlt ?_)))
      rw [show wrap64 ((i : Int) + 1) = ((i + 1 : Nat) : Int) by rw [w64 (by omega) (by omega)]; omega]
      first
        | exact Ev.ite_pos rfl (ih (i + 1) (by omega))
        | exact Ev.ite_neg (by simp) (ih (i + 1) (by omega))
theorem equalB (x : List Bool) (hx : x.length ≤ 1000) : Ev (fun k => slices_Equal_bool_bool.f k x x) true := by
  have := equalB_l0 x hx x.length 0 (by omega)
  exact Ev.congr (fun k => by unfold slices_Equal_bool_bool.f; rw [if_pos rfl]; rfl) this
end Go.Proofs.Ytghnbiknghelpaa.Pure
