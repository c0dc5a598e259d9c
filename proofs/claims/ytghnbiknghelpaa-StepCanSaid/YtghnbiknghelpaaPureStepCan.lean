/- Just what somebody can do leads on; a day on which nothing happens changes nothing more when it is asked again; what is withdrawn stays so: for every list of raw numbers and all further ones. -/
import Derived.Test.YtghnbiknghelpaaPAllx50
import Derived.Test.YtghnbiknghelpaaPAllx51
import Derived.Test.YtghnbiknghelpaaPAllx52
import Derived.Test.YtghnbiknghelpaaLemE
namespace Go.Proofs.Ytghnbiknghelpaa.Pure
open Go.RowKit Go.Proofs.Ytghnbiknghelpaa.PAll Go.Proofs.YtghnbiknghelpaaW.PrintWords Go.Proofs.YtghnbiknghelpaaW.PrintLast
set_option linter.unusedVariables false
set_option linter.unusedSimpArgs false

theorem indexI_ok (x : List Int) (v : Int) (hn : x.length ≤ 100) : ∀ (n i : Nat), i + n = x.length → ∃ r, Ev (fun k => slices_Index_int_int.l0 k x v (x.length : Int) (i : Int)) r ∧ (0 ≤ r ↔ v ∈ x.drop i) := by
  intro n
  induction n with
  | zero =>
    intro i h
    refine ⟨-1, ?_, ?_⟩
    · apply Ev.step
      · intro k; rw [slices_Index_int_int.l0]
      · exact Ev.ite_neg (by omega) (Ev.now _)
    · rw [List.drop_of_length_le (by omega)]; simp
  | succ n ih =>
    intro i h
    have hd : x.drop i = rd x (i : Int) :: x.drop (i + 1) := by
      rw [List.drop_eq_getElem_cons (by omega)]; congr 1; simp [rd, List.getD_eq_getElem?_getD]; rw [List.getElem?_eq_getElem (by omega)]; rfl
    rw [hd]
    by_cases c : v = rd x (i : Int)
    · refine ⟨(i : Int), ?_, ?_⟩
      · apply Ev.step
        · intro k; rw [slices_Index_int_int.l0]
        · exact Ev.ite_pos (by omega) (Ev.ite_pos (by omega) (Ev.ite_pos (by omega) (Ev.ite_pos c (Ev.now _))))
      · constructor
        · intro _; rw [← c]; exact List.mem_cons_self
        · intro _; omega
    · obtain ⟨r, h1, h2⟩ := ih (i + 1) (by omega)
      refine ⟨r, ?_, ?_⟩
      · apply Ev.step
        · intro k; rw [slices_Index_int_int.l0]
        · refine Ev.ite_pos (by omega) (Ev.ite_pos (by omega) (Ev.ite_pos (by omega) (Ev.ite_neg c ?_)))
          rw [show wrap64 ((i : Int) + 1) = ((i + 1 : Nat) : Int) by rw [w64 (by omega) (by omega)]; omega]
          exact h1
      · rw [h2]; simp [c]
theorem containsI_ok (x : List Int) (v : Int) (hn : x.length ≤ 100) : Ev (fun k => slices_Contains_int_int.f k x v) (decide (v ∈ x)) := by
  obtain ⟨r, h1, h2⟩ := indexI_ok x v hn x.length 0 (by omega)
  rw [List.drop_zero] at h2
  unfold slices_Contains_int_int.f slices_Index_int_int.f
  refine Ev.bind h1 (Ev.some_ ?_)
  rw [decide_eq_decide]
  exact h2
theorem on_again (s : St) (d : Int) : on (on s d) d = on s d := by
  unfold on
  rw [onV_dec]
  unfold onV
  by_cases c : s.1 = 3 ∧ d > mon s.2.2.2.1 1
  · rw [if_pos c]; rw [if_neg (by simp)]
  · rw [if_neg c, if_neg c]
theorem can_ended (s : St) (who d : Int) (h : s.1 = 7) : canV s who d = [] := by
  rw [List.eq_nil_iff_forall_not_mem]
  intro k hk
  obtain ⟨h1, h2⟩ := (mem_can s who d k).1 hk
  have ho : onV (mon s.2.2.2.1 1) s d = s := by unfold onV; rw [if_neg (by omega)]
  have ha : afterV s.1 k = 0 := by
    unfold afterV
    rw [h]
    rw [if_neg (by omega), if_neg (by omega), if_neg (by omega), if_neg (by omega), if_neg (by omega), if_neg (by omega)]
  unfold nx nextV at h2
  rw [ho, ha] at h2
  revert h2
  split
  · simp [err]
  · split
    · simp [err]
    · split
      · simp [err]
      · simp [err]
theorem stepcan_l0 (s : St) (who d : Int) (b : Bool) (hb : b = true → True) : ∀ (n : Nat) (i : Int), i + n = 8 → 0 ≤ i →
    Ev (fun k => mootkeep4_StepCan.l0 k who d (canV s who d) i s.1 s.2.1 s.2.2.1 s.2.2.2.1 s.2.2.2.2) true := by
  have hlen := can_len s who d
  intro n
  induction n with
  | zero =>
    intro i h h0
    apply Ev.step
    · intro k; rw [mootkeep4_StepCan.l0]
    · refine Ev.ite_neg (by omega) (Ev.bind (on_ok1 s d) (Ev.bind (on_ok1 (on s d) d) ?_))
      rw [on_again]
      refine Ev.ite_pos (by simp) ?_
      by_cases c : s.1 = 7
      · refine Ev.ite_pos c (Ev.some_ ?_)
        rw [can_ended s who d c]; rfl
      · exact Ev.ite_neg c (Ev.now _)
  | succ n ih =>
    intro i h h0
    have e := ih (i + 1) (by omega) (by omega)
    apply Ev.step
    · intro k; rw [mootkeep4_StepCan.l0]
    · refine Ev.ite_pos (by omega) (Ev.bind (snext_ok s i who d) (Ev.bind (containsI_ok _ i (by omega)) ?_))
      rw [w64 (by omega) (by omega)]
      refine Ev.ite_neg ?_ e
      have hm := mem_can s who d i
      have hout : ¬ (1 ≤ i ∧ i ≤ 6) → err (nx s i who d) = 1 := by
        intro c
        unfold nx nextV
        rw [if_pos (by omega)]; rfl
      show ¬ (((nx s i who d).2.2.2.2.2 == 0) != decide (i ∈ canV s who d)) = true
      have hx : ((nx s i who d).2.2.2.2.2 == 0) = decide (i ∈ canV s who d) := by
        rw [Bool.eq_iff_iff, decide_eq_true_iff, hm, beq_iff_eq]
        constructor
        · intro c
          refine ⟨?_, c⟩
          by_cases c2 : 1 ≤ i ∧ i ≤ 6
          · exact c2
          · have := hout c2; unfold err at this; omega
        · exact fun c => c.2
      rw [hx]
      simp
theorem StepCan : mootkeep4_StepCan.Pure := by
  intro l0 a1 a2 _ _ hl h1 h2
  obtain ⟨y, s, hy, hn, hs, hi⟩ := proc_ok l0 hl
  have hp := play_ok y (by omega)
  rw [hs.play] at hp
  have q1 := wf_bd h1
  have q2 := wf_bd h2
  obtain ⟨t2, e2, _, _⟩ := below_ok a2 2000 q2.1 q2.2 (by omega) (by omega)
  obtain ⟨t1, e1, _, _⟩ := below_ok a1 2 q1.1 q1.2 (by omega) (by omega)
  refine Ev.rounds ?_
  unfold mootkeep4_StepCan.f
  refine Ev.bind stepped_ok (Ev.ite_pos rfl (Ev.bind hy (Ev.bind hp (Ev.ite_pos rfl ?_))))
  simp only [e1, e2, Option.bind_some]
  refine Ev.bind (can_ok s _ _) ?_
  exact stepcan_l0 s _ _ true (fun _ => trivial) 8 0 (by omega) (by omega)
end Go.Proofs.Ytghnbiknghelpaa.Pure
