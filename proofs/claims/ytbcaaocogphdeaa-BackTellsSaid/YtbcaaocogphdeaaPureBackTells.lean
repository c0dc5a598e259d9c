/- Correct answers as its reference tells: at all payments, on all days, for every party. -/
import Derived.Test.YtbcaaocogphdeaaPAllx0
import Derived.Test.YtbcaaocogphdeaaPAllx3
import Derived.Test.YtbcaaocogphdeaaPAllx4
import Derived.Test.YtbcaaocogphdeaaPAllx28
import Derived.Test.YtbcaaocogphdeaaPAllx38
import Derived.Test.YtbcaaocogphdeaaPAllx43
import Derived.Test.YtbcaaocogphdeaaPAllx48
import Derived.Test.YtbcaaocogphdeaaLemG
namespace Go.Proofs.Ytbcaaocogphdeaa.Pure
open Go.RowKit Go.Proofs.Ytbcaaocogphdeaa.PAll Go.Proofs.YtbcaaocogphdeaaW.PrintWords Go.Proofs.YtbcaaocogphdeaaW.PrintLast
set_option linter.unusedVariables false
set_option linter.unusedSimpArgs false

theorem wf_corr {l : List S32} (h : ∀ x ∈ l, wf_S32 x) : corr_wf l = true := by
  unfold corr_wf
  rw [List.all_eq_true]
  intro p hp
  have := h p hp
  rw [Bool.and_eq_true]
  exact ⟨wf_isI64 this.1, wf_isI64 this.2.1⟩
theorem tells_j3 (a b : List S32) (d who : Int) (wa : corr_wf a = true) (wb : corr_wf b = true) : Ev (fun k => mootlaw4_BackTells.j3 k a b d who (corrF a b d)) true := by
  apply Ev.step
  · intro k; rw [mootlaw4_BackTells.j3]
  · by_cases c : corrF a b d = 0
    · obtain ⟨e, ha, hb, h1, h2⟩ := correct_good a b d c wa wb
      have hx := is_corr a b d ha hb h1 h2
      have hl := hx.len
      refine Ev.bind (Ev.const e) (Ev.ite_pos c (Ev.ite_pos rfl ?_))
      refine tells_l0 a b _ d who hx ha hb ?_ _ 0 0 0 (Nat.zero_add _) (by simp) (by simp) (by omega) (by omega)
      exact tells_l1 a b _ d who hx ha hb h1 h2 _ (by rw [List.length_append, List.length_append]; omega) _ 0 (Nat.zero_add _)
    · refine Ev.bind (Ev.const (correct_bad a b d c)) (Ev.ite_neg c (Ev.ite_pos rfl ?_))
      exact Ev.const (by simp)
theorem tells_j1 (a b : List S32) (d who : Int) (wa : corr_wf a = true) (wb : corr_wf b = true) (f : Int) (hf : f = if payF a = 0 then payF b else payF a) : Ev (fun k => mootlaw4_BackTells.j1 k a b d who f) true := by
  have h3 := tells_j3 a b d who wa wb
  unfold corrF at h3
  apply Ev.step
  · intro k; rw [mootlaw4_BackTells.j1]
  · by_cases c : f = 0
    · have c1 : payF a = 0 := by split at hf <;> omega
      have c2 : payF b = 0 := by rw [if_pos c1] at hf; omega
      rw [if_pos c1, if_pos c2] at h3
      refine Ev.ite_pos c ?_
      by_cases d1 : d < 0
      · rw [if_pos (Or.inl d1)] at h3
        refine Ev.ite_pos d1 ?_
        apply Ev.step
        · intro k; rw [mootlaw4_BackTells.j2]
        · exact Ev.ite_pos rfl h3
      · refine Ev.ite_neg d1 ?_
        apply Ev.step
        · intro k; rw [mootlaw4_BackTells.j2]
        · by_cases d2 : d > 1048575
          · rw [if_pos (Or.inr d2)] at h3
            exact Ev.ite_pos (decide_eq_true d2) h3
          · rw [if_neg (show ¬ (d < 0 ∨ d > 1048575) by omega)] at h3
            refine Ev.ite_neg (by simpa using d2) ?_
            rw [c]
            exact h3
    · refine Ev.ite_neg c ?_
      apply Ev.step
      · intro k; rw [mootlaw4_BackTells.j2]
      · refine Ev.ite_neg (by simp) ?_
        by_cases c1 : payF a = 0
        · rw [if_pos c1] at hf h3
          rw [if_neg (by omega)] at h3
          rw [hf]
          exact h3
        · rw [if_neg c1] at hf h3
          rw [hf]
          exact h3
theorem BackTells : mootlaw4_BackTells.Pure := by
  intro a b d who _ _ ha _ _ hb _ _
  have wa := wf_corr ha
  have wb := wf_corr hb
  refine Ev.rounds ?_
  have fa : Ev (fun k => mootlaw4_paysFault.f k a) (payF a) := ⟨2 * a.length + 1, fun k hk => faultF a k hk⟩
  have fb : Ev (fun k => mootlaw4_paysFault.f k b) (payF b) := ⟨2 * b.length + 1, fun k hk => faultF b k hk⟩
  have ga : Ev (fun k => back_Check.f k a) (payF a) := ⟨2 * a.length + 1, fun k hk => checkF a k hk⟩
  have gb : Ev (fun k => back_Check.f k b) (payF b) := ⟨2 * b.length + 1, fun k hk => checkF b k hk⟩
  have hc : Ev (fun k => mootlaw4_corrects.f k) true := ⟨3, fun k hk => corrects_ok k hk⟩
  refine Ev.congr (fun k => by unfold mootlaw4_BackTells.f; rfl) ?_
  refine Ev.bind hc (Ev.ite_pos rfl (Ev.bind fa (Ev.bind ga (Ev.ite_pos rfl (Ev.bind gb (Ev.bind fb ?_))))))
  apply Ev.step
  · intro k; rw [mootlaw4_BackTells.j0]
  · refine Ev.ite_neg (by simp) ?_
    by_cases c : payF a = 0
    · refine Ev.ite_pos c (Ev.bind fb ?_)
      exact tells_j1 a b d who wa wb _ (by rw [if_pos c])
    · refine Ev.ite_neg c ?_
      exact tells_j1 a b d who wa wb _ (by rw [if_neg c])
end Go.Proofs.Ytbcaaocogphdeaa.Pure
