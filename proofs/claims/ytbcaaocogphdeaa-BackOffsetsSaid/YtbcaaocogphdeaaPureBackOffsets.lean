/- The law BackOffsets in plain Lean: what is taken, party by party, is what the reference takes, claim by claim. -/
import Derived.Test.YtbcaaocogphdeaaPDelx0
import Derived.Test.YtbcaaocogphdeaaPDelx4
import Derived.Test.YtbcaaocogphdeaaPDelx30
import Derived.Test.YtbcaaocogphdeaaPDelx31
import Derived.Test.YtbcaaocogphdeaaPDelx32
import Derived.Test.YtbcaaocogphdeaaPDelx33
import Derived.Test.YtbcaaocogphdeaaPDelx38
import Derived.Test.YtbcaaocogphdeaaDelW
namespace Go.Proofs.Ytbcaaocogphdeaa.Pure
open Go.RowKit Go.Proofs.Ytbcaaocogphdeaa.PDel Go.Proofs.YtbcaaocogphdeaaW.PrintWords Go.Proofs.YtbcaaocogphdeaaW.PrintLast
set_option linter.unusedVariables false
set_option linter.unusedSimpArgs false

theorem rest_need : ∀ (l : List S32) (M : Int → Int), bdd 1099511627776 l → (∀ k, 0 ≤ M k ∧ M k + 1099511627776 * l.length ≤ 4000000000000000000) → ∀ k, back_Offsets.rest l M k = M k + need k l
  | [], M, _, _, k => by simp [back_Offsets.rest, need]
  | c :: r, M, h, hM, k => by
    have h2 := h c (.head _)
    have hc := hM c.f0
    have hl : ∀ k, 0 ≤ M k ∧ M k + 1099511627776 * r.length + 1099511627776 ≤ 4000000000000000000 := fun k => by
      have := hM k
      simp only [List.length_cons] at this
      omega
    rw [back_Offsets.rest]
    by_cases c0 : c.f2 < 0
    · have hw : wrap64 (M c.f0 - c.f2) = M c.f0 - c.f2 := w64 (by have := hl c.f0; omega) (by have := hl c.f0; omega)
      rw [if_pos c0, hw, rest_need r _ (fun p hp => h p (.tail _ hp)) (fun k => by
        by_cases e : k = c.f0
        · subst e; rw [upd_same]; have := hl c.f0; omega
        · rw [upd_other _ _ e]; have := hl k; omega)]
      by_cases e : k = c.f0
      · subst e; rw [upd_same, need, if_pos ⟨c0, rfl⟩]; omega
      · rw [upd_other _ _ e, need, if_neg (fun z => e z.2.symm)]; omega
    · rw [if_neg c0, rest_need r M (fun p hp => h p (.tail _ hp)) (fun k => by have := hl k; omega), need, if_neg (fun z => c0 z.1)]; omega
theorem BackOffsets : mootlaw4_BackOffsets.Pure := by
  intro C py lim hC1 hC2 hCw hp1 hp2 hpw hlw
  have hlim := wf_isI64 hlw
  refine Ev.rounds ?_
  have fC : Ev (fun k => mootlaw4_paysFault.f k C) (payF C) := ⟨2 * C.length + 1, fun k hk => faultF C k hk⟩
  have fP : Ev (fun k => mootlaw4_paysFault.f k py) (payF py) := ⟨2 * py.length + 1, fun k hk => faultF py k hk⟩
  have gC : back_Check.f (2 * (C.length + py.length) + 4) C = some (payF C) := checkF C _ (by omega)
  have gP : back_Check.f (2 * (C.length + py.length) + 4) py = some (payF py) := checkF py _ (by omega)
  have hc : Ev (fun k => mootlaw4_corrects.f k) true := ⟨3, fun k hk => corrects_ok k hk⟩
  refine Ev.congr (fun k => by unfold mootlaw4_BackOffsets.f; rfl) ?_
  -- where there is a fault
  have bad : ∀ (x : Int), x ≠ 0 → back_Offsets.f C py lim = some ([], [], x) → Ev (fun k => mootlaw4_BackOffsets.j2 k C py lim x) true := by
    intro x hx hf
    apply Ev.step
    · intro k; rw [mootlaw4_BackOffsets.j2]
    · refine Ev.bind (Ev.const_ hf) (Ev.ite_neg hx (Ev.ite_pos rfl (Ev.const_ ?_)))
      simp [wrap64]
  have bad1 : ∀ (x : Int), x ≠ 0 → back_Offsets.f C py lim = some ([], [], x) → Ev (fun k => mootlaw4_BackOffsets.j0 k C py lim x) true := by
    intro x hx hf
    apply Ev.step
    · intro k; rw [mootlaw4_BackOffsets.j0]
    · refine Ev.ite_neg hx ?_
      apply Ev.step
      · intro k; rw [mootlaw4_BackOffsets.j1]
      · exact Ev.ite_neg (by simp) (bad x hx hf)
  refine Ev.bind hc (Ev.ite_pos rfl (Ev.bind fC ?_))
  by_cases c : payF C = 0
  · refine Ev.ite_pos c (Ev.bind fP ?_)
    by_cases d : payF py = 0
    · rw [d]
      apply Ev.step
      · intro k; rw [mootlaw4_BackOffsets.j0]
      · refine Ev.ite_pos rfl ?_
        apply Ev.step
        · intro k; rw [mootlaw4_BackOffsets.j1]
        · by_cases e : lim < 0
          · refine Ev.ite_pos (decide_eq_true e) (bad 1 (by omega) ?_)
            unfold back_Offsets.f
            rw [gC, gP]
            simp only [Option.bind_some]
            rw [if_pos c, if_pos d, if_pos e]
          · refine Ev.ite_neg (by simpa using e) ?_
            obtain ⟨c1, c2⟩ := payF_ok c
            obtain ⟨d1, d2⟩ := payF_ok d
            have bC : bdd 1099511627776 C := fun p hp => by have := c2 p hp; unfold okP at this; omega
            have bP : bdd 1099511627776 py := fun p hp => by have := d2 p hp; unfold okP at this; omega
            obtain ⟨xl, T', hgo⟩ : ∃ xl T', back_Offsets.go lim py (back_Offsets.rest C (fun _ => 0)) (fun _ => 0) [] = (xl, T') := ⟨_, _, rfl⟩
            have hf : back_Offsets.f C py lim = some (xl, back_Offsets.left C T' [], 0) := by
              unfold back_Offsets.f
              rw [gC, gP]
              simp only [Option.bind_some]
              rw [if_pos c, if_pos d, if_neg e, if_pos (by rw [wf_corr hCw, wf_corr hpw]; simp; omega)]
              unfold back_Offsets.took
              rw [hgo]
            have hM := rest_need C (fun _ => 0) bC (fun k => ⟨Int.le_refl _, by show (0 : Int) + _ ≤ _; omega⟩)
            apply Ev.step
            · intro k; rw [mootlaw4_BackOffsets.j2]
            · refine Ev.bind (Ev.const_ hf) (Ev.ite_pos rfl (Ev.bind (Ev.const_ (r := C) (by unfold api_Pay_21.f; rw [if_pos (by omega)])) ?_))
              have key := offs_l0 C lim py bC c1 bP d1 (by omega) xl T' py.length 0 (fun _ => 0) (back_Offsets.rest C (fun _ => 0)) [] (by omega) (fun k => ⟨Int.le_refl _, need_nn k C⟩) (fun k => by rw [hM k]; show (0 : Int) + _ = _ - 0; omega) (by simp) hgo
              rw [eat_zero C _ (fun _ => rfl)] at key
              exact key
    · refine bad1 _ d ?_
      unfold back_Offsets.f
      rw [gC, gP]
      simp only [Option.bind_some]
      rw [if_pos c, if_neg d]
  · refine Ev.ite_neg c (bad1 _ c ?_)
    unfold back_Offsets.f
    rw [gC]
    simp only [Option.bind_some]
    rw [if_neg c]
end Go.Proofs.Ytbcaaocogphdeaa.Pure
