/- For every list of raw numbers and every raw total, cap.Budget distributes the whole budget over the claims that are drawn, or meets each claim, and nobody gets more than the claim; no condition but the given statement's own. -/
import Derived.Test.YtbcaaocogphdeaaPCapx0
import Derived.Test.YtbcaaocogphdeaaPCapx46
import Derived.Test.YtbcaaocogphdeaaCapE
namespace Go.Proofs.Ytbcaaocogphdeaa.Pure
open Go.RowKit Go.Proofs.Ytbcaaocogphdeaa.PCap Go.Proofs.YtbcaaocogphdeaaW.PrintWords Go.Proofs.YtbcaaocogphdeaaW.PrintLast
set_option linter.unusedVariables false
set_option linter.unusedSimpArgs false
theorem exact_l0 {x : List S59} {T0 : Int} {O : List Int} {T : Int} (h : Inv x T0 (rnk x) O T) (hx : ClOk x) : ∀ (O2 O1 : List Int), O = O1 ++ O2 →
    Ev (fun k => mootkeep4_CapExact.l0 k T0 x (x.map (·.f4)).sum O1.sum O (O.length : Int) (O1.length : Int)) true := by
  intro O2
  induction O2 with
  | nil =>
    intro O1 e
    rw [List.append_nil] at e
    subst e
    apply Ev.step
    · intro k; rw [mootkeep4_CapExact.l0]
    · refine Ev.ite_neg (by omega) (Ev.some_ ?_)
      rw [mn_eq, h.exact]
      simp
  | cons o O2 ih =>
    intro O1 e
    have hl := hx.1
    have hOl := h.len
    have hl2 : O.length = O1.length + (O2.length + 1) := by rw [e]; simp
    have hrd : rd O (O1.length : Int) = o := by rw [e]; exact rd_at rfl
    have hb := h.bd (O1.length : Int) (by omega) (by omega)
    have hc := (hx.2 _ (rdS_mem (l := x) (i := (O1.length : Int)) (by omega) (by omega)))
    rw [hrd] at hb
    have := ih (O1 ++ [o]) (by rw [e]; simp)
    rw [show ((O1 ++ [o]).length : Int) = O1.length + 1 by rw [List.length_append, List.length_singleton]; omega, sum_app] at this
    have hs := sum_bd (l := O1) (B := 1099511627776) (fun w hw => by
      obtain ⟨m, hm, ew⟩ := List.getElem_of_mem hw
      have b := h.bd (m : Int) (by omega) (by omega)
      have c := (hx.2 _ (rdS_mem (l := x) (i := (m : Int)) (by omega) (by omega))).2
      have er : rd O (m : Int) = w := by
        rw [rd_get (by omega), ← ew]
        simp only [e]
        rw [List.getElem_append_left hm]
      rw [er] at b
      omega)
    apply Ev.step
    · intro k; rw [mootkeep4_CapExact.l0]
    · rw [hrd]
      refine Ev.ite_pos (by omega) (Ev.ite_pos (by omega) (Ev.ite_pos (by omega) (Ev.ite_neg (by omega) (Ev.ite_pos (by omega) (Ev.ite_neg (by omega) ?_)))))
      rw [w64 (a := (O1.length : Int) + 1) (by omega) (by omega), w64 (a := O1.sum + o) (by omega) (by omega)]
      simpa using this
theorem CapExact : mootkeep4_CapExact.Pure := by
  intro l a _ _ hw ha
  refine Ev.rounds (r := true) ?_
  obtain ⟨x, hxe, hxl, hxc⟩ := claims_ok l hw
  have hx : ClOk x := ⟨by omega, fun c hc => by have := hxc c hc; omega⟩
  obtain ⟨T0, ht, t0, t1⟩ := below_ok a 6000 (wf_bd ha).1 (wf_bd ha).2 (by omega) (by omega)
  obtain ⟨O, T, hOe, hO⟩ := budget_ok hx (T0 := T0) t0 (by omega) (div_of (by omega) (fun c hc => by have := hxc c hc; omega))
  unfold mootkeep4_CapExact.f
  refine Ev.bind capped_ok (Ev.ite_pos rfl (Ev.bind hxe ?_))
  rw [ht]
  refine Ev.bind (Ev.now _) (Ev.bind hOe (Ev.bind (need_ok hx) (Ev.ite_pos rfl (Ev.ite_pos rfl ?_))))
  have e : ((O.length : Int) != (x.length : Int)) = false := by rw [hO.len]; simp
  simp only [e]
  apply Ev.step
  · intro k; rw [mootkeep4_CapExact.j0]
  · refine Ev.ite_neg (by simp) ?_
    have := exact_l0 hO hx O [] rfl
    simpa using this
end Go.Proofs.Ytbcaaocogphdeaa.Pure
