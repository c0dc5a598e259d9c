/- For every list of raw numbers and every raw total, in cap.Budget's distribution over the claims that are drawn whoever gets anything stands behind nobody of a smaller rank whose claim is not met, and of two claims of one rank the greater one gets no less; no condition but the given statement's own. -/
import Derived.Test.YtbcaaocogphdeaaPCapx0
import Derived.Test.YtbcaaocogphdeaaPCapx44
import Derived.Test.YtbcaaocogphdeaaCapE
namespace Go.Proofs.Ytbcaaocogphdeaa.Pure
open Go.RowKit Go.Proofs.Ytbcaaocogphdeaa.PCap Go.Proofs.YtbcaaocogphdeaaW.PrintWords Go.Proofs.YtbcaaocogphdeaaW.PrintLast
set_option linter.unusedVariables false
set_option linter.unusedSimpArgs false
theorem fair_l1 {x : List S59} {T0 : Int} {O : List Int} {T : Int} (h : Inv x T0 (rnk x) O T) (hx : ClOk x) (i : Int) (i0 : 0 ≤ i) (i1 : i < (x.length : Int))
    (hout : Ev (fun k => mootkeep4_CapFair.l0 k x O x (x.length : Int) (wrap64 (i + 1))) true) : ∀ (n j : Nat), j + n = x.length →
    Ev (fun k => mootkeep4_CapFair.l1 k x O i x (x.length : Int) i x (x.length : Int) (j : Int) (rd_T59 x i).f0 (rd_T59 x i).f1 (rd_T59 x i).f2 (rd_T59 x i).f3 (rd_T59 x i).f4) true := by
  intro n
  induction n with
  | zero =>
    intro j hj
    apply Ev.step
    · intro k; rw [mootkeep4_CapFair.l1]
    · exact Ev.ite_neg (by omega) hout
  | succ n ih =>
    intro j hj
    have hl := hx.1
    have hOl := h.len
    have hn := ih (j + 1) (by omega)
    have hw : wrap64 ((j : Int) + 1) = ((j + 1 : Nat) : Int) := by rw [w64 (by omega) (by omega)]; omega
    have hj3 : Ev (fun k => mootkeep4_CapFair.j3 k x O i (j : Int) x (x.length : Int) i x (x.length : Int) (j : Int) false (rd_T59 x i).f0 (rd_T59 x i).f1 (rd_T59 x i).f2 (rd_T59 x i).f3 (rd_T59 x i).f4 (rd_T59 x (j : Int)).f0 (rd_T59 x (j : Int)).f1 (rd_T59 x (j : Int)).f2 (rd_T59 x (j : Int)).f3 (rd_T59 x (j : Int)).f4) true := by
      apply Ev.step
      · intro k; rw [mootkeep4_CapFair.j3]
      · refine Ev.ite_neg (by simp) ?_
        rw [hw]
        by_cases c1 : (rd_T59 x i).f3 = (rd_T59 x (j : Int)).f3
        · refine Ev.ite_pos c1 ?_
          by_cases c2 : (rd_T59 x i).f4 > (rd_T59 x (j : Int)).f4
          · have hm := h.mono i (j : Int) i0 i1 (by omega) (by omega) c1 c2
            exact Ev.ite_pos c2 (Ev.ite_pos i0 (Ev.ite_pos (by omega) (Ev.ite_pos (by omega) (Ev.ite_pos (by omega) (Ev.ite_neg (by omega) hn)))))
          · exact Ev.ite_neg c2 hn
        · exact Ev.ite_neg c1 hn
    apply Ev.step
    · intro k; rw [mootkeep4_CapFair.l1]
    · refine Ev.ite_pos (by omega) (Ev.ite_pos (by omega) (Ev.ite_pos (by omega) (Ev.ite_pos i0 (Ev.ite_pos (by omega) ?_))))
      by_cases c1 : rd O i > 0
      · refine Ev.ite_pos c1 ?_
        by_cases c2 : (rd_T59 x (j : Int)).f3 < (rd_T59 x i).f3
        · have hf := h.fair i (j : Int) i0 i1 (by omega) (by omega) c2 c1
          refine Ev.ite_pos c2 (Ev.ite_pos (by omega) ?_)
          rw [hf, decide_eq_false (by omega : ¬ (rd_T59 x (j : Int)).f4 < (rd_T59 x (j : Int)).f4)]
          exact hj3
        · exact Ev.ite_neg c2 hj3
      · exact Ev.ite_neg c1 hj3
theorem fair_l0 {x : List S59} {T0 : Int} {O : List Int} {T : Int} (h : Inv x T0 (rnk x) O T) (hx : ClOk x) : ∀ (n i : Nat), i + n = x.length →
    Ev (fun k => mootkeep4_CapFair.l0 k x O x (x.length : Int) (i : Int)) true := by
  intro n
  induction n with
  | zero =>
    intro i hi
    apply Ev.step
    · intro k; rw [mootkeep4_CapFair.l0]
    · exact Ev.ite_neg (by omega) (Ev.now _)
  | succ n ih =>
    intro i hi
    have hl := hx.1
    have hn := ih (i + 1) (by omega)
    have hw : wrap64 ((i : Int) + 1) = ((i + 1 : Nat) : Int) := by rw [w64 (by omega) (by omega)]; omega
    apply Ev.step
    · intro k; rw [mootkeep4_CapFair.l0]
    · refine Ev.ite_pos (by omega) (Ev.ite_pos (by omega) (Ev.ite_pos (by omega) ?_))
      exact fair_l1 h hx (i : Int) (by omega) (by omega) (by rw [hw]; exact hn) x.length 0 (by omega)
theorem CapFair : mootkeep4_CapFair.Pure := by
  intro l a _ _ hw ha
  refine Ev.rounds (r := true) ?_
  obtain ⟨x, hxe, hxl, hxc⟩ := claims_ok l hw
  have hx : ClOk x := ⟨by omega, fun c hc => by have := hxc c hc; omega⟩
  obtain ⟨T0, ht, t0, t1⟩ := below_ok a 6000 (wf_bd ha).1 (wf_bd ha).2 (by omega) (by omega)
  obtain ⟨O, T, hOe, hO⟩ := budget_ok hx (T0 := T0) t0 (by omega) (div_of (by omega) (fun c hc => by have := hxc c hc; omega))
  unfold mootkeep4_CapFair.f
  refine Ev.bind capped_ok (Ev.ite_pos rfl (Ev.bind hxe ?_))
  rw [ht]
  refine Ev.bind (Ev.now _) (Ev.bind hOe (Ev.ite_pos rfl ?_))
  have e : ((O.length : Int) != (x.length : Int)) = false := by rw [hO.len]; simp
  simp only [e]
  apply Ev.step
  · intro k; rw [mootkeep4_CapFair.j0]
  · exact Ev.ite_neg (by simp) (fair_l0 hO hx x.length 0 (by omega))
end Go.Proofs.Ytbcaaocogphdeaa.Pure
