/- Plain lemmas: the reference's outer loop, payment by payment. -/
import Derived.Test.YtbcaaocogphdeaaPDelx0
import Derived.Test.YtbcaaocogphdeaaPDelx37
import Derived.Test.YtbcaaocogphdeaaDelU
namespace Go.Proofs.Ytbcaaocogphdeaa.Pure
open Go.RowKit Go.Proofs.Ytbcaaocogphdeaa.PDel Go.Proofs.YtbcaaocogphdeaaW.PrintWords Go.Proofs.YtbcaaocogphdeaaW.PrintLast
set_option linter.unusedVariables false
set_option linter.unusedSimpArgs false

theorem equal39_l0 (x : List S39) (hx : x.length ≤ 100000) : ∀ (n i : Nat), i + n = x.length → Ev (fun k => back_Offset.l0 k x x (x.length : Int) (i : Int)) true := by
  intro n
  induction n with
  | zero =>
    intro i hi
    apply Ev.step
    · intro k; rw [back_Offset.l0]
    · exact Ev.ite_neg (by omega) (Ev.now _)
  | succ n ih =>
    intro i hi
    apply Ev.step
    · intro k; rw [back_Offset.l0]
    · refine Ev.ite_pos (by omega) (Ev.ite_pos (by omega) (Ev.ite_pos (by omega) (Ev.ite_pos (by omega) (Ev.ite_neg (by simp) ?_))))
      rw [w64 (by omega) (by omega)]
      have := ih (i + 1) (by omega)
      rw [Int.natCast_succ] at this
      exact this
theorem equal39 (x : List S39) (hx : x.length ≤ 100000) : Ev (fun k => back_Offset.f k x x) true := by
  have := equal39_l0 x hx x.length 0 (by omega)
  exact Ev.congr (fun k => by unfold back_Offset.f; rw [if_pos rfl]; rfl) this
theorem eat_len : ∀ (l : List S32) (T : Int → Int), (eat l T).length = l.length
  | [], _ => rfl
  | c :: r, T => by
    rw [eat]
    split
    · simp only [List.length_cons, eat_len r]
    · simp only [List.length_cons, eat_len r]
theorem eat_bdd (B : Int) : ∀ (l : List S32) (T : Int → Int), bdd B l → (∀ k, 0 ≤ T k) → bdd B (eat l T)
  | [], _, _, _ => fun p hp => by simp [eat] at hp
  | c :: r, T, h, hT => by
    have h2 := h c (.head _)
    have h3 := hT c.f0
    rw [eat]
    split
    · intro p hp
      rcases List.mem_cons.1 hp with rfl | hp
      · exact h2
      · exact eat_bdd B r T (fun q hq => h q (.tail _ hq)) hT p hp
    · intro p hp
      rcases List.mem_cons.1 hp with rfl | hp
      · show -B ≤ c.f2 + min (-c.f2) (T c.f0) ∧ c.f2 + min (-c.f2) (T c.f0) ≤ B
        omega
      · refine eat_bdd B r _ (fun q hq => h q (.tail _ hq)) (fun k => ?_) p hp
        by_cases e : k = c.f0
        · subst e; rw [upd_same]; omega
        · rw [upd_other _ _ e]; exact hT k
end Go.Proofs.Ytbcaaocogphdeaa.Pure
