/- Plain lemmas: the reference's inner loop is a pass. -/
import Derived.Test.YtbcaaocogphdeaaPDelx0
import Derived.Test.YtbcaaocogphdeaaPDelx38
import Derived.Test.YtbcaaocogphdeaaDelT
namespace Go.Proofs.Ytbcaaocogphdeaa.Pure
open Go.RowKit Go.Proofs.Ytbcaaocogphdeaa.PDel Go.Proofs.YtbcaaocogphdeaaW.PrintWords Go.Proofs.YtbcaaocogphdeaaW.PrintLast
set_option linter.unusedVariables false
set_option linter.unusedSimpArgs false

theorem pass_len (w cap : Int) : ∀ (l : List S32) (n : Int), (pass w cap n l).1.length = l.length
  | [], n => rfl
  | c :: r, n => by
    rw [pass]
    split
    · simp only [List.length_cons, pass_len w cap r]
    · simp only [List.length_cons, pass_len w cap r]
/-- What follows the inner loop. -/
def after (lim : Int) (xl : List S39) (lf : List S32) (e0 : Int) (want : List S39) (py : List S32) (np ip p0 p1 : Int) (R : List S32) (n : Int) (k : Nat) : Option Bool :=
  if n > 0 then (if want.length < 5864062014805 then (mootlaw4_BackOffsets.l0 k lim xl lf e0 (want ++ [(⟨p0, p1, n⟩ : S39)]) R py np (wrap64 (ip + 1))) else none) else (mootlaw4_BackOffsets.l0 k lim xl lf e0 want R py np (wrap64 (ip + 1)))
theorem offs_l1 (lim : Int) (xl : List S39) (lf : List S32) (e0 : Int) (want : List S39) (py : List S32) (np ip p0 p1 p2 p3 cap : Int) (hcap : cap = max 0 (min lim p2)) (hc : cap ≤ 1099511627776) :
    ∀ (m j : Nat) (A B : List S32) (n : Int), B.length = m → A.length = j → j + m ≤ 1000 → bdd 1099511627776 B → 0 ≤ n → n ≤ cap →
    Ev (after lim xl lf e0 want py np ip p0 p1 (A ++ (pass p0 cap n B).1) (pass p0 cap n B).2) true →
    Ev (fun k => mootlaw4_BackOffsets.l1 k lim xl lf e0 want (A ++ B) n py np ip ((A.length + B.length : Nat) : Int) (j : Int) p0 p1 p2 p3) true := by
  intro m
  induction m with
  | zero =>
    intro j A B n hB hA hl hb n0 n1 he
    have hB2 : B = [] := List.eq_nil_of_length_eq_zero hB
    subst hB2
    simp only [pass] at he
    apply Ev.step
    · intro k; rw [mootlaw4_BackOffsets.l1]
    · refine Ev.ite_neg (by simp only [List.length_nil]; omega) ?_
      exact he
  | succ m ih =>
    intro j A B n hB hA hl hb n0 n1 he
    obtain ⟨c, r, rfl⟩ : ∃ c r, B = c :: r := by
      cases B with
      | nil => simp at hB
      | cons c r => exact ⟨c, r, rfl⟩
    have hc2 := hb c (.head _)
    simp only [List.length_cons] at hB
    have hrd : rd_T32 (A ++ c :: r) (j : Int) = c := by unfold rd_T32; rw [Int.toNat_natCast, ← hA, List.getD_eq_getElem?_getD, List.getElem?_append_right (Nat.le_refl _), Nat.sub_self]; rfl
    have hj : wrap64 ((j : Int) + 1) = ((j + 1 : Nat) : Int) := by rw [w64 (by omega) (by omega)]; omega
    have step : ∀ (c' : S32) (n' : Int), 0 ≤ n' → n' ≤ cap → Ev (after lim xl lf e0 want py np ip p0 p1 (A ++ c' :: (pass p0 cap n' r).1) (pass p0 cap n' r).2) true →
        Ev (fun k => mootlaw4_BackOffsets.l1 k lim xl lf e0 want (A ++ c' :: r) n' py np ip ((A.length + (c :: r).length : Nat) : Int) ((j + 1 : Nat) : Int) p0 p1 p2 p3) true := by
      intro c' n' h0 h1 h2
      have := ih (j + 1) (A ++ [c']) r n' (by omega) (by simp; omega) (by omega) (fun p hp => hb p (.tail _ hp)) h0 h1 (by simpa using h2)
      simp only [List.append_assoc, List.singleton_append, List.length_append, List.length_singleton] at this
      rw [show A.length + (c :: r).length = A.length + 1 + r.length by simp only [List.length_cons]; omega]
      exact this
    apply Ev.step
    · intro k; rw [mootlaw4_BackOffsets.l1]
    · refine Ev.ite_pos (by simp only [List.length_cons]; omega) (Ev.ite_pos (by omega) (Ev.ite_pos (by simp only [List.length_append, List.length_cons]; omega) ?_))
      rw [hrd, hj]
      by_cases c0 : c.f0 = p0
      · refine Ev.ite_pos c0 ?_
        by_cases c1 : c.f2 ≥ 0
        · refine Ev.ite_pos c1 ?_
          rw [pass, if_neg (fun z => by omega)] at he
          exact step c n n0 n1 he
        · refine Ev.ite_neg c1 ?_
          rw [pass, if_pos ⟨c0, by omega⟩] at he
          have e1 : mn (wrap64 (-c.f2)) (wrap64 (mx 0 (mn lim p2) - n)) = min (-c.f2) (cap - n) := by rw [mnv, mnv, mxv, w64 (a := -c.f2) (by omega) (by omega), ← hcap, w64 (by omega) (by omega)]
          rw [e1]
          obtain ⟨d, hd⟩ : ∃ d, d = min (-c.f2) (cap - n) := ⟨_, rfl⟩
          rw [← hd] at he ⊢
          rw [w64 (a := c.f2 + d) (by omega) (by omega), w64 (a := n + d) (by omega) (by omega), Int.toNat_natCast, ← hA, List.set_append_right _ _ (Nat.le_refl _), Nat.sub_self, List.set_cons_zero, hA]
          have := step _ (n + d) (by omega) (by omega) he
          rw [hA] at this
          exact this
      · refine Ev.ite_neg c0 ?_
        rw [pass, if_neg (fun z => c0 z.1)] at he
        exact step c n n0 n1 he
end Go.Proofs.Ytbcaaocogphdeaa.Pure
