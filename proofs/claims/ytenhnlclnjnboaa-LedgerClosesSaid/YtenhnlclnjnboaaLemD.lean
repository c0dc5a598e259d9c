/- Plain lemmas on ledgers: posting an entry, taking one out, balances. -/
import Derived.Test.YtenhnlclnjnboaaPAllx0
import Derived.Test.YtenhnlclnjnboaaPAllx14
import Derived.Test.YtenhnlclnjnboaaPAllx15
import Derived.Test.YtenhnlclnjnboaaLemC
namespace Go.Proofs.Ytenhnlclnjnboaa.Pure
open Go.RowKit Go.Proofs.Ytenhnlclnjnboaa.PAll Go.Proofs.YtenhnlclnjnboaaW.PrintWords Go.Proofs.YtenhnlclnjnboaaW.PrintLast
set_option linter.unusedVariables false
set_option linter.unusedSimpArgs false

theorem check_snoc (l : List S35) (e : S35) (h : checkV l = 0) (he : oneV e = 0) (hl : l.length < 2000) (hx : ∀ x ∈ l, x.f0 ≤ e.f0) : checkV (l ++ [e]) = 0 := by
  unfold checkV at h ⊢
  rw [if_neg (by omega)] at h
  rw [if_neg (by simp; omega)]
  exact chk_snoc l e he 0 h hx (one_day e he).1
theorem post_ok (l : List S35) (a b c d : Int) (h : checkV l = 0) (he : oneV ⟨a, b, c, d⟩ = 0) (hl : l.length < 2000) (hx : ∀ x ∈ l, x.f0 ≤ a) : Ev (fun k => ledger_Post.f k l a b c d) (l ++ [(⟨a, b, c, d⟩ : S35)], 0) := by
  have e1 : ledger_Entry_18.f l = some l := if_pos (by omega)
  have hc := check_ok (l ++ [(⟨a, b, c, d⟩ : S35)])
  rw [check_snoc l _ h he hl hx] at hc
  unfold ledger_Post.f
  simp only [e1, Option.bind_some]
  refine Ev.ite_pos (by simp; omega) (Ev.bind hc (Ev.ite_pos rfl (Ev.now _)))

theorem chk_lower (l : List S35) (p q : Int) (h : p ≤ q) (hc : chk q l = 0) : chk p l = 0 := by
  cases l with
  | nil => rfl
  | cons x xs =>
    rw [chk] at hc ⊢
    by_cases c : oneV x = 0
    · rw [if_pos c] at hc ⊢
      by_cases c2 : q > x.f0
      · rw [if_pos c2] at hc; omega
      · rw [if_neg c2] at hc; rw [if_neg (by omega)]; exact hc
    · rw [if_neg c] at hc; exact absurd hc c
theorem chk_cons {x : S35} {xs : List S35} {p : Int} (h : chk p (x :: xs) = 0) : oneV x = 0 ∧ p ≤ x.f0 ∧ chk x.f0 xs = 0 := by
  rw [chk] at h
  by_cases c : oneV x = 0
  · rw [if_pos c] at h
    by_cases c2 : p > x.f0
    · rw [if_pos c2] at h; omega
    · rw [if_neg c2] at h; exact ⟨c, by omega, h⟩
  · rw [if_neg c] at h; exact absurd h c
theorem chk_erase (l : List S35) : ∀ (p : Int) (k : Nat), chk p l = 0 → chk p (l.eraseIdx k) = 0 := by
  induction l with
  | nil => intro p k h; simpa using h
  | cons x xs ih =>
    intro p k h
    obtain ⟨a, b, c⟩ := chk_cons h
    cases k with
    | zero => exact chk_lower xs p x.f0 b c
    | succ k =>
      show chk p (x :: xs.eraseIdx k) = 0
      rw [chk, if_pos a, if_neg (by omega)]
      exact ih _ k c
theorem bal_erase (a d : Int) (l : List S35) : ∀ k, k < l.length → bal a d l = bal a d (l.eraseIdx k) + eff a d (rdE l k) := by
  induction l with
  | nil => intro k h; simp at h
  | cons x xs ih =>
    intro k h
    cases k with
    | zero => show eff a d x + bal a d xs = bal a d xs + eff a d x; omega
    | succ k =>
      have := ih k (by simpa using h)
      show eff a d x + bal a d xs = (eff a d x + bal a d (xs.eraseIdx k)) + eff a d (rdE xs k)
      omega
theorem chk_last (l : List S35) : ∀ p, chk p l = 0 → ∀ e ∈ l, e.f0 ≤ (rdE l (l.length - 1)).f0 := by
  induction l with
  | nil => intro p _ e he; simp at he
  | cons x xs ih =>
    intro p h e he
    obtain ⟨a, b, c⟩ := chk_cons h
    cases xs with
    | nil => rw [List.mem_singleton.1 he]; exact Int.le_refl _
    | cons y ys =>
      have h2 := ih _ c
      show e.f0 ≤ (rdE (y :: ys) ((y :: ys).length - 1)).f0
      rcases List.mem_cons.1 he with rfl | he
      · have h3 := (chk_cons c).2.1
        have := h2 y (by simp)
        omega
      · exact h2 e he
end Go.Proofs.Ytenhnlclnjnboaa.Pure
