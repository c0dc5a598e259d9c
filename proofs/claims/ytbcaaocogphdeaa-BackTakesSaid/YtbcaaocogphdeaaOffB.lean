/- Plain lemmas on payments: what Check and Pays come to. -/
import Derived.Test.YtbcaaocogphdeaaPOffx0
import Derived.Test.YtbcaaocogphdeaaPOffx3
import Derived.Test.YtbcaaocogphdeaaPOffx31
import Derived.Test.YtbcaaocogphdeaaPOffx33
import Derived.Test.YtbcaaocogphdeaaOffA
namespace Go.Proofs.Ytbcaaocogphdeaa.Pure
open Go.RowKit Go.Proofs.Ytbcaaocogphdeaa.POff Go.Proofs.YtbcaaocogphdeaaW.PrintWords Go.Proofs.YtbcaaocogphdeaaW.PrintLast
set_option linter.unusedVariables false
set_option linter.unusedSimpArgs false

/-- A payment that Check takes. -/
def okP (p : S32) : Prop := -1099511627776 ≤ p.f2 ∧ p.f2 ≤ 1099511627776 ∧ 0 ≤ p.f3 ∧ p.f3 ≤ 1048575 ∧ 0 ≤ p.f1 ∧ p.f1 ≤ 1048575
theorem rd_mem {l : List S32} {i : Int} (h0 : 0 ≤ i) (h1 : i < l.length) : rd_T32 l i ∈ l := by
  have hx : i.toNat < l.length := by omega
  unfold rd_T32
  rw [List.getD_eq_getElem?_getD, List.getElem?_eq_getElem hx]
  exact List.getElem_mem hx
theorem check_l0 (l : List S32) (hn : l.length ≤ 1000) (h : ∀ p ∈ l, okP p) : ∀ (n i : Nat), i + n = l.length → ∀ k, 2 * n + 1 ≤ k → back_Check.l0 k l (l.length : Int) (i : Int) = some 0 := by
  intro n
  induction n with
  | zero =>
    intro i hi k hk
    obtain ⟨k, rfl⟩ : ∃ j, k = j + 1 := ⟨k - 1, by omega⟩
    rw [back_Check.l0, if_neg (by omega)]
  | succ n ih =>
    intro i hi k hk
    obtain ⟨k, rfl⟩ : ∃ j, k = j + 1 + 1 := ⟨k - 2, by omega⟩
    obtain ⟨a1, a2, a3, a4, a5, a6⟩ := h _ (rd_mem (l := l) (i := (i : Int)) (by omega) (by omega))
    rw [back_Check.l0, if_pos (by omega), if_pos (by omega), if_pos (by omega), if_neg (by omega), back_Check.j1, if_neg (by simp; omega), if_neg (by omega), if_neg (by omega), if_neg (by omega), if_neg (by omega)]
    rw [show wrap64 ((i : Int) + 1) = ((i + 1 : Nat) : Int) by rw [w64 (by omega) (by omega)]; omega]
    exact ih (i + 1) (by omega) k (by omega)
theorem check_ok (l : List S32) (hn : l.length ≤ 1000) (h : ∀ p ∈ l, okP p) (k : Nat) (hk : 2 * l.length + 1 ≤ k) : back_Check.f k l = some 0 := by
  unfold back_Check.f
  rw [if_neg (by omega)]
  exact check_l0 l hn h l.length 0 (by omega) k hk
/-- A made payment. -/
def made (p : S32) : Prop := 1 ≤ p.f0 ∧ p.f0 ≤ 3 ∧ 20000 ≤ p.f1 ∧ p.f1 ≤ 20003 ∧ -300 ≤ p.f2 ∧ p.f2 ≤ 599 ∧ 700000 ≤ p.f3 ∧ p.f3 ≤ 739999
theorem day_ok (x : Int) (h0 : -9223372036854775808 ≤ x) (h1 : x ≤ 9223372036854775807) : ∃ d, mootmake_Day.f x = some d ∧ 700000 ≤ d ∧ d ≤ 739999 := by
  obtain ⟨r, hr, h2, h3⟩ := below_ok x 40000 h0 h1 (by omega) (by omega)
  unfold mootmake_Day.f
  rw [hr]
  exact ⟨_, rfl, by rw [w64 (by omega) (by omega)]; omega, by rw [w64 (by omega) (by omega)]; omega⟩
theorem pays_l0 (m : Int) (hm : m ≤ 12) : ∀ (n : Nat) (i : Int) (x : List S32) (s : List Int), 0 ≤ i → i + n = m → x.length = i.toNat → (∀ p ∈ x, made p) → wfL s →
    ∃ r, (∀ k, n + 1 ≤ k → mootkeep4_Pays.l0 k x m i s = some r) ∧ r.length = m.toNat ∧ ∀ p ∈ r, made p := by
  intro n
  induction n with
  | zero =>
    intro i x s h0 hi hx hp hs
    refine ⟨x, fun k hk => ?_, by omega, hp⟩
    obtain ⟨k, rfl⟩ : ∃ j, k = j + 1 := ⟨k - 1, by omega⟩
    rw [mootkeep4_Pays.l0, if_neg (by omega)]
  | succ n ih =>
    intro i x s h0 hi hx hp hs
    obtain ⟨r1, s1, e1, a1, b1, _, hs1⟩ := next_ok s 3 hs (by omega)
    obtain ⟨r2, s2, e2, a2, b2, _, hs2⟩ := next_ok s1 4 hs1 (by omega)
    obtain ⟨r3, s3, e3, a3, b3, _, hs3⟩ := next_ok s2 900 hs2 (by omega)
    obtain ⟨r4, s4, e4, a4, b4, _, hs4⟩ := next_ok s3 40000 hs3 (by omega)
    obtain ⟨d, e5, a5, b5⟩ := day_ok r4 (by omega) (by have := b4 (by omega); omega)
    have c1 := b1 (by omega)
    have c2 := b2 (by omega)
    have c3 := b3 (by omega)
    obtain ⟨r, hr, h4, h5⟩ := ih (i + 1) (x ++ [⟨1 + r1, 20000 + r2, r3 - 300, d⟩]) s4 (by omega) (by omega) (by rw [List.length_append]; simp only [List.length_cons, List.length_nil]; omega) (by
      intro p hq
      rcases List.mem_append.1 hq with hq | hq
      · exact hp p hq
      · rw [List.mem_singleton] at hq
        subst hq
        exact ⟨by show 1 ≤ 1 + r1; omega, by show 1 + r1 ≤ 3; omega, by show 20000 ≤ 20000 + r2; omega, by show 20000 + r2 ≤ 20003; omega, by show -300 ≤ r3 - 300; omega, by show r3 - 300 ≤ 599; omega, a5, b5⟩) hs4
    refine ⟨r, fun k hk => ?_, h4, h5⟩
    obtain ⟨k, rfl⟩ : ∃ j, k = j + 1 := ⟨k - 1, by omega⟩
    rw [mootkeep4_Pays.l0, if_pos (by omega), e1]
    simp only [Option.bind_some]
    rw [e2]
    simp only [Option.bind_some]
    rw [e3]
    simp only [Option.bind_some]
    rw [e4]
    simp only [Option.bind_some]
    rw [e5]
    simp only [Option.bind_some]
    rw [if_pos (by omega), w64 (a := 1 + r1) (by omega) (by omega), w64 (a := 20000 + r2) (by omega) (by omega), w64 (a := r3 - 300) (by omega) (by omega), w64 (a := i + 1) (by omega) (by omega)]
    exact hr k (by omega)
theorem pays_ok (l : List Int) (hl : wfL l) : ∃ r, (∀ k, 13 ≤ k → mootkeep4_Pays.f k l = some r) ∧ r.length ≤ 12 ∧ ∀ p ∈ r, made p := by
  obtain ⟨m, s, e, a, b, _, hs⟩ := next_ok l 12 hl (by omega)
  have := b (by omega)
  obtain ⟨r, h1, h2, h3⟩ := pays_l0 m (by omega) m.toNat 0 [] s (by omega) (by omega) rfl (by simp) hs
  refine ⟨r, fun k hk => ?_, by omega, h3⟩
  unfold mootkeep4_Pays.f
  rw [e]
  exact h1 k (by omega)
end Go.Proofs.Ytbcaaocogphdeaa.Pure
