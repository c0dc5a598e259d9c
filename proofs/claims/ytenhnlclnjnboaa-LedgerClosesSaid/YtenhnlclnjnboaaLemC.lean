/- Plain lemmas on ledgers: the entries that are made from raw numbers. -/
import Derived.Test.YtenhnlclnjnboaaPAllx0
import Derived.Test.YtenhnlclnjnboaaPAllx7
import Derived.Test.YtenhnlclnjnboaaPAllx8
import Derived.Test.YtenhnlclnjnboaaPAllx9
import Derived.Test.YtenhnlclnjnboaaPAllx11
import Derived.Test.YtenhnlclnjnboaaLemB
namespace Go.Proofs.Ytenhnlclnjnboaa.Pure
open Go.RowKit Go.Proofs.Ytenhnlclnjnboaa.PAll Go.Proofs.YtenhnlclnjnboaaW.PrintWords Go.Proofs.YtenhnlclnjnboaaW.PrintLast
set_option linter.unusedVariables false
set_option linter.unusedSimpArgs false

theorem day_ok (x : Int) (h0 : -9223372036854775808 ≤ x) (h1 : x ≤ 9223372036854775807) : ∃ r, mootmake_Day.f x = some (700000 + r) ∧ 0 ≤ r ∧ r < 40000 := by
  unfold mootmake_Day.f
  obtain ⟨r, hr, a, b⟩ := below_ok x 40000 h0 h1 (by omega) (by omega)
  rw [hr, Option.bind_some, w64 (by omega) (by omega)]
  exact ⟨r, rfl, a, b⟩
/-- What Entries makes: valid entries of six accounts, in order. -/
def madeE (e : S35) : Prop := 700000 ≤ e.f0 ∧ e.f0 ≤ 739000 ∧ 0 ≤ e.f1 ∧ e.f1 ≤ 5 ∧ 0 ≤ e.f2 ∧ e.f2 ≤ 5 ∧ e.f1 ≠ e.f2 ∧ 1 ≤ e.f3 ∧ e.f3 ≤ 500
theorem one_made (e : S35) (h : madeE e) : oneV e = 0 := by
  obtain ⟨h1, h2, h3, h4, h5, h6, h7, h8, h9⟩ := h
  unfold oneV
  rw [if_neg (by omega), if_neg h7, if_neg (by omega)]
theorem chk_snoc (l : List S35) (e : S35) (he : oneV e = 0) : ∀ p, chk p l = 0 → (∀ x ∈ l, x.f0 ≤ e.f0) → p ≤ e.f0 → chk p (l ++ [e]) = 0 := by
  induction l with
  | nil => intro p _ _ hp; simp [chk, he]; omega
  | cons x xs ih =>
    intro p h hx hp
    rw [List.cons_append, chk]
    rw [chk] at h
    split at h
    · rename_i c
      rw [if_pos c]
      split at h
      · omega
      · rename_i c2
        rw [if_neg c2]
        exact ih x.f0 h (fun y hy => hx y (by simp [hy])) (hx x (by simp))
    · exact absurd h (by assumption)
theorem entries_l0 (N : Nat) (hN : N ≤ 11) : ∀ (n i : Nat) (x : List S35) (d : Int) (s : List Int), i + n = N → x.length = i → wfL s → 700000 ≤ d → d ≤ 720000 + 40 * i → (∀ e ∈ x, madeE e ∧ e.f0 ≤ d) → chk 0 x = 0 →
    ∃ y, Ev (fun k => mootkeep4_Entries.l0 k x d (N : Int) (i : Int) s) y ∧ y.length = N ∧ (∀ e ∈ y, madeE e) ∧ chk 0 y = 0 := by
  intro n
  induction n with
  | zero =>
    intro i x d s h hx hs h1 h2 hm hc
    refine ⟨x, ?_, by omega, fun e he => (hm e he).1, hc⟩
    apply Ev.step
    · intro k; rw [mootkeep4_Entries.l0]
    · exact Ev.ite_neg (by omega) (Ev.now _)
  | succ n ih =>
    intro i x d s h hx hs h1 h2 hm hc
    obtain ⟨r1, s1, e1, a1, b1, _, w1⟩ := next_ok s 40 hs (by omega)
    obtain ⟨r2, s2, e2, a2, b2, _, w2⟩ := next_ok s1 6 w1 (by omega)
    obtain ⟨r3, s3, e3, a3, b3, _, w3⟩ := next_ok s2 5 w2 (by omega)
    obtain ⟨r4, s4, e4, a4, b4, _, w4⟩ := next_ok s3 500 w3 (by omega)
    have b1' := b1 (by omega)
    have b2' := b2 (by omega)
    have b3' := b3 (by omega)
    have b4' := b4 (by omega)
    have hmk : madeE (⟨d + r1, r2, (r2 + 1 + r3) % 6, 1 + r4⟩ : S35) := by refine ⟨?_, ?_, ?_, ?_, ?_, ?_, ?_, ?_, ?_⟩ <;> simp only <;> omega
    obtain ⟨y, hy, hl, hm', hc'⟩ := ih (i + 1) (x ++ [(⟨d + r1, r2, (r2 + 1 + r3) % 6, 1 + r4⟩ : S35)]) (d + r1) s4 (by omega) (by simp [hx]) w4 (by omega) (by omega)
      (fun e he => by
        rcases List.mem_append.1 he with he | he
        · have := hm e he; exact ⟨this.1, by omega⟩
        · rw [List.mem_singleton.1 he]; exact ⟨hmk, Int.le_refl _⟩)
      (chk_snoc x _ (one_made _ hmk) 0 hc (fun z hz => by have := (hm z hz).2; simp only; omega) (by simp only; omega))
    refine ⟨y, ?_, hl, hm', hc'⟩
    apply Ev.step
    · intro k; rw [mootkeep4_Entries.l0]
    · refine Ev.ite_pos (by omega) ?_
      simp only [e1, e2, e3, e4, Option.bind_some]
      rw [w64 (a := d + r1) (by omega) (by omega), w64 (a := r2 + 1) (by omega) (by omega), w64 (a := r2 + 1 + r3) (by omega) (by omega), w64 (a := 1 + r4) (by omega) (by omega), Int.tmod_eq_emod_of_nonneg (by omega),
        show wrap64 ((i : Int) + 1) = ((i + 1 : Nat) : Int) by rw [w64 (by omega) (by omega)]; omega]
      exact Ev.ite_pos (by omega) hy
theorem entries_ok (l : List Int) (hl : wfL l) : ∃ y, Ev (fun k => mootkeep4_Entries.f k l) y ∧ y.length ≤ 11 ∧ (∀ e ∈ y, madeE e) ∧ checkV y = 0 := by
  obtain ⟨r1, s1, e1, a1, b1, _, w1⟩ := next_ok l 20000 hl (by omega)
  obtain ⟨r2, s2, e2, a2, b2, _, w2⟩ := next_ok s1 12 w1 (by omega)
  have b1' := b1 (by omega)
  have b2' := b2 (by omega)
  obtain ⟨q, hq, q0, q1⟩ := day_ok r1 (by omega) (by omega)
  have hq2 : q = r1 := by
    unfold mootmake_Day.f mootmake_Below.f at hq
    rw [if_neg (by omega), Int.tmod_eq_emod_of_nonneg a1, if_neg (by omega), Option.bind_some, w64 (by omega) (by omega)] at hq
    have := Option.some.inj hq
    omega
  obtain ⟨N, rfl⟩ := Int.eq_ofNat_of_zero_le a2
  obtain ⟨y, hy, h1, h2, h3⟩ := entries_l0 N (by omega) N 0 [] (700000 + q) s2 (by omega) rfl w2 (by omega) (by omega) (by simp) rfl
  refine ⟨y, ?_, by omega, h2, ?_⟩
  · unfold mootkeep4_Entries.f
    simp only [e1, e2, hq, Option.bind_some]
    exact hy
  · unfold checkV; rw [if_neg (by omega)]; exact h3
theorem posted_ok : Ev (fun k => mootkeep4_posted.f k) true := Ev.of (mootkeep4_posted.mono) (k := 20) (by decide +kernel)
end Go.Proofs.Ytenhnlclnjnboaa.Pure
