import Derived.Test.YtbcaaocogphdeaaPCapx26
import Derived.Test.YtbcaaocogphdeaaPCapx44
import Derived.Test.YtbcaaocogphdeaaCapP
/- Plain lemmas: raw numbers from a stream (picked by pick.py out of this seat's other plain texts). -/
namespace Go.Proofs.Ytbcaaocogphdeaa.Pure
open Go.RowKit Go.Proofs.Ytbcaaocogphdeaa.PCap Go.Proofs.YtbcaaocogphdeaaW.PrintWords Go.Proofs.YtbcaaocogphdeaaW.PrintLast
set_option linter.unusedVariables false
set_option linter.unusedSimpArgs false

theorem below_ok (x n : Int) (h0 : -9223372036854775808 ≤ x) (h1 : x ≤ 9223372036854775807) (hn : 1 ≤ n) (hn2 : n ≤ 1000000000000) : ∃ r, mootmake_Below.f x n = some r ∧ 0 ≤ r ∧ r < n := by
  unfold mootmake_Below.f
  rw [if_neg (by omega)]
  have hm : x = n * (x.tdiv n) + x.tmod n := (Int.mul_tdiv_add_tmod x n).symm
  have hlt : x.tmod n < n := Int.tmod_lt_of_pos x (by omega)
  have hgt : -n < x.tmod n := by
    have := Int.lt_tmod_of_pos x (show 0 < n by omega)
    omega
  by_cases h : x.tmod n < 0
  · rw [if_pos h, w64 (by omega) (by omega)]
    exact ⟨_, rfl, by omega, by omega⟩
  · rw [if_neg h]
    exact ⟨_, rfl, by omega, by omega⟩
def wfL (l : List Int) : Prop := ∀ x ∈ l, (Lit.int .i64 x).wf = true
theorem wf_bd {x : Int} (h : (Lit.int .i64 x).wf = true) : -9223372036854775808 ≤ x ∧ x ≤ 9223372036854775807 := by
  simpa [Lit.wf, IntKind.min, IntKind.max, IntKind.signed, IntKind.bits] using h
theorem next_ok (l : List Int) (n : Int) (hl : wfL l) (hn2 : n ≤ 1000000000000) : ∃ r l', mootmake_Stream_Next.f l n = some (r, l') ∧ 0 ≤ r ∧ (1 ≤ n → r < n) ∧ (n < 1 → r = 0) ∧ wfL l' := by
  unfold mootmake_Stream_Next.f
  by_cases h1 : n < 1
  · rw [if_pos h1]; exact ⟨0, l, rfl, by omega, by omega, by omega, hl⟩
  · rw [if_neg h1]
    by_cases h2 : l.length = 0
    · rw [if_pos h2]; exact ⟨0, l, rfl, by omega, by omega, by omega, hl⟩
    · rw [if_neg h2]
      obtain ⟨x, xs, rfl⟩ : ∃ x xs, l = x :: xs := by cases l with
        | nil => simp at h2
        | cons x xs => exact ⟨x, xs, rfl⟩
      have hb := wf_bd (hl x (by simp))
      obtain ⟨r, hr, h3, h4⟩ := below_ok x n hb.1 hb.2 (by omega) hn2
      rw [show (x :: xs).getD 0 0 = x from rfl, hr]
      exact ⟨r, xs, rfl, h3, fun _ => h4, by omega, fun y hy => hl y (by simp [hy])⟩
end Go.Proofs.Ytbcaaocogphdeaa.Pure
