/- Plain lemmas: the reference follows a procedure as the program plays it. -/
import Derived.Test.YtghnbiknghelpaaPStpx0
import Derived.Test.YtghnbiknghelpaaPStpx22
import Derived.Test.YtghnbiknghelpaaPStpx23
import Derived.Test.YtghnbiknghelpaaPStpx24
import Derived.Test.YtghnbiknghelpaaStpQ
namespace Go.Proofs.Ytghnbiknghelpaa.Pure
open Go.RowKit Go.Proofs.Ytghnbiknghelpaa.PStp Go.Proofs.YtghnbiknghelpaaW.PrintWords Go.Proofs.YtghnbiknghelpaaW.PrintLast
set_option linter.unusedVariables false
set_option linter.unusedSimpArgs false

/-- A state that may come up: its number, when it was asked for. -/
def okS (s : St) : Prop := 0 ≤ s.1 ∧ s.1 ≤ 7 ∧ 0 ≤ s.2.2.1 ∧ s.2.2.1 ≤ 1048575
theorem after_bd (is kind : Int) : 0 ≤ afterV is kind ∧ afterV is kind ≤ 7 := by
  unfold afterV
  repeat' split
  all_goals omega
theorem map_ok (kind is : Int) (h1 : 1 ≤ kind) (h2 : kind ≤ 6) (h3 : 0 ≤ is) (h4 : is ≤ 7) : maplit41.f kind is = some (afterV is kind) := by
  have hw : maplit41.wfK (kind, is) = true := by
    unfold maplit41.wfK maplit41.i64
    simp only [Bool.and_eq_true, decide_eq_true_eq]
    omega
  unfold maplit41.f
  rw [if_pos hw]
  have hk : kind = 1 ∨ kind = 2 ∨ kind = 3 ∨ kind = 4 ∨ kind = 5 ∨ kind = 6 := by omega
  have hi : is = 0 ∨ is = 1 ∨ is = 2 ∨ is = 3 ∨ is = 4 ∨ is = 5 ∨ is = 6 ∨ is = 7 := by omega
  rcases hk with rfl | rfl | rfl | rfl | rfl | rfl <;> rcases hi with rfl | rfl | rfl | rfl | rfl | rfl | rfl | rfl <;> rfl
theorem onV_ok {s : St} (h : okS s) (m d : Int) : okS (onV m s d) := by
  unfold onV
  split
  · exact ⟨by show (0 : Int) ≤ 4; omega, by show (4 : Int) ≤ 7; omega, h.2.2.1, h.2.2.2⟩
  · exact h
theorem later_ok (s : St) (d : Int) : Ev (fun k => mootref4_Course_Later.f k s.1 s.2.1 s.2.2.1 s.2.2.2.1 s.2.2.2.2 d) (on s d) := by
  unfold mootref4_Course_Later.f on onV
  by_cases c1 : s.1 = 3
  · refine Ev.ite_pos c1 (Ev.bind (mon_ok _ _) ?_)
    by_cases c2 : d > mon s.2.2.2.1 1
    · refine Ev.res (if_pos ⟨c1, c2⟩) (Ev.ite_pos c2 (Ev.bind (mon_ok _ _) (Ev.now _)))
    · refine Ev.res (if_neg (fun c => c2 c.2)) (Ev.ite_neg c2 (Ev.now _))
  · exact Ev.res (if_neg (fun c => c1 c.1)) (Ev.ite_neg c1 (Ev.now _))
theorem next_okS {s : St} (h : okS s) (kind who day : Int) (he : err (nx s kind who day) = 0) : okS (stOf (nx s kind who day)) := by
  unfold nx nextV at he ⊢
  by_cases c1 : kind < 1 ∨ kind > 6 ∨ day < 0 ∨ day > 1048575
  · rw [if_pos c1] at he; simp [err] at he
  · rw [if_neg c1] at he ⊢
    by_cases c2 : byV kind who = false
    · rw [if_pos c2] at he; simp [err] at he
    · rw [if_neg c2] at he ⊢
      by_cases c3 : s.1 ≠ 0 ∧ day < s.2.1
      · rw [if_pos c3] at he; simp [err] at he
      · rw [if_neg c3] at he ⊢
        generalize hs : onV (mon s.2.2.2.1 1) s day = s1 at he ⊢
        have h1 : okS s1 := hs ▸ onV_ok h _ _
        generalize hn : afterV s1.1 kind = n at he ⊢
        have hb := after_bd s1.1 kind
        rw [hn] at hb
        by_cases c4 : n = 0
        · rw [if_pos c4] at he; simp [err] at he
        · rw [if_neg c4] at he ⊢
          by_cases c5 : kind = 5 ∧ day > mon s.2.2.2.1 48
          · rw [if_pos c5] at he; simp [err] at he
          · rw [if_neg c5]
            have hbase : 0 ≤ (baseV n s1).2.2.1 ∧ (baseV n s1).2.2.1 ≤ 1048575 := by
              unfold baseV
              split
              · exact ⟨by show (0 : Int) ≤ 0; omega, by show (0 : Int) ≤ 1048575; omega⟩
              · exact h1.2.2
            refine ⟨hb.1, hb.2, ?_, ?_⟩
            · show 0 ≤ if kind = 1 ∨ kind = 4 ∨ kind = 5 then day else (baseV n s1).2.2.1
              split <;> omega
            · show (if kind = 1 ∨ kind = 4 ∨ kind = 5 then day else (baseV n s1).2.2.1) ≤ 1048575
              split <;> omega
/-- What the reference asks of who acts. -/
def banV (kind who : Int) : Bool := !(byV kind who)
theorem fol_j1 (kind who day : Int) (l : List S73) (n i : Int) (s : St) (r : Int × Int × Int × Int × Int × Int) (h1 : 1 ≤ kind) (h2 : kind ≤ 6)
    (h : Ev (fun k => mootref4_Follow.j2 k kind day l n i (banV kind who) s.1 s.2.1 s.2.2.1 s.2.2.2.1 s.2.2.2.2) r) : Ev (fun k => mootref4_Follow.j1 k kind who day l n i false s.1 s.2.1 s.2.2.1 s.2.2.2.1 s.2.2.2.2) r := by
  apply Ev.step
  · intro k; rw [mootref4_Follow.j1]
  · refine Ev.ite_neg (by simp) ?_
    have hk : kind = 1 ∨ kind = 2 ∨ kind = 3 ∨ kind = 4 ∨ kind = 5 ∨ kind = 6 := by omega
    rcases hk with rfl | rfl | rfl | rfl | rfl | rfl
    · simp only [show ¬ ((1 : Int) = 2) by omega, show ¬ ((1 : Int) = 3) by omega, show ¬ ((1 : Int) = 5) by omega, if_false, if_true]
      exact Ev.congr (fun k => by rw [show (who != 1) = banV 1 who by simp [banV, byV, bne]]) h
    · simp only [show ¬ ((2 : Int) = 3) by omega, show ¬ ((2 : Int) = 5) by omega, show ¬ ((2 : Int) = 1) by omega, show ¬ ((2 : Int) = 4) by omega, show ¬ ((2 : Int) = 6) by omega, if_false, if_true]
      by_cases c : who = 2
      · exact Ev.ite_pos c (Ev.congr (fun k => by rw [show (false : Bool) = banV 2 who by simp [banV, byV, c]]) h)
      · exact Ev.ite_neg c (Ev.congr (fun k => by rw [show (true : Bool) = banV 2 who by simp [banV, byV, c]]) h)
    · simp only [show ¬ ((3 : Int) = 2) by omega, show ¬ ((3 : Int) = 5) by omega, show ¬ ((3 : Int) = 1) by omega, show ¬ ((3 : Int) = 4) by omega, show ¬ ((3 : Int) = 6) by omega, if_false, if_true]
      by_cases c : who = 2
      · exact Ev.ite_pos c (Ev.congr (fun k => by rw [show (false : Bool) = banV 3 who by simp [banV, byV, c]]) h)
      · exact Ev.ite_neg c (Ev.congr (fun k => by rw [show (true : Bool) = banV 3 who by simp [banV, byV, c]]) h)
    · simp only [show ¬ ((4 : Int) = 2) by omega, show ¬ ((4 : Int) = 3) by omega, show ¬ ((4 : Int) = 5) by omega, show ¬ ((4 : Int) = 1) by omega, if_false, if_true]
      exact Ev.congr (fun k => by rw [show (who != 1) = banV 4 who by simp [banV, byV, bne]]) h
    · simp only [show ¬ ((5 : Int) = 2) by omega, show ¬ ((5 : Int) = 3) by omega, show ¬ ((5 : Int) = 1) by omega, show ¬ ((5 : Int) = 4) by omega, show ¬ ((5 : Int) = 6) by omega, if_false, if_true]
      by_cases c : who = 1
      · exact Ev.ite_pos c (Ev.congr (fun k => by rw [show (false : Bool) = banV 5 who by simp [banV, byV, c]]) h)
      · refine Ev.ite_neg c ?_
        by_cases c2 : who = 2
        · exact Ev.ite_pos c2 (Ev.congr (fun k => by rw [show (false : Bool) = banV 5 who by simp [banV, byV, c2]]) h)
        · exact Ev.ite_neg c2 (Ev.congr (fun k => by rw [show (true : Bool) = banV 5 who by simp [banV, byV, c, c2]]) h)
    · simp only [show ¬ ((6 : Int) = 2) by omega, show ¬ ((6 : Int) = 3) by omega, show ¬ ((6 : Int) = 5) by omega, show ¬ ((6 : Int) = 1) by omega, show ¬ ((6 : Int) = 4) by omega, if_false, if_true]
      exact Ev.congr (fun k => by rw [show (who != 1) = banV 6 who by simp [banV, byV, bne]]) h
end Go.Proofs.Ytghnbiknghelpaa.Pure
