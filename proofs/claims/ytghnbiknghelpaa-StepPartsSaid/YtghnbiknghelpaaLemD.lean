import Derived.Test.YtghnbiknghelpaaPAllx40
import Derived.Test.YtghnbiknghelpaaPAllx41
import Derived.Test.YtghnbiknghelpaaPAllx42
import Derived.Test.YtghnbiknghelpaaPAllx43
import Derived.Test.YtghnbiknghelpaaPAllx44
import Derived.Test.YtghnbiknghelpaaLemC
namespace Go.Proofs.Ytghnbiknghelpaa.Pure
open Go.RowKit Go.Proofs.Ytghnbiknghelpaa.PAll Go.Proofs.YtghnbiknghelpaaW.PrintWords Go.Proofs.YtghnbiknghelpaaW.PrintLast
set_option linter.unusedVariables false
set_option linter.unusedSimpArgs false

/-! ### Procedures -/
abbrev St := Int × Int × Int × Int × Int
def byV (kind who : Int) : Bool := if kind = 2 ∨ kind = 3 then who == 2 else if kind = 5 then (who == 2 || who == 1) else who == 1
def afterV (is kind : Int) : Int :=
  if kind = 1 ∧ is = 0 then 1 else if kind = 2 ∧ (is = 1 ∨ is = 5 ∨ is = 6) then 2 else if kind = 3 ∧ is = 2 then 3 else if kind = 4 ∧ is = 3 then 5
  else if kind = 5 ∧ is = 4 then 6 else if kind = 6 ∧ is ≠ 0 ∧ is ≠ 3 ∧ is ≠ 4 ∧ is ≠ 7 then 7 else 0
def onV (m1 : Int) (s : St) (d : Int) : St := if s.1 = 3 ∧ d > m1 then (4, wrap64 (m1 + 1), s.2.2) else s
def baseV (n : Int) (s : St) : St := if n = 1 then (0, 0, 0, -1, 0) else s
def putV (n kind day : Int) (s : St) : Int × Int × Int × Int × Int × Int :=
  (n, day, (if kind = 1 ∨ kind = 4 ∨ kind = 5 then day else s.2.2.1), (if n = 3 then day else s.2.2.2.1), (if n = 3 then wrap64 (s.2.2.2.2 + 1) else s.2.2.2.2), 0)
def nextV (m1 m48 : Int) (s : St) (kind who day : Int) : Int × Int × Int × Int × Int × Int :=
  if kind < 1 ∨ kind > 6 ∨ day < 0 ∨ day > 1048575 then (0, 0, 0, 0, 0, 1) else if byV kind who = false then (0, 0, 0, 0, 0, 19)
  else if s.1 ≠ 0 ∧ day < s.2.1 then (0, 0, 0, 0, 0, 9)
  else if afterV (onV m1 s day).1 kind = 0 then (0, 0, 0, 0, 0, 7) else if kind = 5 ∧ day > m48 then (0, 0, 0, 0, 0, 18)
  else putV (afterV (onV m1 s day).1 kind) kind day (baseV (afterV (onV m1 s day).1 kind) (onV m1 s day))

theorem by_ok (kind who day : Int) : Ev (fun k => step_by.f k kind who day) (byV kind who) := by
  unfold step_by.f byV
  by_cases c2 : kind = 2
  · refine Ev.ite_pos c2 ?_
    refine Ev.res (if_pos (Or.inl c2)) ?_
    apply Ev.step
    · intro k; rw [step_by.j0]
    · exact Ev.ite_pos (by simp [c2]) (Ev.now _)
  · refine Ev.ite_neg c2 ?_
    by_cases c3 : kind = 3
    · refine Ev.res (if_pos (Or.inr c3)) ?_
      apply Ev.step
      · intro k; rw [step_by.j0]
      · exact Ev.ite_pos (by simp [c3]) (Ev.now _)
    · refine Ev.res (if_neg (by omega)) ?_
      apply Ev.step
      · intro k; rw [step_by.j0]
      · refine Ev.ite_neg (by simp [c3]) ?_
        by_cases c5 : kind = 5
        · refine Ev.res (if_pos c5) ?_
          refine Ev.ite_pos c5 ?_
          by_cases w2 : who = 2
          · exact Ev.ite_pos w2 (Ev.some_ (by simp [w2]))
          · exact Ev.ite_neg w2 (Ev.some_ (by simp [w2]))
        · refine Ev.res (if_neg c5) ?_
          exact Ev.ite_neg c5 (Ev.now _)
theorem on_ok (m1 : Int) (s : St) (d : Int) (h : Ev (fun k => day_Months.f k s.2.2.2.1 1) m1) : Ev (fun k => step_On.f k s.1 s.2.1 s.2.2.1 s.2.2.2.1 s.2.2.2.2 d) (onV m1 s d) := by
  unfold step_On.f onV
  refine Ev.bind h ?_
  by_cases c1 : s.1 = 3
  · refine Ev.ite_pos c1 ?_
    by_cases c2 : d > m1
    · refine Ev.res (if_pos ⟨c1, c2⟩) ?_; exact Ev.ite_pos c2 (Ev.now _)
    · refine Ev.res (if_neg (fun c => c2 c.2)) ?_; exact Ev.ite_neg c2 (Ev.now _)
  · refine Ev.res (if_neg (fun c => c1 c.1)) ?_; exact Ev.ite_neg c1 (Ev.now _)
theorem after_j4 (b : Bool) (a0 a1 a2 a3 a4 e0 e1 e2 : Int) : Ev (fun k => step_after.j4 k b a0 a1 a2 a3 a4 e0 e1 e2) (if b = true then 6 else if e0 = 6 ∧ a0 ≠ 0 ∧ a0 ≠ 3 ∧ a0 ≠ 4 ∧ a0 ≠ 7 then 7 else 0) := by
  apply Ev.step
  · intro k; rw [step_after.j4]
  · by_cases h : b = true
    · refine Ev.res (if_pos h) ?_; exact Ev.ite_pos h (Ev.now _)
    · refine Ev.res (if_neg h) ?_; refine Ev.ite_neg h ?_
      by_cases c : e0 = 6
      · refine Ev.ite_pos c ?_
        by_cases c0 : a0 = 0
        · exact Ev.ite_pos c0 (Ev.some_ (by rw [if_neg (by omega)]))
        · refine Ev.ite_neg c0 ?_
          by_cases c3 : a0 = 3
          · exact Ev.ite_pos c3 (Ev.some_ (by rw [if_neg (by omega)]))
          · refine Ev.ite_neg c3 ?_
            by_cases c4 : a0 = 4
            · exact Ev.ite_pos c4 (Ev.some_ (by rw [if_neg (by omega)]))
            · refine Ev.ite_neg c4 ?_
              by_cases c7 : a0 = 7
              · exact Ev.ite_pos c7 (Ev.some_ (by rw [if_neg (by omega)]))
              · exact Ev.ite_neg c7 (Ev.some_ (by rw [if_pos (by omega)]))
      · exact Ev.ite_neg c (Ev.some_ (by rw [if_neg (by omega)]))
theorem after_j3 (b : Bool) (a0 a1 a2 a3 a4 e0 e1 e2 r : Int) (h1 : b = true → r = 5) (h2 : ¬ b = true → r = (if e0 = 5 ∧ a0 = 4 then 6 else if e0 = 6 ∧ a0 ≠ 0 ∧ a0 ≠ 3 ∧ a0 ≠ 4 ∧ a0 ≠ 7 then 7 else 0)) : Ev (fun k => step_after.j3 k b a0 a1 a2 a3 a4 e0 e1 e2) r := by
  apply Ev.step
  · intro k; rw [step_after.j3]
  · by_cases h : b = true
    · exact Ev.ite_pos h (Ev.some_ (h1 h).symm)
    · refine Ev.ite_neg h ?_
      rw [h2 h]
      by_cases c : e0 = 5
      · refine Ev.ite_pos c ?_
        have e := after_j4 (a0 == 4) a0 a1 a2 a3 a4 e0 e1 e2
        simpa [c] using e
      · refine Ev.ite_neg c ?_
        have e := after_j4 false a0 a1 a2 a3 a4 e0 e1 e2
        simpa [c] using e
theorem after_j2 (b : Bool) (a0 a1 a2 a3 a4 e0 e1 e2 r : Int) (h1 : b = true → r = 3) (h2 : ¬ b = true → r = (if e0 = 4 ∧ a0 = 3 then 5 else if e0 = 5 ∧ a0 = 4 then 6 else if e0 = 6 ∧ a0 ≠ 0 ∧ a0 ≠ 3 ∧ a0 ≠ 4 ∧ a0 ≠ 7 then 7 else 0)) : Ev (fun k => step_after.j2 k b a0 a1 a2 a3 a4 e0 e1 e2) r := by
  apply Ev.step
  · intro k; rw [step_after.j2]
  · by_cases h : b = true
    · exact Ev.ite_pos h (Ev.some_ (h1 h).symm)
    · refine Ev.ite_neg h ?_
      by_cases c : e0 = 4
      · refine Ev.ite_pos c (after_j3 _ _ _ _ _ _ _ _ _ _ (fun q => ?_) (fun q => ?_))
        · rw [h2 h, if_pos ⟨c, by simpa using q⟩]
        · rw [h2 h, if_neg (fun z => q (by simpa using z.2))]
      · refine Ev.ite_neg c (after_j3 _ _ _ _ _ _ _ _ _ _ (fun q => by cases q) (fun q => ?_))
        rw [h2 h, if_neg (fun z => c z.1)]
theorem after_j1 (b : Bool) (a0 a1 a2 a3 a4 e0 e1 e2 r : Int) (h1 : b = true → r = 2) (h2 : ¬ b = true → r = (if e0 = 3 ∧ a0 = 2 then 3 else if e0 = 4 ∧ a0 = 3 then 5 else if e0 = 5 ∧ a0 = 4 then 6 else if e0 = 6 ∧ a0 ≠ 0 ∧ a0 ≠ 3 ∧ a0 ≠ 4 ∧ a0 ≠ 7 then 7 else 0)) : Ev (fun k => step_after.j1 k b a0 a1 a2 a3 a4 e0 e1 e2) r := by
  apply Ev.step
  · intro k; rw [step_after.j1]
  · by_cases h : b = true
    · exact Ev.ite_pos h (Ev.some_ (h1 h).symm)
    · refine Ev.ite_neg h ?_
      by_cases c : e0 = 3
      · refine Ev.ite_pos c (after_j2 _ _ _ _ _ _ _ _ _ _ (fun q => ?_) (fun q => ?_))
        · rw [h2 h, if_pos ⟨c, by simpa using q⟩]
        · rw [h2 h, if_neg (fun z => q (by simpa using z.2))]
      · refine Ev.ite_neg c (after_j2 _ _ _ _ _ _ _ _ _ _ (fun q => by cases q) (fun q => ?_))
        rw [h2 h, if_neg (fun z => c z.1)]
theorem after_j0 (b : Bool) (a0 a1 a2 a3 a4 e0 e1 e2 r : Int) (h1 : b = true → r = 1) (h2 : ¬ b = true → r = (if e0 = 2 ∧ (a0 = 1 ∨ a0 = 5 ∨ a0 = 6) then 2 else if e0 = 3 ∧ a0 = 2 then 3 else if e0 = 4 ∧ a0 = 3 then 5 else if e0 = 5 ∧ a0 = 4 then 6 else if e0 = 6 ∧ a0 ≠ 0 ∧ a0 ≠ 3 ∧ a0 ≠ 4 ∧ a0 ≠ 7 then 7 else 0)) : Ev (fun k => step_after.j0 k b a0 a1 a2 a3 a4 e0 e1 e2) r := by
  apply Ev.step
  · intro k; rw [step_after.j0]
  · by_cases h : b = true
    · exact Ev.ite_pos h (Ev.some_ (h1 h).symm)
    · refine Ev.ite_neg h ?_
      by_cases c : e0 = 2
      · refine Ev.ite_pos c ?_
        by_cases c1 : a0 = 1
        · exact Ev.ite_pos c1 (after_j1 _ _ _ _ _ _ _ _ _ _ (fun _ => by rw [h2 h, if_pos ⟨c, Or.inl c1⟩]) (fun q => absurd rfl q))
        · refine Ev.ite_neg c1 ?_
          by_cases c5 : a0 = 5
          · exact Ev.ite_pos c5 (after_j1 _ _ _ _ _ _ _ _ _ _ (fun _ => by rw [h2 h, if_pos ⟨c, Or.inr (Or.inl c5)⟩]) (fun q => absurd rfl q))
          · refine Ev.ite_neg c5 (after_j1 _ _ _ _ _ _ _ _ _ _ (fun q => ?_) (fun q => ?_))
            · rw [h2 h, if_pos ⟨c, Or.inr (Or.inr (by simpa using q))⟩]
            · rw [h2 h, if_neg (fun z => z.2.elim c1 (fun z => z.elim c5 (fun z => q (by simpa using z))))]
      · refine Ev.ite_neg c (after_j1 _ _ _ _ _ _ _ _ _ _ (fun q => by cases q) (fun q => ?_))
        rw [h2 h, if_neg (fun z => c z.1)]
theorem after_ok (a0 a1 a2 a3 a4 e0 e1 e2 : Int) : Ev (fun k => step_after.f k a0 a1 a2 a3 a4 e0 e1 e2) (afterV a0 e0) := by
  unfold step_after.f afterV
  by_cases c : e0 = 1
  · refine Ev.ite_pos c (after_j0 _ _ _ _ _ _ _ _ _ _ (fun q => ?_) (fun q => ?_))
    · rw [if_pos ⟨c, by simpa using q⟩]
    · rw [if_neg (fun z => q (by simpa using z.2))]
  · refine Ev.ite_neg c (after_j0 _ _ _ _ _ _ _ _ _ _ (fun q => by cases q) (fun q => ?_))
    rw [if_neg (fun z => c z.1)]
theorem onV_dec (m1 : Int) (s : St) (d : Int) : (onV m1 s d).2.2 = s.2.2 := by unfold onV; split <;> rfl
theorem next_j4 (x6 : Int) (b : Bool) (s : St) (e0 e1 e2 : Int) (hb : b = decide (e0 = 1 ∨ e0 = 4 ∨ e0 = 5)) : Ev (fun k => step_Next.j4 k x6 b s.1 s.2.1 s.2.2.1 s.2.2.2.1 s.2.2.2.2 e0 e1 e2) (putV x6 e0 e2 s) := by
  subst hb
  apply Ev.step
  · intro k; rw [step_Next.j4]
  · by_cases h : e0 = 1 ∨ e0 = 4 ∨ e0 = 5
    · refine Ev.ite_pos (decide_eq_true h) ?_
      by_cases c : x6 = 3
      · exact Ev.ite_pos c (Ev.some_ (by simp [putV, h, c]))
      · exact Ev.ite_neg c (Ev.some_ (by simp [putV, h, c]))
    · refine Ev.ite_neg (by rw [decide_eq_false h]; exact Bool.false_ne_true) ?_
      by_cases c : x6 = 3
      · exact Ev.ite_pos c (Ev.some_ (by simp [putV, h, c]))
      · exact Ev.ite_neg c (Ev.some_ (by simp [putV, h, c]))
theorem next_j3 (x6 : Int) (s : St) (e0 e1 e2 : Int) : Ev (fun k => step_Next.j3 k x6 s.1 s.2.1 s.2.2.1 s.2.2.2.1 s.2.2.2.2 e0 e1 e2) (putV x6 e0 e2 s) := by
  apply Ev.step
  · intro k; rw [step_Next.j3]
  · by_cases c1 : e0 = 1
    · exact Ev.ite_pos c1 (next_j4 x6 true s e0 e1 e2 (by simp [c1]))
    · refine Ev.ite_neg c1 ?_
      by_cases c4 : e0 = 4
      · exact Ev.ite_pos c4 (next_j4 x6 true s e0 e1 e2 (by simp [c4]))
      · exact Ev.ite_neg c4 (next_j4 x6 _ s e0 e1 e2 (by simp only [c1, c4, false_or]; rw [Bool.eq_iff_iff]; simp))
theorem next_j2 (x6 : Int) (b : Bool) (s : St) (e0 e1 e2 : Int) : Ev (fun k => step_Next.j2 k x6 b s.1 s.2.1 s.2.2.1 s.2.2.2.1 s.2.2.2.2 e0 e1 e2) (if b = true then (0, 0, 0, 0, 0, 18) else putV x6 e0 e2 (baseV x6 s)) := by
  apply Ev.step
  · intro k; rw [step_Next.j2]
  · by_cases h : b = true
    · refine Ev.res (if_pos h) ?_; exact Ev.ite_pos h (Ev.now _)
    · refine Ev.res (if_neg h) ?_; refine Ev.ite_neg h ?_
      by_cases c : x6 = 1
      · refine Ev.res (show putV x6 e0 e2 (baseV x6 s) = putV x6 e0 e2 (0, 0, 0, -1, 0) by rw [baseV, if_pos c]) ?_; exact Ev.ite_pos c (next_j3 x6 (0, 0, 0, -1, 0) e0 e1 e2)
      · refine Ev.res (show putV x6 e0 e2 (baseV x6 s) = putV x6 e0 e2 s by rw [baseV, if_neg c]) ?_; exact Ev.ite_neg c (next_j3 x6 s e0 e1 e2)
theorem next_j1 (m1 m48 : Int) (s : St) (e0 e1 e2 : Int) (h1 : Ev (fun k => day_Months.f k s.2.2.2.1 1) m1) (h48 : Ev (fun k => day_Months.f k s.2.2.2.1 48) m48) :
    Ev (fun k => step_Next.j1 k s.1 s.2.1 s.2.2.1 s.2.2.2.1 s.2.2.2.2 e0 e1 e2) (if afterV (onV m1 s e2).1 e0 = 0 then (0, 0, 0, 0, 0, 7) else if e0 = 5 ∧ e2 > m48 then (0, 0, 0, 0, 0, 18)
      else putV (afterV (onV m1 s e2).1 e0) e0 e2 (baseV (afterV (onV m1 s e2).1 e0) (onV m1 s e2))) := by
  apply Ev.step
  · intro k; rw [step_Next.j1]
  · refine Ev.bind (on_ok m1 s e2 h1) (Ev.bind (after_ok _ _ _ _ _ _ _ _) ?_)
    by_cases c0 : afterV (onV m1 s e2).1 e0 = 0
    · refine Ev.res (if_pos c0) ?_; exact Ev.ite_pos c0 (Ev.now _)
    · refine Ev.res (if_neg c0) ?_; refine Ev.ite_neg c0 ?_
      by_cases c5 : e0 = 5
      · refine Ev.ite_pos c5 ?_
        have hd : (onV m1 s e2).2.2.2.1 = s.2.2.2.1 := by rw [onV_dec]
        rw [hd]
        refine Ev.bind h48 ?_
        have e := next_j2 (afterV (onV m1 s e2).1 e0) (decide (e2 > m48)) (onV m1 s e2) e0 e1 e2
        rw [hd] at e
        by_cases c : e2 > m48
        · refine Ev.res (if_pos ⟨c5, c⟩) ?_; rw [if_pos (decide_eq_true c)] at e; exact e
        · refine Ev.res (if_neg (fun z => c z.2)) ?_; rw [if_neg (by simpa using c)] at e; exact e
      · refine Ev.ite_neg c5 ?_
        refine Ev.res (if_neg (fun z => c5 z.1)) ?_
        exact next_j2 (afterV (onV m1 s e2).1 e0) false (onV m1 s e2) e0 e1 e2
theorem next_ok1 (m1 m48 : Int) (s : St) (e0 e1 e2 : Int) (h1 : Ev (fun k => day_Months.f k s.2.2.2.1 1) m1) (h48 : Ev (fun k => day_Months.f k s.2.2.2.1 48) m48) :
    Ev (fun k => step_Next.f k s.1 s.2.1 s.2.2.1 s.2.2.2.1 s.2.2.2.2 e0 e1 e2) (nextV m1 m48 s e0 e1 e2) := by
  have j0t : Ev (fun k => step_Next.j0 k true s.1 s.2.1 s.2.2.1 s.2.2.2.1 s.2.2.2.2 e0 e1 e2) (0, 0, 0, 0, 0, 1) := by
    apply Ev.step
    · intro k; rw [step_Next.j0]
    · exact Ev.ite_pos rfl (Ev.now _)
  unfold step_Next.f nextV
  by_cases c1 : e0 < 1
  · refine Ev.res (if_pos (Or.inl c1)) ?_; exact Ev.ite_pos c1 j0t
  · refine Ev.ite_neg c1 ?_
    by_cases c2 : e0 > 6
    · refine Ev.res (if_pos (Or.inr (Or.inl c2))) ?_; exact Ev.ite_pos c2 j0t
    · refine Ev.ite_neg c2 ?_
      by_cases c3 : e2 < 0
      · refine Ev.res (if_pos (Or.inr (Or.inr (Or.inl c3)))) ?_; exact Ev.ite_pos c3 j0t
      · refine Ev.ite_neg c3 ?_
        by_cases c4 : e2 > 1048575
        · refine Ev.res (if_pos (Or.inr (Or.inr (Or.inr c4)))) ?_; rw [decide_eq_true c4]; exact j0t
        · refine Ev.res (if_neg (by omega)) ?_; rw [decide_eq_false c4]
          apply Ev.step
          · intro k; rw [step_Next.j0]
          · refine Ev.ite_neg (by decide) (Ev.bind (by_ok e0 e1 e2) ?_)
            by_cases cb : byV e0 e1 = true
            · refine Ev.res (if_neg (by rw [cb]; decide)) ?_
              refine Ev.ite_pos cb ?_
              by_cases cz : s.1 = 0
              · refine Ev.res (if_neg (fun z => z.1 cz)) ?_
                exact Ev.ite_pos cz (next_j1 m1 m48 s e0 e1 e2 h1 h48)
              · refine Ev.ite_neg cz ?_
                by_cases cd : e2 < s.2.1
                · refine Ev.res (if_pos ⟨cz, cd⟩) ?_; exact Ev.ite_pos cd (Ev.now _)
                · refine Ev.res (if_neg (fun z => cd z.2)) ?_
                  exact Ev.ite_neg cd (next_j1 m1 m48 s e0 e1 e2 h1 h48)
            · refine Ev.res (if_pos (by simpa using cb)) ?_; exact Ev.ite_neg cb (Ev.now _)
end Go.Proofs.Ytghnbiknghelpaa.Pure
