/- Apply answers as its reference tells: at all payments and all offsets. -/
import Derived.Test.YtbcaaocogphdeaaPAllx0
import Derived.Test.YtbcaaocogphdeaaPAllx4
import Derived.Test.YtbcaaocogphdeaaPAllx29
import Derived.Test.YtbcaaocogphdeaaPAllx38
import Derived.Test.YtbcaaocogphdeaaPAllx39
import Derived.Test.YtbcaaocogphdeaaPAllx40
import Derived.Test.YtbcaaocogphdeaaPAllx42
import Derived.Test.YtbcaaocogphdeaaPAllx43
import Derived.Test.YtbcaaocogphdeaaPAllx44
import Derived.Test.YtbcaaocogphdeaaLemF
namespace Go.Proofs.Ytbcaaocogphdeaa.Pure
open Go.RowKit Go.Proofs.Ytbcaaocogphdeaa.PAll Go.Proofs.YtbcaaocogphdeaaW.PrintWords Go.Proofs.YtbcaaocogphdeaaW.PrintLast
set_option linter.unusedVariables false
set_option linter.unusedSimpArgs false

theorem Ev.const_ {α : Type} {g : Option α} {r : α} (h : g = some r) : Ev (fun _ => g) r := ⟨0, fun _ _ => h⟩
theorem equal_l0 (x : List S32) (hx : x.length ≤ 100000) : ∀ (n i : Nat), i + n = x.length → Ev (fun k => api_Pay_22.l0 k x x (x.length : Int) (i : Int)) true := by
  intro n
  induction n with
  | zero =>
    intro i hi
    apply Ev.step
    · intro k; rw [api_Pay_22.l0]
    · exact Ev.ite_neg (by omega) (Ev.now _)
  | succ n ih =>
    intro i hi
    apply Ev.step
    · intro k; rw [api_Pay_22.l0]
    · refine Ev.ite_pos (by omega) (Ev.ite_pos (by omega) (Ev.ite_pos (by omega) (Ev.ite_pos (by omega) (Ev.ite_neg (by simp) ?_))))
      rw [next_i hi hx]
      exact ih (i + 1) (by omega)
theorem equal_self (x : List S32) (hx : x.length ≤ 100000) : Ev (fun k => api_Pay_22.f k x x) true := by
  have := equal_l0 x hx x.length 0 (by omega)
  exact Ev.congr (fun k => by unfold api_Pay_22.f; rw [if_pos rfl]; rfl) this
theorem idx_range (f0 f1 f2 : Int) : ∀ (l : List S32) (i : Int), idx_from f0 f1 f2 l i = -1 ∨ (i ≤ idx_from f0 f1 f2 l i ∧ idx_from f0 f1 f2 l i < i + l.length)
  | [], i => Or.inl rfl
  | p :: r, i => by
    unfold idx_from
    split
    · right; simp only [List.length_cons]; omega
    · rcases idx_range f0 f1 f2 r (i + 1) with h | h
      · exact Or.inl h
      · right; simp only [List.length_cons]; omega
/-- The reference's search comes to where IndexFunc comes. -/
theorem scan (z : List S32) (e0 : Int) (x : List S32) (hx : x.length ≤ 1000) (l : List S39) (nl i f0 f1 f2 t : Int)
    (he : Ev (fun k => mootlaw4_BackApplies.j2 k z e0 x (if t < 0 then (x.length : Int) else t) l nl i false f0 f1 f2) true) : ∀ (n j : Nat), j + n = x.length → idx_from f0 f1 f2 (x.drop j) (j : Int) = t →
    Ev (fun k => mootlaw4_BackApplies.l1 k z e0 x (j : Int) l nl i f0 f1 f2) true := by
  intro n
  induction n with
  | zero =>
    intro j hj ht
    rw [List.drop_of_length_le (by omega)] at ht
    unfold idx_from at ht
    rw [if_pos (by omega)] at he
    apply Ev.step
    · intro k; rw [mootlaw4_BackApplies.l1]
    · refine Ev.ite_neg (by omega) ?_
      rw [show (j : Int) = (x.length : Int) by omega]
      exact he
  | succ n ih =>
    intro j hj ht
    have hd := drop_rd x j (by omega)
    have hnext := ih (j + 1) (by omega)
    rw [hd] at ht
    unfold idx_from at ht
    have step : ∀ b : Bool, b = true → idx_hit f0 f1 f2 (rd_T32 x (j : Int)) = false → Ev (fun k => mootlaw4_BackApplies.j2 k z e0 x (j : Int) l nl i b f0 f1 f2) true := by
      intro b hb hh
      rw [hh] at ht
      apply Ev.step
      · intro k; rw [mootlaw4_BackApplies.j2]
      · refine Ev.ite_pos hb ?_
        rw [next_i hj (by omega)]
        exact hnext (by simpa using ht)
    apply Ev.step
    · intro k; rw [mootlaw4_BackApplies.l1]
    · refine Ev.ite_pos (by omega) (Ev.ite_pos (by omega) ?_)
      generalize hp : rd_T32 x (j : Int) = p at *
      by_cases c0 : p.f0 = f0
      · refine Ev.ite_pos c0 ?_
        by_cases c1 : p.f1 = f1
        · refine Ev.ite_pos c1 ?_
          by_cases c2 : p.f2 < f2
          · exact step _ (decide_eq_true c2) (by unfold idx_hit; exact decide_eq_false (by omega))
          · rw [show decide (p.f2 < f2) = false from decide_eq_false c2]
            rw [if_pos (by unfold idx_hit; exact decide_eq_true ⟨c0, c1, by omega⟩)] at ht
            rw [if_neg (by omega)] at he
            rw [ht]
            exact he
        · exact Ev.ite_neg c1 (step _ rfl (by unfold idx_hit; exact decide_eq_false (by omega)))
      · exact Ev.ite_neg c0 (step _ rfl (by unfold idx_hit; exact decide_eq_false (by omega)))
theorem applies (l : List S39) (hl : l.length ≤ 140737488351232) : ∀ (n i : Nat) (x : List S32), i + n = l.length → x.length ≤ 1000 → ∃ r : List S32 × Int, Ev (fun k => back_Apply.l0 k x l (l.length : Int) (i : Int)) r ∧ Ev (fun k => mootlaw4_BackApplies.l0 k r.1 r.2 x l (l.length : Int) (i : Int)) true := by
  intro n
  induction n with
  | zero =>
    intro i x hi hx
    refine ⟨(x, 0), ?_, ?_⟩
    · apply Ev.step
      · intro k; rw [back_Apply.l0]
      · exact Ev.ite_neg (by omega) (Ev.now _)
    · apply Ev.step
      · intro k; rw [mootlaw4_BackApplies.l0]
      · exact Ev.ite_neg (by omega) (Ev.ite_pos rfl (Ev.bind (equal_self x (by omega)) (Ev.now _)))
  | succ n ih =>
    intro i x hi hx
    obtain ⟨o, ho⟩ : ∃ o, o = rd_T39 l (i : Int) := ⟨_, rfl⟩
    obtain ⟨t, ht⟩ : ∃ t, t = idx_from o.f0 o.f1 o.f2 x 0 := ⟨_, rfl⟩
    have hr := idx_range o.f0 o.f1 o.f2 x 0
    rw [← ht] at hr
    have hix : Ev (fun _ => api_Pay_49.f x o.f0 o.f1 o.f2) t := Ev.const_ (by unfold api_Pay_49.f; rw [if_pos (by omega), ht])
    have hw : wrap64 ((i : Int) + 1) = ((i + 1 : Nat) : Int) := by rw [w64 (by omega) (by omega)]; omega
    -- the reference, from where the search ends
    have hscan : ∀ (r : List S32 × Int), Ev (fun k => mootlaw4_BackApplies.j2 k r.1 r.2 x (if t < 0 then (x.length : Int) else t) l (l.length : Int) (i : Int) false o.f0 o.f1 o.f2) true → Ev (fun k => mootlaw4_BackApplies.l0 k r.1 r.2 x l (l.length : Int) (i : Int)) true := by
      intro r h
      apply Ev.step
      · intro k; rw [mootlaw4_BackApplies.l0]
      · refine Ev.ite_pos (by omega) (Ev.ite_pos (by omega) (Ev.ite_pos (by omega) ?_))
        rw [← ho]
        exact scan r.1 r.2 x hx l _ _ _ _ _ t h x.length 0 (by omega) (by rw [ht]; rfl)
    by_cases c : t < 0
    · refine ⟨([], 4), ?_, hscan _ ?_⟩
      · apply Ev.step
        · intro k; rw [back_Apply.l0]
        · refine Ev.ite_pos (by omega) (Ev.ite_pos (by omega) (Ev.ite_pos (by omega) ?_))
          rw [← ho]
          exact Ev.bind hix (Ev.ite_pos c (Ev.now _))
      · rw [if_pos c]
        apply Ev.step
        · intro k; rw [mootlaw4_BackApplies.j2]
        · refine Ev.ite_neg (by simp) (Ev.ite_pos rfl ?_)
          apply Ev.step
          · intro k; rw [mootlaw4_BackApplies.j3]
          · exact Ev.ite_pos rfl (Ev.ite_pos rfl (Ev.const_ (by simp)))
    · by_cases c2 : o.f2 < 0
      · refine ⟨([], 4), ?_, hscan _ ?_⟩
        · apply Ev.step
          · intro k; rw [back_Apply.l0]
          · refine Ev.ite_pos (by omega) (Ev.ite_pos (by omega) (Ev.ite_pos (by omega) ?_))
            rw [← ho]
            exact Ev.bind hix (Ev.ite_neg c (Ev.ite_pos c2 (Ev.now _)))
        · rw [if_neg c]
          apply Ev.step
          · intro k; rw [mootlaw4_BackApplies.j2]
          · refine Ev.ite_neg (by simp) (Ev.ite_neg (by omega) ?_)
            apply Ev.step
            · intro k; rw [mootlaw4_BackApplies.j3]
            · exact Ev.ite_pos (decide_eq_true c2) (Ev.ite_pos rfl (Ev.const_ (by simp)))
      · obtain ⟨r, h1, h2⟩ := ih (i + 1) (x.set (t : Int).toNat (⟨(rd_T32 x t).f0, (rd_T32 x t).f1, wrap64 ((rd_T32 x t).f2 - o.f2), (rd_T32 x t).f3⟩ : S32)) (by omega) (by rw [List.length_set]; exact hx)
        refine ⟨r, ?_, hscan _ ?_⟩
        · apply Ev.step
          · intro k; rw [back_Apply.l0]
          · refine Ev.ite_pos (by omega) (Ev.ite_pos (by omega) (Ev.ite_pos (by omega) ?_))
            rw [← ho]
            refine Ev.bind hix (Ev.ite_neg c (Ev.ite_neg c2 (Ev.ite_pos (by omega) (Ev.ite_pos (by omega) ?_))))
            rw [hw]
            exact h1
        · rw [if_neg c]
          apply Ev.step
          · intro k; rw [mootlaw4_BackApplies.j2]
          · refine Ev.ite_neg (by simp) (Ev.ite_neg (by omega) ?_)
            apply Ev.step
            · intro k; rw [mootlaw4_BackApplies.j3]
            · refine Ev.ite_neg (by simpa using c2) (Ev.ite_pos (by omega) (Ev.ite_pos (by omega) ?_))
              rw [hw]
              exact h2
theorem BackApplies : mootlaw4_BackApplies.Pure := by
  intro a l _ _ _ _ hl _
  refine Ev.rounds ?_
  have fa : Ev (fun k => mootlaw4_paysFault.f k a) (payF a) := ⟨2 * a.length + 1, fun k hk => faultF a k hk⟩
  have ga : Ev (fun k => back_Check.f k a) (payF a) := ⟨2 * a.length + 1, fun k hk => checkF a k hk⟩
  have hc : Ev (fun k => mootlaw4_corrects.f k) true := ⟨3, fun k hk => corrects_ok k hk⟩
  refine Ev.congr (fun k => by unfold mootlaw4_BackApplies.f; rfl) ?_
  by_cases c : payF a = 0
  · have ha := (payF_ok c).1
    have hcl : Ev (fun _ => api_Pay_21.f a) a := Ev.const_ (by unfold api_Pay_21.f; rw [if_pos (by omega)])
    obtain ⟨r, h1, h2⟩ := applies l (by omega) l.length 0 a (by omega) ha
    have hb : Ev (fun k => back_Apply.f k a l) r := by
      refine Ev.congr (fun k => by unfold back_Apply.f; rfl) ?_
      exact Ev.bind ga (Ev.ite_pos c (Ev.bind hcl h1))
    exact Ev.bind hc (Ev.ite_pos rfl (Ev.bind hb (Ev.bind fa (Ev.ite_pos c (Ev.bind hcl h2)))))
  · have hb : Ev (fun k => back_Apply.f k a l) ([], payF a) := by
      refine Ev.congr (fun k => by unfold back_Apply.f; rfl) ?_
      exact Ev.bind ga (Ev.ite_neg c (Ev.now _))
    exact Ev.bind hc (Ev.ite_pos rfl (Ev.bind hb (Ev.bind fa (Ev.ite_neg c (Ev.ite_pos rfl (Ev.const_ (by simp)))))))
end Go.Proofs.Ytbcaaocogphdeaa.Pure
