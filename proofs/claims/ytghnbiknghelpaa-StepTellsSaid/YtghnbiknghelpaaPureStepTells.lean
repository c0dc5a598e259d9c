/- The law StepTells in plain Lean: procedures go on as by the second implementation. -/
import Derived.Test.YtghnbiknghelpaaPStpx0
import Derived.Test.YtghnbiknghelpaaPStpx16
import Derived.Test.YtghnbiknghelpaaPStpx18
import Derived.Test.YtghnbiknghelpaaPStpx21
import Derived.Test.YtghnbiknghelpaaPStpx27
import Derived.Test.YtghnbiknghelpaaPStpx29
import Derived.Test.YtghnbiknghelpaaPStpx30
import Derived.Test.YtghnbiknghelpaaStpS
namespace Go.Proofs.Ytghnbiknghelpaa.Pure
open Go.RowKit Go.Proofs.Ytghnbiknghelpaa.PStp Go.Proofs.YtghnbiknghelpaaW.PrintWords Go.Proofs.YtghnbiknghelpaaW.PrintLast
set_option linter.unusedVariables false
set_option linter.unusedSimpArgs false

theorem play_okS : ∀ (l : List S66) (s : St), okS s → err (playV l s) = 0 → okS (stOf (playV l s)) ∧ ∀ r, playV (l ++ r) s = playV r (stOf (playV l s))
  | [], s, h, _ => ⟨h, fun r => rfl⟩
  | e :: es, s, h, he => by
    rw [playV] at he ⊢
    by_cases c : err (nx s e.f0 e.f1 e.f2) = 0
    · rw [if_pos c] at he ⊢
      obtain ⟨h1, h2⟩ := play_okS es _ (next_okS h _ _ _ c) he
      refine ⟨h1, fun r => ?_⟩
      rw [List.cons_append, playV, if_pos c]
      exact h2 r
    · rw [if_neg c] at he
      exact absurd he (by simpa [err] using c)
theorem play_bad : ∀ (l : List S66) (s : St), err (playV l s) ≠ 0 → playV l s = (0, 0, 0, 0, 0, err (playV l s))
  | [], s, h => by simp [playV, err] at h
  | e :: es, s, h => by
    rw [playV] at h ⊢
    by_cases c : err (nx s e.f0 e.f1 e.f2) = 0
    · rw [if_pos c] at h ⊢
      exact play_bad es _ h
    · rw [if_neg c]; simp [err]
theorem equalI_l0 (x : List Int) (hx : x.length ≤ 100) : ∀ (n i : Nat), i + n = x.length → Ev (fun k => slices_Equal_int_int.l0 k x x (x.length : Int) (i : Int)) true := by
  intro n
  induction n with
  | zero =>
    intro i hi
    apply Ev.step
    · intro k; rw [slices_Equal_int_int.l0]
    · exact Ev.ite_neg (by omega) (Ev.now _)
  | succ n ih =>
    intro i hi
    have hlt : (i : Int) < (x.length : Int) := by omega
    apply Ev.step
    · intro k; rw [slices_Equal_int_int.l0]
    · refine Ev.ite_pos hlt (Ev.ite_pos (Int.natCast_nonneg i) (Ev.ite_pos hlt (Ev.ite_pos hlt (Ev.ite_pos rfl ?_))))
      rw [show wrap64 ((i : Int) + 1) = ((i + 1 : Nat) : Int) by rw [w64 (by omega) (by omega)]; omega]
      exact ih (i + 1) (by omega)
theorem equalI_self (x : List Int) (hx : x.length ≤ 100) : Ev (fun k => slices_Equal_int_int.f k x x) true := by
  have := equalI_l0 x hx x.length 0 (by omega)
  exact Ev.congr (fun k => by unfold slices_Equal_int_int.f; rw [if_pos rfl]; rfl) this
theorem steps_ok : Ev (fun k => mootlaw4_steps.f k) true := by
  unfold mootlaw4_steps.f
  have hp := play_ok [(⟨1, 1, 5⟩ : S66)] (by simp)
  obtain ⟨f1, f2⟩ := led_file 5 (by omega) (by omega)
  rw [playV, if_pos f1, f2] at hp
  refine Ev.bind hp (Ev.ite_pos rfl (Ev.ite_pos rfl (Ev.now _)))
def lateIs (s : St) : Bool := decide (s.1 ∈ ([1, 2, 5, 6] : List Int))
theorem lateP (s : St) (d : Int) : Ev (fun k => step_Late.f k s.1 s.2.1 s.2.2.1 s.2.2.2.1 s.2.2.2.2 d) (lateIs s && decide (d > mon s.2.2.1 6)) := by
  unfold step_Late.f
  refine Ev.bind (containsI_ok _ _ (by simp)) ?_
  by_cases c : s.1 ∈ ([1, 2, 5, 6] : List Int)
  · refine Ev.ite_pos (decide_eq_true c) (Ev.bind (mon_ok _ _) (Ev.some_ ?_))
    unfold lateIs
    rw [decide_eq_true c, Bool.true_and]
  · refine Ev.ite_neg (by simpa using c) (Ev.some_ ?_)
    unfold lateIs
    rw [decide_eq_false c, Bool.false_and]
/-- What is told at last: who can do what. -/
theorem tail_ok (s : St) (who d : Int) : Ev (fun k => (step_Can.f k s.1 s.2.1 s.2.2.1 s.2.2.2.1 s.2.2.2.2 who d).bind fun t269 => ((slices_Equal_int_int.f k t269 (canV s who d)).bind fun t272 => (some t272))) true :=
  Ev.bind (can_ok s who d) (Ev.bind (equalI_self _ (Nat.le_trans (can_len s who d) (by omega))) (Ev.now _))
theorem j7_ok (s : St) (who d : Int) (b : Bool) (hl : lateIs s = true) (hb : b = decide (d > mon s.2.2.1 6)) : Ev (fun k => mootlaw4_StepTells.j7 k who d (canV s who d) b s.1 s.2.1 s.2.2.1 s.2.2.2.1 s.2.2.2.2) true := by
  apply Ev.step
  · intro k; rw [mootlaw4_StepTells.j7]
  · refine Ev.bind (lateP s d) (Ev.ite_neg ?_ (tail_ok s who d))
    rw [hl, Bool.true_and, hb]
    simp
theorem j5_ok (s : St) (hs : okS s) (who d : Int) (hl : lateIs s = true) (h0 : 0 ≤ d) (h1 : d ≤ 1048575) (a0 a1 a2 a3 a4 : Int) (ha : a2 = s.2.2.1) : Ev (fun k => mootlaw4_StepTells.j5 k who d (canV s who d) true s.1 s.2.1 s.2.2.1 s.2.2.2.1 s.2.2.2.2 a0 a1 a2 a3 a4) true := by
  subst ha
  obtain ⟨M, dd, e, e1, e2, e3, e4⟩ := partsR_ok s.2.2.1 hs.2.2.1 hs.2.2.2
  obtain ⟨M', dd', f1, f2, f3, f4, f5⟩ := months6 s.2.2.1 hs.2.2.1 hs.2.2.2
  obtain rfl := fM_inj M M' s.2.2.1 e1 f1 (by omega) e4 (by omega) f4
  obtain rfl : dd = dd' := by omega
  clear f1 f2 f3 f4
  obtain ⟨N, de, g, g1, g2, g3, g4⟩ := partsR_ok d h0 h1
  have hM : M ≤ 40000 := by
    by_cases c : M ≤ 40000
    · exact c
    · have h34 := fM_mono 34451 M (by omega) (by omega)
      have := fM_max1
      have := hs.2.2.2
      omega
  have late := f5 d h0 h1
  have hsz := fM_y (M + 6) (by omega) ((M + 6) / 12 + 1) ((M + 6) % 12 + 1) rfl rfl
  rw [show M + 6 + 1 = M + 7 by omega] at hsz
  have hb6 := fM_bd (M + 6) (by omega)
  rw [show M + 6 + 1 = M + 7 by omega] at hb6
  have hbN := fM_bd N g1
  have m1 : N > M + 6 → fM (M + 7) ≤ fM N := fun c => fM_mono (M + 7) N (by omega) (by omega)
  have m2 : N < M + 6 → fM (N + 1) ≤ fM (M + 6) := fun c => fM_mono (N + 1) (M + 6) (by omega) (by omega)
  have key : Ev (fun k => mootlaw4_StepTells.j6 k who d (canV s who d) ((M + 6) / 12 + 1) ((M + 6) % 12 + 1) dd s.1 s.2.1 s.2.2.1 s.2.2.2.1 s.2.2.2.2) true := by
    apply Ev.step
    · intro k; rw [mootlaw4_StepTells.j6]
    · refine Ev.bind g ?_
      show Ev (fun k => if N / 12 + 1 > (M + 6) / 12 + 1 then _ else _) true
      by_cases c1 : N / 12 + 1 > (M + 6) / 12 + 1
      · refine Ev.ite_pos c1 (j7_ok s who d true hl (decide_eq_true (late.2 ?_)).symm)
        have := m1 (by omega)
        omega
      · refine Ev.ite_neg c1 ?_
        by_cases c2 : N / 12 + 1 = (M + 6) / 12 + 1
        · refine Ev.ite_pos c2 ?_
          by_cases c3 : N % 12 + 1 > (M + 6) % 12 + 1
          · refine Ev.ite_pos c3 (j7_ok s who d true hl (decide_eq_true (late.2 ?_)).symm)
            have := m1 (by omega)
            omega
          · refine Ev.ite_neg c3 ?_
            by_cases c4 : N % 12 + 1 = (M + 6) % 12 + 1
            · refine Ev.ite_pos c4 (Ev.bind hsz (j7_ok s who d _ hl ?_))
              obtain rfl : N = M + 6 := by omega
              rw [decide_eq_decide, late, show mn dd (fM (M + 7) - fM (M + 6)) = min dd (fM (M + 7) - fM (M + 6)) by unfold mn; split <;> omega]
              show de > _ ↔ _
              omega
            · refine Ev.ite_neg c4 (j7_ok s who d false hl (decide_eq_false (fun z => ?_)).symm)
              have := late.1 z
              have := m2 (by omega)
              omega
        · refine Ev.ite_neg c2 (j7_ok s who d false hl (decide_eq_false (fun z => ?_)).symm)
          have := late.1 z
          have := m2 (by omega)
          omega
  apply Ev.step
  · intro k; rw [mootlaw4_StepTells.j5]
  · refine Ev.ite_pos rfl (Ev.bind e ?_)
    show Ev (fun k => if wrap64 (M % 12 + 1 + 6) > 12 then mootlaw4_StepTells.j6 k who d (canV s who d) (wrap64 (M / 12 + 1 + 1)) (wrap64 (wrap64 (M % 12 + 1 + 6) - 12)) dd s.1 s.2.1 s.2.2.1 s.2.2.2.1 s.2.2.2.2 else mootlaw4_StepTells.j6 k who d (canV s who d) (M / 12 + 1) (wrap64 (M % 12 + 1 + 6)) dd s.1 s.2.1 s.2.2.1 s.2.2.2.1 s.2.2.2.2) true
    rw [w64 (a := M % 12 + 1 + 6) (by omega) (by omega), w64 (a := M / 12 + 1 + 1) (by omega) (by omega), w64 (a := M % 12 + 1 + 6 - 12) (by omega) (by omega)]
    by_cases c : M % 12 + 1 + 6 > 12
    · refine Ev.ite_pos c ?_
      rw [show M / 12 + 1 + 1 = (M + 6) / 12 + 1 by omega, show M % 12 + 1 + 6 - 12 = (M + 6) % 12 + 1 by omega]
      exact key
    · refine Ev.ite_neg c ?_
      rw [show M / 12 + 1 = (M + 6) / 12 + 1 by omega, show M % 12 + 1 + 6 = (M + 6) % 12 + 1 by omega]
      exact key
theorem l1_ok (l : List S73) (hl : l.length ≤ 60) (s : St) (hs : okS s) (who d : Int) (hp : ∀ r, playV (l.map toE ++ r) (0, 0, 0, 0, 0) = playV r s) :
    ∀ (n : Nat) (i : Int) (x : List Int), i + n = 7 → 1 ≤ i → x.length + n ≤ 100 → x ++ (upFrom n i).filter (fun k => decide (err (nx s k who d) = 0)) = canV s who d →
    Ev (fun k => mootlaw4_StepTells.l1 k l who d x i s.1 s.2.1 s.2.2.1 s.2.2.2.1 s.2.2.2.2 s.1 s.2.1 s.2.2.1 s.2.2.2.1 s.2.2.2.2) true := by
  intro n
  induction n with
  | zero =>
    intro i x h h1 hx he
    have hx2 : x = canV s who d := by simpa [upFrom] using he
    subst hx2
    have off : Ev (fun k => mootlaw4_StepTells.j5 k who d (canV s who d) false s.1 s.2.1 s.2.2.1 s.2.2.2.1 s.2.2.2.2 s.1 s.2.1 s.2.2.1 s.2.2.2.1 s.2.2.2.2) true := by
      apply Ev.step
      · intro k; rw [mootlaw4_StepTells.j5]
      · exact Ev.ite_neg (by simp) (tail_ok s who d)
    apply Ev.step
    · intro k; rw [mootlaw4_StepTells.l1]
    · refine Ev.ite_neg (by omega) (Ev.bind (containsI_ok _ _ (by simp)) ?_)
      by_cases c : s.1 ∈ ([1, 2, 5, 6] : List Int)
      · rw [decide_eq_true c]
        refine Ev.ite_pos rfl ?_
        apply Ev.step
        · intro k; rw [mootlaw4_StepTells.j4]
        · refine Ev.ite_neg (by simp) (Ev.ite_pos rfl ?_)
          by_cases c1 : d ≥ 0
          · refine Ev.ite_pos c1 ?_
            by_cases c2 : d ≤ 1048575
            · rw [decide_eq_true c2]
              exact j5_ok s hs who d (decide_eq_true c) c1 c2 _ _ _ _ _ rfl
            · rw [decide_eq_false c2]
              exact off
          · exact Ev.ite_neg c1 off
      · rw [decide_eq_false c]
        refine Ev.ite_neg (by simp) (Ev.bind (lateP s d) ?_)
        rw [show lateIs s = false from decide_eq_false c, Bool.false_and]
        apply Ev.step
        · intro k; rw [mootlaw4_StepTells.j4]
        · exact Ev.ite_neg (by simp) (Ev.ite_neg (by simp) off)
  | succ n ih =>
    intro i x h h1 hx he
    rw [upFrom, List.filter_cons] at he
    have hf := fol_ok (l ++ [(⟨i, who, d⟩ : S73)]) (by simp; omega)
    rw [List.map_append, hp] at hf
    have hpl : err (playV (List.map toE [(⟨i, who, d⟩ : S73)]) s) = err (nx s i who d) := by
      show err (playV [(⟨i, who, d⟩ : S66)] s) = _
      rw [playV]
      split
      · rename_i h0; rw [show (⟨i, who, d⟩ : S66).f0 = i from rfl] at h0; rw [h0]; rfl
      · rfl
    apply Ev.step
    · intro k; rw [mootlaw4_StepTells.l1]
    · refine Ev.ite_pos (by omega) (Ev.bind (Ev.kon (r := l) (by unfold slices_Clone_3_int_3_int.f; rw [if_pos (by omega)])) (Ev.ite_pos (by omega) (Ev.bind hf ?_)))
      rw [w64 (a := i + 1) (by omega) (by omega)]
      by_cases c : err (nx s i who d) = 0
      · refine Ev.ite_pos (by rw [← c, ← hpl]; rfl) (Ev.ite_pos (by omega) ?_)
        refine ih (i + 1) (x ++ [i]) (by omega) (by omega) (by simp; omega) ?_
        rw [decide_eq_true c] at he
        simpa using he
      · refine Ev.ite_neg (by rw [← hpl] at c; exact c) ?_
        refine ih (i + 1) x (by omega) (by omega) (by omega) ?_
        rw [decide_eq_false c] at he
        simpa using he
theorem l0_ok (l : List S73) (hn : l.length * 24 ≤ 140737488351232) (who d : Int) : ∀ (n i : Nat) (x : List S66), i + n = l.length → x = (l.take i).map toE → Ev (fun k => mootlaw4_StepTells.l0 k l who d x l (l.length : Int) (i : Int)) true := by
  intro n
  induction n with
  | zero =>
    intro i x hi hx
    have hx2 : x = l.map toE := by rw [hx, List.take_of_length_le (by omega)]
    subst hx2
    apply Ev.step
    · intro k; rw [mootlaw4_StepTells.l0]
    · refine Ev.ite_neg (by omega) ?_
      by_cases c : l.length > 60
      · have hp : Ev (fun k => step_Play.f k (l.map toE)) (0, 0, 0, 0, 0, 2) := by
          refine Ev.congr (fun k => by unfold step_Play.f; rfl) ?_
          exact Ev.ite_pos (by rw [List.length_map]; omega) (Ev.now _)
        refine Ev.bind hp ?_
        refine Ev.ite_pos (by omega) ?_
        refine Ev.ite_pos rfl ?_
        exact Ev.now _
      · refine Ev.bind (play_ok (l.map toE) (by rw [List.length_map]; omega)) (Ev.ite_neg (by omega) (Ev.bind (fol_ok l (by omega)) (Ev.ite_pos rfl ?_)))
        by_cases e : err (playV (l.map toE) (0, 0, 0, 0, 0)) = 0
        · obtain ⟨h1, h2⟩ := play_okS (l.map toE) _ okS_0 e
          generalize hP : playV (l.map toE) (0, 0, 0, 0, 0) = P at e h1 h2 ⊢
          obtain ⟨p0, p1, p2, p3, p4, p5⟩ := P
          have e5 : p5 = 0 := e
          subst e5
          have h1' : okS (p0, p1, p2, p3, p4) := h1
          apply Ev.step
          · intro k; rw [mootlaw4_StepTells.j1]
          · have same : ∀ a b c d e : Int, Ev (fun _ => mootlaw4_sameState.f a b c d e a b c d e) true := fun a b c d e => Ev.kon (by unfold mootlaw4_sameState.f; simp)
            refine Ev.ite_neg (by simp) ?_
            refine Ev.bind (same _ _ _ _ _) ?_
            refine Ev.ite_pos rfl ?_
            refine Ev.bind (on_ok1 (p0, p1, p2, p3, p4) d) ?_
            refine Ev.bind (later_ok (p0, p1, p2, p3, p4) d) ?_
            refine Ev.bind (same _ _ _ _ _) ?_
            apply Ev.step
            · intro k; rw [mootlaw4_StepTells.j2]
            · refine Ev.ite_neg (by simp) ?_
              exact l1_ok l (by omega) (p0, p1, p2, p3, p4) h1' who d (fun r => by rw [h2 r]; rfl) 6 1 [] (by omega) (by omega) (by simp) rfl
        · have hb := play_bad _ _ e
          generalize hP : err (playV (l.map toE) (0, 0, 0, 0, 0)) = v at hb e
          rw [hb]
          apply Ev.step
          · intro k; rw [mootlaw4_StepTells.j1]
          · refine Ev.ite_pos (by simpa using e) (Ev.ite_pos rfl (Ev.now _))
  | succ n ih =>
    intro i x hi hx
    have hlt : (i : Int) < (l.length : Int) := by omega
    apply Ev.step
    · intro k; rw [mootlaw4_StepTells.l0]
    · refine Ev.ite_pos hlt (Ev.ite_pos (Int.natCast_nonneg i) (Ev.ite_pos hlt (Ev.ite_pos (by rw [hx, List.length_map, List.length_take]; omega) ?_)))
      rw [show wrap64 ((i : Int) + 1) = ((i + 1 : Nat) : Int) by rw [w64 (by omega) (by omega)]; omega]
      refine ih (i + 1) _ (by omega) ?_
      rw [hx, List.take_add_one, List.map_append]
      congr 1
      have : l[i]? = some (rd_T73 l (i : Int)) := by
        rw [List.getElem?_eq_getElem (by omega)]
        simp [rd_T73, List.getD_eq_getElem?_getD, show i < l.length by omega]
      rw [this]
      rfl
theorem StepTells : mootlaw4_StepTells.Pure := by
  intro l who d _ hl _ _ _
  refine Ev.rounds ?_
  refine Ev.congr (fun k => by unfold mootlaw4_StepTells.f; rfl) ?_
  exact Ev.bind steps_ok (Ev.ite_pos rfl (l0_ok l hl who d l.length 0 [] (by omega) rfl))
end Go.Proofs.Ytghnbiknghelpaa.Pure
