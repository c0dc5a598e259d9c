import Derived.Test.YtghnbiknghelpaaPAllx0
import Derived.Test.YtghnbiknghelpaaPAllx40
import Derived.Test.YtghnbiknghelpaaPAllx41
import Derived.Test.YtghnbiknghelpaaPAllx44
import Derived.Test.YtghnbiknghelpaaPAllx45
import Derived.Test.YtghnbiknghelpaaPAllx46
import Derived.Test.YtghnbiknghelpaaPAllx47
import Derived.Test.YtghnbiknghelpaaPAllx48
import Derived.Test.YtghnbiknghelpaaPAllx49
import Derived.Test.YtghnbiknghelpaaLemD
namespace Go.Proofs.Ytghnbiknghelpaa.Pure
open Go.RowKit Go.Proofs.Ytghnbiknghelpaa.PAll Go.Proofs.YtghnbiknghelpaaW.PrintWords Go.Proofs.YtghnbiknghelpaaW.PrintLast
set_option linter.unusedVariables false
set_option linter.unusedSimpArgs false

noncomputable def mon (d n : Int) : Int := (months_ok d n).choose
theorem mon_ok (d n : Int) : Ev (fun k => day_Months.f k d n) (mon d n) := (months_ok d n).choose_spec.1
theorem mon_lo (d n : Int) : 0 ≤ mon d n := (months_ok d n).choose_spec.2.1
theorem mon_hi (d n : Int) : mon d n ≤ 1048575 := (months_ok d n).choose_spec.2.2.1
theorem mon_eq (d n : Int) (h : 0 ≤ d ∧ d ≤ 1000000 ∧ 0 ≤ n ∧ n ≤ 100) : ∃ M dd, 0 ≤ M ∧ M ≤ 34000 ∧ 1 ≤ dd ∧ d = fM M + dd - 1 ∧ d < fM (M + 1) ∧ mon d n = fM (M + n) + min dd (fM (M + n + 1) - fM (M + n)) - 1 :=
  (months_ok d n).choose_spec.2.2.2 h
theorem fM_inj (M N d : Int) (h0 : 0 ≤ M) (h1 : 0 ≤ N) (a : fM M ≤ d) (b : d < fM (M + 1)) (c : fM N ≤ d) (e : d < fM (N + 1)) : M = N := by
  rcases Int.lt_trichotomy M N with h | h | h
  · have := fM_mono (M + 1) N (by omega) (by omega); omega
  · exact h
  · have := fM_mono (N + 1) M (by omega) (by omega); omega
theorem mon_1 (d : Int) (h0 : 0 ≤ d) (h1 : d ≤ 1000000) : d ≤ mon d 1 ∧ mon d 1 ≤ d + 31 ∧ mon d 1 + 1001 ≤ mon d 48 := by
  obtain ⟨M, dd, a1, a2, a3, a4, a5, a6⟩ := mon_eq d 1 ⟨h0, h1, by omega, by omega⟩
  obtain ⟨N, ee, b1, b2, b3, b4, b5, b6⟩ := mon_eq d 48 ⟨h0, h1, by omega, by omega⟩
  obtain rfl := fM_inj M N d a1 b1 (by omega) a5 (by omega) b5
  have c1 := fM_bd M a1
  have c2 := fM_bd (M + 1) (by omega)
  have c3 := fM_far M a1 48
  have c4 := fM_bd (M + 48) (by omega)
  rw [show M + ((48 : Nat) : Int) = M + 48 by omega] at c3
  omega

noncomputable def nx (s : St) (kind who day : Int) : Int × Int × Int × Int × Int × Int := nextV (mon s.2.2.2.1 1) (mon s.2.2.2.1 48) s kind who day
def err (r : Int × Int × Int × Int × Int × Int) : Int := r.2.2.2.2.2
def stOf (r : Int × Int × Int × Int × Int × Int) : St := (r.1, r.2.1, r.2.2.1, r.2.2.2.1, r.2.2.2.2.1)
theorem snext_ok (s : St) (kind who day : Int) : Ev (fun k => step_Next.f k s.1 s.2.1 s.2.2.1 s.2.2.2.1 s.2.2.2.2 kind who day) (nx s kind who day) := next_ok1 _ _ s kind who day (mon_ok _ _) (mon_ok _ _)
noncomputable def on (s : St) (d : Int) : St := onV (mon s.2.2.2.1 1) s d
theorem on_ok1 (s : St) (d : Int) : Ev (fun k => step_On.f k s.1 s.2.1 s.2.2.1 s.2.2.2.1 s.2.2.2.2 d) (on s d) := on_ok _ s d (mon_ok _ _)

noncomputable def canV (s : St) (who d : Int) : List Int := [1, 2, 3, 4, 5, 6].filter fun k => decide (err (nx s k who d) = 0)
def upFrom : Nat → Int → List Int
  | 0, _ => []
  | n + 1, i => i :: upFrom n (i + 1)
theorem can_l0 (s : St) (who d : Int) : ∀ (n : Nat) (i : Int) (x : List Int), i + n = 7 → 1 ≤ i → x.length + n ≤ 100 →
    Ev (fun k => step_Can.l0 k who d x i s.1 s.2.1 s.2.2.1 s.2.2.2.1 s.2.2.2.2) (x ++ (upFrom n i).filter fun k => decide (err (nx s k who d) = 0)) := by
  intro n
  induction n with
  | zero =>
    intro i x h h1 hx
    apply Ev.step
    · intro k; rw [step_Can.l0]
    · exact Ev.ite_neg (by omega) (Ev.some_ (by simp [upFrom]))
  | succ n ih =>
    intro i x h h1 hx
    apply Ev.step
    · intro k; rw [step_Can.l0]
    · refine Ev.ite_pos (by omega) (Ev.bind (snext_ok s i who d) ?_)
      rw [w64 (by omega) (by omega)]
      by_cases c : err (nx s i who d) = 0
      · refine Ev.ite_pos c (Ev.ite_pos (by omega) ?_)
        have e := ih (i + 1) (x ++ [i]) (by omega) (by omega) (by simp; omega)
        rw [upFrom, List.filter_cons, decide_eq_true c]
        simpa using e
      · refine Ev.ite_neg c ?_
        have e := ih (i + 1) x (by omega) (by omega) (by omega)
        rw [upFrom, List.filter_cons, decide_eq_false c]
        simpa using e
theorem can_ok (s : St) (who d : Int) : Ev (fun k => step_Can.f k s.1 s.2.1 s.2.2.1 s.2.2.2.1 s.2.2.2.2 who d) (canV s who d) := by
  unfold step_Can.f
  exact can_l0 s who d 6 1 [] (by omega) (by omega) (by simp)
theorem can_len (s : St) (who d : Int) : (canV s who d).length ≤ 6 := by unfold canV; exact List.length_filter_le _ _
theorem mem_can (s : St) (who d k : Int) : k ∈ canV s who d ↔ (1 ≤ k ∧ k ≤ 6) ∧ err (nx s k who d) = 0 := by
  unfold canV
  rw [List.mem_filter]
  simp only [decide_eq_true_eq]
  constructor
  · rintro ⟨h, e⟩; refine ⟨?_, e⟩; simp at h; omega
  · rintro ⟨h, e⟩; refine ⟨?_, e⟩; simp; omega

noncomputable def playV : List S66 → St → Int × Int × Int × Int × Int × Int
  | [], s => (s.1, s.2.1, s.2.2.1, s.2.2.2.1, s.2.2.2.2, 0)
  | e :: es, s => if err (nx s e.f0 e.f1 e.f2) = 0 then playV es (stOf (nx s e.f0 e.f1 e.f2)) else (0, 0, 0, 0, 0, err (nx s e.f0 e.f1 e.f2))
theorem drop_cons66 (l : List S66) (i : Nat) (h : i < l.length) : l.drop i = rd_T66 l (i : Int) :: l.drop (i + 1) := by
  rw [List.drop_eq_getElem_cons h]; simp [rd_T66, List.getD_eq_getElem?_getD, h]
theorem play_l0 (l : List S66) (hn : l.length ≤ 1000) : ∀ (n i : Nat) (s : St), i + n = l.length → Ev (fun k => step_Play.l0 k l (l.length : Int) (i : Int) s.1 s.2.1 s.2.2.1 s.2.2.2.1 s.2.2.2.2) (playV (l.drop i) s) := by
  intro n
  induction n with
  | zero =>
    intro i s h
    apply Ev.step
    · intro k; rw [step_Play.l0]
    · rw [List.drop_of_length_le (by omega)]
      exact Ev.ite_neg (by omega) (Ev.now _)
  | succ n ih =>
    intro i s h
    rw [drop_cons66 l i (by omega), playV]
    apply Ev.step
    · intro k; rw [step_Play.l0]
    · refine Ev.ite_pos (by omega) (Ev.ite_pos (by omega) (Ev.ite_pos (by omega) (Ev.bind (snext_ok s _ _ _) ?_)))
      rw [show wrap64 ((i : Int) + 1) = ((i + 1 : Nat) : Int) by rw [w64 (by omega) (by omega)]; omega]
      by_cases c : err (nx s (rd_T66 l i).f0 (rd_T66 l i).f1 (rd_T66 l i).f2) = 0
      · refine Ev.res (if_pos c) (Ev.ite_pos c ?_)
        exact ih (i + 1) (stOf (nx s (rd_T66 l i).f0 (rd_T66 l i).f1 (rd_T66 l i).f2)) (by omega)
      · exact Ev.res (if_neg c) (Ev.ite_neg c (Ev.now _))
theorem play_ok (l : List S66) (hn : l.length ≤ 60) : Ev (fun k => step_Play.f k l) (playV l (0, 0, 0, 0, 0)) := by
  unfold step_Play.f
  refine Ev.ite_neg (by omega) ?_
  have e := play_l0 l (by omega) l.length 0 (0, 0, 0, 0, 0) (by omega)
  simpa using e
/-- What was played till now leads to the state s. -/
def Led (l : List S66) (s : St) : Prop := ∀ r : List S66, playV (l ++ r) (0, 0, 0, 0, 0) = playV r s
theorem Led.snoc {l : List S66} {s : St} (h : Led l s) (e : S66) (he : err (nx s e.f0 e.f1 e.f2) = 0) : Led (l ++ [e]) (stOf (nx s e.f0 e.f1 e.f2)) := by
  intro r
  rw [List.append_assoc, h, List.singleton_append, playV, if_pos he]
theorem Led.play {l : List S66} {s : St} (h : Led l s) : playV l (0, 0, 0, 0, 0) = (s.1, s.2.1, s.2.2.1, s.2.2.2.1, s.2.2.2.2, 0) := by
  have := h []
  rw [List.append_nil] at this
  rw [this]; rfl
/-- A decision's day. -/
def Inv (s : St) : Prop := s.1 = 3 → s.2.1 = s.2.2.2.1 ∧ 0 ≤ s.2.2.2.1 ∧ s.2.2.2.1 ≤ 800000
theorem err_put (n kind day : Int) (s : St) : err (putV n kind day s) = 0 := rfl
theorem inv_next (s : St) (kind who day : Int) (h : err (nx s kind who day) = 0) (hd : day ≤ 800000) : Inv (stOf (nx s kind who day)) := by
  unfold nx nextV at *
  generalize afterV (onV (mon s.2.2.2.1 1) s day).1 kind = n at *
  generalize onV (mon s.2.2.2.1 1) s day = s' at *
  split at h
  · simp [err] at h
  · rename_i c1
    rw [if_neg c1] at *
    split at h
    · simp [err] at h
    · rename_i c2
      rw [if_neg c2] at *
      split at h
      · simp [err] at h
      · rename_i c3
        rw [if_neg c3] at *
        split at h
        · simp [err] at h
        · rename_i c4
          rw [if_neg c4] at *
          split at h
          · simp [err] at h
          · rename_i c5
            rw [if_neg c5]
            intro h3
            simp only [stOf, putV] at h3 ⊢
            rw [if_pos h3]
            omega
theorem proc_l0 (N : Nat) (hN : N ≤ 10) : ∀ (n i : Nat) (d : Int) (x : List S66) (l : List Int) (s : St), i + n = N → 700000 ≤ d → d ≤ 740000 + 80 * i → x.length ≤ i + 1 → wfL l → Led x s → Inv s →
    ∃ y s', Ev (fun k => mootkeep4_Procedure.l0 k d x (N : Int) (i : Int) l s.1 s.2.1 s.2.2.1 s.2.2.2.1 s.2.2.2.2) y ∧ y.length ≤ N + 1 ∧ Led y s' ∧ Inv s' := by
  intro n
  induction n with
  | zero =>
    intro i d x l s h h1 h2 hx hl hs hi
    refine ⟨x, s, ?_, by omega, hs, hi⟩
    apply Ev.step
    · intro k; rw [mootkeep4_Procedure.l0]
    · exact Ev.ite_neg (by omega) (Ev.now _)
  | succ n ih =>
    intro i d x l s h h1 h2 hx hl hs hi
    obtain ⟨r1, l1, e1, a1, b1, _, w1⟩ := next_ok l 80 hl (by omega)
    obtain ⟨r2, l2, e2, a2, b2, _, w2⟩ := next_ok l1 2 w1 (by omega)
    have b1' := b1 (by omega)
    have b2' := b2 (by omega)
    have hw : wrap64 ((i : Int) + 1) = ((i + 1 : Nat) : Int) := by rw [w64 (by omega) (by omega)]; omega
    have hlen := can_len s (1 + r2) (d + r1)
    by_cases c : (canV s (1 + r2) (d + r1)).length = 0
    · obtain ⟨y, s', hy, h3, h4, h5⟩ := ih (i + 1) (d + r1) x l2 s (by omega) (by omega) (by omega) (by omega) w2 hs hi
      refine ⟨y, s', ?_, h3, h4, h5⟩
      apply Ev.step
      · intro k; rw [mootkeep4_Procedure.l0]
      · refine Ev.ite_pos (by omega) ?_
        simp only [e1, e2, Option.bind_some]
        rw [w64 (a := 1 + r2) (by omega) (by omega), w64 (a := d + r1) (by omega) (by omega), hw]
        refine Ev.bind (can_ok s (1 + r2) (d + r1)) (Ev.ite_pos (by omega) hy)
    · obtain ⟨r3, l3, e3, a3, b3, _, w3⟩ := next_ok l2 ((canV s (1 + r2) (d + r1)).length : Int) w2 (by omega)
      have b3' := b3 (by omega)
      generalize hk : rd (canV s (1 + r2) (d + r1)) r3 = kd
      by_cases ce : err (nx s kd (1 + r2) (d + r1)) = 0
      · have hs' := Led.snoc hs (⟨kd, 1 + r2, d + r1⟩ : S66) ce
        obtain ⟨y, s', hy, h3, h4, h5⟩ := ih (i + 1) (d + r1) (x ++ [(⟨kd, 1 + r2, d + r1⟩ : S66)]) l3 _ (by omega) (by omega) (by omega) (by simp; omega) w3 hs' (inv_next s kd (1 + r2) (d + r1) ce (by omega))
        refine ⟨y, s', ?_, h3, h4, h5⟩
        apply Ev.step
        · intro k; rw [mootkeep4_Procedure.l0]
        · refine Ev.ite_pos (by omega) ?_
          simp only [e1, e2, Option.bind_some]
          rw [w64 (a := 1 + r2) (by omega) (by omega), w64 (a := d + r1) (by omega) (by omega), hw]
          refine Ev.bind (can_ok s (1 + r2) (d + r1)) (Ev.ite_neg (by omega) ?_)
          simp only [e3, Option.bind_some]
          refine Ev.ite_pos a3 (Ev.ite_pos b3' ?_)
          rw [hk]
          refine Ev.bind (snext_ok s kd (1 + r2) (d + r1)) (Ev.ite_pos ce (Ev.ite_pos (by omega) hy))
      · obtain ⟨y, s', hy, h3, h4, h5⟩ := ih (i + 1) (d + r1) x l3 s (by omega) (by omega) (by omega) (by omega) w3 hs hi
        refine ⟨y, s', ?_, h3, h4, h5⟩
        apply Ev.step
        · intro k; rw [mootkeep4_Procedure.l0]
        · refine Ev.ite_pos (by omega) ?_
          simp only [e1, e2, Option.bind_some]
          rw [w64 (a := 1 + r2) (by omega) (by omega), w64 (a := d + r1) (by omega) (by omega), hw]
          refine Ev.bind (can_ok s (1 + r2) (d + r1)) (Ev.ite_neg (by omega) ?_)
          simp only [e3, Option.bind_some]
          refine Ev.ite_pos a3 (Ev.ite_pos b3' ?_)
          rw [hk]
          refine Ev.bind (snext_ok s kd (1 + r2) (d + r1)) (Ev.ite_neg ce hy)
theorem day_ok (x : Int) (h0 : 0 ≤ x) (h1 : x ≤ 1000000) : ∃ r, mootmake_Day.f x = some (700000 + r) ∧ 0 ≤ r ∧ r < 40000 := by
  unfold mootmake_Day.f
  obtain ⟨r, hr, a, b⟩ := below_ok x 40000 (by omega) (by omega) (by omega) (by omega)
  rw [hr, Option.bind_some, w64 (by omega) (by omega)]
  exact ⟨r, rfl, a, b⟩
theorem led_file (d : Int) (h0 : 0 ≤ d) (h1 : d ≤ 1048575) : err (nx (0, 0, 0, 0, 0) 1 1 d) = 0 ∧ stOf (nx (0, 0, 0, 0, 0) 1 1 d) = (1, d, d, -1, 0) := by
  have e : nx (0, 0, 0, 0, 0) 1 1 d = (1, d, d, -1, 0, 0) := by
    unfold nx nextV
    rw [if_neg (by omega), if_neg (by decide), if_neg (by simp)]
    have : onV (mon 0 1) (0, 0, 0, 0, 0) d = (0, 0, 0, 0, 0) := by unfold onV; rw [if_neg (by simp)]
    simp only [this]
    simp [afterV, putV, baseV]
  rw [e]; exact ⟨rfl, rfl⟩
theorem proc_ok (l : List Int) (hl : wfL l) : ∃ y s, Ev (fun k => mootkeep4_Procedure.f k l) y ∧ y.length ≤ 11 ∧ Led y s ∧ Inv s := by
  obtain ⟨r1, l1, e1, a1, b1, _, w1⟩ := next_ok l 20000 hl (by omega)
  have b1' := b1 (by omega)
  obtain ⟨r2, e2, a2, b2⟩ := day_ok r1 a1 (by omega)
  obtain ⟨r3, l3, e3, a3, b3, _, w3⟩ := next_ok l1 10 w1 (by omega)
  have b3' := b3 (by omega)
  obtain ⟨N, rfl⟩ := Int.eq_ofNat_of_zero_le a3
  obtain ⟨f1, f2⟩ := led_file (700000 + r2) (by omega) (by omega)
  have hled : Led [(⟨1, 1, 700000 + r2⟩ : S66)] (1, 700000 + r2, 700000 + r2, -1, 0) := by
    intro r
    rw [List.singleton_append, playV, if_pos f1, f2]
  obtain ⟨y, s, hy, h3, h4, h5⟩ := proc_l0 N (by omega) N 0 (700000 + r2) [(⟨1, 1, 700000 + r2⟩ : S66)] l3 (1, 700000 + r2, 700000 + r2, -1, 0) (by omega) (by omega) (by omega) (by simp) w3 hled (fun h => by simp at h)
  refine ⟨y, s, ?_, by omega, h4, h5⟩
  unfold mootkeep4_Procedure.f
  simp only [e1, e2, Option.bind_some]
  have hp := play_ok [(⟨1, 1, 700000 + r2⟩ : S66)] (by simp)
  rw [hled.play] at hp
  refine Ev.bind hp ?_
  simp only [e3, Option.bind_some]
  exact hy
theorem stepped_ok : Ev (fun k => mootkeep4_stepped.f k) true := by
  unfold mootkeep4_stepped.f
  have hp := play_ok [(⟨1, 1, 5⟩ : S66)] (by simp)
  obtain ⟨f1, f2⟩ := led_file 5 (by omega) (by omega)
  rw [playV, if_pos f1, f2] at hp
  refine Ev.bind hp (Ev.ite_pos rfl (Ev.ite_pos rfl (Ev.now _)))
end Go.Proofs.Ytghnbiknghelpaa.Pure
