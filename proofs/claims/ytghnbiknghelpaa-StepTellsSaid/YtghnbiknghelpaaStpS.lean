/- Plain lemmas: the reference follows a procedure as the program plays it, event by event. -/
import Derived.Test.YtghnbiknghelpaaPStpx0
import Derived.Test.YtghnbiknghelpaaPStpx24
import Derived.Test.YtghnbiknghelpaaStpR
namespace Go.Proofs.Ytghnbiknghelpaa.Pure
open Go.RowKit Go.Proofs.Ytghnbiknghelpaa.PStp Go.Proofs.YtghnbiknghelpaaW.PrintWords Go.Proofs.YtghnbiknghelpaaW.PrintLast
set_option linter.unusedVariables false
set_option linter.unusedSimpArgs false

def toE (x : S73) : S66 := ⟨x.f0, x.f1, x.f2⟩
theorem after_is (is kind : Int) (h1 : 1 ≤ kind) (h2 : kind ≤ 6) (h : afterV is kind ≠ 0) : afterV is kind = (if kind = 1 then 1 else if kind = 2 then 2 else if kind = 3 then 3 else if kind = 4 then 5 else if kind = 5 then 6 else 7) := by
  have hk : kind = 1 ∨ kind = 2 ∨ kind = 3 ∨ kind = 4 ∨ kind = 5 ∨ kind = 6 := by omega
  unfold afterV at h ⊢
  rcases hk with rfl | rfl | rfl | rfl | rfl | rfl <;> simp at h ⊢ <;> omega
theorem fol_j4 (kind day : Int) (l : List S73) (n i : Int) (s1 : St) (v : Int) (r : Int × Int × Int × Int × Int × Int) (h1 : 1 ≤ kind) (h2 : kind ≤ 6) (hv : v = afterV s1.1 kind) (hn : v ≠ 0)
    (h : Ev (fun k => mootref4_Follow.l0 k l n (wrap64 (i + 1)) (stOf (putV v kind day (baseV v s1))).1 (stOf (putV v kind day (baseV v s1))).2.1 (stOf (putV v kind day (baseV v s1))).2.2.1 (stOf (putV v kind day (baseV v s1))).2.2.2.1 (stOf (putV v kind day (baseV v s1))).2.2.2.2) r) :
    Ev (fun k => mootref4_Follow.j4 k kind day v l n i false s1.1 s1.2.1 s1.2.2.1 s1.2.2.2.1 s1.2.2.2.2) r := by
  have hvi := after_is s1.1 kind h1 h2 (hv ▸ hn)
  rw [← hv] at hvi
  clear hv
  apply Ev.step
  · intro k; rw [mootref4_Follow.j4]
  · refine Ev.ite_neg (by simp) ?_
    have hk : kind = 1 ∨ kind = 2 ∨ kind = 3 ∨ kind = 4 ∨ kind = 5 ∨ kind = 6 := by omega
    rcases hk with rfl | rfl | rfl | rfl | rfl | rfl <;> simp at hvi <;> subst hvi
    · refine Ev.ite_pos rfl ?_
      simpa [stOf, putV, baseV] using h
    · refine Ev.ite_neg (by omega) (Ev.ite_neg (by omega) (Ev.ite_neg (by omega) (Ev.ite_neg (by omega) ?_)))
      simpa [stOf, putV, baseV] using h
    · refine Ev.ite_neg (by omega) (Ev.ite_pos rfl ?_)
      simpa [stOf, putV, baseV] using h
    · refine Ev.ite_neg (by omega) (Ev.ite_neg (by omega) (Ev.ite_pos rfl ?_))
      simpa [stOf, putV, baseV] using h
    · refine Ev.ite_neg (by omega) (Ev.ite_neg (by omega) (Ev.ite_neg (by omega) (Ev.ite_pos rfl ?_)))
      simpa [stOf, putV, baseV] using h
    · refine Ev.ite_neg (by omega) (Ev.ite_neg (by omega) (Ev.ite_neg (by omega) (Ev.ite_neg (by omega) ?_)))
      simpa [stOf, putV, baseV] using h
/-- One event: where it is possible, and where not. -/
theorem fol_round (kind who day : Int) (l : List S73) (n i : Int) (s : St) (hs : okS s) (r : Int × Int × Int × Int × Int × Int) (h1 : 1 ≤ kind) (h2 : kind ≤ 6) (h3 : 0 ≤ day) (h4 : day ≤ 1048575)
    (hb : err (nx s kind who day) ≠ 0 → r = (0, 0, 0, 0, 0, err (nx s kind who day)))
    (hg : err (nx s kind who day) = 0 → Ev (fun k => mootref4_Follow.l0 k l n (wrap64 (i + 1)) (stOf (nx s kind who day)).1 (stOf (nx s kind who day)).2.1 (stOf (nx s kind who day)).2.2.1 (stOf (nx s kind who day)).2.2.2.1 (stOf (nx s kind who day)).2.2.2.2) r) :
    Ev (fun k => mootref4_Follow.j1 k kind who day l n i false s.1 s.2.1 s.2.2.1 s.2.2.2.1 s.2.2.2.2) r := by
  refine fol_j1 kind who day l n i s r h1 h2 ?_
  apply Ev.step
  · intro k; rw [mootref4_Follow.j2]
  unfold nx nextV at hb hg
  rw [if_neg (by omega)] at hb hg
  by_cases c2 : byV kind who = false
  · rw [if_pos c2] at hb
    rw [hb (by simp [err])]
    exact Ev.ite_pos (by simp [banV, c2]) (Ev.now _)
  · rw [if_neg c2] at hb hg
    refine Ev.ite_neg (by simp [banV, c2]) ?_
    have ord : ∀ b : Bool, b = decide (s.1 ≠ 0 ∧ day < s.2.1) → Ev (fun k => mootref4_Follow.j3 k kind day l n i b s.1 s.2.1 s.2.2.1 s.2.2.2.1 s.2.2.2.2) r := by
      intro b hbb
      apply Ev.step
      · intro k; rw [mootref4_Follow.j3]
      by_cases c3 : s.1 ≠ 0 ∧ day < s.2.1
      · rw [if_pos c3] at hb
        rw [hb (by simp [err])]
        exact Ev.ite_pos (by rw [hbb, decide_eq_true c3]) (Ev.now _)
      · rw [if_neg c3] at hb hg
        refine Ev.ite_neg (by rw [hbb, decide_eq_false c3]; simp) (Ev.bind (later_ok s day) ?_)
        have hd := onV_dec (mon s.2.2.2.1 1) s day
        have h1s := onV_ok hs (mon s.2.2.2.1 1) day
        unfold on
        generalize onV (mon s.2.2.2.1 1) s day = s1 at hb hg hd h1s ⊢
        refine Ev.bind (Ev.kon (map_ok kind s1.1 h1 h2 h1s.1 h1s.2.1)) ?_
        obtain ⟨v, hv⟩ : ∃ v, v = afterV s1.1 kind := ⟨_, rfl⟩
        rw [← hv] at hb hg ⊢
        by_cases c4 : v = 0
        · rw [if_pos c4] at hb
          rw [hb (by simp [err])]
          exact Ev.ite_pos c4 (Ev.now _)
        · rw [if_neg c4] at hb hg
          refine Ev.ite_neg c4 ?_
          by_cases c5 : kind = 5
          · refine Ev.ite_pos c5 (Ev.bind (mon_ok s1.2.2.2.1 48) ?_)
            rw [show s1.2.2.2.1 = s.2.2.2.1 by rw [hd]]
            by_cases c6 : day > mon s.2.2.2.1 48
            · rw [if_pos ⟨c5, c6⟩] at hb
              rw [hb (by simp [err])]
              apply Ev.step
              · intro k; rw [mootref4_Follow.j4]
              · exact Ev.ite_pos (decide_eq_true c6) (Ev.now _)
            · rw [if_neg (fun z => c6 z.2)] at hg
              have := fol_j4 kind day l n i s1 v r h1 h2 hv c4 (hg rfl)
              rw [hd] at this
              rw [decide_eq_false c6, hd]
              exact this
          · rw [if_neg (fun z => c5 z.1)] at hg
            exact Ev.ite_neg c5 (fol_j4 kind day l n i s1 v r h1 h2 hv c4 (hg rfl))
    by_cases c3 : s.1 = 0
    · exact Ev.ite_pos c3 (ord false (by simp [c3]))
    · exact Ev.ite_neg c3 (ord _ (by simp [c3]))
theorem drop_cons73 (l : List S73) (i : Nat) (h : i < l.length) : l.drop i = rd_T73 l (i : Int) :: l.drop (i + 1) := by
  rw [List.drop_eq_getElem_cons h]; simp [rd_T73, List.getD_eq_getElem?_getD, h]
theorem fol_l0 (l : List S73) (hn : l.length ≤ 1000) : ∀ (n i : Nat) (s : St), okS s → i + n = l.length → Ev (fun k => mootref4_Follow.l0 k l (l.length : Int) (i : Int) s.1 s.2.1 s.2.2.1 s.2.2.2.1 s.2.2.2.2) (playV ((l.drop i).map toE) s) := by
  intro n
  induction n with
  | zero =>
    intro i s hs h
    apply Ev.step
    · intro k; rw [mootref4_Follow.l0]
    · rw [List.drop_of_length_le (by omega)]
      exact Ev.ite_neg (by omega) (Ev.now _)
  | succ n ih =>
    intro i s hs h
    obtain ⟨x, hx⟩ : ∃ x, x = rd_T73 l (i : Int) := ⟨_, rfl⟩
    have hlt : (i : Int) < (l.length : Int) := by omega
    have hge : (0 : Int) ≤ (i : Int) := Int.natCast_nonneg i
    have hi1 : wrap64 ((i : Int) + 1) = ((i + 1 : Nat) : Int) := by rw [w64 (by omega) (by omega)]; omega
    rw [drop_cons73 l i (by omega), List.map_cons, playV, ← hx]
    apply Ev.step
    · intro k; rw [mootref4_Follow.l0]
    · refine Ev.ite_pos hlt (Ev.ite_pos hge (Ev.ite_pos hlt ?_))
      rw [← hx]
      have bad : (x.f0 < 1 ∨ x.f0 > 6 ∨ x.f2 < 0 ∨ x.f2 > 1048575) → Ev (fun k => mootref4_Follow.j1 k x.f0 x.f1 x.f2 l (l.length : Int) (i : Int) true s.1 s.2.1 s.2.2.1 s.2.2.2.1 s.2.2.2.2) (if err (nx s (toE x).f0 (toE x).f1 (toE x).f2) = 0 then playV ((l.drop (i + 1)).map toE) (stOf (nx s (toE x).f0 (toE x).f1 (toE x).f2)) else (0, 0, 0, 0, 0, err (nx s (toE x).f0 (toE x).f1 (toE x).f2))) := by
        intro hb
        have he : nx s (toE x).f0 (toE x).f1 (toE x).f2 = (0, 0, 0, 0, 0, 1) := by unfold nx nextV; exact if_pos hb
        rw [he, if_neg (by simp [err])]
        apply Ev.step
        · intro k; rw [mootref4_Follow.j1]
        · exact Ev.ite_pos rfl (Ev.now _)
      by_cases c1 : x.f0 < 1
      · exact Ev.ite_pos c1 (bad (.inl c1))
      · refine Ev.ite_neg c1 ?_
        by_cases c2 : x.f0 > 6
        · exact Ev.ite_pos c2 (bad (.inr (.inl c2)))
        · refine Ev.ite_neg c2 ?_
          by_cases c3 : x.f2 < 0
          · exact Ev.ite_pos c3 (bad (.inr (.inr (.inl c3))))
          · refine Ev.ite_neg c3 ?_
            by_cases c4 : x.f2 > 1048575
            · rw [decide_eq_true c4]; exact bad (.inr (.inr (.inr c4)))
            · rw [decide_eq_false c4]
              refine fol_round x.f0 x.f1 x.f2 l _ _ s hs _ (by omega) (by omega) (by omega) (by omega) (fun he => ?_) (fun he => ?_)
              · exact if_neg he
              · rw [hi1]
                exact Ev.res (if_pos he) (ih (i + 1) _ (next_okS hs _ _ _ he) (by omega))
theorem okS_0 : okS (0, 0, 0, 0, 0) := ⟨Int.le_refl _, by show (0 : Int) ≤ 7; omega, Int.le_refl _, by show (0 : Int) ≤ 1048575; omega⟩
theorem fol_ok (l : List S73) (hn : l.length ≤ 100) : Ev (fun k => mootref4_Follow.f k l) (playV (l.map toE) (0, 0, 0, 0, 0)) := by
  have := fol_l0 l (by omega) l.length 0 (0, 0, 0, 0, 0) okS_0 (by omega)
  exact Ev.congr (fun k => by unfold mootref4_Follow.f; rfl) (by simpa using this)
end Go.Proofs.Ytghnbiknghelpaa.Pure
