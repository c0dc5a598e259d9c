/- The least weight that is enough is the least one of all that are tried, and the opposite claim is what it should be: for every issue and all evidence. -/
import Derived.Test.YtghnbiknghelpaaPAllx0
import Derived.Test.YtghnbiknghelpaaPAllx9
import Derived.Test.YtghnbiknghelpaaPAllx18
import Derived.Test.YtghnbiknghelpaaPAllx21
import Derived.Test.YtghnbiknghelpaaPAllx28
import Derived.Test.YtghnbiknghelpaaPAllx30
import Derived.Test.YtghnbiknghelpaaLemF
import Derived.Test.YtghnbiknghelpaaLemG
import Derived.Test.YtghnbiknghelpaaLemH
namespace Go.Proofs.Ytghnbiknghelpaa.Pure
open Go.RowKit Go.Proofs.Ytghnbiknghelpaa.PAll Go.Proofs.YtghnbiknghelpaaW.PrintWords Go.Proofs.YtghnbiknghelpaaW.PrintLast
set_option linter.unusedVariables false
set_option linter.unusedSimpArgs false

def lst (g : Nat → Bool) : Nat → Int → Int
  | 0, x => x
  | n + 1, x => lst g n (if g n = true then (n : Int) else x)
theorem lst_none (g : Nat → Bool) : ∀ (n : Nat) (x : Int), (∀ u, u < n → g u = false) → lst g n x = x := by
  intro n
  induction n with
  | zero => intro x _; rfl
  | succ n ih => intro x h; rw [lst, h n (by omega), if_neg (by decide)]; exact ih x (fun u hu => h u (by omega))
theorem lst_some (g : Nat → Bool) (v : Nat) (hv : g v = true) (hu : ∀ u, u < v → g u = false) : ∀ (n : Nat) (x : Int), v < n → lst g n x = (v : Int) := by
  intro n
  induction n with
  | zero => intro x h; omega
  | succ n ih =>
    intro x h
    rw [lst]
    by_cases c : v = n
    · subst c
      rw [hv, if_pos rfl]
      exact lst_none g v _ hu
    · exact ih _ (by omega)
/-- What is found with a further piece of weight n (none at 0). -/
def GSpec (a b c : Int) (l : List S34) (g : Nat → Bool) : Prop := ∀ n : Nat, n ≤ 100 → ∃ r, Ev (fun k => burden_Find.f k a b c (if n = 0 then l else l ++ [(⟨true, (n : Int), -1⟩ : S34)])) r ∧ (g n = true ↔ r.2.2 = 0 ∧ r.1 = true)
theorem be_l1 (a b c x5 x6 : Int) (l : List S34) (hn : l.length ≤ 100) (g : Nat → Bool) (hg : GSpec a b c l g)
    (hend : ∀ L, L = lst g 101 (-1) → Ev (fun k => mootlaw4_BurdenEnough.l1 k l x5 x6 L (-1) a b c) true) : ∀ (n : Nat) (x : Int), n ≤ 101 → lst g n x = lst g 101 (-1) → Ev (fun k => mootlaw4_BurdenEnough.l1 k l x5 x6 x ((n : Int) - 1) a b c) true := by
  intro n
  induction n with
  | zero => intro x _ h; exact hend x h
  | succ n ih =>
    intro x hx h
    rw [lst] at h
    obtain ⟨r, hr, hgr⟩ := hg n (by omega)
    have hx13 : ((n + 1 : Nat) : Int) - 1 = (n : Int) := by omega
    rw [hx13]
    have j4 : ∀ x14, x14 = (if n = 0 then l else l ++ [(⟨true, (n : Int), -1⟩ : S34)]) → Ev (fun k => mootlaw4_BurdenEnough.j3 k l x5 x6 x (n : Int) x14 a b c) true := by
      intro x14 h14
      subst h14
      apply Ev.step
      · intro k; rw [mootlaw4_BurdenEnough.j3]
      · refine Ev.bind hr ?_
        rw [w64 (by omega) (by omega)]
        by_cases ce : r.2.2 = 0
        · refine Ev.ite_pos ce ?_
          by_cases cz : r.1 = true
          · exact Ev.ite_pos cz (ih (n : Int) (by omega) (by rw [if_pos (hgr.2 ⟨ce, cz⟩)] at h; exact h))
          · exact Ev.ite_neg cz (ih x (by omega) (by rw [if_neg (fun q => cz (hgr.1 q).2)] at h; exact h))
        · exact Ev.ite_neg ce (ih x (by omega) (by rw [if_neg (fun q => ce (hgr.1 q).1)] at h; exact h))
    apply Ev.step
    · intro k; rw [mootlaw4_BurdenEnough.l1]
    · refine Ev.ite_pos (by omega) ?_
      simp only [burden_Piece.f]
      rw [if_pos (by omega)]
      simp only [Option.bind_some]
      by_cases c0 : n = 0
      · exact Ev.ite_neg (by omega) (j4 l (by rw [if_pos c0]))
      · exact Ev.ite_pos (by omega) (Ev.ite_pos (by omega) (j4 _ (by rw [if_neg c0])))
theorem be_l0 (a b c x5 x6 : Int) (l : List S34) (hn : l.length ≤ 100) (h : Ev (fun k => mootlaw4_BurdenEnough.l1 k l x5 x6 (-1) 100 a b c) true) : ∀ (n i : Nat), i + n = l.length →
    Ev (fun k => mootlaw4_BurdenEnough.l0 k l x5 x6 (l.map flip1) l (l.length : Int) (i : Int) a b c) true := by
  intro n
  induction n with
  | zero =>
    intro i hi
    apply Ev.step
    · intro k; rw [mootlaw4_BurdenEnough.l0]
    · exact Ev.ite_neg (by omega) h
  | succ n ih =>
    intro i hi
    have e : rd_T34 (l.map flip1) (i : Int) = flip1 (rd_T34 l (i : Int)) := by
      rw [rd_nat, rd_nat]; simp [rdP, List.getD_eq_getElem?_getD, show i < l.length by omega]
    apply Ev.step
    · intro k; rw [mootlaw4_BurdenEnough.l0]
    · refine Ev.ite_pos (by omega) (Ev.ite_pos (by omega) (Ev.ite_pos (by omega) (Ev.ite_pos (by simp; omega) (Ev.ite_neg ?_ ?_))))
      · rw [e]; simp [flip1]
      · rw [show wrap64 ((i : Int) + 1) = ((i + 1 : Nat) : Int) by rw [w64 (by omega) (by omega)]; omega]
        exact ih (i + 1) (by omega)
theorem be_j1 (a b c x5 x6 : Int) (l : List S34) (hn : l.length ≤ 100) (h : Ev (fun k => mootlaw4_BurdenEnough.l1 k l x5 x6 (-1) 100 a b c) true) : Ev (fun k => mootlaw4_BurdenEnough.j0 k l x5 x6 (l.map flip1) false a b c) true := by
  apply Ev.step
  · intro k; rw [mootlaw4_BurdenEnough.j0]
  · exact Ev.ite_neg (by decide) (be_l0 a b c x5 x6 l hn h l.length 0 (by omega))
theorem proves_ok : Ev (fun k => mootlaw4_proves.f k) true := Ev.of (mootlaw4_proves.mono) (k := 20) (by decide +kernel)
theorem BurdenEnough : mootlaw4_BurdenEnough.Pure := by
  intro a b c l _ _ _ _ hlen _
  refine Ev.rounds ?_
  unfold mootlaw4_BurdenEnough.f
  refine Ev.bind proves_ok (Ev.ite_pos rfl ?_)
  by_cases hf : faultV a b c l = 0
  · obtain ⟨hi, hL⟩ := fault_zero hf
    have hn := hL.1
    have f0 := find_ok a b c l hi hL
    have e0 := findL_e a b (proofV (yesS l (stand 0 l)) (noS l (stand 0 l)) c)
    generalize findV a b (proofV (yesS l (stand 0 l)) (noS l (stand 0 l)) c) = r0 at f0 e0
    -- what is found with each weight
    have hg : GSpec a b c l (fun n => if n = 0 then r0.1 else decide (l.length < 100) && withW a b c l (n : Int)) := by
      intro n hn1
      by_cases c0 : n = 0
      · rw [if_pos c0]; exact ⟨r0, f0, by simp [c0, e0]⟩
      · rw [if_neg c0]
        by_cases cl : l.length < 100
        · obtain ⟨r, q1, q2, q3⟩ := find_with a b c l hi hL cl (n : Int) (by omega) (by omega)
          exact ⟨r, q1, by simp [c0, cl, q2, q3]⟩
        · have h2 : faultV a b c (l ++ [(⟨true, (n : Int), -1⟩ : S34)]) = 2 := by
            obtain ⟨h1, h2, h3, h4, h5, h6⟩ := hi
            unfold faultV; rw [if_neg (by omega), if_pos (by simp; omega)]
          exact ⟨_, find_fault a b c _ (by rw [h2]; decide), by simp [c0, cl, h2]⟩
    have hT := turn_all a b c l (by omega)
    have hF := issueFault_ok a b c l
    rw [hf] at hF
    -- what is enough, and the least that is found
    have hE : ∃ r, Ev (fun k => burden_Enough.f k a b c l) r ∧ ∀ L, L = lst (fun n => if n = 0 then r0.1 else decide (l.length < 100) && withW a b c l (n : Int)) 101 (-1) → Ev (fun k => mootlaw4_BurdenEnough.l1 k l r.1 r.2 L (-1) a b c) true := by
      by_cases c0 : r0.1 = true
      · refine ⟨(0, 0), ?_, ?_⟩
        · unfold burden_Enough.f
          exact Ev.bind f0 (Ev.ite_pos e0 (Ev.ite_pos c0 (Ev.now _)))
        · intro L hL'
          rw [lst_some _ 0 (by simp [c0]) (fun u hu => by omega) 101 (-1) (by omega)] at hL'
          subst hL'
          apply Ev.step
          · intro k; rw [mootlaw4_BurdenEnough.l1]
          · exact Ev.ite_neg (by omega) (Ev.ite_pos (by omega) (Ev.ite_pos rfl (Ev.now true)))
      · by_cases cl : l.length = 100
        · refine ⟨(0, 6), ?_, ?_⟩
          · unfold burden_Enough.f
            exact Ev.bind f0 (Ev.ite_pos e0 (Ev.ite_neg c0 (Ev.ite_pos (by omega) (Ev.now _))))
          · intro L hL'
            rw [lst_none _ 101 (-1) (fun u hu => by by_cases cu : u = 0 <;> simp [cu, cl]; simpa using c0)] at hL'
            subst hL'
            apply Ev.step
            · intro k; rw [mootlaw4_BurdenEnough.l1]
            · exact Ev.ite_neg (by omega) (Ev.ite_neg (by omega) (Ev.ite_pos (by omega) (Ev.ite_pos rfl (Ev.now true))))
        · obtain ⟨r, g1, g2⟩ := enough_l0 a b c l hi hL (by omega) 100 1 (by omega) (by omega) (fun u u1 u2 => by omega)
          refine ⟨r, ?_, ?_⟩
          · unfold burden_Enough.f
            exact Ev.bind f0 (Ev.ite_pos e0 (Ev.ite_neg c0 (Ev.ite_neg (by omega) g1)))
          · intro L hL'
            have hlt : l.length < 100 := by omega
            rcases g2 with ⟨g2, g3, g4, g5, g6⟩ | g2
            · obtain ⟨v, hv⟩ := Int.eq_ofNat_of_zero_le (show 0 ≤ r.1 by omega)
              rw [hv] at g3 g4 g5 g6
              rw [lst_some _ v (by simp [show v ≠ 0 by omega, hlt, g5]) (fun u hu => by
                by_cases cu : u = 0
                · simp [cu]; simpa using c0
                · have := g6 (u : Int) (by omega) (by omega); simp [cu, hlt, this]) 101 (-1) (by omega)] at hL'
              subst hL'
              apply Ev.step
              · intro k; rw [mootlaw4_BurdenEnough.l1]
              · refine Ev.ite_neg (by omega) (Ev.ite_pos (by omega) (Ev.ite_pos g2 ?_))
                rw [hv, beq_self_eq_true]
                exact Ev.now true
            · subst g2
              have hnone : ∀ u : Int, 1 ≤ u → u ≤ 100 → withW a b c l u = false := enough_none a b c l hi hL hlt g1
              rw [lst_none _ 101 (-1) (fun u hu => by
                by_cases cu : u = 0
                · simp [cu]; simpa using c0
                · have := hnone (u : Int) (by omega) (by omega); simp [cu, hlt, this])] at hL'
              subst hL'
              apply Ev.step
              · intro k; rw [mootlaw4_BurdenEnough.l1]
              · exact Ev.ite_neg (by omega) (Ev.ite_neg (by omega) (Ev.ite_neg (by omega) (Ev.ite_pos rfl (Ev.now true))))
    obtain ⟨r, hr, hend⟩ := hE
    have hl1 := be_l1 a b c r.1 r.2 l hn _ hg hend 101 (-1) (by omega) rfl
    have hj := be_j1 a b c r.1 r.2 l hn hl1
    obtain ⟨h1, h2, h3, h4, h5, h6⟩ := hi
    refine Ev.bind hr (Ev.bind hT (Ev.bind hF (Ev.ite_pos rfl (Ev.ite_pos (by simp) (Ev.ite_pos rfl (Ev.ite_pos rfl ?_))))))
    by_cases ca : a = 2
    · refine Ev.ite_pos ca (Ev.ite_pos (by simp [turnA, ca]) (Ev.ite_neg (by omega) hj))
    · refine Ev.ite_neg ca (Ev.ite_pos (by omega) ?_)
      have hb : (turnA a != wrap64 (1 - a)) = false := by
        rw [w64 (by omega) (by omega)]; simp [turnA, show a = 0 ∨ a = 1 by omega]
      simp only
      rw [hb]
      exact hj
  · have hE : Ev (fun k => burden_Enough.f k a b c l) (0, faultV a b c l) := by
      unfold burden_Enough.f
      exact Ev.bind (find_fault a b c l hf) (Ev.ite_neg hf (Ev.now _))
    refine Ev.bind hE (Ev.bind (turn_all a b c l (by omega)) (Ev.bind (issueFault_ok a b c l) (Ev.ite_neg hf (Ev.ite_pos rfl (Ev.now true)))))
end Go.Proofs.Ytghnbiknghelpaa.Pure
