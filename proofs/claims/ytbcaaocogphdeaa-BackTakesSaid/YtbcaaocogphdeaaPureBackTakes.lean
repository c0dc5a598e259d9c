/- What Offsets takes: at all payments that are made. -/
import Derived.Test.YtbcaaocogphdeaaPOffx0
import Derived.Test.YtbcaaocogphdeaaPOffx27
import Derived.Test.YtbcaaocogphdeaaPOffx34
import Derived.Test.YtbcaaocogphdeaaPOffx37
import Derived.Test.YtbcaaocogphdeaaPOffx38
import Derived.Test.YtbcaaocogphdeaaPOffx39
import Derived.Test.YtbcaaocogphdeaaOffT
namespace Go.Proofs.Ytbcaaocogphdeaa.Pure
open Go.RowKit Go.Proofs.Ytbcaaocogphdeaa.POff Go.Proofs.YtbcaaocogphdeaaW.PrintWords Go.Proofs.YtbcaaocogphdeaaW.PrintLast
set_option linter.unusedVariables false
set_option linter.unusedSimpArgs false

theorem rd_mem39 {l : List S39} {i : Nat} (h : i < l.length) : rd_T39 l (i : Int) ∈ l := by
  unfold rd_T39
  rw [Int.toNat_natCast, List.getD_eq_getElem?_getD, List.getElem?_eq_getElem h]
  exact List.getElem_mem h
theorem rd_mem32 {l : List S32} {i : Nat} (h : i < l.length) : rd_T32 l (i : Int) ∈ l := by
  unfold rd_T32
  rw [Int.toNat_natCast, List.getD_eq_getElem?_getD, List.getElem?_eq_getElem h]
  exact List.getElem_mem h
theorem takes_l3 (py z : List S32) (tk rs ow : Int) (hz : z.length = py.length) (hn : py.length ≤ 12) (b1 : ∀ p ∈ py, -300 ≤ p.f2 ∧ p.f2 ≤ 599) (b2 : ∀ p ∈ z, -300 ≤ p.f2 ∧ p.f2 ≤ 599) (h : sumP py - sumP z = tk) (h2 : tk + rs = ow) (ho : -100000 ≤ ow ∧ ow ≤ 100000) :
    ∀ (n i : Nat) (s t : Int), i + n = z.length → s + sumP (py.drop i) = sumP py → t + sumP (z.drop i) = sumP z → -(600 * (i : Int)) ≤ s → s ≤ 600 * (i : Int) → -(600 * (i : Int)) ≤ t → t ≤ 600 * (i : Int) → Ev (fun k => mootkeep4_BackTakes.l3 k py tk rs ow z 0 s t (z.length : Int) (i : Int)) true := by
  intro n
  induction n with
  | zero =>
    intro i s t hi hs ht s1 s2 t1 t2
    rw [List.drop_of_length_le (by omega)] at hs ht
    simp only [sumP] at hs ht
    apply Ev.step
    · intro k; rw [mootkeep4_BackTakes.l3]
    · refine Ev.ite_neg (by omega) (Ev.ite_pos (by rw [h2, w64 (by omega) (by omega)]) (Ev.ite_pos rfl (Ev.ite_pos (by omega) (Ev.kon ?_))))
      rw [w64 (by omega) (by omega)]
      simp only [Option.some.injEq, beq_iff_eq]
      omega
  | succ n ih =>
    intro i s t hi hs ht s1 s2 t1 t2
    rw [drop_rd32 py i (by omega), sumP] at hs
    rw [drop_rd32 z i (by omega), sumP] at ht
    have c1 := b1 _ (rd_mem32 (l := py) (i := i) (by omega))
    have c2 := b2 _ (rd_mem32 (l := z) (i := i) (by omega))
    apply Ev.step
    · intro k; rw [mootkeep4_BackTakes.l3]
    · refine Ev.ite_pos (by omega) (Ev.ite_pos (by omega) (Ev.ite_pos (by omega) (Ev.ite_pos (by omega) ?_)))
      rw [w64 (a := (i : Int) + 1) (by omega) (by omega), w64 (a := s + _) (by omega) (by omega), w64 (a := t + _) (by omega) (by omega)]
      have := ih (i + 1) (s + (rd_T32 py (i : Int)).f2) (t + (rd_T32 z (i : Int)).f2) (by omega) (by omega) (by omega) (by omega) (by omega) (by omega) (by omega)
      exact this
theorem takes_l2 (cl py : List S32) (x : List S39) (tk rs : Int) (hn : cl.length ≤ 12) (b1 : ∀ p ∈ cl, -300 ≤ p.f2 ∧ p.f2 ≤ 599)
    (he : Ev (fun k => (back_Apply.f k py x).bind fun bt => mootkeep4_BackTakes.l3 k py tk rs (owedP cl) bt.1 bt.2 0 0 (bt.1.length : Int) 0) true) :
    ∀ (n i : Nat) (s : Int), i + n = cl.length → s + owedP (cl.drop i) = owedP cl → 0 ≤ s → s ≤ 600 * (i : Int) → Ev (fun k => mootkeep4_BackTakes.l2 k py x tk rs s cl (cl.length : Int) (i : Int)) true := by
  intro n
  induction n with
  | zero =>
    intro i s hi hs s1 s2
    rw [List.drop_of_length_le (by omega)] at hs
    simp only [owedP] at hs
    rw [show s = owedP cl by omega]
    apply Ev.step
    · intro k; rw [mootkeep4_BackTakes.l2]
    · exact Ev.ite_neg (by omega) he
  | succ n ih =>
    intro i s hi hs s1 s2
    rw [drop_rd32 cl i (by omega), owedP] at hs
    have c1 := b1 _ (rd_mem32 (l := cl) (i := i) (by omega))
    apply Ev.step
    · intro k; rw [mootkeep4_BackTakes.l2]
    · refine Ev.ite_pos (by omega) (Ev.ite_pos (by omega) (Ev.ite_pos (by omega) ?_))
      rw [w64 (a := -(rd_T32 cl (i : Int)).f2) (by omega) (by omega), mxv, w64 (a := (i : Int) + 1) (by omega) (by omega), w64 (a := s + _) (by omega) (by omega)]
      exact ih (i + 1) _ (by omega) (by omega) (by omega) (by omega)
theorem takes_l1 (cl py lf : List S32) (x : List S39) (tk : Int) (hn : lf.length ≤ 12) (b1 : ∀ p ∈ lf, -300 ≤ p.f2 ∧ p.f2 ≤ 0)
    (he : Ev (fun k => mootkeep4_BackTakes.l2 k py x tk (-(sumP lf)) 0 cl (cl.length : Int) 0) true) :
    ∀ (n i : Nat) (s : Int), i + n = lf.length → -s + sumP (lf.drop i) = sumP lf → 0 ≤ s → s ≤ 600 * (i : Int) → Ev (fun k => mootkeep4_BackTakes.l1 k cl py x tk s 0 lf (lf.length : Int) (i : Int)) true := by
  intro n
  induction n with
  | zero =>
    intro i s hi hs s1 s2
    rw [List.drop_of_length_le (by omega)] at hs
    simp only [sumP] at hs
    rw [show s = -(sumP lf) by omega]
    apply Ev.step
    · intro k; rw [mootkeep4_BackTakes.l1]
    · exact Ev.ite_neg (by omega) he
  | succ n ih =>
    intro i s hi hs s1 s2
    rw [drop_rd32 lf i (by omega), sumP] at hs
    have c1 := b1 _ (rd_mem32 (l := lf) (i := i) (by omega))
    apply Ev.step
    · intro k; rw [mootkeep4_BackTakes.l1]
    · refine Ev.ite_pos (by omega) (Ev.ite_pos (by omega) (Ev.ite_pos (by omega) ?_))
      rw [w64 (a := (i : Int) + 1) (by omega) (by omega), w64 (a := s - _) (by omega) (by omega)]
      exact ih (i + 1) _ (by omega) (by omega) (by omega) (by omega)
theorem takes_l0 (lim : Int) (cl py lf : List S32) (x : List S39) (hl : lim ≤ 400) (hn : x.length ≤ 12) (b1 : ∀ o ∈ x, 1 ≤ o.f2 ∧ o.f2 ≤ lim)
    (he : Ev (fun k => mootkeep4_BackTakes.l1 k cl py x (sumO x) 0 0 lf (lf.length : Int) 0) true) :
    ∀ (n i : Nat) (s : Int), i + n = x.length → s + sumO (x.drop i) = sumO x → 0 ≤ s → s ≤ 600 * (i : Int) → Ev (fun k => mootkeep4_BackTakes.l0 k lim cl py x lf s 0 0 x (x.length : Int) (i : Int)) true := by
  intro n
  induction n with
  | zero =>
    intro i s hi hs s1 s2
    rw [List.drop_of_length_le (by omega)] at hs
    simp only [sumO] at hs
    rw [show s = sumO x by omega]
    apply Ev.step
    · intro k; rw [mootkeep4_BackTakes.l0]
    · exact Ev.ite_neg (by omega) he
  | succ n ih =>
    intro i s hi hs s1 s2
    rw [drop_rd39 x i (by omega), sumO] at hs
    have c1 := b1 _ (rd_mem39 (l := x) (i := i) (by omega))
    apply Ev.step
    · intro k; rw [mootkeep4_BackTakes.l0]
    · refine Ev.ite_pos (by omega) (Ev.ite_pos (by omega) (Ev.ite_pos (by omega) (Ev.ite_neg (by omega) (Ev.ite_neg (by omega) ?_))))
      rw [w64 (a := (i : Int) + 1) (by omega) (by omega), w64 (a := s + _) (by omega) (by omega)]
      exact ih (i + 1) _ (by omega) (by omega) (by omega) (by omega)
theorem sumO_bd (B : Int) : ∀ (x : List S39), (∀ o ∈ x, 1 ≤ o.f2 ∧ o.f2 ≤ B) → 0 ≤ sumO x ∧ sumO x ≤ B * x.length
  | [], _ => by simp [sumO]
  | o :: r, h => by
    have h1 := sumO_bd B r (fun q hq => h q (.tail _ hq))
    have h2 := h o (.head _)
    simp only [sumO, List.length_cons]
    rw [show B * ((r.length + 1 : Nat) : Int) = B * (r.length : Int) + B by rw [Int.natCast_succ, Int.mul_add, Int.mul_one]]
    omega
theorem owed_bd : ∀ (l : List S32), (∀ p ∈ l, made p) → 0 ≤ owedP l ∧ owedP l ≤ 300 * l.length
  | [], _ => by simp [owedP]
  | c :: r, h => by
    have h1 := owed_bd r (fun p hp => h p (.tail _ hp))
    have h2 := h c (.head _)
    unfold made at h2
    simp only [owedP, List.length_cons]
    omega
theorem made_wf {l : List S32} (h : ∀ p ∈ l, made p) : corr_wf l = true := by
  unfold corr_wf
  rw [List.all_eq_true]
  intro p hp
  have := h p hp
  unfold made at this
  unfold isI64
  rw [Bool.and_eq_true, decide_eq_true_eq, decide_eq_true_eq]
  omega
theorem BackTakes : mootkeep4_BackTakes.Pure := by
  intro l0 l1 a2 _ _ hw0 _ _ hw1 hw2
  obtain ⟨cl, p0, pl, pm⟩ := pays_ok l0 hw0
  obtain ⟨py, q0, ql, qm⟩ := pays_ok l1 hw1
  obtain ⟨lim, d0, d1, d2⟩ := below_ok a2 400 (wf_bd hw2).1 (wf_bd hw2).2 (by omega) (by omega)
  refine Ev.rounds ?_
  refine Ev.congr (fun k => by unfold mootkeep4_BackTakes.f; rfl) ?_
  have hM := rest_ok cl (fun _ => 0) 0 pm (fun k => ⟨Int.le_refl _, Int.le_refl _⟩) (by omega)
  obtain ⟨x, T', g0, g1, g2, g3, g4, g5⟩ := go_ok lim d1 (by omega) py (back_Offsets.rest cl (fun _ => 0)) (fun _ => 0) [] qm (fun k => by
    have := need_bd k cl pm
    rw [hM k]
    show 0 ≤ 0 + need k cl ∧ (0 : Int) ≤ 0 ∧ 0 + need k cl + 0 ≤ 100000
    omega)
  have g4' : ∀ k, 0 ≤ T' k ∧ T' k ≤ need k cl := fun k => by
    have := g4 k
    rw [hM k] at this
    simp only [Int.zero_add, Int.add_zero] at this
    exact this
  obtain ⟨e1, e2, e3⟩ := left_ok cl T' [] pm g4' pl
  have hoff : back_Offsets.f cl py lim = some (x, back_Offsets.left cl T' [], 0) := by
    unfold back_Offsets.f
    rw [check_ok cl (by omega) (fun p hp => made_ok (pm p hp)) _ (by omega), check_ok py (by omega) (fun p hp => made_ok (qm p hp)) _ (by omega)]
    simp only [Option.bind_some, if_true]
    rw [if_neg (by omega), if_pos (by rw [made_wf pm, made_wf qm]; simp; omega)]
    unfold back_Offsets.took
    rw [g0]
    rfl
  generalize back_Offsets.left cl T' [] = lf at *
  have hsum : sum3 T' = sumO x := by rw [g5]; simp [sum3]
  have bpy : ∀ p ∈ py, -300 ≤ p.f2 ∧ p.f2 ≤ 599 := fun p hp => by have := qm p hp; unfold made at this; omega
  have bcl : ∀ p ∈ cl, -300 ≤ p.f2 ∧ p.f2 ≤ 599 := fun p hp => by have := pm p hp; unfold made at this; omega
  have blf : ∀ p ∈ lf, -300 ≤ p.f2 ∧ p.f2 ≤ 0 := fun p hp => by
    rcases e3 p hp with z | z
    · simp at z
    · exact z
  have bo := sumO_bd 400 x (fun o ho => by have := g3 o ho; omega)
  have bw := owed_bd cl pm
  simp only [sumP, List.length_nil] at e1 e2
  obtain ⟨z, z1, z2, z3, z4⟩ := app_ok x (by omega) x.length 0 [] py (by omega) g1 bpy (by simpa using ql)
  simp only [List.nil_append, List.drop_zero] at z1 z2 z3
  have hcl : Ev (fun _ => api_Pay_21.f py) py := Ev.kon (by unfold api_Pay_21.f; rw [if_pos (by omega)])
  have happ : Ev (fun k => back_Apply.f k py x) (z, 0) := by
    refine Ev.congr (fun k => by unfold back_Apply.f; rfl) ?_
    exact Ev.bind ⟨2 * py.length + 1, fun k hk => check_ok py (by omega) (fun p hp => made_ok (qm p hp)) k hk⟩ (Ev.ite_pos rfl (Ev.bind hcl z1))
  refine Ev.bind ⟨3, fun k hk => corrected_ok k hk⟩ (Ev.ite_pos rfl (Ev.bind ⟨13, p0⟩ (Ev.bind ⟨13, q0⟩ (Ev.bind (Ev.kon d0) (Ev.bind (Ev.kon hoff) (Ev.ite_pos rfl ?_))))))
  refine takes_l0 lim cl py lf x (by omega) (by omega) g3 ?_ x.length 0 0 (by omega) (by simp) (by omega) (by omega)
  refine takes_l1 cl py lf x (sumO x) (by omega) blf ?_ lf.length 0 0 (by omega) (by simp) (by omega) (by omega)
  refine takes_l2 cl py x (sumO x) (-(sumP lf)) pl bcl ?_ cl.length 0 0 (by omega) (by simp) (by omega) (by omega)
  refine Ev.bind happ ?_
  exact takes_l3 py z (sumO x) (-(sumP lf)) (owedP cl) z2 ql bpy z4 (by omega) (by omega) (by omega) z.length 0 0 0 (by omega) (by simp) (by simp) (by omega) (by omega) (by omega) (by omega)
end Go.Proofs.Ytbcaaocogphdeaa.Pure
