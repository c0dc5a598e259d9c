/- Plain lemmas: what Offsets takes and leaves, and what Apply makes of it. -/
import Derived.Test.YtbcaaocogphdeaaPOffx0
import Derived.Test.YtbcaaocogphdeaaPOffx35
import Derived.Test.YtbcaaocogphdeaaPOffx37
import Derived.Test.YtbcaaocogphdeaaPOffx38
import Derived.Test.YtbcaaocogphdeaaOffD
namespace Go.Proofs.Ytbcaaocogphdeaa.Pure
open Go.RowKit Go.Proofs.Ytbcaaocogphdeaa.POff Go.Proofs.YtbcaaocogphdeaaW.PrintWords Go.Proofs.YtbcaaocogphdeaaW.PrintLast
set_option linter.unusedVariables false
set_option linter.unusedSimpArgs false

def sumO : List S39 → Int
  | [] => 0
  | o :: r => o.f2 + sumO r
def sumP : List S32 → Int
  | [] => 0
  | p :: r => p.f2 + sumP r
theorem sumO_append (a b : List S39) : sumO (a ++ b) = sumO a + sumO b := by
  induction a with
  | nil => simp [sumO]
  | cons x a ih => simp only [List.cons_append, sumO, ih]; omega
theorem sumP_append (a b : List S32) : sumP (a ++ b) = sumP a + sumP b := by
  induction a with
  | nil => simp [sumP]
  | cons x a ih => simp only [List.cons_append, sumP, ih]; omega
/-- What of the claims the party k owes. -/
def need (k : Int) : List S32 → Int
  | [] => 0
  | c :: r => (if c.f2 < 0 ∧ c.f0 = k then -c.f2 else 0) + need k r
def owedP : List S32 → Int
  | [] => 0
  | c :: r => max 0 (-c.f2) + owedP r
def sum3 (T : Int → Int) : Int := T 1 + T 2 + T 3
theorem need_bd (k : Int) : ∀ (l : List S32), (∀ p ∈ l, made p) → 0 ≤ need k l ∧ need k l ≤ 300 * l.length
  | [], _ => by simp [need]
  | c :: r, h => by
    have h1 := need_bd k r (fun p hp => h p (.tail _ hp))
    have h2 := h c (.head _)
    unfold made at h2
    simp only [need, List.length_cons]
    split <;> omega
theorem upd_same (M : Int → Int) (k v : Int) : back_Offsets.upd M k v k = v := if_pos rfl
theorem upd_other (M : Int → Int) {k j : Int} (v : Int) (h : j ≠ k) : back_Offsets.upd M k v j = M j := if_neg h
theorem rest_ok : ∀ (l : List S32) (M : Int → Int) (B : Int), (∀ p ∈ l, made p) → (∀ k, 0 ≤ M k ∧ M k ≤ B) → B + 300 * l.length ≤ 100000 → ∀ k, back_Offsets.rest l M k = M k + need k l
  | [], M, B, _, _, _, k => by simp [back_Offsets.rest, need]
  | c :: r, M, B, h, hM, hB, k => by
    have h2 := h c (.head _)
    unfold made at h2
    have h3 := hM c.f0
    simp only [List.length_cons] at hB
    rw [back_Offsets.rest]
    by_cases hc : c.f2 < 0
    · rw [if_pos hc, w64 (by omega) (by omega)]
      rw [rest_ok r _ (B + 300) (fun p hp => h p (.tail _ hp)) (fun j => ?_) (by omega) k]
      · by_cases e : k = c.f0
        · subst e
          rw [upd_same, need, if_pos ⟨hc, rfl⟩]
          omega
        · rw [upd_other _ _ e, need, if_neg (fun z => e z.2.symm)]
          omega
      · have := hM j
        by_cases e : j = c.f0
        · subst e
          rw [upd_same]
          omega
        · rw [upd_other _ _ e]
          omega
    · rw [if_neg hc, rest_ok r M B (fun p hp => h p (.tail _ hp)) hM (by omega) k, need, if_neg (fun z => hc z.1)]
      omega
/-- What was taken fits the payments, one after the other. -/
inductive Fit : List S39 → List S32 → Prop
  | nil (l : List S32) : Fit [] l
  | skip {x : List S39} {p : S32} {l : List S32} : Fit x l → Fit x (p :: l)
  | take {o : S39} {x : List S39} {p : S32} {l : List S32} : o.f0 = p.f0 → o.f1 = p.f1 → 1 ≤ o.f2 → o.f2 ≤ p.f2 → Fit x l → Fit (o :: x) (p :: l)
theorem fit_split {o : S39} {x : List S39} : ∀ {B : List S32}, Fit (o :: x) B → ∃ B1 p B2, B = B1 ++ p :: B2 ∧ o.f0 = p.f0 ∧ o.f1 = p.f1 ∧ 1 ≤ o.f2 ∧ o.f2 ≤ p.f2 ∧ Fit x B2
  | _, .skip (p := p) h => by
    obtain ⟨B1, q, B2, e, h1⟩ := fit_split h
    exact ⟨p :: B1, q, B2, by rw [e]; rfl, h1⟩
  | _, .take (p := p) (l := l) h0 h1 h2 h3 h => ⟨[], p, l, rfl, h0, h1, h2, h3, h⟩
theorem mnv (a b : Int) : mn a b = min a b := by unfold mn; split <;> omega
theorem mxv (a b : Int) : mx a b = max a b := by unfold mx; split <;> omega
theorem sum3_upd (T : Int → Int) (k v : Int) (h0 : 1 ≤ k) (h1 : k ≤ 3) : sum3 (back_Offsets.upd T k v) = sum3 T - T k + v := by
  unfold sum3 back_Offsets.upd
  have : k = 1 ∨ k = 2 ∨ k = 3 := by omega
  rcases this with rfl | rfl | rfl
  · rw [if_pos rfl, if_neg (by omega), if_neg (by omega)]; omega
  · rw [if_pos rfl, if_neg (by omega), if_neg (by omega)]; omega
  · rw [if_pos rfl, if_neg (by omega), if_neg (by omega)]; omega
theorem go_ok (lim : Int) (h0 : 0 ≤ lim) (hl : lim ≤ 400) : ∀ (l : List S32) (M T : Int → Int) (out : List S39), (∀ p ∈ l, made p) → (∀ k, 0 ≤ M k ∧ 0 ≤ T k ∧ M k + T k ≤ 100000) →
    ∃ x T', back_Offsets.go lim l M T out = (out ++ x, T') ∧ Fit x l ∧ x.length ≤ l.length ∧ (∀ o ∈ x, 1 ≤ o.f2 ∧ o.f2 ≤ lim) ∧ (∀ k, 0 ≤ T' k ∧ T' k ≤ M k + T k) ∧ sum3 T' = sum3 T + sumO x
  | [], M, T, out, _, h => ⟨[], T, by simp [back_Offsets.go], .nil _, Nat.le_refl _, by simp, fun k => by have := h k; omega, by simp [sumO]⟩
  | p :: l, M, T, out, hm, h => by
    have h2 := hm p (.head _)
    unfold made at h2
    have h3 := h p.f0
    rw [back_Offsets.go]
    have hp : back_Offsets.part lim p M = min (min lim (max p.f2 0)) (M p.f0) := by unfold back_Offsets.part; rw [mnv, mnv, mxv]
    generalize back_Offsets.part lim p M = n at hp
    by_cases c : n > 0
    · rw [if_pos c, w64 (by omega) (by omega), w64 (by omega) (by omega)]
      obtain ⟨x, T', e, f, g1, g2, g3, g4⟩ := go_ok lim h0 hl l (back_Offsets.upd M p.f0 (M p.f0 - n)) (back_Offsets.upd T p.f0 (T p.f0 + n)) (out ++ [⟨p.f0, p.f1, n⟩]) (fun q hq => hm q (.tail _ hq)) (fun k => by
        have := h k
        by_cases e : k = p.f0
        · subst e
          rw [upd_same, upd_same]
          omega
        · rw [upd_other _ _ e, upd_other _ _ e]
          exact this)
      refine ⟨⟨p.f0, p.f1, n⟩ :: x, T', by rw [e, List.append_assoc]; rfl, .take rfl rfl (by show 1 ≤ n; omega) (by show n ≤ p.f2; omega) f, by simp only [List.length_cons]; omega, ?_, ?_, ?_⟩
      · intro o ho
        rcases List.mem_cons.1 ho with rfl | ho
        · show 1 ≤ n ∧ n ≤ lim
          omega
        · exact g2 o ho
      · intro k
        have := g3 k
        by_cases e : k = p.f0
        · subst e
          rw [upd_same, upd_same] at this
          omega
        · rw [upd_other _ _ e, upd_other _ _ e] at this
          exact this
      · rw [g4, sum3_upd _ _ _ h2.1 h2.2.1]
        show _ = sum3 T + (n + sumO x)
        omega
    · rw [if_neg c]
      obtain ⟨x, T', e, f, g1, g2, g3, g4⟩ := go_ok lim h0 hl l M T out (fun q hq => hm q (.tail _ hq)) h
      exact ⟨x, T', e, .skip f, by simp only [List.length_cons]; omega, g2, g3, g4⟩
theorem left_ok : ∀ (l : List S32) (T : Int → Int) (out : List S32), (∀ p ∈ l, made p) → (∀ k, 0 ≤ T k ∧ T k ≤ need k l) → l.length ≤ 12 →
    sumP (back_Offsets.left l T out) = sumP out - owedP l + sum3 T ∧ (back_Offsets.left l T out).length ≤ out.length + l.length ∧ ∀ p ∈ back_Offsets.left l T out, p ∈ out ∨ (-300 ≤ p.f2 ∧ p.f2 ≤ 0)
  | [], T, out, _, h, _ => by
    have h1 := h 1
    have h2 := h 2
    have h3 := h 3
    simp only [need] at h1 h2 h3
    refine ⟨?_, by simp [back_Offsets.left], fun p hp => .inl (by simpa [back_Offsets.left] using hp)⟩
    simp only [back_Offsets.left, owedP, sum3]
    omega
  | c :: r, T, out, hm, h, hlen => by
    have h2 := hm c (.head _)
    unfold made at h2
    simp only [List.length_cons] at hlen
    rw [back_Offsets.left]
    by_cases hc : c.f2 ≥ 0
    · rw [if_pos hc]
      obtain ⟨a, b, d⟩ := left_ok r T out (fun p hp => hm p (.tail _ hp)) (fun k => by
        have := h k
        rw [need, if_neg (fun z => by omega)] at this
        omega) (by omega)
      refine ⟨?_, by simp only [List.length_cons]; omega, d⟩
      rw [a, owedP]
      omega
    · rw [if_neg hc]
      have hT := h c.f0
      have hb := need_bd c.f0 (c :: r) hm
      have hb2 := need_bd c.f0 r (fun p hp => hm p (.tail _ hp))
      simp only [List.length_cons] at hb
      have hq : mn (wrap64 (-c.f2)) (T c.f0) = min (-c.f2) (T c.f0) := by rw [mnv, w64 (by omega) (by omega)]
      rw [hq]
      obtain ⟨m, hmm⟩ : ∃ m, m = min (-c.f2) (T c.f0) := ⟨_, rfl⟩
      rw [← hmm, w64 (a := c.f2 + m) (by omega) (by omega), w64 (a := T c.f0 - m) (by omega) (by omega)]
      have hT2 : ∀ k, 0 ≤ back_Offsets.upd T c.f0 (T c.f0 - m) k ∧ back_Offsets.upd T c.f0 (T c.f0 - m) k ≤ need k r := fun k => by
        have := h k
        by_cases e : k = c.f0
        · subst e
          rw [upd_same]
          rw [need, if_pos ⟨by omega, rfl⟩] at this
          omega
        · rw [upd_other _ _ e]
          rw [need, if_neg (fun z => e z.2.symm)] at this
          omega
      have hs := sum3_upd T c.f0 (T c.f0 - m) h2.1 h2.2.1
      by_cases cl : c.f2 + m < 0
      · rw [if_pos cl]
        obtain ⟨a, b, d⟩ := left_ok r _ (out ++ [⟨c.f0, c.f1, c.f2 + m, c.f3⟩]) (fun p hp => hm p (.tail _ hp)) hT2 (by omega)
        refine ⟨?_, by simp only [List.length_cons, List.length_append, List.length_nil] at b ⊢; omega, fun p hp => ?_⟩
        · rw [a, hs, sumP_append, owedP]
          simp only [sumP]
          omega
        · rcases d p hp with z | z
          · rcases List.mem_append.1 z with z | z
            · exact .inl z
            · right
              rw [List.mem_singleton.1 z]
              show -300 ≤ c.f2 + m ∧ c.f2 + m ≤ 0
              omega
          · exact .inr z
      · rw [if_neg cl]
        obtain ⟨a, b, d⟩ := left_ok r _ out (fun p hp => hm p (.tail _ hp)) hT2 (by omega)
        refine ⟨?_, by simp only [List.length_cons]; omega, d⟩
        rw [a, hs, owedP]
        omega
theorem idx_find (f0 f1 f2 : Int) (p : S32) (L2 : List S32) (hp : idx_hit f0 f1 f2 p = true) : ∀ (L1 : List S32) (i : Int), ∃ C q D, L1 ++ [p] = C ++ q :: D ∧ idx_hit f0 f1 f2 q = true ∧ idx_from f0 f1 f2 (L1 ++ p :: L2) i = i + C.length
  | [], i => ⟨[], p, [], rfl, hp, by show idx_from f0 f1 f2 (p :: L2) i = _; unfold idx_from; rw [if_pos hp]; simp⟩
  | a :: L1, i => by
    by_cases c : idx_hit f0 f1 f2 a = true
    · exact ⟨[], a, L1 ++ [p], rfl, c, by show idx_from f0 f1 f2 (a :: (L1 ++ p :: L2)) i = _; unfold idx_from; rw [if_pos c]; simp⟩
    · obtain ⟨C, q, D, e, h1, h2⟩ := idx_find f0 f1 f2 p L2 hp L1 (i + 1)
      refine ⟨a :: C, q, D, by rw [List.cons_append, e]; rfl, h1, ?_⟩
      show idx_from f0 f1 f2 (a :: (L1 ++ p :: L2)) i = _
      unfold idx_from
      rw [if_neg c, h2, List.length_cons]
      omega
theorem drop_rd39 (l : List S39) (i : Nat) (h : i < l.length) : l.drop i = rd_T39 l (i : Int) :: l.drop (i + 1) := by
  rw [List.drop_eq_getElem_cons h]; simp [rd_T39, List.getD_eq_getElem?_getD, h]
theorem drop_rd32 (l : List S32) (i : Nat) (h : i < l.length) : l.drop i = rd_T32 l (i : Int) :: l.drop (i + 1) := by
  rw [List.drop_eq_getElem_cons h]; simp [rd_T32, List.getD_eq_getElem?_getD, h]
theorem Ev.kon {α : Type} {g : Option α} {r : α} (h : g = some r) : Ev (fun _ => g) r := ⟨0, fun _ _ => h⟩
theorem app_ok (x : List S39) (hx : x.length ≤ 12) : ∀ (n i : Nat) (A B : List S32), i + n = x.length → Fit (x.drop i) B → (∀ p ∈ A ++ B, -300 ≤ p.f2 ∧ p.f2 ≤ 599) → (A ++ B).length ≤ 12 →
    ∃ z, Ev (fun k => back_Apply.l0 k (A ++ B) x (x.length : Int) (i : Int)) (z, 0) ∧ z.length = (A ++ B).length ∧ sumP z = sumP (A ++ B) - sumO (x.drop i) ∧ ∀ p ∈ z, -300 ≤ p.f2 ∧ p.f2 ≤ 599 := by
  intro n
  induction n with
  | zero =>
    intro i A B hi _ hb _
    refine ⟨A ++ B, ?_, rfl, ?_, hb⟩
    · apply Ev.step
      · intro k; rw [back_Apply.l0]
      · exact Ev.ite_neg (by omega) (Ev.now _)
    · rw [List.drop_of_length_le (by omega)]
      simp [sumO]
  | succ n ih =>
    intro i A B hi hf hb hlen
    have hd := drop_rd39 x i (by omega)
    obtain ⟨o, ho⟩ : ∃ o, o = rd_T39 x (i : Int) := ⟨_, rfl⟩
    rw [← ho] at hd
    rw [hd] at hf
    obtain ⟨B1, p, B2, e, e0, e1, e2, e3, hf2⟩ := fit_split hf
    have hp : idx_hit o.f0 o.f1 o.f2 p = true := by unfold idx_hit; exact decide_eq_true ⟨e0.symm, e1.symm, e3⟩
    obtain ⟨C, q, D, h1, h2, h3⟩ := idx_find o.f0 o.f1 o.f2 p B2 hp (A ++ B1) 0
    have hAB : A ++ B = C ++ q :: (D ++ B2) := by
      rw [e, ← List.append_assoc, show A ++ B1 ++ p :: B2 = A ++ B1 ++ [p] ++ B2 by simp, h1]
      simp
    have hAB2 : A ++ B = A ++ B1 ++ p :: B2 := by rw [e, List.append_assoc]
    rw [hAB] at hb hlen ⊢
    have hq := hb q (by simp)
    unfold idx_hit at h2
    have h2 := of_decide_eq_true h2
    rw [← hAB2, hAB] at h3
    have hl0 : (C ++ q :: (D ++ B2)).length = C.length + 1 + (D ++ B2).length := by simp only [List.length_append, List.length_cons]; omega
    have hrd : rd_T32 (C ++ q :: (D ++ B2)) (C.length : Int) = q := by unfold rd_T32; rw [Int.toNat_natCast, List.getD_eq_getElem?_getD, List.getElem?_append_right (Nat.le_refl _), Nat.sub_self]; rfl
    obtain ⟨q', hq'⟩ : ∃ q', q' = (⟨q.f0, q.f1, q.f2 - o.f2, q.f3⟩ : S32) := ⟨_, rfl⟩
    have hset : (C ++ q :: (D ++ B2)).set C.length q' = (C ++ q' :: D) ++ B2 := by
      rw [List.set_append_right _ _ (Nat.le_refl _), Nat.sub_self]; simp
    have hq2 : q'.f2 = q.f2 - o.f2 := by rw [hq']
    obtain ⟨z, z1, z2, z3, z4⟩ := ih (i + 1) (C ++ q' :: D) B2 (by omega) hf2 (fun r hr => by
      have hr' : r = q' ∨ r ∈ C ++ q :: (D ++ B2) := by
        simp only [List.mem_append, List.mem_cons] at hr ⊢
        rcases hr with (hr | hr | hr) | hr
        · exact .inr (.inl hr)
        · exact .inl hr
        · exact .inr (.inr (.inr (.inl hr)))
        · exact .inr (.inr (.inr (.inr hr)))
      rcases hr' with rfl | hr'
      · omega
      · exact hb r hr') (by simp only [List.length_append, List.length_cons] at hlen ⊢; omega)
    refine ⟨z, ?_, ?_, ?_, z4⟩
    · have hix : Ev (fun _ => api_Pay_49.f (C ++ q :: (D ++ B2)) o.f0 o.f1 o.f2) (C.length : Int) := Ev.kon (by unfold api_Pay_49.f; rw [if_pos (by omega), h3]; simp)
      apply Ev.step
      · intro k; rw [back_Apply.l0]
      · refine Ev.ite_pos (by omega) (Ev.ite_pos (by omega) (Ev.ite_pos (by omega) ?_))
        rw [← ho]
        refine Ev.bind hix (Ev.ite_neg (by omega) (Ev.ite_neg (by omega) (Ev.ite_pos (by omega) (Ev.ite_pos (by rw [hl0]; omega) ?_))))
        rw [hrd, w64 (a := q.f2 - o.f2) (by omega) (by omega), ← hq', Int.toNat_natCast, hset, w64 (a := (i : Int) + 1) (by omega) (by omega)]
        exact z1
    · rw [z2]
      simp only [List.length_append, List.length_cons]
      omega
    · rw [z3, hd]
      simp only [sumP_append, sumP, sumO]
      omega
end Go.Proofs.Ytbcaaocogphdeaa.Pure
