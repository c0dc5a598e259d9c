/- Plain lemmas: the reference's two loops against the taking by party. -/
import Derived.Test.YtbcaaocogphdeaaPDelx0
import Derived.Test.YtbcaaocogphdeaaPDelx33
import Derived.Test.YtbcaaocogphdeaaPDelx36
import Derived.Test.YtbcaaocogphdeaaDelP
namespace Go.Proofs.Ytbcaaocogphdeaa.Pure
open Go.RowKit Go.Proofs.Ytbcaaocogphdeaa.PDel Go.Proofs.YtbcaaocogphdeaaW.PrintWords Go.Proofs.YtbcaaocogphdeaaW.PrintLast
set_option linter.unusedVariables false
set_option linter.unusedSimpArgs false

/-- What of the claims the party k owes. -/
def need (k : Int) : List S32 → Int
  | [] => 0
  | c :: r => (if c.f2 < 0 ∧ c.f0 = k then -c.f2 else 0) + need k r
def bdd (B : Int) (l : List S32) : Prop := ∀ p ∈ l, -B ≤ p.f2 ∧ p.f2 ≤ B
theorem need_bd (B : Int) (hB : 0 ≤ B) (k : Int) : ∀ (l : List S32), bdd B l → 0 ≤ need k l ∧ need k l ≤ B * l.length
  | [], _ => by simp [need]
  | c :: r, h => by
    have h1 := need_bd B hB k r (fun p hp => h p (.tail _ hp))
    have h2 := h c (.head _)
    simp only [need, List.length_cons]
    rw [show B * ((r.length + 1 : Nat) : Int) = B * (r.length : Int) + B by rw [Int.natCast_succ, Int.mul_add, Int.mul_one]]
    split <;> omega
theorem need_nn (k : Int) : ∀ (l : List S32), 0 ≤ need k l
  | [] => by simp [need]
  | c :: r => by
    have := need_nn k r
    simp only [need]
    split <;> omega
/-- The claims, where T was taken of them, party by party. -/
def eat : List S32 → (Int → Int) → List S32
  | [], _ => []
  | c :: r, T => if c.f2 ≥ 0 then c :: eat r T else ⟨c.f0, c.f1, c.f2 + min (-c.f2) (T c.f0), c.f3⟩ :: eat r (back_Offsets.upd T c.f0 (T c.f0 - min (-c.f2) (T c.f0)))
theorem eat_zero : ∀ (l : List S32) (T : Int → Int), (∀ k, T k = 0) → eat l T = l
  | [], _, _ => rfl
  | c :: r, T, h => by
    rw [eat]
    split
    · rw [eat_zero r T h]
    · have hT := h c.f0
      have e : min (-c.f2) (T c.f0) = 0 := by omega
      rw [e, eat_zero r _ (fun k => by
        by_cases q : k = c.f0
        · subst q; rw [upd_same]; omega
        · rw [upd_other _ _ q]; exact h k)]
      simp
/-- One payment of the party w, up to cap: what the reference's inner loop makes of the claims, and what it comes to. -/
def pass (w cap : Int) : Int → List S32 → List S32 × Int
  | n, [] => ([], n)
  | n, c :: r => if c.f0 = w ∧ c.f2 < 0 then (⟨c.f0, c.f1, c.f2 + min (-c.f2) (cap - n), c.f3⟩ :: (pass w cap (n + min (-c.f2) (cap - n)) r).1, (pass w cap (n + min (-c.f2) (cap - n)) r).2) else (c :: (pass w cap n r).1, (pass w cap n r).2)
theorem eat_ext : ∀ (l : List S32) (T U : Int → Int), (∀ k, T k = U k) → eat l T = eat l U
  | [], _, _, _ => rfl
  | c :: r, T, U, h => by
    rw [eat, eat, h c.f0]
    split
    · rw [eat_ext r T U h]
    · rw [eat_ext r _ (back_Offsets.upd U c.f0 (U c.f0 - min (-c.f2) (U c.f0))) (fun k => by
        by_cases q : k = c.f0
        · subst q; rw [upd_same, upd_same]
        · rw [upd_other _ _ q, upd_other _ _ q]; exact h k)]
theorem pass_eat (w cap : Int) : ∀ (l : List S32) (T : Int → Int) (n : Int), (∀ k, 0 ≤ T k ∧ T k ≤ need k l) → n ≤ cap →
    pass w cap n (eat l T) = (eat l (back_Offsets.upd T w (T w + min (cap - n) (need w l - T w))), n + min (cap - n) (need w l - T w))
  | [], T, n, h, hn => by
    have := h w
    simp only [need] at this ⊢
    simp only [eat, pass]
    rw [show n + min (cap - n) (0 - T w) = n by omega]
  | c :: r, T, n, h, hn => by
    have hw := h w
    have hc := h c.f0
    by_cases c0 : c.f2 ≥ 0
    · have hk : ∀ k, need k (c :: r) = need k r := fun k => by rw [need, if_neg (fun z => by omega)]; omega
      rw [eat, if_pos c0, eat, if_pos c0, pass, if_neg (fun z => by omega), hk w, pass_eat w cap r T n (fun k => by have := h k; rw [hk k] at this; exact this) hn]
    · have hn0 := need_nn c.f0 r
      have hk0 : need c.f0 (c :: r) = -c.f2 + need c.f0 r := by rw [need, if_pos ⟨by omega, rfl⟩]
      rw [hk0] at hc
      obtain ⟨m, hm⟩ : ∃ m, m = min (-c.f2) (T c.f0) := ⟨_, rfl⟩
      have hT1 : ∀ k, 0 ≤ back_Offsets.upd T c.f0 (T c.f0 - m) k ∧ back_Offsets.upd T c.f0 (T c.f0 - m) k ≤ need k r := fun k => by
        by_cases q : k = c.f0
        · subst q; rw [upd_same]; omega
        · rw [upd_other _ _ q]; have := h k; rw [need, if_neg (fun z => q z.2.symm)] at this; omega
      rw [eat, if_neg c0, ← hm]
      by_cases e : c.f0 = w
      · subst e
        rw [hk0]
        obtain ⟨y, hy⟩ : ∃ y, y = min (cap - n) (-c.f2 + need c.f0 r - T c.f0) := ⟨_, rfl⟩
        rw [← hy]
        rw [eat, if_neg c0, upd_same]
        by_cases c1 : c.f2 + m < 0
        · obtain ⟨m2, hm2⟩ : ∃ m2, m2 = min (-(c.f2 + m)) (cap - n) := ⟨_, rfl⟩
          have z1 : min (-c.f2) (T c.f0 + y) = m + m2 := by omega
          have z2 : n + m2 + min (cap - (n + m2)) (need c.f0 r - (T c.f0 - m)) = n + y := by omega
          rw [pass, if_pos ⟨rfl, c1⟩]
          simp only [← hm2]
          rw [pass_eat c.f0 cap r _ (n + m2) hT1 (by omega), upd_same, z1, z2]
          simp only [Prod.mk.injEq, List.cons.injEq, S32.mk.injEq, true_and, and_true]
          refine ⟨by omega, eat_ext _ _ _ (fun k => ?_)⟩
          by_cases q : k = c.f0
          · subst q; rw [upd_same, upd_same]; omega
          · rw [upd_other _ _ q, upd_other _ _ q, upd_other _ _ q, upd_other _ _ q]
        · have z1 : min (-c.f2) (T c.f0 + y) = m := by omega
          have z2 : n + min (cap - n) (need c.f0 r - (T c.f0 - m)) = n + y := by omega
          rw [pass, if_neg (fun z => c1 z.2)]
          rw [pass_eat c.f0 cap r _ n hT1 hn, upd_same, z1, z2]
          simp only [Prod.mk.injEq, List.cons.injEq, S32.mk.injEq, true_and, and_true]
          refine eat_ext _ _ _ (fun k => ?_)
          by_cases q : k = c.f0
          · subst q; rw [upd_same, upd_same]; omega
          · rw [upd_other _ _ q, upd_other _ _ q, upd_other _ _ q, upd_other _ _ q]
      · have hk : need w (c :: r) = need w r := by rw [need, if_neg (fun z => e z.2)]; omega
        rw [hk, pass, if_neg (fun z => e z.1), pass_eat w cap r _ n hT1 hn, upd_other _ _ (fun z => e z.symm), eat, if_neg c0, upd_other _ _ e, ← hm]
        simp only [Prod.mk.injEq, List.cons.injEq, S32.mk.injEq, true_and, and_true]
        refine eat_ext _ _ _ (fun k => ?_)
        by_cases q : k = c.f0
        · subst q; rw [upd_same, upd_other _ _ e, upd_same]
        · rw [upd_other _ _ q]
          by_cases q2 : k = w
          · subst q2; rw [upd_same, upd_same]
          · rw [upd_other _ _ q2, upd_other _ _ q2, upd_other _ _ q]
theorem keep_eat : ∀ (l : List S32) (T : Int → Int) (out : List S32) (B : Int), bdd B l → B ≤ 1099511627776 → (∀ k, 0 ≤ T k ∧ T k ≤ 9000000000000000000) → back_Offsets.left l T out = out ++ api_Pay_28.keep (eat l T)
  | [], T, out, B, _, _, _ => by simp [back_Offsets.left, eat, api_Pay_28.keep]
  | c :: r, T, out, B, h, hB, hT => by
    have h2 := h c (.head _)
    have h3 := hT c.f0
    rw [back_Offsets.left, eat]
    by_cases c0 : c.f2 ≥ 0
    · rw [if_pos c0, if_pos c0, keep_eat r T out B (fun p hp => h p (.tail _ hp)) hB hT]
      unfold api_Pay_28.keep
      rw [List.filter_cons, if_neg (fun h_ => by have := of_decide_eq_true h_; omega)]
    · rw [if_neg c0, if_neg c0]
      have hq : mn (wrap64 (-c.f2)) (T c.f0) = min (-c.f2) (T c.f0) := by rw [mnv, w64 (by omega) (by omega)]
      rw [hq]
      obtain ⟨m, hm⟩ : ∃ m, m = min (-c.f2) (T c.f0) := ⟨_, rfl⟩
      rw [← hm, w64 (a := c.f2 + m) (by omega) (by omega), w64 (a := T c.f0 - m) (by omega) (by omega)]
      have hT2 : ∀ k, 0 ≤ back_Offsets.upd T c.f0 (T c.f0 - m) k ∧ back_Offsets.upd T c.f0 (T c.f0 - m) k ≤ 9000000000000000000 := fun k => by
        by_cases e : k = c.f0
        · subst e; rw [upd_same]; omega
        · rw [upd_other _ _ e]; exact hT k
      by_cases cl : c.f2 + m < 0
      · rw [if_pos cl, keep_eat r _ _ B (fun p hp => h p (.tail _ hp)) hB hT2]
        unfold api_Pay_28.keep
        rw [List.filter_cons, if_pos (decide_eq_true cl), List.append_assoc]
        rfl
      · rw [if_neg cl, keep_eat r _ _ B (fun p hp => h p (.tail _ hp)) hB hT2]
        unfold api_Pay_28.keep
        rw [List.filter_cons, if_neg (fun h_ => cl (of_decide_eq_true h_))]
end Go.Proofs.Ytbcaaocogphdeaa.Pure
