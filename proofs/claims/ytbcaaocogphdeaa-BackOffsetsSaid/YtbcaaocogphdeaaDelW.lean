/- Plain lemmas: the reference's outer loop, payment by payment. -/
import Derived.Test.YtbcaaocogphdeaaPDelx0
import Derived.Test.YtbcaaocogphdeaaPDelx33
import Derived.Test.YtbcaaocogphdeaaPDelx36
import Derived.Test.YtbcaaocogphdeaaPDelx38
import Derived.Test.YtbcaaocogphdeaaDelV
namespace Go.Proofs.Ytbcaaocogphdeaa.Pure
open Go.RowKit Go.Proofs.Ytbcaaocogphdeaa.PDel Go.Proofs.YtbcaaocogphdeaaW.PrintWords Go.Proofs.YtbcaaocogphdeaaW.PrintLast
set_option linter.unusedVariables false
set_option linter.unusedSimpArgs false

theorem nexti (i : Nat) (h : i < 100000) : wrap64 ((i : Int) + 1) = ((i + 1 : Nat) : Int) := by rw [w64 (by omega) (by omega)]; omega
theorem offs_l0 (C : List S32) (lim : Int) (py : List S32) (hC : bdd 1099511627776 C) (hl : C.length ≤ 1000) (hp : bdd 1099511627776 py) (hl2 : py.length ≤ 1000) (h0 : 0 ≤ lim) (xl : List S39) (T' : Int → Int) :
    ∀ (m i : Nat) (T M : Int → Int) (out : List S39), i + m = py.length → (∀ k, 0 ≤ T k ∧ T k ≤ need k C) → (∀ k, M k = need k C - T k) → out.length ≤ i → back_Offsets.go lim (py.drop i) M T out = (xl, T') →
    Ev (fun k => mootlaw4_BackOffsets.l0 k lim xl (back_Offsets.left C T' []) 0 out (eat C T) py (py.length : Int) (i : Int)) true := by
  have hnb := fun k => need_bd 1099511627776 (by omega) k C hC
  intro m
  induction m with
  | zero =>
    intro i T M out hi hT hM ho hg
    rw [List.drop_of_length_le (by omega), back_Offsets.go] at hg
    injection hg with g1 g2
    subst g1; subst g2
    have hk := keep_eat C T [] 1099511627776 hC (by omega) (fun k => by have := hT k; have := hnb k; omega)
    rw [List.nil_append] at hk
    have hkl : (api_Pay_28.keep (eat C T)).length ≤ 1000 := by
      have := List.length_filter_le (fun p : S32 => decide (p.f2 < 0)) (eat C T)
      rw [eat_len] at this
      exact Nat.le_trans this hl
    apply Ev.step
    · intro k; rw [mootlaw4_BackOffsets.l0]
    · refine Ev.ite_neg (by omega) (Ev.bind (Ev.const_ (r := api_Pay_28.keep (eat C T)) (by unfold api_Pay_28.f; rw [if_pos (by rw [eat_len]; omega)])) (Ev.ite_pos rfl (Ev.bind (equal39 out (by omega)) (Ev.ite_pos rfl ?_))))
      rw [hk]
      exact Ev.bind (equal_self _ (by omega)) (Ev.now _)
  | succ m ih =>
    intro i T M out hi hT hM ho hg
    have hlt : (i : Int) < (py.length : Int) := by omega
    have hge : (0 : Int) ≤ (i : Int) := Int.natCast_nonneg i
    have hd := drop_rd py i (by omega)
    have hpb := hp (rd_T32 py (i : Int)) (rd_mem (by omega) (by omega))
    obtain ⟨p, hpe⟩ : ∃ p, p = rd_T32 py (i : Int) := ⟨_, rfl⟩
    rw [← hpe] at hd hpb
    rw [hd, back_Offsets.go] at hg
    have hTw := hT p.f0
    have hnw := hnb p.f0
    obtain ⟨q, hq⟩ : ∃ q, q = need p.f0 C - T p.f0 := ⟨_, rfl⟩
    have hMq : M p.f0 = q := by rw [hM p.f0, hq]
    obtain ⟨cap, hcap, hc0, hc1⟩ : ∃ cap, cap = max 0 (min lim p.f2) ∧ 0 ≤ cap ∧ cap ≤ 1099511627776 := ⟨_, rfl, by omega, by omega⟩
    obtain ⟨n, hn, hn0, hn1, hn2⟩ : ∃ n, n = min (cap - 0) q ∧ 0 ≤ n ∧ n ≤ cap ∧ n ≤ q := ⟨_, rfl, by omega, by omega, by omega⟩
    have hpart : back_Offsets.part lim p M = n := by unfold back_Offsets.part; rw [mnv, mnv, mxv, hMq, hn]; omega
    rw [hpart, hMq] at hg
    have hpass := pass_eat p.f0 cap C T 0 hT hc0
    rw [← hq, ← hn, Int.zero_add] at hpass
    have hi1 := nexti i (by omega)
    have HC := Aside0.mk hcap
    have key := offs_l1 lim xl (back_Offsets.left C T' []) 0 out py (py.length : Int) (i : Int) p.f0 p.f1 p.f2 p.f3 cap HC.out hc1 C.length 0 [] (eat C T) 0 (eat_len C T) rfl (by omega) (eat_bdd _ C T hC (fun k => (hT k).1)) (Int.le_refl _) hc0
    rw [hpass] at key
    clear hcap hn hpart hpass
    apply Ev.step
    · intro k; rw [mootlaw4_BackOffsets.l0]
    · refine Ev.ite_pos hlt (Ev.ite_pos hge (Ev.ite_pos hlt ?_))
      rw [← hpe]
      have key2 := key ?_
      · simpa using key2
      · clear key
        unfold after
        simp only [List.nil_append, hi1]
        have HI := Aside0.mk hi1
        clear hi1
        by_cases c : n > 0
        · rw [if_pos c, w64 (a := q - n) (by omega) (by omega), w64 (a := T p.f0 + n) (by omega) (by omega)] at hg
          refine Ev.ite_pos c (Ev.ite_pos (by omega) ?_)
          refine ih (i + 1) _ _ _ (by omega) (fun k => ?_) (fun k => ?_) (by simp; omega) hg
          · by_cases e : k = p.f0
            · subst e; rw [upd_same]; omega
            · rw [upd_other _ _ e]; exact hT k
          · by_cases e : k = p.f0
            · subst e; rw [upd_same, upd_same]; omega
            · rw [upd_other _ _ e, upd_other _ _ e]; exact hM k
        · rw [if_neg c] at hg
          refine Ev.ite_neg c ?_
          have hz : n = 0 := by omega
          rw [eat_ext C (back_Offsets.upd T p.f0 (T p.f0 + n)) T (fun k => by
            by_cases e : k = p.f0
            · subst e; rw [upd_same, hz]; exact Int.add_zero _
            · rw [upd_other _ _ e])]
          exact ih (i + 1) T M out (by omega) hT hM (by omega) hg
end Go.Proofs.Ytbcaaocogphdeaa.Pure
