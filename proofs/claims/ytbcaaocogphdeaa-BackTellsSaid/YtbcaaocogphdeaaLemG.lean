/- Plain lemmas: the loops of BackTells. -/
import Derived.Test.YtbcaaocogphdeaaPAllx0
import Derived.Test.YtbcaaocogphdeaaPAllx36
import Derived.Test.YtbcaaocogphdeaaPAllx47
import Derived.Test.YtbcaaocogphdeaaPAllx48
import Derived.Test.YtbcaaocogphdeaaLemF
namespace Go.Proofs.Ytbcaaocogphdeaa.Pure
open Go.RowKit Go.Proofs.Ytbcaaocogphdeaa.PAll Go.Proofs.YtbcaaocogphdeaaW.PrintWords Go.Proofs.YtbcaaocogphdeaaW.PrintLast
set_option linter.unusedVariables false
set_option linter.unusedSimpArgs false

def ovr (who : Int) : List S32 → Int
  | [] => 0
  | p :: r => (if p.f0 = who then (if p.f2 < 0 then -p.f2 else 0) else 0) + ovr who r
def und (who : Int) : List S32 → Int
  | [] => 0
  | p :: r => (if p.f0 = who then (if p.f2 < 0 then 0 else p.f2) else 0) + und who r
theorem ovr_bd (who : Int) (l : List S32) (h : ∀ p ∈ l, -2199023255552000 ≤ p.f2 ∧ p.f2 ≤ 2199023255552000) : 0 ≤ ovr who l ∧ ovr who l ≤ 2199023255552000 * l.length := by
  induction l with
  | nil => simp [ovr]
  | cons p r ih =>
    have h1 := ih (fun q hq => h q (List.mem_cons_of_mem _ hq))
    have h2 := h p List.mem_cons_self
    rw [ovr, List.length_cons]
    split
    · split <;> omega
    · omega
theorem und_bd (who : Int) (l : List S32) (h : ∀ p ∈ l, -2199023255552000 ≤ p.f2 ∧ p.f2 ≤ 2199023255552000) : 0 ≤ und who l ∧ und who l ≤ 2199023255552000 * l.length := by
  induction l with
  | nil => simp [und]
  | cons p r ih =>
    have h1 := ih (fun q hq => h q (List.mem_cons_of_mem _ hq))
    have h2 := h p List.mem_cons_self
    rw [und, List.length_cons]
    split
    · split <;> omega
    · omega
theorem Ev.const {α : Type} {g : Option α} {r : α} (h : g = some r) : Ev (fun _ => g) r := ⟨0, fun _ _ => h⟩
theorem mem_drop {l : List S32} {i : Nat} {p : S32} (h : p ∈ l.drop i) : p ∈ l := List.mem_of_mem_drop h
theorem net_l0 (l : List S32) (who : Int) (hn : l.length ≤ 2000) (h : ∀ p ∈ l, -2199023255552000 ≤ p.f2 ∧ p.f2 ≤ 2199023255552000) : ∀ (n i : Nat) (s t : Int), i + n = l.length → s + ovr who (l.drop i) = ovr who l → t + und who (l.drop i) = und who l → 0 ≤ s → 0 ≤ t → Ev (fun k => back_Net.l0 k who s t l (l.length : Int) (i : Int)) (ovr who l, und who l) := by
  have b1 := ovr_bd who l h
  have b2 := und_bd who l h
  intro n
  induction n with
  | zero =>
    intro i s t hi hs ht _ _
    rw [List.drop_of_length_le (by omega)] at hs ht
    simp only [ovr, und] at hs ht
    apply Ev.step
    · intro k; rw [back_Net.l0]
    · refine Ev.ite_neg (by omega) ?_
      rw [show s = ovr who l by omega, show t = und who l by omega]
      exact Ev.now _
  | succ n ih =>
    intro i s t hi hs ht s0 t0
    have hd := drop_rd l i (by omega)
    have hp := h _ (rd_mem (l := l) (i := (i : Int)) (by omega) (by omega))
    have b3 := ovr_bd who (l.drop (i + 1)) (fun p hp => h p (mem_drop hp))
    have b4 := und_bd who (l.drop (i + 1)) (fun p hp => h p (mem_drop hp))
    rw [hd, ovr] at hs
    rw [hd, und] at ht
    apply Ev.step
    · intro k; rw [back_Net.l0]
    · refine Ev.ite_pos (by omega) (Ev.ite_pos (by omega) (Ev.ite_pos (by omega) ?_))
      rw [next_i hi (by omega)]
      generalize rd_T32 l (i : Int) = p at *
      by_cases c : p.f0 = who
      · rw [if_pos c] at hs ht
        by_cases c2 : p.f2 < 0
        · rw [if_pos c2] at hs ht
          refine Ev.ite_pos c (Ev.ite_pos c2 ?_)
          rw [w64 (by omega) (by omega)]
          exact ih (i + 1) _ _ (by omega) (by omega) (by omega) (by omega) (by omega)
        · rw [if_neg c2] at hs ht
          refine Ev.ite_pos c (Ev.ite_neg c2 ?_)
          rw [w64 (by omega) (by omega)]
          exact ih (i + 1) _ _ (by omega) (by omega) (by omega) (by omega) (by omega)
      · rw [if_neg c] at hs ht
        refine Ev.ite_neg c ?_
        exact ih (i + 1) _ _ (by omega) (by omega) (by omega) (by omega) (by omega)
theorem net_ok (l : List S32) (who : Int) (hn : l.length ≤ 2000) (h : ∀ p ∈ l, -2199023255552000 ≤ p.f2 ∧ p.f2 ≤ 2199023255552000) : Ev (fun k => back_Net.f k l who) (ovr who l, und who l) := by
  have := net_l0 l who hn h l.length 0 0 0 (by omega) (by simp) (by simp) (by omega) (by omega)
  exact Ev.congr (fun k => by unfold back_Net.f; rfl) this
theorem tells_l3 (a b x : List S32) (who ov un : Int) (Y : List S32) (NY iY u v y z : Int) (hb : b.length ≤ 1000) (h : ∀ p ∈ b, okP p) (he : Ev (fun k => mootlaw4_BackTells.l1 k a b who x ov un Y NY (wrap64 (iY + 1))) true) : ∀ (n i : Nat) (s : Int), i + n = b.length → -(7000000000000000000 + 1099511627776 * (i : Int)) ≤ s → s ≤ 7000000000000000000 + 1099511627776 * (i : Int) → s - tot (u, v) (b.drop i) = 0 →
    Ev (fun k => mootlaw4_BackTells.l3 k a b who x ov un s Y NY iY b (b.length : Int) (i : Int) u v y z) true := by
  intro n
  induction n with
  | zero =>
    intro i s hi _ _ hs
    rw [List.drop_of_length_le (by omega)] at hs
    simp only [tot] at hs
    apply Ev.step
    · intro k; rw [mootlaw4_BackTells.l3]
    · exact Ev.ite_neg (by omega) (Ev.ite_pos (by omega) he)
  | succ n ih =>
    intro i s hi h1 h2 hs
    have hd := drop_rd b i (by omega)
    have hp := h _ (rd_mem (l := b) (i := (i : Int)) (by omega) (by omega))
    unfold okP at hp
    rw [hd, tot] at hs
    apply Ev.step
    · intro k; rw [mootlaw4_BackTells.l3]
    · refine Ev.ite_pos (by omega) (Ev.ite_pos (by omega) (Ev.ite_pos (by omega) ?_))
      rw [next_i hi (by omega)]
      generalize rd_T32 b (i : Int) = p at *
      by_cases c : p.f0 = u
      · by_cases c2 : p.f1 = v
        · rw [if_pos (show (p.f0, p.f1) = (u, v) by rw [c, c2])] at hs
          refine Ev.ite_pos c (Ev.ite_pos c2 ?_)
          rw [w64 (by omega) (by omega)]
          exact ih (i + 1) _ (by omega) (by omega) (by omega) (by omega)
        · rw [if_neg (show ¬ (p.f0, p.f1) = (u, v) by intro e; injection e with _ e; exact c2 e)] at hs
          exact Ev.ite_pos c (Ev.ite_neg c2 (ih (i + 1) _ (by omega) (by omega) (by omega) (by omega)))
      · rw [if_neg (show ¬ (p.f0, p.f1) = (u, v) by intro e; injection e with e _; exact c e)] at hs
        exact Ev.ite_neg c (ih (i + 1) _ (by omega) (by omega) (by omega) (by omega))
theorem tells_l2 (a b x : List S32) (who ov un : Int) (Y : List S32) (NY iY u v y z : Int) (w : List S32) (hw : w.length ≤ 3000) (h : ∀ p ∈ w, -2199023255552000 ≤ p.f2 ∧ p.f2 ≤ 2199023255552000) (he : Ev (fun k => mootlaw4_BackTells.l3 k a b who x ov un (tot (u, v) w) Y NY iY b (b.length : Int) 0 u v y z) true) : ∀ (n i : Nat) (s : Int), i + n = w.length → -(2199023255552000 * (i : Int)) ≤ s → s ≤ 2199023255552000 * (i : Int) → s + tot (u, v) (w.drop i) = tot (u, v) w →
    Ev (fun k => mootlaw4_BackTells.l2 k a b who x ov un s Y NY iY w (w.length : Int) (i : Int) u v y z) true := by
  intro n
  induction n with
  | zero =>
    intro i s hi _ _ hs
    rw [List.drop_of_length_le (by omega)] at hs
    simp only [tot] at hs
    apply Ev.step
    · intro k; rw [mootlaw4_BackTells.l2]
    · refine Ev.ite_neg (by omega) ?_
      rw [show s = tot (u, v) w by omega]
      exact he
  | succ n ih =>
    intro i s hi h1 h2 hs
    have hd := drop_rd w i (by omega)
    have hp := h _ (rd_mem (l := w) (i := (i : Int)) (by omega) (by omega))
    rw [hd, tot] at hs
    apply Ev.step
    · intro k; rw [mootlaw4_BackTells.l2]
    · refine Ev.ite_pos (by omega) (Ev.ite_pos (by omega) (Ev.ite_pos (by omega) ?_))
      rw [next_i hi (by omega)]
      generalize rd_T32 w (i : Int) = p at *
      by_cases c : p.f0 = u
      · by_cases c2 : p.f1 = v
        · rw [if_pos (show (p.f0, p.f1) = (u, v) by rw [c, c2])] at hs
          refine Ev.ite_pos c (Ev.ite_pos c2 ?_)
          rw [w64 (by omega) (by omega)]
          exact ih (i + 1) _ (by omega) (by omega) (by omega) (by omega)
        · rw [if_neg (show ¬ (p.f0, p.f1) = (u, v) by intro e; injection e with _ e; exact c2 e)] at hs
          exact Ev.ite_pos c (Ev.ite_neg c2 (ih (i + 1) _ (by omega) (by omega) (by omega) (by omega)))
      · rw [if_neg (show ¬ (p.f0, p.f1) = (u, v) by intro e; injection e with e _; exact c e)] at hs
        exact Ev.ite_neg c (ih (i + 1) _ (by omega) (by omega) (by omega) (by omega))
theorem tells_l1 (a b x : List S32) (d who : Int) (hx : Is a b d x) (ha : a.length ≤ 1000) (hb : b.length ≤ 1000) (h1 : ∀ p ∈ a, okP p) (h2 : ∀ p ∈ b, okP p) (Y : List S32) (hY : Y.length ≤ 4000) : ∀ (n i : Nat), i + n = Y.length → Ev (fun k => mootlaw4_BackTells.l1 k a b who x (ovr who x) (und who x) Y (Y.length : Int) (i : Int)) true := by
  have hb2 : ∀ p ∈ x, -2199023255552000 ≤ p.f2 ∧ p.f2 ≤ 2199023255552000 := fun p hp => (hx.ent p hp).2.2
  have hax : ∀ p ∈ a ++ x, -2199023255552000 ≤ p.f2 ∧ p.f2 ≤ 2199023255552000 := by
    intro p hp
    rcases List.mem_append.1 hp with hp | hp
    · have := h1 p hp; unfold okP at this; omega
    · exact hb2 p hp
  have hl := hx.len
  intro n
  induction n with
  | zero =>
    intro i hi
    apply Ev.step
    · intro k; rw [mootlaw4_BackTells.l1]
    · refine Ev.ite_neg (by omega) (Ev.bind (net_ok x who hl hb2) (Ev.ite_pos rfl ?_))
      exact Ev.const (by simp)
  | succ n ih =>
    intro i hi
    apply Ev.step
    · intro k; rw [mootlaw4_BackTells.l1]
    · refine Ev.ite_pos (by omega) (Ev.ite_pos (by omega) (Ev.ite_pos (by omega) ?_))
      refine Ev.bind (Ev.const (r := a ++ x) (by unfold api_Pay_17.cat2.f; rw [if_pos ⟨by omega, by omega⟩])) ?_
      have hk : ∀ k, tot k (a ++ x) = tot k b := by intro k; rw [tot_append, hx.tot_ k]; omega
      have hlen : (a ++ x).length ≤ 3000 := by rw [List.length_append]; omega
      have tb := fun k => tot_bd k 1099511627776 (by omega) b (fun p hp => by have := h2 p hp; unfold okP at this; omega)
      refine tells_l2 a b x who _ _ Y _ _ _ _ _ _ (a ++ x) hlen hax ?_ (a ++ x).length 0 0 (by omega) (by omega) (by omega) (by simp)
      refine tells_l3 a b x who _ _ Y _ _ _ _ _ _ hb h2 ?_ b.length 0 _ (by omega) ?_ ?_ ?_
      · rw [next_i hi (by omega)]
        exact ih (i + 1) (by omega)
      · rw [hk]; have := tb ((rd_T32 Y (i : Int)).f0, (rd_T32 Y (i : Int)).f1); omega
      · rw [hk]; have := tb ((rd_T32 Y (i : Int)).f0, (rd_T32 Y (i : Int)).f1); omega
      · rw [hk, List.drop_zero]; omega
theorem inc_rd {x : List S32} (h : x.Pairwise (fun p q => p.f0 < q.f0 ∨ (p.f0 = q.f0 ∧ p.f1 < q.f1))) (i : Nat) (h0 : 0 < i) (h1 : i < x.length) : (rd_T32 x ((i : Int) - 1)).f0 < (rd_T32 x (i : Int)).f0 ∨ ((rd_T32 x ((i : Int) - 1)).f0 = (rd_T32 x (i : Int)).f0 ∧ (rd_T32 x ((i : Int) - 1)).f1 < (rd_T32 x (i : Int)).f1) := by
  have e1 : rd_T32 x ((i : Int) - 1) = x[i - 1]'(by omega) := by
    unfold rd_T32
    rw [show ((i : Int) - 1).toNat = i - 1 by omega, List.getD_eq_getElem?_getD, List.getElem?_eq_getElem (by omega)]
    rfl
  have e2 : rd_T32 x (i : Int) = x[i] := by
    unfold rd_T32
    rw [Int.toNat_natCast, List.getD_eq_getElem?_getD, List.getElem?_eq_getElem h1]
    rfl
  rw [e1, e2]
  exact List.pairwise_iff_getElem.1 h (i - 1) i (by omega) h1 (by omega)
theorem tells_l0 (a b x : List S32) (d who : Int) (hx : Is a b d x) (ha : a.length ≤ 1000) (hb : b.length ≤ 1000) (he : Ev (fun k => mootlaw4_BackTells.l1 k a b who x (ovr who x) (und who x) (a ++ b ++ x) ((a ++ b ++ x).length : Int) 0) true) : ∀ (n i : Nat) (s t : Int), i + n = x.length → s + ovr who (x.drop i) = ovr who x → t + und who (x.drop i) = und who x → 0 ≤ s → 0 ≤ t →
    Ev (fun k => mootlaw4_BackTells.l0 k a b d who x s t x (x.length : Int) (i : Int)) true := by
  have h : ∀ p ∈ x, -2199023255552000 ≤ p.f2 ∧ p.f2 ≤ 2199023255552000 := fun p hp => (hx.ent p hp).2.2
  have b1 := ovr_bd who x h
  have b2 := und_bd who x h
  have hl := hx.len
  intro n
  induction n with
  | zero =>
    intro i s t hi hs ht _ _
    rw [List.drop_of_length_le (by omega)] at hs ht
    simp only [ovr, und] at hs ht
    apply Ev.step
    · intro k; rw [mootlaw4_BackTells.l0]
    · refine Ev.ite_neg (by omega) (Ev.bind (Ev.const (r := a ++ b ++ x) (by unfold api_Pay_17.cat3.f; rw [if_pos ⟨by omega, by omega, by omega⟩])) ?_)
      rw [show s = ovr who x by omega, show t = und who x by omega]
      exact he
  | succ n ih =>
    intro i s t hi hs ht s0 t0
    have hd := drop_rd x i (by omega)
    have hp := hx.ent _ (rd_mem (l := x) (i := (i : Int)) (by omega) (by omega))
    have hin := inc_rd hx.inc i
    have b3 := ovr_bd who (x.drop (i + 1)) (fun p hp => h p (mem_drop hp))
    have b4 := und_bd who (x.drop (i + 1)) (fun p hp => h p (mem_drop hp))
    rw [hd, ovr] at hs
    rw [hd, und] at ht
    have tail : Ev (fun k => mootlaw4_BackTells.j5 k a b d who x s t x (x.length : Int) (i : Int) false ((rd_T32 x (i : Int)).f0) ((rd_T32 x (i : Int)).f1) ((rd_T32 x (i : Int)).f2) ((rd_T32 x (i : Int)).f3)) true := by
      generalize rd_T32 x (i : Int) = p at *
      apply Ev.step
      · intro k; rw [mootlaw4_BackTells.j5]
      · refine Ev.ite_neg (by simp) ?_
        by_cases c : p.f0 = who
        · rw [if_pos c] at hs ht
          refine Ev.ite_pos c ?_
          apply Ev.step
          · intro k; rw [mootlaw4_BackTells.j6]
          · by_cases c2 : p.f2 < 0
            · rw [if_pos c2] at hs ht
              refine Ev.ite_pos (decide_eq_true c2) (Ev.ite_pos c (Ev.ite_neg (by omega) ?_))
              rw [next_i hi (by omega), w64 (by omega) (by omega)]
              exact ih (i + 1) _ _ (by omega) (by omega) (by omega) (by omega) (by omega)
            · rw [if_neg c2] at hs ht
              refine Ev.ite_neg (by simpa using c2) (Ev.ite_pos c (Ev.ite_pos (by omega) ?_))
              rw [next_i hi (by omega), w64 (by omega) (by omega)]
              exact ih (i + 1) _ _ (by omega) (by omega) (by omega) (by omega) (by omega)
        · rw [if_neg c] at hs ht
          refine Ev.ite_neg c ?_
          apply Ev.step
          · intro k; rw [mootlaw4_BackTells.j6]
          · refine Ev.ite_neg (by simp) (Ev.ite_neg c ?_)
            rw [next_i hi (by omega)]
            exact ih (i + 1) _ _ (by omega) (by omega) (by omega) (by omega) (by omega)
    apply Ev.step
    · intro k; rw [mootlaw4_BackTells.l0]
    · refine Ev.ite_pos (by omega) (Ev.ite_pos (by omega) (Ev.ite_pos (by omega) (Ev.ite_neg hp.1 (Ev.ite_pos hp.2.1 ?_))))
      by_cases c0 : (i : Int) > 0
      · refine Ev.ite_pos c0 ?_
        have hin' := hin (by omega) (by omega)
        rw [w64 (a := (i : Int) - 1) (by omega) (by omega)]
        refine Ev.ite_pos (by omega) (Ev.ite_pos (by omega) (Ev.ite_neg (by omega) ?_))
        by_cases c1 : (rd_T32 x ((i : Int) - 1)).f0 = (rd_T32 x (i : Int)).f0
        · refine Ev.ite_pos c1 ?_
          rw [show decide ((rd_T32 x ((i : Int) - 1)).f1 ≥ (rd_T32 x (i : Int)).f1) = false from decide_eq_false (by omega)]
          exact tail
        · exact Ev.ite_neg c1 tail
      · exact Ev.ite_neg c0 tail
end Go.Proofs.Ytbcaaocogphdeaa.Pure
