/- Plain lemmas, picked by pick.py out of this seat's other plain texts. -/
import Derived.Test.YtenhnlclnjnboaaPPadx0
import Derived.Test.YtenhnlclnjnboaaPPadx2
import Derived.Test.YtenhnlclnjnboaaPPadx3
import Derived.Test.YtenhnlclnjnboaaPPadx4
import Derived.Test.YtenhnlclnjnboaaPPadx6
import Derived.Test.YtenhnlclnjnboaaPPadx7
import Derived.Test.YtenhnlclnjnboaaPPadx8
import Derived.Test.YtenhnlclnjnboaaPPadx9
import Derived.Test.YtenhnlclnjnboaaPPadx10
import Derived.Test.YtenhnlclnjnboaaPPadx11
import Derived.Test.YtenhnlclnjnboaaPPadx12
import Derived.Test.YtenhnlclnjnboaaPPadx13
import Derived.Test.YtenhnlclnjnboaaPPadx14
import Derived.Test.YtenhnlclnjnboaaPPadx16
import Derived.Test.YtenhnlclnjnboaaPPadx40
import Derived.Test.YtenhnlclnjnboaaPPadx41
import Derived.Test.YtenhnlclnjnboaaPPadx42
import Derived.Test.YtenhnlclnjnboaaPPadx43
import Derived.Test.YtenhnlclnjnboaaPPadx44
import Derived.IntWalk
namespace Go.Proofs.Ytenhnlclnjnboaa.Pure
open Go.RowKit Go.Proofs.Ytenhnlclnjnboaa.PPad Go.Proofs.YtenhnlclnjnboaaW.PrintWords Go.Proofs.YtenhnlclnjnboaaW.PrintLast
set_option maxHeartbeats 8000000
set_option linter.unusedVariables false
set_option linter.unusedSimpArgs false

theorem w64 {a : Int} (h0 : -9223372036854775808 ≤ a) (h1 : a ≤ 9223372036854775807) : wrap64 a = a := by unfold wrap64; omega
theorem Ev.ite_pos {α : Type} {c : Prop} [Decidable c] {f g : Nat → Option α} {r : α} (hc : c) (h : Ev f r) : Ev (fun k => if c then f k else g k) r := Ev.congr (fun _ => if_pos hc) h
theorem Ev.ite_neg {α : Type} {c : Prop} [Decidable c] {f g : Nat → Option α} {r : α} (hc : ¬ c) (h : Ev g r) : Ev (fun k => if c then f k else g k) r := Ev.congr (fun _ => if_neg hc) h
theorem Ev.some_ {α : Type} {r r' : α} (h : r = r') : Ev (fun _ => some r) r' := h ▸ Ev.now r
theorem Ev.res {α : Type} {g : Nat → Option α} {r r' : α} (e : r' = r) (h : Ev g r) : Ev g r' := e ▸ h
theorem drop_cons {α : Type} (l : List α) (z : α) (i : Nat) (h : i < l.length) : l.drop i = l.getD i z :: l.drop (i + 1) := by
  rw [List.drop_eq_getElem_cons h]; simp [List.getD_eq_getElem?_getD, h]
theorem below_ok (x n : Int) (h0 : -9223372036854775808 ≤ x) (h1 : x ≤ 9223372036854775807) (hn : 1 ≤ n) (hn2 : n ≤ 1000000000000) : ∃ r, mootmake_Below.f x n = some r ∧ 0 ≤ r ∧ r < n := by
  unfold mootmake_Below.f
  rw [if_neg (by omega)]
  have hm : x = n * (x.tdiv n) + x.tmod n := (Int.mul_tdiv_add_tmod x n).symm
  have hlt : x.tmod n < n := Int.tmod_lt_of_pos x (by omega)
  have hgt : -n < x.tmod n := by
    have := Int.lt_tmod_of_pos x (show 0 < n by omega)
    omega
  by_cases h : x.tmod n < 0
  · rw [if_pos h, w64 (by omega) (by omega)]
    exact ⟨_, rfl, by omega, by omega⟩
  · rw [if_neg h]
    exact ⟨_, rfl, by omega, by omega⟩
def wfL (l : List Int) : Prop := ∀ x ∈ l, (Lit.int .i64 x).wf = true
theorem wf_bd {x : Int} (h : (Lit.int .i64 x).wf = true) : -9223372036854775808 ≤ x ∧ x ≤ 9223372036854775807 := by
  simpa [Lit.wf, IntKind.min, IntKind.max, IntKind.signed, IntKind.bits] using h
theorem next_ok (l : List Int) (n : Int) (hl : wfL l) (hn2 : n ≤ 1000000000000) : ∃ r l', mootmake_Stream_Next.f l n = some (r, l') ∧ 0 ≤ r ∧ (1 ≤ n → r < n) ∧ (n < 1 → r = 0) ∧ wfL l' := by
  unfold mootmake_Stream_Next.f
  by_cases h1 : n < 1
  · rw [if_pos h1]; exact ⟨0, l, rfl, by omega, by omega, by omega, hl⟩
  · rw [if_neg h1]
    by_cases h2 : l.length = 0
    · rw [if_pos h2]; exact ⟨0, l, rfl, by omega, by omega, by omega, hl⟩
    · rw [if_neg h2]
      obtain ⟨x, xs, rfl⟩ : ∃ x xs, l = x :: xs := by cases l with
        | nil => simp at h2
        | cons x xs => exact ⟨x, xs, rfl⟩
      have hb := wf_bd (hl x (by simp))
      obtain ⟨r, hr, h3, h4⟩ := below_ok x n hb.1 hb.2 (by omega) hn2
      rw [show (x :: xs).getD 0 0 = x from rfl, hr]
      exact ⟨r, xs, rfl, h3, fun _ => h4, by omega, fun y hy => hl y (by simp [hy])⟩
def okP (p : S51) : Prop := -1099511627776 ≤ p.f2 ∧ p.f2 ≤ 1099511627776 ∧ 0 ≤ p.f3 ∧ p.f3 ≤ 1048575 ∧ 0 ≤ p.f1 ∧ p.f1 ≤ 1048575
theorem rd_mem {l : List S51} {i : Int} (h0 : 0 ≤ i) (h1 : i < l.length) : rd_T51 l i ∈ l := by
  have hx : i.toNat < l.length := by omega
  unfold rd_T51
  rw [List.getD_eq_getElem?_getD, List.getElem?_eq_getElem hx]
  exact List.getElem_mem hx
theorem bcheck_l0 (l : List S51) (hn : l.length ≤ 1000) (h : ∀ p ∈ l, okP p) : ∀ (n i : Nat), i + n = l.length → ∀ k, 2 * n + 1 ≤ k → back_Check.l0 k l (l.length : Int) (i : Int) = some 0 := by
  intro n
  induction n with
  | zero =>
    intro i hi k hk
    obtain ⟨k, rfl⟩ : ∃ j, k = j + 1 := ⟨k - 1, by omega⟩
    rw [back_Check.l0, if_neg (by omega)]
  | succ n ih =>
    intro i hi k hk
    obtain ⟨k, rfl⟩ : ∃ j, k = j + 1 + 1 := ⟨k - 2, by omega⟩
    obtain ⟨a1, a2, a3, a4, a5, a6⟩ := h _ (rd_mem (l := l) (i := (i : Int)) (by omega) (by omega))
    rw [back_Check.l0, if_pos (by omega), if_pos (by omega), if_pos (by omega), if_neg (by omega), back_Check.j1, if_neg (by simp; omega), if_neg (by omega), if_neg (by omega), if_neg (by omega), if_neg (by omega)]
    rw [show wrap64 ((i : Int) + 1) = ((i + 1 : Nat) : Int) by rw [w64 (by omega) (by omega)]; omega]
    exact ih (i + 1) (by omega) k (by omega)
theorem bcheck_ok (l : List S51) (hn : l.length ≤ 1000) (h : ∀ p ∈ l, okP p) (k : Nat) (hk : 2 * l.length + 1 ≤ k) : back_Check.f k l = some 0 := by
  unfold back_Check.f
  rw [if_neg (by omega)]
  exact bcheck_l0 l hn h l.length 0 (by omega) k hk
def made (p : S51) : Prop := 1 ≤ p.f0 ∧ p.f0 ≤ 3 ∧ 20000 ≤ p.f1 ∧ p.f1 ≤ 20003 ∧ -300 ≤ p.f2 ∧ p.f2 ≤ 599 ∧ 700000 ≤ p.f3 ∧ p.f3 ≤ 739999
theorem day_ok (x : Int) (h0 : -9223372036854775808 ≤ x) (h1 : x ≤ 9223372036854775807) : ∃ d, mootmake_Day.f x = some d ∧ 700000 ≤ d ∧ d ≤ 739999 := by
  obtain ⟨r, hr, h2, h3⟩ := below_ok x 40000 h0 h1 (by omega) (by omega)
  unfold mootmake_Day.f
  rw [hr]
  exact ⟨_, rfl, by rw [w64 (by omega) (by omega)]; omega, by rw [w64 (by omega) (by omega)]; omega⟩
theorem pays_l0 (m : Int) (hm : m ≤ 12) : ∀ (n : Nat) (i : Int) (x : List S51) (s : List Int), 0 ≤ i → i + n = m → x.length = i.toNat → (∀ p ∈ x, made p) → wfL s →
    ∃ r, (∀ k, n + 1 ≤ k → mootkeep4_Pays.l0 k x m i s = some r) ∧ r.length = m.toNat ∧ ∀ p ∈ r, made p := by
  intro n
  induction n with
  | zero =>
    intro i x s h0 hi hx hp hs
    refine ⟨x, fun k hk => ?_, by omega, hp⟩
    obtain ⟨k, rfl⟩ : ∃ j, k = j + 1 := ⟨k - 1, by omega⟩
    rw [mootkeep4_Pays.l0, if_neg (by omega)]
  | succ n ih =>
    intro i x s h0 hi hx hp hs
    obtain ⟨r1, s1, e1, a1, b1, _, hs1⟩ := next_ok s 3 hs (by omega)
    obtain ⟨r2, s2, e2, a2, b2, _, hs2⟩ := next_ok s1 4 hs1 (by omega)
    obtain ⟨r3, s3, e3, a3, b3, _, hs3⟩ := next_ok s2 900 hs2 (by omega)
    obtain ⟨r4, s4, e4, a4, b4, _, hs4⟩ := next_ok s3 40000 hs3 (by omega)
    obtain ⟨d, e5, a5, b5⟩ := day_ok r4 (by omega) (by have := b4 (by omega); omega)
    have c1 := b1 (by omega)
    have c2 := b2 (by omega)
    have c3 := b3 (by omega)
    obtain ⟨r, hr, h4, h5⟩ := ih (i + 1) (x ++ [⟨1 + r1, 20000 + r2, r3 - 300, d⟩]) s4 (by omega) (by omega) (by rw [List.length_append]; simp only [List.length_cons, List.length_nil]; omega) (by
      intro p hq
      rcases List.mem_append.1 hq with hq | hq
      · exact hp p hq
      · rw [List.mem_singleton] at hq
        subst hq
        exact ⟨by show 1 ≤ 1 + r1; omega, by show 1 + r1 ≤ 3; omega, by show 20000 ≤ 20000 + r2; omega, by show 20000 + r2 ≤ 20003; omega, by show -300 ≤ r3 - 300; omega, by show r3 - 300 ≤ 599; omega, a5, b5⟩) hs4
    refine ⟨r, fun k hk => ?_, h4, h5⟩
    obtain ⟨k, rfl⟩ : ∃ j, k = j + 1 := ⟨k - 1, by omega⟩
    rw [mootkeep4_Pays.l0, if_pos (by omega), e1]
    simp only [Option.bind_some]
    rw [e2]
    simp only [Option.bind_some]
    rw [e3]
    simp only [Option.bind_some]
    rw [e4]
    simp only [Option.bind_some]
    rw [e5]
    simp only [Option.bind_some]
    rw [if_pos (by omega), w64 (a := 1 + r1) (by omega) (by omega), w64 (a := 20000 + r2) (by omega) (by omega), w64 (a := r3 - 300) (by omega) (by omega), w64 (a := i + 1) (by omega) (by omega)]
    exact hr k (by omega)
theorem pays_ok (l : List Int) (hl : wfL l) : ∃ r, (∀ k, 13 ≤ k → mootkeep4_Pays.f k l = some r) ∧ r.length ≤ 12 ∧ ∀ p ∈ r, made p := by
  obtain ⟨m, s, e, a, b, _, hs⟩ := next_ok l 12 hl (by omega)
  have := b (by omega)
  obtain ⟨r, h1, h2, h3⟩ := pays_l0 m (by omega) m.toNat 0 [] s (by omega) (by omega) rfl (by simp) hs
  refine ⟨r, fun k hk => ?_, by omega, h3⟩
  unfold mootkeep4_Pays.f
  rw [e]
  exact h1 k (by omega)
def tot (k : Int × Int) : List S51 → Int
  | [] => 0
  | p :: r => (if (p.f0, p.f1) = k then p.f2 else 0) + tot k r
theorem tot_append (k : Int × Int) (a b : List S51) : tot k (a ++ b) = tot k a + tot k b := by
  induction a with
  | nil => simp [tot]
  | cons p r ih => rw [List.cons_append, tot, tot, ih]; omega
theorem tot_perm (k : Int × Int) {a b : List S51} (h : a.Perm b) : tot k a = tot k b := by
  induction h with
  | nil => rfl
  | cons x _ ih => rw [tot, tot, ih]
  | swap x y l => simp only [tot]; omega
  | trans _ _ ih1 ih2 => rw [ih1, ih2]
theorem tot_bd (k : Int × Int) (B : Int) (hB : 0 ≤ B) (l : List S51) (h : ∀ p ∈ l, -B ≤ p.f2 ∧ p.f2 ≤ B) : -(B * l.length) ≤ tot k l ∧ tot k l ≤ B * l.length := by
  induction l with
  | nil => simp [tot]
  | cons p r ih =>
    obtain ⟨h1, h2⟩ := ih (fun q hq => h q (List.mem_cons_of_mem _ hq))
    obtain ⟨h3, h4⟩ := h p List.mem_cons_self
    rw [tot, List.length_cons]
    have e : B * ((r.length + 1 : Nat) : Int) = B * r.length + B := by rw [show ((r.length + 1 : Nat) : Int) = (r.length : Int) + 1 by omega, Int.mul_add, Int.mul_one]
    rw [e]
    split <;> omega
theorem get_fill (s : Int) (hs : s = 1 ∨ s = -1) (B : Int) (hB : 0 ≤ B) : ∀ (l : List S51) (m : List ((Int × Int) × Int)) (C : Int), (∀ p ∈ l, -B ≤ p.f2 ∧ p.f2 ≤ B) → (∀ k, -C ≤ corr_get m k ∧ corr_get m k ≤ C) → C + B * l.length ≤ 4611686018427387904 →
    ∀ k, corr_get (corr_fill s m l) k = corr_get m k + s * tot k l := by
  intro l
  induction l with
  | nil => intro m C _ _ _ k; simp [corr_fill, tot]
  | cons p r ih =>
    intro m C hp hm hC k
    obtain ⟨h3, h4⟩ := hp p List.mem_cons_self
    have e : B * (((p :: r).length : Nat) : Int) = B * r.length + B := by rw [List.length_cons, show ((r.length + 1 : Nat) : Int) = (r.length : Int) + 1 by omega, Int.mul_add, Int.mul_one]
    rw [e] at hC
    have hBr : 0 ≤ B * (r.length : Int) := Int.mul_nonneg hB (by omega)
    have hsp : -B ≤ s * p.f2 ∧ s * p.f2 ≤ B := by rcases hs with rfl | rfl <;> omega
    have hg : ∀ k', corr_get (corr_add m (p.f0, p.f1) (s * p.f2)) k' = corr_get m k' + s * (if (p.f0, p.f1) = k' then p.f2 else 0) := by
      intro k'
      rw [corr_get_add]
      have := hm (p.f0, p.f1)
      by_cases e : k' = (p.f0, p.f1)
      · rw [if_pos e, if_pos e.symm, e, w64 (by omega) (by omega)]
      · rw [if_neg e, if_neg (fun z => e z.symm)]; omega
    have := ih (corr_add m (p.f0, p.f1) (s * p.f2)) (C + B) (fun q hq => hp q (List.mem_cons_of_mem _ hq)) (by
      intro k'
      rw [hg]
      have := hm k'
      split
      · omega
      · omega) (by omega) k
    have e2 : corr_fill s m (p :: r) = corr_fill s (corr_add m (p.f0, p.f1) (s * p.f2)) r := rfl
    rw [e2, this, hg, tot, Int.mul_add]
    omega
theorem nodup_fill (s : Int) : ∀ (l : List S51) (m : List ((Int × Int) × Int)), (m.map Prod.fst).Nodup → ((corr_fill s m l).map Prod.fst).Nodup := by
  intro l
  induction l with
  | nil => intro m h; exact h
  | cons p r ih => intro m h; exact ih _ (corr_nodup_add _ _ _ h)
theorem len_fill (s : Int) : ∀ (l : List S51) (m : List ((Int × Int) × Int)), (corr_fill s m l).length ≤ m.length + l.length := by
  intro l
  induction l with
  | nil => intro m; exact Nat.le_refl _
  | cons p r ih =>
    intro m
    have h1 := ih (corr_add m (p.f0, p.f1) (s * p.f2))
    have h2 := corr_len_add m (p.f0, p.f1) (s * p.f2)
    have e2 : corr_fill s m (p :: r) = corr_fill s (corr_add m (p.f0, p.f1) (s * p.f2)) r := rfl
    rw [e2, List.length_cons]
    omega
theorem keys_fill (s : Int) : ∀ (l : List S51) (m : List ((Int × Int) × Int)) (k : Int × Int), k ∈ (corr_fill s m l).map Prod.fst → k ∈ m.map Prod.fst ∨ ∃ p ∈ l, (p.f0, p.f1) = k := by
  intro l
  induction l with
  | nil => intro m k h; exact .inl h
  | cons p r ih =>
    intro m k h
    rcases ih _ k h with h | ⟨q, hq, e⟩
    · rcases (corr_mem_add m (p.f0, p.f1) k (s * p.f2)).1 h with h | h
      · exact .inr ⟨p, List.mem_cons_self, h.symm⟩
      · exact .inl h
    · exact .inr ⟨q, List.mem_cons_of_mem _ hq, e⟩
theorem get_none {m : List ((Int × Int) × Int)} {k : Int × Int} (h : k ∉ m.map Prod.fst) : corr_get m k = 0 := by
  induction m with
  | nil => rfl
  | cons p r ih =>
    rw [List.map_cons, List.mem_cons] at h
    unfold corr_get
    rw [if_neg (fun e => h (.inl e.symm))]
    exact ih (fun z => h (.inr z))
theorem mem_list {M : List ((Int × Int) × Int)} (nd : (M.map Prod.fst).Nodup) (d : Int) (p : S51) : p ∈ corr_list M d ↔ p.f3 = d ∧ p.f2 = corr_get M (p.f0, p.f1) ∧ p.f2 ≠ 0 := by
  unfold corr_list
  rw [List.mem_map]
  constructor
  · rintro ⟨e, he, rfl⟩
    obtain ⟨h1, h2⟩ := List.mem_filter.1 he
    have hk : e.1 ∈ M.map Prod.fst := List.mem_map.2 ⟨e, h1, rfl⟩
    have := corr_once nd (corr_get_mem hk) h1 rfl
    refine ⟨rfl, ?_, by simpa using h2⟩
    show e.2 = corr_get M e.1
    rw [← this]
  · rintro ⟨h1, h2, h3⟩
    have hk : (p.f0, p.f1) ∈ M.map Prod.fst := by
      apply Classical.byContradiction
      intro hn
      rw [get_none hn] at h2
      exact h3 h2
    refine ⟨((p.f0, p.f1), p.f2), List.mem_filter.2 ⟨?_, by simp [h3]⟩, ?_⟩
    · rw [h2]; exact corr_get_mem hk
    · rw [← h1]
theorem tot_list (d : Int) (k : Int × Int) : ∀ (M : List ((Int × Int) × Int)), (M.map Prod.fst).Nodup → tot k (corr_list M d) = corr_get M k := by
  intro M
  induction M with
  | nil => intro _; rfl
  | cons e r ih =>
    intro nd
    rw [List.map_cons, List.nodup_cons] at nd
    have h := ih nd.2
    unfold corr_get
    by_cases hz : e.2 = 0
    · have e1 : corr_list (e :: r) d = corr_list r d := by unfold corr_list; rw [List.filter_cons_of_neg (by simp [hz])]
      rw [e1, h]
      by_cases hk : e.1 = k
      · rw [if_pos hk, hz]; exact get_none (hk ▸ nd.1)
      · rw [if_neg hk]
    · have e1 : corr_list (e :: r) d = ⟨e.1.1, e.1.2, e.2, d⟩ :: corr_list r d := by unfold corr_list; rw [List.filter_cons_of_pos (by simp [hz])]; rfl
      rw [e1, tot, h]
      by_cases hk : e.1 = k
      · rw [if_pos hk]
        have : corr_get r k = 0 := get_none (hk ▸ nd.1)
        rw [this, if_pos (show (e.1.1, e.1.2) = k from hk)]
        show e.2 + 0 = e.2
        omega
      · rw [if_neg hk, if_neg (show ¬ (e.1.1, e.1.2) = k from hk)]; omega
def sums (a b : List S51) : List ((Int × Int) × Int) := corr_fill (-1) (corr_fill 1 [] b) a
theorem sums_nodup (a b : List S51) : ((sums a b).map Prod.fst).Nodup := nodup_fill _ _ _ (nodup_fill _ _ _ (by simp))
theorem sums_get (a b : List S51) (ha : a.length ≤ 1000) (hb : b.length ≤ 1000) (h1 : ∀ p ∈ a, okP p) (h2 : ∀ p ∈ b, okP p) (k : Int × Int) : corr_get (sums a b) k = tot k b - tot k a := by
  have g1 : ∀ k, corr_get (corr_fill 1 [] b) k = tot k b := by
    intro k
    rw [get_fill 1 (.inl rfl) 1099511627776 (by omega) b [] 0 (fun p hp => ⟨(h2 p hp).1, (h2 p hp).2.1⟩) (fun k => by simp [corr_get]) (by omega) k]
    simp [corr_get]
  unfold sums
  rw [get_fill (-1) (.inr rfl) 1099511627776 (by omega) a (corr_fill 1 [] b) 1099511627776000 (fun p hp => ⟨(h1 p hp).1, (h1 p hp).2.1⟩) (fun k => by
    rw [g1]
    have := tot_bd k 1099511627776 (by omega) b (fun p hp => ⟨(h2 p hp).1, (h2 p hp).2.1⟩)
    omega) (by omega) k, g1]
  omega
theorem correct_ok (a b : List S51) (d : Int) (ha : a.length ≤ 1000) (hb : b.length ≤ 1000) (h1 : ∀ p ∈ a, okP p) (h2 : ∀ p ∈ b, okP p) (w1 : ∀ p ∈ a, 0 ≤ p.f0 ∧ p.f0 ≤ 1000) (w2 : ∀ p ∈ b, 0 ≤ p.f0 ∧ p.f0 ≤ 1000) (hd0 : 0 ≤ d) (hd1 : d ≤ 1048575) :
    back_Correct.f a b d = some (pay_sort (corr_list (sums a b) d), 0) := by
  have wf : ∀ l : List S51, (∀ p ∈ l, okP p) → (∀ p ∈ l, 0 ≤ p.f0 ∧ p.f0 ≤ 1000) → corr_wf l = true := by
    intro l o w
    unfold corr_wf
    rw [List.all_eq_true]
    intro p hp
    have := o p hp
    have := w p hp
    unfold okP at *
    unfold isI64
    rw [Bool.and_eq_true, decide_eq_true_eq, decide_eq_true_eq]
    omega
  unfold back_Correct.f
  rw [bcheck_ok a ha h1 _ (by omega), bcheck_ok b hb h2 _ (by omega)]
  simp only [Option.bind_some, if_true]
  rw [if_neg (by omega), if_neg (by omega), if_pos (by rw [wf a h1 w1, wf b h2 w2]; simp [ha, hb])]
  rfl
theorem sort_one (p : S51) : pay_sort [p] = [p] := List.perm_singleton.1 (pay_perm [p]).1
theorem corrected_one : back_Correct.f [] [(⟨1, 2, 3, 4⟩ : S51)] 9 = some ([(⟨1, 2, 3, 9⟩ : S51)], 0) := by
  rw [correct_ok [] [(⟨1, 2, 3, 4⟩ : S51)] 9 (by simp) (by simp) (by simp) (by intro p hp; rw [List.mem_singleton] at hp; subst hp; unfold okP; simp) (by simp) (by intro p hp; rw [List.mem_singleton] at hp; subst hp; simp) (by omega) (by omega)]
  have e : corr_list (sums [] [(⟨1, 2, 3, 4⟩ : S51)]) 9 = [(⟨1, 2, 3, 9⟩ : S51)] := by
    simp [sums, corr_fill, corr_add, corr_list, wrap64]
  rw [e, sort_one]
theorem corrected_ok (k : Nat) (hk : 3 ≤ k) : mootkeep4_corrected.f k = some true := by
  obtain ⟨j, rfl⟩ : ∃ j, k = j + 1 + 1 := ⟨k - 2, by omega⟩
  unfold mootkeep4_corrected.f
  rw [corrected_one]
  simp only [Option.bind_some, if_true]
  have e : api_Pay_52.f (j + 1 + 1) [(⟨1, 2, 3, 9⟩ : S51)] [(⟨1, 2, 3, 9⟩ : S51)] = some true := by
    simp [api_Pay_52.f, api_Pay_52.l0, rd_T51, wrap64]
  rw [e]
  rfl
theorem made_ok {p : S51} (h : made p) : okP p := by unfold made at h; unfold okP; omega
theorem corr_made (a b : List S51) (d : Int) (ha : a.length ≤ 12) (hb : b.length ≤ 12) (h1 : ∀ p ∈ a, made p) (h2 : ∀ p ∈ b, made p) (hd0 : 700000 ≤ d) (hd1 : d ≤ 739999) :
    ∃ x, back_Correct.f a b d = some (x, 0) ∧ x.length ≤ 24 ∧ x = pay_sort (corr_list (sums a b) d) ∧ (∀ p ∈ x, 1 ≤ p.f0 ∧ p.f0 ≤ 3 ∧ 20000 ≤ p.f1 ∧ p.f1 ≤ 20003 ∧ -20000 ≤ p.f2 ∧ p.f2 ≤ 20000 ∧ p.f3 = d) ∧ ∀ k, tot k x = tot k b - tot k a := by
  have hs := fun k => sums_get a b (by omega) (by omega) (fun p hp => made_ok (h1 p hp)) (fun p hp => made_ok (h2 p hp)) k
  refine ⟨pay_sort (corr_list (sums a b) d), correct_ok a b d (by omega) (by omega) (fun p hp => made_ok (h1 p hp)) (fun p hp => made_ok (h2 p hp)) (fun p hp => by have := h1 p hp; unfold made at this; omega) (fun p hp => by have := h2 p hp; unfold made at this; omega) (by omega) (by omega), ?_, rfl, ?_, ?_⟩
  · rw [(pay_perm _).1.length_eq]
    have e1 := corr_list_len (sums a b) d
    have e2 := len_fill (-1) a (corr_fill 1 [] b)
    have e3 := len_fill 1 b []
    unfold sums at e1
    simp only [List.length_nil] at e3
    unfold sums
    omega
  · intro p hp
    have hp' := (pay_perm _).1.mem_iff.1 hp
    obtain ⟨a1, a2, a3⟩ := (mem_list (sums_nodup a b) d p).1 hp'
    have hk : (p.f0, p.f1) ∈ (sums a b).map Prod.fst := by
      apply Classical.byContradiction
      intro hn
      rw [get_none hn] at a2
      exact a3 a2
    have hq : ∃ q : S51, made q ∧ (q.f0, q.f1) = (p.f0, p.f1) := by
      rcases keys_fill (-1) a _ _ hk with hk | ⟨q, hq, e⟩
      · rcases keys_fill 1 b _ _ hk with hk | ⟨q, hq, e⟩
        · simp at hk
        · exact ⟨q, h2 q hq, e⟩
      · exact ⟨q, h1 q hq, e⟩
    obtain ⟨q, hm, e⟩ := hq
    injection e with e1 e2
    unfold made at hm
    rw [hs] at a2
    have t1 := tot_bd (p.f0, p.f1) 600 (by omega) a (fun p hp => by have := h1 p hp; unfold made at this; omega)
    have t2 := tot_bd (p.f0, p.f1) 600 (by omega) b (fun p hp => by have := h2 p hp; unfold made at this; omega)
    have t3 : (600 : Int) * a.length ≤ 7200 := by omega
    have t4 : (600 : Int) * b.length ≤ 7200 := by omega
    refine ⟨by omega, by omega, by omega, by omega, by omega, by omega, a1⟩
  · intro k
    rw [tot_perm k (pay_perm _).1, tot_list d k _ (sums_nodup a b), hs]
def oneV (e : S35) : Int :=
  if e.f0 < 0 ∨ e.f0 > 1048575 ∨ min e.f1 e.f2 < 0 ∨ max e.f1 e.f2 ≥ 100 then 1 else if e.f1 = e.f2 then 3 else if e.f3 < 1 ∨ e.f3 > 1099511627776 then 2 else 0
def chk (p : Int) : List S35 → Int
  | [] => 0
  | e :: es => if oneV e = 0 then (if p > e.f0 then 9 else chk e.f0 es) else oneV e
def checkV (l : List S35) : Int := if l.length > 2000 then 6 else chk 0 l
theorem mx_eq (a b : Int) : mx a b = max a b := by unfold mx; split <;> omega
theorem mn_eq (a b : Int) : mn a b = min a b := by unfold mn; split <;> omega
theorem one_ok (e : S35) : Ev (fun k => ledger_one.f k e.f0 e.f1 e.f2 e.f3) (oneV e) := by
  have j : ∀ b : Bool, Ev (fun k => ledger_one.j0 k b e.f0 e.f1 e.f2 e.f3) (if b = true then 1 else if e.f1 = e.f2 then 3 else if e.f3 < 1 ∨ e.f3 > 1099511627776 then 2 else 0) := by
    intro b
    apply Ev.step
    · intro k; rw [ledger_one.j0]
    · by_cases c : b = true
      · exact Ev.res (if_pos c) (Ev.ite_pos c (Ev.now _))
      · refine Ev.res (if_neg c) (Ev.ite_neg c ?_)
        by_cases c2 : e.f1 = e.f2
        · exact Ev.res (if_pos c2) (Ev.ite_pos c2 (Ev.now _))
        · refine Ev.res (if_neg c2) (Ev.ite_neg c2 ?_)
          by_cases c3 : e.f3 < 1
          · exact Ev.res (if_pos (Or.inl c3)) (Ev.ite_pos c3 (Ev.now _))
          · refine Ev.ite_neg c3 ?_
            by_cases c4 : e.f3 > 1099511627776
            · exact Ev.res (if_pos (Or.inr c4)) (Ev.ite_pos c4 (Ev.now _))
            · exact Ev.res (if_neg (by omega)) (Ev.ite_neg c4 (Ev.now _))
  unfold ledger_one.f oneV
  rw [mn_eq, mx_eq]
  by_cases c1 : e.f0 < 0
  · exact Ev.res (if_pos (by omega)) (Ev.ite_pos c1 (j true))
  · refine Ev.ite_neg c1 ?_
    by_cases c2 : e.f0 > 1048575
    · exact Ev.res (if_pos (by omega)) (Ev.ite_pos c2 (j true))
    · refine Ev.ite_neg c2 ?_
      by_cases c3 : min e.f1 e.f2 < 0
      · exact Ev.res (if_pos (by omega)) (Ev.ite_pos c3 (j true))
      · refine Ev.ite_neg c3 ?_
        by_cases c4 : max e.f1 e.f2 ≥ 100
        · refine Ev.res (if_pos (by omega)) ?_
          rw [decide_eq_true c4]; exact j true
        · refine Ev.res (if_neg (by omega)) ?_
          rw [decide_eq_false c4]; exact j false
def rdE (l : List S35) (i : Nat) : S35 := l.getD i z35
theorem rd_nat (l : List S35) (i : Nat) : rd_T35 l (i : Int) = rdE l i := rfl
theorem one_day (e : S35) (h : oneV e = 0) : 0 ≤ e.f0 ∧ e.f0 ≤ 1048575 ∧ 0 ≤ e.f1 ∧ 0 ≤ e.f2 ∧ e.f1 ≤ 99 ∧ e.f2 ≤ 99 ∧ e.f1 ≠ e.f2 ∧ 1 ≤ e.f3 ∧ e.f3 ≤ 1099511627776 := by
  unfold oneV at h
  split at h
  · omega
  · split at h
    · omega
    · split at h
      · omega
      · omega
theorem check_l0 (l : List S35) (hn : l.length ≤ 2000) : ∀ (n i : Nat), i + n = l.length → Ev (fun k => ledger_Check.l0 k l l (l.length : Int) (i : Int)) (chk (if i = 0 then 0 else (rdE l (i - 1)).f0) (l.drop i)) := by
  intro n
  induction n with
  | zero =>
    intro i h
    rw [List.drop_of_length_le (by omega)]
    apply Ev.step
    · intro k; rw [ledger_Check.l0]
    · exact Ev.ite_neg (by omega) (Ev.now _)
  | succ n ih =>
    intro i h
    have e := ih (i + 1) (by omega)
    rw [drop_cons l z35 i (by omega), chk]
    apply Ev.step
    · intro k; rw [ledger_Check.l0]
    · refine Ev.ite_pos (by omega) (Ev.ite_pos (by omega) (Ev.ite_pos (by omega) ?_))
      rw [rd_nat]
      refine Ev.bind (one_ok (rdE l i)) ?_
      rw [show wrap64 ((i : Int) + 1) = ((i + 1 : Nat) : Int) by rw [w64 (by omega) (by omega)]; omega]
      by_cases c : oneV (rdE l i) = 0
      · refine Ev.res (if_pos c) (Ev.ite_pos c ?_)
        have hd := (one_day _ c).1
        rw [if_neg (by omega)] at e
        simp only [Nat.add_sub_cancel] at e
        by_cases c0 : i = 0
        · refine Ev.ite_neg (by omega) ?_
          refine Ev.res (if_neg ?_) e
          rw [if_pos c0]; show ¬ 0 > (rdE l i).f0; omega
        · rw [w64 (a := (i : Int) - 1) (by omega) (by omega)]
          refine Ev.ite_pos (by omega) (Ev.ite_pos (by omega) (Ev.ite_pos (by omega) ?_))
          rw [show (i : Int) - 1 = ((i - 1 : Nat) : Int) by omega, rd_nat]
          rw [if_neg c0]
          by_cases cp : (rdE l (i - 1)).f0 > (rdE l i).f0
          · exact Ev.res (if_pos cp) (Ev.ite_pos cp (Ev.now _))
          · exact Ev.res (if_neg cp) (Ev.ite_neg cp e)
      · exact Ev.res (if_neg c) (Ev.ite_neg c (Ev.now _))
theorem check_ok (l : List S35) : Ev (fun k => ledger_Check.f k l) (checkV l) := by
  unfold ledger_Check.f checkV
  by_cases c : l.length > 2000
  · exact Ev.res (if_pos c) (Ev.ite_pos (by omega) (Ev.now _))
  · refine Ev.res (if_neg c) (Ev.ite_neg (by omega) ?_)
    have e := check_l0 l (by omega) l.length 0 (by omega)
    simpa using e
theorem chk_all (l : List S35) : ∀ p, chk p l = 0 → ∀ e ∈ l, oneV e = 0 := by
  induction l with
  | nil => intro p _ e he; simp at he
  | cons x xs ih =>
    intro p h e he
    rw [chk] at h
    split at h
    · split at h
      · omega
      · rcases List.mem_cons.1 he with rfl | he
        · assumption
        · exact ih _ h e he
    · exact absurd h (by assumption)
theorem check_all {l : List S35} (h : checkV l = 0) : l.length ≤ 2000 ∧ ∀ e ∈ l, oneV e = 0 := by
  unfold checkV at h
  split at h
  · omega
  · exact ⟨by omega, chk_all l 0 h⟩
def eff (a d : Int) (e : S35) : Int := if e.f0 > d then 0 else if e.f2 = a then e.f3 else if e.f1 = a then -e.f3 else 0
def bal (a d : Int) : List S35 → Int
  | [] => 0
  | e :: es => eff a d e + bal a d es
theorem bal_append (a d : Int) (l m : List S35) : bal a d (l ++ m) = bal a d l + bal a d m := by
  induction l with
  | nil => simp [bal]
  | cons e es ih => simp only [List.cons_append, bal, ih]; omega
theorem balance_l0 (l : List S35) (hn : l.length ≤ 2000) (hl : ∀ e ∈ l, 0 ≤ e.f3 ∧ e.f3 ≤ 1099511627776) (a d : Int) : ∀ (n i : Nat) (x : Int), i + n = l.length → -(1099511627776 * i) ≤ x → x ≤ 1099511627776 * i →
    Ev (fun k => ledger_Balance.l0 k a d x l (l.length : Int) (i : Int)) (x + bal a d (l.drop i), 0) := by
  intro n
  induction n with
  | zero =>
    intro i x h h1 h2
    rw [List.drop_of_length_le (by omega)]
    apply Ev.step
    · intro k; rw [ledger_Balance.l0]
    · exact Ev.ite_neg (by omega) (Ev.some_ (by simp [bal]))
  | succ n ih =>
    intro i x h h1 h2
    have hm : rdE l i ∈ l := by
      have : rdE l i = l[i]'(by omega) := by simp [rdE, List.getD_eq_getElem?_getD, show i < l.length by omega]
      rw [this]; exact List.getElem_mem _
    obtain ⟨b1, b2⟩ := hl _ hm
    have hw : wrap64 ((i : Int) + 1) = ((i + 1 : Nat) : Int) := by rw [w64 (by omega) (by omega)]; omega
    rw [drop_cons l z35 i (by omega), bal]
    apply Ev.step
    · intro k; rw [ledger_Balance.l0]
    · refine Ev.ite_pos (by omega) (Ev.ite_pos (by omega) (Ev.ite_pos (by omega) ?_))
      simp only [rd_nat]
      rw [hw]
      have hres : ∀ y : Int, y = eff a d (rdE l i) → -(1099511627776 * ((i + 1 : Nat) : Int)) ≤ x + y → x + y ≤ 1099511627776 * ((i + 1 : Nat) : Int) → Ev (fun k => ledger_Balance.l0 k a d (x + y) l (l.length : Int) ((i + 1 : Nat) : Int)) (x + (eff a d (l.getD i z35) + bal a d (l.drop (i + 1))), 0) := by
        intro y hy h3 h4
        have e := ih (i + 1) (x + y) (by omega) h3 h4
        refine Ev.res ?_ e
        rw [hy]; show (x + (eff a d (rdE l i) + bal a d (l.drop (i + 1))), (0 : Int)) = _
        rw [Int.add_assoc]
      by_cases c1 : (rdE l i).f0 > d
      · refine Ev.ite_pos c1 ?_
        have := hres 0 (by unfold eff; rw [if_pos c1]) (by omega) (by omega)
        simpa using this
      · refine Ev.ite_neg c1 ?_
        by_cases c2 : (rdE l i).f2 = a
        · refine Ev.ite_pos c2 ?_
          rw [w64 (by omega) (by omega)]
          exact hres _ (by unfold eff; rw [if_neg c1, if_pos c2]) (by omega) (by omega)
        · refine Ev.ite_neg c2 ?_
          by_cases c3 : (rdE l i).f1 = a
          · refine Ev.ite_pos c3 ?_
            rw [w64 (by omega) (by omega)]
            exact hres (-(rdE l i).f3) (by unfold eff; rw [if_neg c1, if_neg c2, if_pos c3]) (by omega) (by omega)
          · refine Ev.ite_neg c3 ?_
            have := hres 0 (by unfold eff; rw [if_neg c1, if_neg c2, if_neg c3]) (by omega) (by omega)
            simpa using this
theorem balance_ok (l : List S35) (a d : Int) (h : checkV l = 0) (h0 : 0 ≤ a) (h1 : a < 100) : Ev (fun k => ledger_Balance.f k l a d) (bal a d l, 0) := by
  obtain ⟨hn, ha⟩ := check_all h
  unfold ledger_Balance.f
  have hc := check_ok l
  rw [h] at hc
  refine Ev.bind hc (Ev.ite_pos rfl (Ev.ite_neg (by omega) ?_))
  apply Ev.step
  · intro k; rw [ledger_Balance.j0]
  · refine Ev.ite_neg (by simp; omega) ?_
    have e := balance_l0 l hn (fun x hx => by have := one_day x (ha x hx); omega) a d l.length 0 0 (by omega) (by omega) (by omega)
    simpa using e
def Sd {α : Type} (key : α → Int) (l : List α) : Prop := l.Pairwise (fun x y => key x ≤ key y)
def Fe {α : Type} (key : α → Int) (l m : List α) : Prop := ∀ d, l.filter (fun x => decide (key x = d)) = m.filter (fun x => decide (key x = d))
variable {α : Type} {key : α → Int}
theorem Fe.refl (l : List α) : Fe key l l := fun _ => rfl
theorem Fe.symm {l m : List α} (h : Fe key l m) : Fe key m l := fun d => (h d).symm
theorem Fe.trans {l m n : List α} (h : Fe key l m) (k : Fe key m n) : Fe key l n := fun d => (h d).trans (k d)
theorem Fe.append {l l' m m' : List α} (h : Fe key l l') (k : Fe key m m') : Fe key (l ++ m) (l' ++ m') := fun d => by rw [List.filter_append, List.filter_append, h d, k d]
theorem Fe.left (p : List α) {l m : List α} (h : Fe key l m) : Fe key (p ++ l) (p ++ m) := (Fe.refl p).append h
theorem Fe.right (p : List α) {l m : List α} (h : Fe key l m) : Fe key (l ++ p) (m ++ p) := h.append (Fe.refl p)
theorem Fe.swap {u v : List α} (h : ∀ x ∈ u, ∀ y ∈ v, key y < key x) : Fe key (u ++ v) (v ++ u) := fun d => by
  rw [List.filter_append, List.filter_append]
  by_cases hu : ∃ x ∈ u, key x = d
  · obtain ⟨x, hx, e⟩ := hu
    have : v.filter (fun x => decide (key x = d)) = [] := by
      rw [List.filter_eq_nil_iff]
      intro y hy hd
      have := h x hx y hy
      simp only [decide_eq_true_eq] at hd
      omega
    rw [this]; simp
  · have : u.filter (fun x => decide (key x = d)) = [] := by
      rw [List.filter_eq_nil_iff]
      intro y hy hd
      exact hu ⟨y, hy, by simpa using hd⟩
    rw [this]; simp
theorem Fe.mem {l m : List α} (h : Fe key l m) (x : α) : x ∈ l ↔ x ∈ m := by
  have e := h (key x)
  have h1 : x ∈ l ↔ x ∈ l.filter (fun y => decide (key y = key x)) := by simp
  have h2 : x ∈ m ↔ x ∈ m.filter (fun y => decide (key y = key x)) := by simp
  rw [h1, h2, e]
theorem Fe.nil {m : List α} (h : Fe key [] m) : m = [] := by
  cases m with
  | nil => rfl
  | cons y r => exact absurd ((h.mem y).2 List.mem_cons_self) (by simp)
theorem Sd.append {l m : List α} (h : Sd key l) (k : Sd key m) (e : ∀ x ∈ l, ∀ y ∈ m, key x ≤ key y) : Sd key (l ++ m) := List.pairwise_append.2 ⟨h, k, e⟩
theorem Sd.left {l m : List α} (h : Sd key (l ++ m)) : Sd key l := (List.pairwise_append.1 h).1
theorem Sd.right {l m : List α} (h : Sd key (l ++ m)) : Sd key m := (List.pairwise_append.1 h).2.1
theorem Sd.across {l m : List α} (h : Sd key (l ++ m)) : ∀ x ∈ l, ∀ y ∈ m, key x ≤ key y := (List.pairwise_append.1 h).2.2
theorem cross_le {u v : List α} {i j : Nat} (hu : Sd key u) (hv : Sd key v) (hi : i ≤ u.length) (hj : j ≤ v.length) (h : ∀ (h1 : 0 < i) (h2 : j < v.length), key (u[i - 1]'(by omega)) ≤ key v[j]) : ∀ x ∈ u.take i, ∀ y ∈ v.drop j, key x ≤ key y := by
  intro x hx y hy
  obtain ⟨a, ha, rfl⟩ := List.getElem_of_mem hx
  obtain ⟨b, hb, rfl⟩ := List.getElem_of_mem hy
  rw [List.length_take] at ha
  rw [List.length_drop] at hb
  have h0 := h (by omega) (by omega)
  rw [List.getElem_take, List.getElem_drop]
  have h1 : key u[a] ≤ key (u[i - 1]'(by omega)) := by
    rcases Nat.lt_or_ge a (i - 1) with c | c
    · exact List.pairwise_iff_getElem.1 hu a (i - 1) (by omega) (by omega) c
    · have : a = i - 1 := by omega
      subst this; exact Int.le_refl _
  have h2 : key (v[j]'(by omega)) ≤ key (v[j + b]'(by omega)) := by
    rcases Nat.eq_zero_or_pos b with c | c
    · subst c; exact Int.le_refl _
    · exact List.pairwise_iff_getElem.1 hv j (j + b) (by omega) (by omega) (by omega)
  omega
theorem cross_lt {u v : List α} {i j : Nat} (hu : Sd key u) (hv : Sd key v) (hi : i ≤ u.length) (hj : j ≤ v.length) (h : ∀ (h1 : 0 < j) (h2 : i < u.length), key (v[j - 1]'(by omega)) < key u[i]) : ∀ x ∈ u.drop i, ∀ y ∈ v.take j, key y < key x := by
  intro x hx y hy
  obtain ⟨a, ha, rfl⟩ := List.getElem_of_mem hx
  obtain ⟨b, hb, rfl⟩ := List.getElem_of_mem hy
  rw [List.length_drop] at ha
  rw [List.length_take] at hb
  have h0 := h (by omega) (by omega)
  rw [List.getElem_take, List.getElem_drop]
  have h1 : key v[b] ≤ key (v[j - 1]'(by omega)) := by
    rcases Nat.lt_or_ge b (j - 1) with c | c
    · exact List.pairwise_iff_getElem.1 hv b (j - 1) (by omega) (by omega) c
    · have : b = j - 1 := by omega
      subst this; exact Int.le_refl _
  have h2 : key (u[i]'(by omega)) ≤ key (u[i + a]'(by omega)) := by
    rcases Nat.eq_zero_or_pos a with c | c
    · subst c; exact Int.le_refl _
    · exact List.pairwise_iff_getElem.1 hu i (i + a) (by omega) (by omega) (by omega)
  omega
theorem sym_join {a1 a2 b1 b2 l r : List α} (hu : Sd key (a1 ++ a2)) (hv : Sd key (b1 ++ b2)) (h1 : ∀ x ∈ a1, ∀ y ∈ b2, key x ≤ key y) (h2 : ∀ x ∈ a2, ∀ y ∈ b1, key y < key x) (sl : Sd key l) (fl : Fe key (a1 ++ b1) l) (sr : Sd key r) (fr : Fe key (a2 ++ b2) r) :
    Sd key (l ++ r) ∧ Fe key (a1 ++ a2 ++ (b1 ++ b2)) (l ++ r) := by
  refine ⟨Sd.append sl sr ?_, ?_⟩
  · intro x hx y hy
    have hx' := (fl.mem x).2 hx
    have hy' := (fr.mem y).2 hy
    rcases List.mem_append.1 hx' with hx' | hx' <;> rcases List.mem_append.1 hy' with hy' | hy'
    · exact hu.across x hx' y hy'
    · exact h1 x hx' y hy'
    · have := h2 y hy' x hx'; omega
    · exact hv.across x hx' y hy'
  · refine Fe.trans ?_ (fl.append fr)
    have := ((Fe.swap h2).left a1).right b2
    simpa [List.append_assoc] using this
def Ch (key : α → Int) (bs : Nat) (l : List α) : Prop := ∃ (Ls : List (List α)) (t : List α), l = Ls.flatten ++ t ∧ (∀ x ∈ Ls, x.length = bs ∧ Sd key x) ∧ Sd key t ∧ t.length < bs
theorem flat_len {bs : Nat} {Ls : List (List α)} (h : ∀ x ∈ Ls, x.length = bs ∧ Sd key x) : Ls.flatten.length = bs * Ls.length := by
  induction Ls with
  | nil => rfl
  | cons x r ih =>
    rw [List.flatten_cons, List.length_append, ih (fun y hy => h y (List.mem_cons_of_mem _ hy)), (h x List.mem_cons_self).1, List.length_cons, Nat.mul_add]
    omega
theorem Ch.small {bs : Nat} {l : List α} (h : Ch key bs l) (hl : l.length ≤ bs) : Sd key l := by
  obtain ⟨Ls, t, rfl, h1, h2, h3⟩ := h
  rw [List.length_append, flat_len h1] at hl
  match Ls with
  | [] => simpa using h2
  | x :: r =>
    rw [List.length_cons, Nat.mul_add] at hl
    have ht : t.length = 0 := by omega
    obtain rfl : t = [] := List.eq_nil_of_length_eq_zero ht
    have : r = [] := by
      cases r with
      | nil => rfl
      | cons y r =>
        rw [List.length_cons, Nat.mul_add] at hl
        simp only [List.length_nil] at h3
        omega
    subst this
    simpa using (h1 x List.mem_cons_self).2

/- Plain lemmas: what the parts of the stable sort come to: swaps of ranges, rotations, insertion. -/
open Go.RowKit Go.Proofs.Ytenhnlclnjnboaa.PPad Go.Proofs.YtenhnlclnjnboaaW.PrintWords Go.Proofs.YtenhnlclnjnboaaW.PrintLast
set_option linter.unusedVariables false
set_option linter.unusedSimpArgs false
theorem rd_at {A B : List S35} {x : S35} {i : Int} (hi : i = A.length) : rd_T35 (A ++ x :: B) i = x := by
  subst hi
  unfold rd_T35
  rw [Int.toNat_natCast, List.getD_eq_getElem?_getD, List.getElem?_append_right (Nat.le_refl _), Nat.sub_self]
  rfl
theorem set_at {A B : List S35} {x y : S35} {i : Int} (hi : i = A.length) : (A ++ x :: B).set i.toNat y = A ++ y :: B := by
  subst hi
  rw [Int.toNat_natCast, List.set_append, if_neg (Nat.lt_irrefl _), Nat.sub_self]
  rfl
def small (l : List S35) : Prop := l.length ≤ 4398046511104
theorem swap_l0 : ∀ (U V P M Q : List S35) (a b n i : Int), U.length = V.length → small (P ++ U ++ M ++ V ++ Q) → 0 ≤ a → 0 ≤ i → a + i = P.length → b + i = P.length + U.length + M.length → n - i = U.length →
    Ev (fun k => ledger_Entry_95.l0 k (P ++ U ++ M ++ V ++ Q) a b n i) (P ++ V ++ M ++ U ++ Q) := by
  intro U
  induction U with
  | nil =>
    intro V P M Q a b n i hv _ _ _ _ _ hn
    obtain rfl : V = [] := List.eq_nil_of_length_eq_zero hv.symm
    simp only [List.length_nil] at hn
    apply Ev.step
    · intro k; rw [ledger_Entry_95.l0]
    · exact Ev.ite_neg (by omega) (Ev.now _)
  | cons u U' ih =>
    intro V P M Q a b n i hv hs ha hi hp hb hn
    cases V with
    | nil => simp at hv
    | cons v V' =>
      simp only [List.length_cons] at hv hb hn
      have hs' := hs
      unfold small at hs
      simp only [List.length_append, List.length_cons] at hs
      have e1 : P ++ (u :: U') ++ M ++ (v :: V') ++ Q = P ++ u :: (U' ++ M ++ (v :: V') ++ Q) := by simp [List.append_assoc]
      have e2 : P ++ (u :: U') ++ M ++ (v :: V') ++ Q = (P ++ u :: (U' ++ M)) ++ v :: (V' ++ Q) := by simp [List.append_assoc]
      have r1 : rd_T35 (P ++ (u :: U') ++ M ++ (v :: V') ++ Q) (a + i) = u := by rw [e1]; exact rd_at hp
      have r2 : rd_T35 (P ++ (u :: U') ++ M ++ (v :: V') ++ Q) (b + i) = v := by rw [e2]; exact rd_at (by simp only [List.length_append, List.length_cons]; omega)
      have e3 : ((P ++ (u :: U') ++ M ++ (v :: V') ++ Q).set (a + i).toNat v).set (b + i).toNat u = (P ++ [v]) ++ U' ++ (M ++ [u]) ++ V' ++ Q := by
        rw [e1, set_at hp, show P ++ v :: (U' ++ M ++ (v :: V') ++ Q) = (P ++ v :: (U' ++ M)) ++ v :: (V' ++ Q) by simp [List.append_assoc], set_at (by simp only [List.length_append, List.length_cons]; omega)]
        simp [List.append_assoc]
      have hlen : ((P ++ (u :: U') ++ M ++ (v :: V') ++ Q).length : Int) = P.length + (U'.length + 1) + M.length + (V'.length + 1) + Q.length := by simp only [List.length_append, List.length_cons]; omega
      have := ih V' (P ++ [v]) (M ++ [u]) Q a b n (i + 1) (by omega) (by unfold small; simp only [List.length_append, List.length_cons, List.length_nil]; omega) ha (by omega) (by simp only [List.length_append, List.length_cons, List.length_nil]; omega) (by simp only [List.length_append, List.length_cons, List.length_nil]; omega) (by omega)
      rw [show P ++ (v :: V') ++ M ++ (u :: U') ++ Q = P ++ [v] ++ V' ++ (M ++ [u]) ++ U' ++ Q by simp [List.append_assoc]]
      apply Ev.step
      · intro k; rw [ledger_Entry_95.l0]
      · rw [w64 (a := b + i) (by omega) (by omega), w64 (a := a + i) (by omega) (by omega), w64 (a := i + 1) (by omega) (by omega), r1, r2]
        refine Ev.ite_pos (by omega) (Ev.ite_pos (by omega) (Ev.ite_pos (by omega) (Ev.ite_pos (by omega) (Ev.ite_pos (by omega) ?_))))
        have hh : Ev (fun k => ledger_Entry_95.l0 k (((P ++ (u :: U') ++ M ++ (v :: V') ++ Q).set (a + i).toNat v).set (b + i).toNat u) a b n (i + 1)) (P ++ [v] ++ V' ++ (M ++ [u]) ++ U' ++ Q) := by rw [e3]; exact this
        exact hh
theorem swap_ok (P U M V Q : List S35) (a b n : Int) (hv : U.length = V.length) (hs : small (P ++ U ++ M ++ V ++ Q)) (ha : a = P.length) (hb : b = P.length + U.length + M.length) (hn : n = U.length) : Ev (fun k => ledger_Entry_95.f k (P ++ U ++ M ++ V ++ Q) a b n) (P ++ V ++ M ++ U ++ Q) := by
  unfold ledger_Entry_95.f
  exact swap_l0 U V P M Q a b n 0 hv hs (by omega) (by omega) (by omega) (by omega) (by omega)
theorem rot_l0 : ∀ (t : Nat) (P U V Q : List S35) (m i j : Int), U.length + V.length ≤ t → 0 < U.length → 0 < V.length → small (P ++ U ++ V ++ Q) → i = U.length → j = V.length → m = P.length + U.length →
    Ev (fun k => ledger_Entry_86.l0 k (P ++ U ++ V ++ Q) m i j) (P ++ V ++ U ++ Q) := by
  intro t
  induction t with
  | zero => intro P U V Q m i j h h1; omega
  | succ t ih =>
    intro P U V Q m i j h h1 h2 hs hi hj hm
    have hs' := hs
    unfold small at hs'
    simp only [List.length_append] at hs'
    apply Ev.step
    · intro k; rw [ledger_Entry_86.l0]
    · rw [w64 (a := m - i) (by omega) (by omega)]
      by_cases c : i = j
      · refine Ev.ite_pos c (Ev.bind ?_ (Ev.now _))
        have := swap_ok P U [] V Q (m - i) m i (by omega) (by simpa using hs) (by omega) (by simp; omega) hi
        simpa using this
      · refine Ev.ite_neg c ?_
        by_cases c2 : i > j
        · refine Ev.ite_pos c2 ?_
          obtain ⟨U1, U2, rfl, hl⟩ : ∃ U1 U2, U = U1 ++ U2 ∧ U1.length = V.length := ⟨U.take V.length, U.drop V.length, (List.take_append_drop _ _).symm, by rw [List.length_take]; omega⟩
          simp only [List.length_append] at h h1 hi hm hs'
          have e1 : P ++ (U1 ++ U2) ++ V ++ Q = P ++ U1 ++ U2 ++ V ++ Q := by simp [List.append_assoc]
          have s1 := swap_ok P U1 U2 V Q (m - i) m j hl (by rw [← e1]; exact hs) (by omega) (by omega) (by omega)
          rw [e1]
          refine Ev.bind s1 ?_
          rw [w64 (a := i - j) (by omega) (by omega)]
          have := ih (P ++ V) U2 U1 Q m (i - j) j (by omega) (by omega) (by omega) (by unfold small; simp only [List.length_append]; omega) (by omega) (by omega) (by simp only [List.length_append]; omega)
          rw [show P ++ V ++ (U1 ++ U2) ++ Q = P ++ V ++ U1 ++ U2 ++ Q by simp [List.append_assoc]]
          exact this
        · refine Ev.ite_neg c2 ?_
          obtain ⟨V1, V2, rfl, hl⟩ : ∃ V1 V2, V = V1 ++ V2 ∧ U.length = V2.length := ⟨V.take (V.length - U.length), V.drop (V.length - U.length), (List.take_append_drop _ _).symm, by rw [List.length_drop]; omega⟩
          simp only [List.length_append] at h h2 hj hs'
          have e1 : P ++ U ++ (V1 ++ V2) ++ Q = P ++ U ++ V1 ++ V2 ++ Q := by simp [List.append_assoc]
          rw [w64 (a := m + j) (by omega) (by omega), w64 (a := m + j - i) (by omega) (by omega), w64 (a := j - i) (by omega) (by omega)]
          have s1 := swap_ok P U V1 V2 Q (m - i) (m + j - i) i hl (by rw [← e1]; exact hs) (by omega) (by omega) hi
          rw [e1]
          refine Ev.bind s1 ?_
          have := ih P V2 V1 (U ++ Q) m i (j - i) (by omega) (by omega) (by omega) (by unfold small; simp only [List.length_append]; omega) (by omega) (by omega) (by omega)
          rw [show P ++ (V1 ++ V2) ++ U ++ Q = P ++ V1 ++ V2 ++ (U ++ Q) by simp [List.append_assoc], show P ++ V2 ++ V1 ++ U ++ Q = P ++ V2 ++ V1 ++ (U ++ Q) by simp [List.append_assoc]]
          exact this
theorem rot_ok (P U V Q : List S35) (a m b : Int) (h1 : 0 < U.length) (h2 : 0 < V.length) (hs : small (P ++ U ++ V ++ Q)) (ha : a = P.length) (hm : m = P.length + U.length) (hb : b = P.length + U.length + V.length) : Ev (fun k => ledger_Entry_86.f k (P ++ U ++ V ++ Q) a m b) (P ++ V ++ U ++ Q) := by
  have hs' := hs
  unfold small at hs'
  simp only [List.length_append] at hs'
  unfold ledger_Entry_86.f
  rw [w64 (a := m - a) (by omega) (by omega), w64 (a := b - m) (by omega) (by omega)]
  exact rot_l0 _ P U V Q m (m - a) (b - m) (Nat.le_refl _) h1 h2 hs (by omega) (by omega) hm
def kD (e : S35) : Int := e.f0
def dayOk (l : List S35) : Prop := ∀ e ∈ l, 0 ≤ kD e ∧ kD e ≤ 1048575
theorem cmp_ok (x y : S35) (hx : 0 ≤ kD x ∧ kD x ≤ 1048575) (hy : 0 ≤ kD y ∧ kD y ≤ 1048575) : ledger_Pays_1.f x.f0 x.f1 x.f2 x.f3 y.f0 y.f1 y.f2 y.f3 = some (kD x - kD y) := by
  unfold ledger_Pays_1.f kD at *
  rw [w64 (by omega) (by omega)]
def Sorts (g : Nat → Option (List S35)) (P X Q : List S35) : Prop := ∃ F, Ev g (P ++ F ++ Q) ∧ Sd kD F ∧ Fe kD X F ∧ F.length = X.length
theorem Fe.dayOk {l m : List S35} (h : Fe kD l m) (hl : dayOk l) : dayOk m := fun e he => hl e ((h.mem e).2 he)
theorem ins_l1 (P R Q : List S35) (a b i : Int) (y : S35) (N : Nat) (hN : small (P ++ R ++ Q)) (hout : ∀ W : List S35, W.length = N + 1 → Sd kD W → dayOk W → Sorts (fun k => ledger_Entry_65.l0 k (P ++ W ++ R ++ Q) a b (wrap64 (i + 1))) P (W ++ R) Q) :
    ∀ (X1 X2 : List S35) (j : Int), X1.length + X2.length = N → small (P ++ X1 ++ (y :: X2) ++ R ++ Q) → Sd kD (X1 ++ X2) → (∀ z ∈ X2, kD y < kD z) → dayOk (X1 ++ y :: X2) → a = P.length → j = P.length + X1.length →
    Sorts (fun k => ledger_Entry_65.l1 k (P ++ X1 ++ (y :: X2) ++ R ++ Q) a b i j) P (X1 ++ X2 ++ [y] ++ R) Q := by
  intro X1
  generalize hq : X1.length = q
  induction q generalizing X1 with
  | zero =>
    intro X2 j hl hs h1 h2 hd ha hj
    obtain rfl : X1 = [] := List.eq_nil_of_length_eq_zero hq
    simp only [List.nil_append, List.append_nil, List.length_nil] at *
    obtain ⟨F, e, s, f, l⟩ := hout (y :: X2) (by rw [List.length_cons]; omega) (List.pairwise_cons.2 ⟨fun z hz => Int.le_of_lt (h2 z hz), h1⟩) hd
    refine ⟨F, ?_, s, ?_, ?_⟩
    · apply Ev.step
      · intro k; rw [ledger_Entry_65.l1]
      · exact Ev.ite_neg (by omega) e
    · refine Fe.trans ?_ f
      have : Fe kD (X2 ++ [y]) ([y] ++ X2) := Fe.swap (fun x hx z hz => by rw [List.mem_singleton.1 hz]; exact h2 x hx)
      exact this.right R
    · rw [l]; simp only [List.length_append, List.length_cons, List.length_nil]
  | succ q ih =>
    intro X2 j hl hs h1 h2 hd ha hj
    obtain ⟨X, x, rfl⟩ : ∃ X x, X1 = X ++ [x] := ⟨X1.dropLast, X1.getLast (by intro h; rw [h] at hq; simp at hq), (List.dropLast_concat_getLast _).symm⟩
    simp only [List.length_append, List.length_cons, List.length_nil] at hq hj hl
    have hs' := hs
    unfold small at hs'
    simp only [List.length_append, List.length_cons, List.length_nil] at hs'
    have e1 : P ++ (X ++ [x]) ++ (y :: X2) ++ R ++ Q = (P ++ (X ++ [x])) ++ y :: (X2 ++ R ++ Q) := by simp [List.append_assoc]
    have e2 : P ++ (X ++ [x]) ++ (y :: X2) ++ R ++ Q = (P ++ X) ++ x :: (y :: X2 ++ R ++ Q) := by simp [List.append_assoc]
    have r1 : rd_T35 (P ++ (X ++ [x]) ++ (y :: X2) ++ R ++ Q) j = y := by rw [e1]; exact rd_at (by simp only [List.length_append, List.length_cons, List.length_nil]; omega)
    have r2 : rd_T35 (P ++ (X ++ [x]) ++ (y :: X2) ++ R ++ Q) (j - 1) = x := by rw [e2]; exact rd_at (by simp only [List.length_append]; omega)
    have hlen : ((P ++ (X ++ [x]) ++ (y :: X2) ++ R ++ Q).length : Int) = P.length + (X.length + 1) + (X2.length + 1) + R.length + Q.length := by simp only [List.length_append, List.length_cons, List.length_nil]; omega
    have dx := hd x (by simp)
    have dy := hd y (by simp)
    by_cases c : kD y < kD x
    · have e3 : ((P ++ (X ++ [x]) ++ (y :: X2) ++ R ++ Q).set j.toNat x).set (j - 1).toNat y = P ++ X ++ (y :: (x :: X2)) ++ R ++ Q := by
        rw [e1, set_at (by simp only [List.length_append, List.length_cons, List.length_nil]; omega), show (P ++ (X ++ [x])) ++ x :: (X2 ++ R ++ Q) = (P ++ X) ++ x :: (x :: X2 ++ R ++ Q) by simp [List.append_assoc], set_at (by simp only [List.length_append]; omega)]
        simp [List.append_assoc]
      obtain ⟨F, e, s, f, l⟩ := ih X (by omega) (x :: X2) (j - 1) (by rw [List.length_cons]; omega) (by unfold small; simp only [List.length_append, List.length_cons]; omega) (by simpa [List.append_assoc] using h1) (by
        intro z hz
        rcases List.mem_cons.1 hz with rfl | hz
        · exact c
        · exact h2 z hz) (by
        intro z hz
        apply hd
        simp only [List.mem_append, List.mem_cons, List.not_mem_nil, or_false] at hz ⊢
        rcases hz with h | h | h | h
        · exact Or.inl (Or.inl h)
        · exact Or.inr (Or.inl h)
        · exact Or.inl (Or.inr h)
        · exact Or.inr (Or.inr h)) ha (by omega)
      refine ⟨F, ?_, s, by simpa [List.append_assoc] using f, by rw [l]; simp only [List.length_append, List.length_cons, List.length_nil]; omega⟩
      apply Ev.step
      · intro k; rw [ledger_Entry_65.l1]
      · rw [w64 (a := j - 1) (by omega) (by omega), r1, r2, cmp_ok y x dy dx]
        refine Ev.ite_pos (by omega) (Ev.ite_pos (by omega) (Ev.ite_pos (by omega) (Ev.ite_pos (by omega) (Ev.ite_pos (by omega) ?_))))
        refine Ev.ite_pos (by omega) ?_
        have hh : Ev (fun k => ledger_Entry_65.l1 k (((P ++ (X ++ [x]) ++ (y :: X2) ++ R ++ Q).set j.toNat x).set (j - 1).toNat y) a b i (j - 1)) (P ++ F ++ Q) := by rw [e3]; exact e
        exact hh
    · have hW : Sd kD (X ++ [x] ++ (y :: X2)) := by
        refine Sd.append h1.left (List.pairwise_cons.2 ⟨fun z hz => Int.le_of_lt (h2 z hz), h1.right⟩) ?_
        have hxl : ∀ z ∈ X ++ [x], kD z ≤ kD x := by
          intro z hz
          rcases List.mem_append.1 hz with hz | hz
          · exact h1.left.across z hz x (by simp)
          · rw [List.mem_singleton.1 hz]; exact Int.le_refl _
        intro z hz u hu
        rcases List.mem_cons.1 hu with rfl | hu
        · have := hxl z hz; omega
        · have := hxl z hz; have := h2 u hu; omega
      obtain ⟨F, e, s, f, l⟩ := hout (X ++ [x] ++ (y :: X2)) (by simp only [List.length_append, List.length_cons, List.length_nil]; omega) hW hd
      refine ⟨F, ?_, s, ?_, by rw [l]; simp only [List.length_append, List.length_cons, List.length_nil]; omega⟩
      · apply Ev.step
        · intro k; rw [ledger_Entry_65.l1]
        · rw [w64 (a := j - 1) (by omega) (by omega), r1, r2, cmp_ok y x dy dx]
          refine Ev.ite_pos (by omega) (Ev.ite_pos (by omega) (Ev.ite_pos (by omega) (Ev.ite_pos (by omega) (Ev.ite_pos (by omega) ?_))))
          refine Ev.ite_neg (by omega) ?_
          have e4 : P ++ (X ++ [x]) ++ (y :: X2) ++ R ++ Q = P ++ (X ++ [x] ++ (y :: X2)) ++ R ++ Q := by simp [List.append_assoc]
          rw [e4]
          exact e
      · refine Fe.trans ?_ f
        have : Fe kD (X2 ++ [y]) ([y] ++ X2) := Fe.swap (fun x hx z hz => by rw [List.mem_singleton.1 hz]; exact h2 x hx)
        have := (this.left (X ++ [x])).right R
        simpa [List.append_assoc] using this
theorem ins_l0 (P Q : List S35) (a b : Int) : ∀ (R X : List S35) (i : Int), small (P ++ X ++ R ++ Q) → Sd kD X → dayOk (X ++ R) → a = P.length → b = P.length + X.length + R.length → i = P.length + X.length →
    Sorts (fun k => ledger_Entry_65.l0 k (P ++ X ++ R ++ Q) a b i) P (X ++ R) Q := by
  intro R
  induction R with
  | nil =>
    intro X i hs hX hd ha hb hi
    simp only [List.append_nil, List.length_nil] at *
    refine ⟨X, ?_, hX, Fe.refl _, rfl⟩
    apply Ev.step
    · intro k; rw [ledger_Entry_65.l0]
    · exact Ev.ite_neg (by omega) (Ev.now _)
  | cons y R ih =>
    intro X i hs hX hd ha hb hi
    have hs' := hs
    unfold small at hs'
    simp only [List.length_append, List.length_cons] at hs' hb
    have e4 : P ++ X ++ (y :: R) ++ Q = P ++ X ++ (y :: []) ++ R ++ Q := by simp [List.append_assoc]
    obtain ⟨F, e, s, f, l⟩ := ins_l1 P R Q a b i y X.length (by unfold small; simp only [List.length_append]; omega) (fun W hW hWs hWd => by
      rw [w64 (a := i + 1) (by omega) (by omega)]
      exact ih W (i + 1) (by unfold small; simp only [List.length_append]; omega) hWs (fun z hz => by
        rcases List.mem_append.1 hz with hz | hz
        · exact hWd z hz
        · exact hd z (by simp [hz])) ha (by omega) (by omega)) X [] i (by simp) (by rw [← e4]; exact hs) (by simpa using hX) (by simp) (fun z hz => hd z (by
        simp only [List.mem_append, List.mem_cons, List.not_mem_nil, or_false] at hz ⊢
        rcases hz with h | h
        · exact Or.inl h
        · exact Or.inr (Or.inl h))) ha hi
    refine ⟨F, ?_, s, by simpa [List.append_assoc] using f, by rw [l]; simp only [List.length_append, List.length_cons, List.length_nil]; omega⟩
    apply Ev.step
    · intro k; rw [ledger_Entry_65.l0]
    · refine Ev.ite_pos (by omega) ?_
      rw [e4]
      exact e
theorem ins_ok (P X Q : List S35) (a b : Int) (hs : small (P ++ X ++ Q)) (hd : dayOk X) (ha : a = P.length) (hb : b = P.length + X.length) : Sorts (fun k => ledger_Entry_65.f k (P ++ X ++ Q) a b) P X Q := by
  have hs' := hs
  unfold small at hs'
  simp only [List.length_append] at hs'
  unfold ledger_Entry_65.f
  rw [w64 (a := a + 1) (by omega) (by omega)]
  cases X with
  | nil =>
    refine ⟨[], ?_, List.Pairwise.nil, Fe.refl _, rfl⟩
    simp only [List.length_nil] at hb
    apply Ev.step
    · intro k; rw [ledger_Entry_65.l0]
    · exact Ev.ite_neg (by omega) (Ev.now _)
  | cons x X =>
    have e4 : P ++ (x :: X) ++ Q = P ++ [x] ++ X ++ Q := by simp [List.append_assoc]
    simp only [List.length_cons] at hb hs'
    obtain ⟨F, e, s, f, l⟩ := ins_l0 P Q a b X [x] (a + 1) (by rw [← e4]; exact hs) (List.pairwise_singleton _ _) hd ha (by simp only [List.length_cons, List.length_nil]; omega) (by simp only [List.length_cons, List.length_nil]; omega)
    exact ⟨F, by rw [e4]; exact e, s, f, l⟩
theorem mid_ok {x y : Int} (h0 : 0 ≤ x + y) (h1 : x + y ≤ 9000000000000000000) : wrap64 ((IntKind.u64.wrap (wrap64 (x + y))) / 2) = (x + y) / 2 := by
  rw [w64 (a := x + y) (by omega) (by omega), Go.IntWalk.u64_in _ ⟨by omega, by omega⟩, w64 (by omega) (by omega)]
theorem rd_in {P X Q : List S35} {i : Int} {j : Nat} (h : j < X.length) (hi : i = P.length + j) : rd_T35 (P ++ X ++ Q) i = X[j] := by
  subst hi
  unfold rd_T35
  rw [show ((P.length : Int) + (j : Int)).toNat = P.length + j by omega, List.getD_eq_getElem?_getD, List.append_assoc, List.getElem?_append_right (by omega), List.getElem?_append_left (by omega), show P.length + j - P.length = j by omega, List.getElem?_eq_getElem h]
  rfl
theorem getElem_mem' {X : List S35} {j : Nat} (h : j < X.length) : X[j] ∈ X := List.getElem_mem h
theorem sym_find0 (P V Q : List S35) (x : S35) (hs : small (P ++ [x] ++ V ++ Q)) (hd : dayOk (x :: V)) (a : Int) (ha : a = P.length) (res : Nat → Prop)
    (hres : ∀ s : Nat, s ≤ V.length → (∀ h : 0 < s, ∀ h2 : s - 1 < V.length, kD V[s - 1] < kD x) → (∀ h : s < V.length, ¬ kD V[s] < kD x) → Sorts (fun k => ledger_Entry_66.l1 k (P ++ [x] ++ V ++ Q) ((P.length : Int) + 1 + s) a) P (x :: V) Q) :
    ∀ (n i j : Nat), j - i = n → i ≤ j → j ≤ V.length → (∀ h : 0 < i, ∀ h2 : i - 1 < V.length, kD V[i - 1] < kD x) → (∀ h : j < V.length, ¬ kD V[j] < kD x) →
    Sorts (fun k => ledger_Entry_66.l0 k (P ++ [x] ++ V ++ Q) a ((P.length : Int) + 1 + i) ((P.length : Int) + 1 + j)) P (x :: V) Q := by
  have hs' := hs
  unfold small at hs'
  simp only [List.length_append, List.length_cons, List.length_nil] at hs'
  have hlen : ((P ++ [x] ++ V ++ Q).length : Int) = P.length + 1 + V.length + Q.length := by simp only [List.length_append, List.length_cons, List.length_nil]; omega
  have ra : rd_T35 (P ++ [x] ++ V ++ Q) a = x := by
    have := rd_at (A := P) (B := V ++ Q) (x := x) ha
    simpa [List.append_assoc] using this
  intro n
  induction n using Nat.strongRecOn with
  | _ n ih =>
    intro i j hn hij hj h1 h2
    by_cases c : i < j
    · have hm := mid_ok (x := (P.length : Int) + 1 + i) (y := (P.length : Int) + 1 + j) (by omega) (by omega)
      obtain ⟨h, hh⟩ : ∃ h : Nat, h = (i + j) / 2 := ⟨_, rfl⟩
      have hmid : ((P.length : Int) + 1 + i + ((P.length : Int) + 1 + j)) / 2 = (P.length : Int) + 1 + h := by omega
      rw [hmid] at hm
      have hhl : h < V.length := by omega
      have rh : rd_T35 (P ++ [x] ++ V ++ Q) ((P.length : Int) + 1 + h) = V[h] := by
        have := rd_in (P := P ++ [x]) (X := V) (Q := Q) (i := (P.length : Int) + 1 + h) hhl (by simp only [List.length_append, List.length_cons, List.length_nil]; omega)
        exact this
      have dh := hd V[h] (List.mem_cons_of_mem _ (getElem_mem' hhl))
      have dx := hd x List.mem_cons_self
      by_cases c2 : kD V[h] < kD x
      · obtain ⟨F, e, s, f, l⟩ := ih (j - (h + 1)) (by omega) (h + 1) j rfl (by omega) hj (fun _ h2 => by simpa using c2) h2
        refine ⟨F, ?_, s, f, l⟩
        apply Ev.step
        · intro k; rw [ledger_Entry_66.l0]
        · rw [hm, rh, ra, cmp_ok _ _ dh dx]
          refine Ev.ite_pos (by omega) (Ev.ite_pos (by omega) (Ev.ite_pos (by omega) (Ev.ite_pos (by omega) (Ev.ite_pos (by omega) ?_))))
          refine Ev.ite_pos (by omega) ?_
          rw [w64 (a := (P.length : Int) + 1 + h + 1) (by omega) (by omega), show (P.length : Int) + 1 + h + 1 = (P.length : Int) + 1 + ((h + 1 : Nat) : Int) by omega]
          exact e
      · obtain ⟨F, e, s, f, l⟩ := ih (h - i) (by omega) i h rfl (by omega) (by omega) h1 (fun _ => c2)
        refine ⟨F, ?_, s, f, l⟩
        apply Ev.step
        · intro k; rw [ledger_Entry_66.l0]
        · rw [hm, rh, ra, cmp_ok _ _ dh dx]
          refine Ev.ite_pos (by omega) (Ev.ite_pos (by omega) (Ev.ite_pos (by omega) (Ev.ite_pos (by omega) (Ev.ite_pos (by omega) ?_))))
          exact Ev.ite_neg (by omega) e
    · obtain rfl : i = j := by omega
      obtain ⟨F, e, s, f, l⟩ := hres i hj h1 h2
      refine ⟨F, ?_, s, f, l⟩
      apply Ev.step
      · intro k; rw [ledger_Entry_66.l0]
      · exact Ev.ite_neg (by omega) e
theorem sym_move1 (P V2 Q : List S35) (x : S35) (e0 : Int) : ∀ (V1 V0 : List S35) (i : Int), small (P ++ V0 ++ [x] ++ V1 ++ V2 ++ Q) → i = P.length + V0.length → e0 = P.length + V0.length + 1 + V1.length →
    Ev (fun k => ledger_Entry_66.l1 k (P ++ V0 ++ [x] ++ V1 ++ V2 ++ Q) e0 i) (P ++ (V0 ++ V1 ++ [x] ++ V2) ++ Q) := by
  intro V1
  induction V1 with
  | nil =>
    intro V0 i hs hi he
    unfold small at hs
    simp only [List.length_append, List.length_cons, List.length_nil] at hs he
    apply Ev.step
    · intro k; rw [ledger_Entry_66.l1]
    · rw [w64 (a := e0 - 1) (by omega) (by omega)]
      refine Ev.ite_neg (by omega) (Ev.some_ (by simp [List.append_assoc]))
  | cons v V1 ih =>
    intro V0 i hs hi he
    have hs' := hs
    unfold small at hs'
    simp only [List.length_append, List.length_cons, List.length_nil] at hs' he
    have e1 : P ++ V0 ++ [x] ++ (v :: V1) ++ V2 ++ Q = (P ++ V0) ++ x :: (v :: V1 ++ V2 ++ Q) := by simp [List.append_assoc]
    have e2 : P ++ V0 ++ [x] ++ (v :: V1) ++ V2 ++ Q = (P ++ V0 ++ [x]) ++ v :: (V1 ++ V2 ++ Q) := by simp [List.append_assoc]
    have r1 : rd_T35 (P ++ V0 ++ [x] ++ (v :: V1) ++ V2 ++ Q) i = x := by rw [e1]; exact rd_at (by simp only [List.length_append]; omega)
    have r2 : rd_T35 (P ++ V0 ++ [x] ++ (v :: V1) ++ V2 ++ Q) (i + 1) = v := by rw [e2]; exact rd_at (by simp only [List.length_append, List.length_cons, List.length_nil]; omega)
    have hlen : ((P ++ V0 ++ [x] ++ (v :: V1) ++ V2 ++ Q).length : Int) = P.length + V0.length + 1 + (V1.length + 1) + V2.length + Q.length := by simp only [List.length_append, List.length_cons, List.length_nil]; omega
    have e3 : ((P ++ V0 ++ [x] ++ (v :: V1) ++ V2 ++ Q).set i.toNat v).set (i + 1).toNat x = P ++ (V0 ++ [v]) ++ [x] ++ V1 ++ V2 ++ Q := by
      rw [e1, set_at (by simp only [List.length_append]; omega), show (P ++ V0) ++ v :: (v :: V1 ++ V2 ++ Q) = (P ++ V0 ++ [v]) ++ v :: (V1 ++ V2 ++ Q) by simp [List.append_assoc], set_at (by simp only [List.length_append, List.length_cons, List.length_nil]; omega)]
      simp [List.append_assoc]
    have := ih (V0 ++ [v]) (i + 1) (by unfold small; simp only [List.length_append, List.length_cons, List.length_nil]; omega) (by simp only [List.length_append, List.length_cons, List.length_nil]; omega) (by simp only [List.length_append, List.length_cons, List.length_nil]; omega)
    rw [show P ++ (V0 ++ (v :: V1) ++ [x] ++ V2) ++ Q = P ++ (V0 ++ [v] ++ V1 ++ [x] ++ V2) ++ Q by simp [List.append_assoc]]
    apply Ev.step
    · intro k; rw [ledger_Entry_66.l1]
    · rw [w64 (a := e0 - 1) (by omega) (by omega), w64 (a := i + 1) (by omega) (by omega), r1, r2]
      refine Ev.ite_pos (by omega) (Ev.ite_pos (by omega) (Ev.ite_pos (by omega) (Ev.ite_pos (by omega) (Ev.ite_pos (by omega) ?_))))
      have hh : Ev (fun k => ledger_Entry_66.l1 k (((P ++ V0 ++ [x] ++ (v :: V1) ++ V2 ++ Q).set i.toNat v).set (i + 1).toNat x) e0 (i + 1)) (P ++ (V0 ++ [v] ++ V1 ++ [x] ++ V2) ++ Q) := by rw [e3]; exact this
      exact hh
theorem sym_one0 (P V Q : List S35) (x : S35) (a m b : Int) (hs : small (P ++ [x] ++ V ++ Q)) (hd : dayOk (x :: V)) (hV : Sd kD V) (ha : a = P.length) (hm : m = P.length + 1) (hb : b = P.length + 1 + V.length) :
    Sorts (fun k => ledger_Entry_66.l0 k (P ++ [x] ++ V ++ Q) a m b) P (x :: V) Q := by
  have hs' := hs
  unfold small at hs'
  simp only [List.length_append, List.length_cons, List.length_nil] at hs'
  have := sym_find0 P V Q x hs hd a ha (fun _ => True) (by
    intro s hs1 h1 h2
    obtain ⟨V1, V2, rfl, hl⟩ : ∃ V1 V2, V = V1 ++ V2 ∧ V1.length = s := ⟨V.take s, V.drop s, (List.take_append_drop _ _).symm, by rw [List.length_take]; omega⟩
    have hlt : ∀ y ∈ V1, kD y < kD x := by
      intro y hy
      obtain ⟨q, hq, rfl⟩ := List.getElem_of_mem hy
      have hl1 := h1 (by omega) (by simp only [List.length_append]; omega)
      rw [List.getElem_append_left (by omega)] at hl1
      rcases Nat.lt_or_ge q (s - 1) with c | c
      · have := List.pairwise_iff_getElem.1 hV.left q (s - 1) hq (by omega) c
        omega
      · have : q = s - 1 := by omega
        subst this; exact hl1
    have hge : ∀ y ∈ V2, kD x ≤ kD y := by
      intro y hy
      obtain ⟨q, hq, rfl⟩ := List.getElem_of_mem hy
      have hl2 := h2 (by simp only [List.length_append]; omega)
      rw [List.getElem_append_right (by omega)] at hl2
      simp only [hl, Nat.sub_self] at hl2
      rcases Nat.eq_zero_or_pos q with c | c
      · subst c; omega
      · have := List.pairwise_iff_getElem.1 hV.right 0 q (by omega) hq c
        omega
    refine ⟨V1 ++ [x] ++ V2, ?_, ?_, ?_, by simp only [List.length_append, List.length_cons, List.length_nil]; omega⟩
    · have := sym_move1 P V2 Q x ((P.length : Int) + 1 + s) V1 [] a (by simpa [List.append_assoc] using hs) (by simp; omega) (by simp; omega)
      simpa [List.append_assoc] using this
    · refine Sd.append (Sd.append hV.left (List.pairwise_singleton _ _) (fun y hy z hz => by rw [List.mem_singleton.1 hz]; exact Int.le_of_lt (hlt y hy))) hV.right ?_
      intro y hy z hz
      rcases List.mem_append.1 hy with hy | hy
      · exact hV.across y hy z hz
      · rw [List.mem_singleton.1 hy]; exact hge z hz
    · have : Fe kD ([x] ++ V1) (V1 ++ [x]) := Fe.swap (fun u hu y hy => by rw [List.mem_singleton.1 hu]; exact hlt y hy)
      have := this.right V2
      simpa [List.append_assoc] using this) V.length 0 V.length (by omega) (by omega) (Nat.le_refl _) (fun h => absurd h (by omega)) (fun h => absurd h (by omega))
  rw [hm, hb]
  simpa using this
theorem sym_find2 (P U Q : List S35) (y : S35) (hs : small (P ++ U ++ [y] ++ Q)) (hd : dayOk (U ++ [y])) (m : Int) (hm : m = P.length + U.length)
    (hres : ∀ s : Nat, s ≤ U.length → (∀ h : 0 < s, ∀ h2 : s - 1 < U.length, kD U[s - 1] ≤ kD y) → (∀ h : s < U.length, kD y < kD U[s]) → Sorts (fun k => ledger_Entry_66.l3 k (P ++ U ++ [y] ++ Q) ((P.length : Int) + s) m) P (U ++ [y]) Q) :
    ∀ (n i j : Nat), j - i = n → i ≤ j → j ≤ U.length → (∀ h : 0 < i, ∀ h2 : i - 1 < U.length, kD U[i - 1] ≤ kD y) → (∀ h : j < U.length, kD y < kD U[j]) →
    Sorts (fun k => ledger_Entry_66.l2 k (P ++ U ++ [y] ++ Q) m ((P.length : Int) + i) ((P.length : Int) + j)) P (U ++ [y]) Q := by
  have hs' := hs
  unfold small at hs'
  simp only [List.length_append, List.length_cons, List.length_nil] at hs'
  have hlen : ((P ++ U ++ [y] ++ Q).length : Int) = P.length + U.length + 1 + Q.length := by simp only [List.length_append, List.length_cons, List.length_nil]; omega
  have ra : rd_T35 (P ++ U ++ [y] ++ Q) m = y := by
    have := rd_at (A := P ++ U) (B := Q) (x := y) (i := m) (by simp only [List.length_append]; omega)
    simpa [List.append_assoc] using this
  intro n
  induction n using Nat.strongRecOn with
  | _ n ih =>
    intro i j hn hij hj h1 h2
    by_cases c : i < j
    · have hmm := mid_ok (x := (P.length : Int) + i) (y := (P.length : Int) + j) (by omega) (by omega)
      obtain ⟨h, hh⟩ : ∃ h : Nat, h = (i + j) / 2 := ⟨_, rfl⟩
      have hmid : ((P.length : Int) + i + ((P.length : Int) + j)) / 2 = (P.length : Int) + h := by omega
      rw [hmid] at hmm
      have hhl : h < U.length := by omega
      have rh : rd_T35 (P ++ U ++ [y] ++ Q) ((P.length : Int) + h) = U[h] := by
        have := rd_in (P := P) (X := U) (Q := [y] ++ Q) (i := (P.length : Int) + h) hhl rfl
        rw [← List.append_assoc] at this
        exact this
      have dh := hd U[h] (List.mem_append_left _ (getElem_mem' hhl))
      have dy := hd y (by simp)
      by_cases c2 : kD y < kD U[h]
      · obtain ⟨F, e, s, f, l⟩ := ih (h - i) (by omega) i h rfl (by omega) (by omega) h1 (fun _ => c2)
        refine ⟨F, ?_, s, f, l⟩
        apply Ev.step
        · intro k; rw [ledger_Entry_66.l2]
        · rw [hmm, rh, ra, cmp_ok _ _ dy dh]
          refine Ev.ite_pos (by omega) (Ev.ite_pos (by omega) (Ev.ite_pos (by omega) (Ev.ite_pos (by omega) (Ev.ite_pos (by omega) ?_))))
          exact Ev.ite_pos (by omega) e
      · obtain ⟨F, e, s, f, l⟩ := ih (j - (h + 1)) (by omega) (h + 1) j rfl (by omega) hj (fun _ h2 => by simpa using (show kD U[h] ≤ kD y by omega)) h2
        refine ⟨F, ?_, s, f, l⟩
        apply Ev.step
        · intro k; rw [ledger_Entry_66.l2]
        · rw [hmm, rh, ra, cmp_ok _ _ dy dh]
          refine Ev.ite_pos (by omega) (Ev.ite_pos (by omega) (Ev.ite_pos (by omega) (Ev.ite_pos (by omega) (Ev.ite_pos (by omega) ?_))))
          refine Ev.ite_neg (by omega) ?_
          rw [w64 (a := (P.length : Int) + h + 1) (by omega) (by omega), show (P.length : Int) + h + 1 = (P.length : Int) + ((h + 1 : Nat) : Int) by omega]
          exact e
    · obtain rfl : i = j := by omega
      obtain ⟨F, e, s, f, l⟩ := hres i hj h1 h2
      refine ⟨F, ?_, s, f, l⟩
      apply Ev.step
      · intro k; rw [ledger_Entry_66.l2]
      · exact Ev.ite_neg (by omega) e
theorem sym_move3 (P U1 Q : List S35) (y : S35) (s0 : Int) (hs0 : s0 = P.length + U1.length) : ∀ (n : Nat) (U2 U3 : List S35) (i : Int), U2.length = n → small (P ++ U1 ++ U2 ++ [y] ++ U3 ++ Q) → i = P.length + U1.length + U2.length →
    Ev (fun k => ledger_Entry_66.l3 k (P ++ U1 ++ U2 ++ [y] ++ U3 ++ Q) s0 i) (P ++ (U1 ++ [y] ++ U2 ++ U3) ++ Q) := by
  intro n
  induction n with
  | zero =>
    intro U2 U3 i hn hs hi
    obtain rfl : U2 = [] := List.eq_nil_of_length_eq_zero hn
    simp only [List.length_nil] at hi
    apply Ev.step
    · intro k; rw [ledger_Entry_66.l3]
    · exact Ev.ite_neg (by omega) (Ev.some_ (by simp [List.append_assoc]))
  | succ n ih =>
    intro U2 U3 i hn hs hi
    obtain ⟨X, x, rfl⟩ : ∃ X x, U2 = X ++ [x] := ⟨U2.dropLast, U2.getLast (by intro h; rw [h] at hn; simp at hn), (List.dropLast_concat_getLast _).symm⟩
    have hs' := hs
    unfold small at hs'
    simp only [List.length_append, List.length_cons, List.length_nil] at hs' hi hn
    have e1 : P ++ U1 ++ (X ++ [x]) ++ [y] ++ U3 ++ Q = (P ++ U1 ++ X ++ [x]) ++ y :: (U3 ++ Q) := by simp [List.append_assoc]
    have e2 : P ++ U1 ++ (X ++ [x]) ++ [y] ++ U3 ++ Q = (P ++ U1 ++ X) ++ x :: (y :: U3 ++ Q) := by simp [List.append_assoc]
    have r1 : rd_T35 (P ++ U1 ++ (X ++ [x]) ++ [y] ++ U3 ++ Q) i = y := by rw [e1]; exact rd_at (by simp only [List.length_append, List.length_cons, List.length_nil]; omega)
    have r2 : rd_T35 (P ++ U1 ++ (X ++ [x]) ++ [y] ++ U3 ++ Q) (i - 1) = x := by rw [e2]; exact rd_at (by simp only [List.length_append]; omega)
    have hlen : ((P ++ U1 ++ (X ++ [x]) ++ [y] ++ U3 ++ Q).length : Int) = P.length + U1.length + (X.length + 1) + 1 + U3.length + Q.length := by simp only [List.length_append, List.length_cons, List.length_nil]; omega
    have e3 : ((P ++ U1 ++ (X ++ [x]) ++ [y] ++ U3 ++ Q).set i.toNat x).set (i - 1).toNat y = P ++ U1 ++ X ++ [y] ++ ([x] ++ U3) ++ Q := by
      rw [e1, set_at (by simp only [List.length_append, List.length_cons, List.length_nil]; omega), show (P ++ U1 ++ X ++ [x]) ++ x :: (U3 ++ Q) = (P ++ U1 ++ X) ++ x :: (x :: U3 ++ Q) by simp [List.append_assoc], set_at (by simp only [List.length_append]; omega)]
      simp [List.append_assoc]
    have := ih X ([x] ++ U3) (i - 1) (by omega) (by unfold small; simp only [List.length_append, List.length_cons, List.length_nil]; omega) (by omega)
    rw [show P ++ (U1 ++ [y] ++ (X ++ [x]) ++ U3) ++ Q = P ++ (U1 ++ [y] ++ X ++ ([x] ++ U3)) ++ Q by simp [List.append_assoc]]
    apply Ev.step
    · intro k; rw [ledger_Entry_66.l3]
    · rw [w64 (a := i - 1) (by omega) (by omega), r1, r2]
      refine Ev.ite_pos (by omega) (Ev.ite_pos (by omega) (Ev.ite_pos (by omega) (Ev.ite_pos (by omega) (Ev.ite_pos (by omega) ?_))))
      have hh : Ev (fun k => ledger_Entry_66.l3 k (((P ++ U1 ++ (X ++ [x]) ++ [y] ++ U3 ++ Q).set i.toNat x).set (i - 1).toNat y) s0 (i - 1)) (P ++ (U1 ++ [y] ++ X ++ ([x] ++ U3)) ++ Q) := by rw [e3]; exact this
      exact hh
theorem sym_one2 (P U Q : List S35) (y : S35) (a m : Int) (hs : small (P ++ U ++ [y] ++ Q)) (hd : dayOk (U ++ [y])) (hU : Sd kD U) (ha : a = P.length) (hm : m = P.length + U.length) :
    Sorts (fun k => ledger_Entry_66.l2 k (P ++ U ++ [y] ++ Q) m a m) P (U ++ [y]) Q := by
  have hs' := hs
  unfold small at hs'
  simp only [List.length_append, List.length_cons, List.length_nil] at hs'
  have := sym_find2 P U Q y hs hd m hm (by
    intro s hs1 h1 h2
    obtain ⟨U1, U2, rfl, hl⟩ : ∃ U1 U2, U = U1 ++ U2 ∧ U1.length = s := ⟨U.take s, U.drop s, (List.take_append_drop _ _).symm, by rw [List.length_take]; omega⟩
    have hle : ∀ x ∈ U1, kD x ≤ kD y := by
      intro x hx
      obtain ⟨q, hq, rfl⟩ := List.getElem_of_mem hx
      have hl1 := h1 (by omega) (by simp only [List.length_append]; omega)
      rw [List.getElem_append_left (by omega)] at hl1
      rcases Nat.lt_or_ge q (s - 1) with c | c
      · have := List.pairwise_iff_getElem.1 hU.left q (s - 1) hq (by omega) c
        omega
      · have : q = s - 1 := by omega
        subst this; exact hl1
    have hgt : ∀ x ∈ U2, kD y < kD x := by
      intro x hx
      obtain ⟨q, hq, rfl⟩ := List.getElem_of_mem hx
      have hl2 := h2 (by simp only [List.length_append]; omega)
      rw [List.getElem_append_right (by omega)] at hl2
      simp only [hl, Nat.sub_self] at hl2
      rcases Nat.eq_zero_or_pos q with c | c
      · subst c; exact hl2
      · have := List.pairwise_iff_getElem.1 hU.right 0 q (by omega) hq c
        omega
    refine ⟨U1 ++ [y] ++ U2, ?_, ?_, ?_, by simp only [List.length_append, List.length_cons, List.length_nil]; omega⟩
    · have := sym_move3 P U1 Q y ((P.length : Int) + s) (by omega) U2.length U2 [] m rfl (by simpa [List.append_assoc] using hs) (by simp only [List.length_append] at hm; omega)
      simpa [List.append_assoc] using this
    · refine Sd.append (Sd.append hU.left (List.pairwise_singleton _ _) (fun x hx z hz => by rw [List.mem_singleton.1 hz]; exact hle x hx)) hU.right ?_
      intro x hx z hz
      rcases List.mem_append.1 hx with hx | hx
      · exact hU.across x hx z hz
      · rw [List.mem_singleton.1 hx]; exact Int.le_of_lt (hgt z hz)
    · have : Fe kD (U2 ++ [y]) ([y] ++ U2) := Fe.swap (fun u hu z hz => by rw [List.mem_singleton.1 hz]; exact hgt u hu)
      have := this.left U1
      simpa [List.append_assoc] using this) U.length 0 U.length (by omega) (by omega) (Nat.le_refl _) (fun h => absurd h (by omega)) (fun h => absurd h (by omega))
  rw [ha]
  rw [hm] at this ⊢
  simpa using this

/- Plain lemmas: the merge in place, and the stable sort as a whole. -/
open Go.RowKit Go.Proofs.Ytenhnlclnjnboaa.PPad Go.Proofs.YtenhnlclnjnboaaW.PrintWords Go.Proofs.YtenhnlclnjnboaaW.PrintLast
set_option linter.unusedVariables false
set_option linter.unusedSimpArgs false
theorem Sorts.bind {g : Nat → Option (List S35)} {P X Q : List S35} {f : Nat → List S35 → Option (List S35)} {P2 X2 Q2 : List S35} (h : Sorts g P X Q) (hk : ∀ F, Sd kD F → Fe kD X F → F.length = X.length → Sorts (fun k => f k (P ++ F ++ Q)) P2 X2 Q2) : Sorts (fun k => (g k).bind (f k)) P2 X2 Q2 := by
  obtain ⟨F, e, s, fe, l⟩ := h
  obtain ⟨F2, e2, s2, fe2, l2⟩ := hk F s fe l
  exact ⟨F2, Ev.bind e e2, s2, fe2, l2⟩
theorem sym_search (P U V Q : List S35) (d i0 j0 : Nat) (a m b mid n p : Int) (hs : small (P ++ U ++ V ++ Q)) (hd : dayOk (U ++ V)) (hi0 : d ≤ i0 + V.length) (hj1 : j0 ≤ d) (hj2 : j0 ≤ U.length) (hp : p = (P.length : Int) + d + P.length + U.length - 1) (res : List S35)
    (hres : ∀ s : Nat, i0 ≤ s → s ≤ j0 → (∀ (_ : i0 < s) (h1 : s - 1 < U.length) (h2 : d - s < V.length), kD U[s - 1] ≤ kD V[d - s]) → (∀ (_ : s < j0) (h1 : s < U.length) (h2 : d - 1 - s < V.length), kD V[d - 1 - s] < kD U[s]) →
      Sorts (fun k => if (P.length : Int) + s < m then (ledger_Entry_66.j6 k (P ++ U ++ V ++ Q) a m b mid ((P.length : Int) + s) (wrap64 (n - ((P.length : Int) + s))) (decide (m < (wrap64 (n - ((P.length : Int) + s)))))) else (ledger_Entry_66.j6 k (P ++ U ++ V ++ Q) a m b mid ((P.length : Int) + s) (wrap64 (n - ((P.length : Int) + s))) false)) P res Q) :
    ∀ (t i j : Nat), j - i = t → i0 ≤ i → i ≤ j → j ≤ j0 → (∀ (_ : i0 < i) (h1 : i - 1 < U.length) (h2 : d - i < V.length), kD U[i - 1] ≤ kD V[d - i]) → (∀ (_ : j < j0) (h1 : j < U.length) (h2 : d - 1 - j < V.length), kD V[d - 1 - j] < kD U[j]) →
    Sorts (fun k => ledger_Entry_66.l4 k (P ++ U ++ V ++ Q) a m b mid n ((P.length : Int) + i) ((P.length : Int) + j) p) P res Q := by
  have hs' := hs
  unfold small at hs'
  simp only [List.length_append] at hs'
  have hlen : ((P ++ U ++ V ++ Q).length : Int) = P.length + U.length + V.length + Q.length := by simp only [List.length_append]; omega
  intro t
  induction t using Nat.strongRecOn with
  | _ t ih =>
    intro i j ht hi hij hj h1 h2
    by_cases c : i < j
    · obtain ⟨h, hh⟩ : ∃ h : Nat, h = (i + j) / 2 := ⟨_, rfl⟩
      have hhu : h < U.length := by omega
      have hhd : h < d := by omega
      have hhv : d - 1 - h < V.length := by omega
      have hih : i ≤ h := by omega
      have hhj : h < j := by omega
      have hmid : ((P.length : Int) + i + ((P.length : Int) + j)) / 2 = (P.length : Int) + h := by omega
      have m1 : 0 ≤ (P.length : Int) + i + ((P.length : Int) + j) := by omega
      have m2 : (P.length : Int) + i + ((P.length : Int) + j) ≤ 9000000000000000000 := by omega
      clear hh
      have ru : rd_T35 (P ++ U ++ V ++ Q) ((P.length : Int) + h) = U[h] := by
        have := rd_in (P := P) (X := U) (Q := V ++ Q) (i := (P.length : Int) + h) hhu rfl
        rw [← List.append_assoc] at this
        exact this
      have z0 : p - ((P.length : Int) + h) = ((P ++ U).length : Int) + ((d - 1 - h : Nat) : Int) := by rw [List.length_append]; omega
      have rv : rd_T35 (P ++ U ++ V ++ Q) (p - ((P.length : Int) + h)) = V[d - 1 - h] := rd_in (P := P ++ U) (X := V) (Q := Q) hhv z0
      have q1 : (P.length : Int) + i < (P.length : Int) + j := by omega
      have q2 : 0 ≤ p - ((P.length : Int) + h) := by omega
      have q3 : p - ((P.length : Int) + h) < ((P ++ U ++ V ++ Q).length : Int) := by rw [hlen]; omega
      have q4 : 0 ≤ (P.length : Int) + h := by omega
      have q5 : (P.length : Int) + h < ((P ++ U ++ V ++ Q).length : Int) := by rw [hlen]; omega
      have b1 : p - ((P.length : Int) + h) ≤ 9223372036854775807 := by omega
      have b2 : (P.length : Int) + h + 1 ≤ 9223372036854775807 := by omega
      have t1 : h - i < t := by omega
      have t2 : j - (h + 1) < t := by omega
      have t3 : h ≤ j0 := by omega
      have t4 : i0 ≤ h + 1 := by omega
      have t5 : h + 1 ≤ j := by omega
      have t6 : d - (h + 1) = d - 1 - h := by omega
      have t7 : (P.length : Int) + h + 1 = (P.length : Int) + ((h + 1 : Nat) : Int) := by omega
      clear hlen hs' hp ht c z0
      have du := hd U[h] (List.mem_append_left _ (getElem_mem' hhu))
      have dv := hd V[d - 1 - h] (List.mem_append_right _ (getElem_mem' hhv))
      have hw1 : wrap64 (p - ((P.length : Int) + h)) = p - ((P.length : Int) + h) := w64 (Int.le_trans (by decide) q2) b1
      have hw2 : wrap64 ((P.length : Int) + h + 1) = (P.length : Int) + ((h + 1 : Nat) : Int) := (w64 (Int.le_trans (by decide) (Int.le_trans q4 (Int.le_add_one (Int.le_refl _)))) b2).trans t7
      have hmm : wrap64 ((IntKind.u64.wrap (wrap64 ((P.length : Int) + i + ((P.length : Int) + j)))) / 2) = (P.length : Int) + h := (mid_ok m1 m2).trans hmid
      by_cases c2 : kD V[d - 1 - h] < kD U[h]
      · have c3 : kD V[d - 1 - h] - kD U[h] < 0 := Int.sub_neg_of_lt c2
        obtain ⟨F, e, s, f, l⟩ := ih (h - i) t1 i h rfl hi hih t3 h1 (fun _ _ _ => c2)
        refine ⟨F, ?_, s, f, l⟩
        apply Ev.step
        · intro k; rw [ledger_Entry_66.l4]
        · rw [hmm, hw1, ru, rv, cmp_ok _ _ dv du]
          refine Ev.ite_pos q1 (Ev.ite_pos q2 (Ev.ite_pos q3 (Ev.ite_pos q4 (Ev.ite_pos q5 ?_))))
          exact Ev.ite_pos c3 e
      · have c3 : ¬ kD V[d - 1 - h] - kD U[h] < 0 := fun h_ => c2 (Int.lt_of_sub_neg h_)
        obtain ⟨F, e, s, f, l⟩ := ih (j - (h + 1)) t2 (h + 1) j rfl t4 t5 hj (fun _ g1 g2 => by
          simp only [Nat.add_sub_cancel, t6]
          exact Int.not_lt.1 c2) h2
        refine ⟨F, ?_, s, f, l⟩
        apply Ev.step
        · intro k; rw [ledger_Entry_66.l4]
        · rw [hmm, hw1, ru, rv, cmp_ok _ _ dv du, hw2]
          refine Ev.ite_pos q1 (Ev.ite_pos q2 (Ev.ite_pos q3 (Ev.ite_pos q4 (Ev.ite_pos q5 ?_))))
          exact Ev.ite_neg c3 e
    · obtain rfl : i = j := by omega
      obtain ⟨F, e, s, f, l⟩ := hres i hi hj h1 h2
      refine ⟨F, ?_, s, f, l⟩
      apply Ev.step
      · intro k; rw [ledger_Entry_66.l4]
      · exact Ev.ite_neg (by omega) e
theorem sym_ok : ∀ (t : Nat) (P U V Q : List S35) (a m b : Int), U.length + V.length ≤ t → 0 < U.length → 0 < V.length → small (P ++ U ++ V ++ Q) → Sd kD U → Sd kD V → dayOk (U ++ V) → a = P.length → m = P.length + U.length → b = P.length + U.length + V.length →
    Sorts (fun k => ledger_Entry_66.f k (P ++ U ++ V ++ Q) a m b) P (U ++ V) Q := by
  intro t
  induction t with
  | zero => intro P U V Q a m b h h1; omega
  | succ t ih =>
    intro P U V Q a m b ht hu hv hs sU sV hd ha hm hb
    have hs' := hs
    unfold small at hs'
    simp only [List.length_append] at hs'
    obtain ⟨d, hdd⟩ : ∃ d : Nat, d = (U.length + V.length) / 2 := ⟨_, rfl⟩
    have hmid := Aside0.mk ((mid_ok (x := a) (y := b) (by omega) (by omega)).trans (show (a + b) / 2 = (P.length : Int) + d by omega))
    by_cases c1 : U.length = 1
    · obtain ⟨x, rfl⟩ := List.length_eq_one_iff.1 c1
      obtain ⟨F, e, s, f, l⟩ := sym_one0 P V Q x a m b hs hd sV ha (by simpa using hm) (by simpa using hb)
      refine ⟨F, ?_, s, f, l⟩
      apply Ev.step
      · intro k; rw [ledger_Entry_66.f]
      · rw [w64 (a := m - a) (by omega) (by omega)]
        exact Ev.ite_pos (by omega) e
    by_cases c2 : V.length = 1
    · obtain ⟨y, rfl⟩ := List.length_eq_one_iff.1 c2
      obtain ⟨F, e, s, f, l⟩ := sym_one2 P U Q y a m hs hd sU ha hm
      refine ⟨F, ?_, s, f, l⟩
      apply Ev.step
      · intro k; rw [ledger_Entry_66.f]
      · rw [w64 (a := m - a) (by omega) (by omega), w64 (a := b - m) (by omega) (by omega)]
        exact Ev.ite_neg (by omega) (Ev.ite_pos (by omega) e)
    -- the right half, behind the left one
    have right : ∀ (P1 A2 B2 : List S35) (e0 : Int), P1.length = P.length + d → A2.length + B2.length = U.length + V.length - d → Sd kD A2 → Sd kD B2 → dayOk (A2 ++ B2) → e0 = P1.length + A2.length → b = P1.length + A2.length + B2.length →
        Sorts (fun k => if (P.length : Int) + d < e0 then (if e0 < b then ((ledger_Entry_66.f k (P1 ++ A2 ++ B2 ++ Q) ((P.length : Int) + d) e0 b).bind fun t307 => (some t307)) else (some (P1 ++ A2 ++ B2 ++ Q))) else (some (P1 ++ A2 ++ B2 ++ Q))) P1 (A2 ++ B2) Q := by
      intro P1 A2 B2 e0 hp1 hl sA sB dA he hb2
      by_cases c : 0 < A2.length
      · by_cases c' : 0 < B2.length
        · obtain ⟨F, e, s, f, l⟩ := ih P1 A2 B2 Q ((P.length : Int) + d) e0 b (by omega) c c' (by unfold small; simp only [List.length_append]; omega) sA sB dA (by omega) he hb2
          exact ⟨F, Ev.ite_pos (by omega) (Ev.ite_pos (by omega) (Ev.bind e (Ev.now _))), s, f, l⟩
        · obtain rfl : B2 = [] := List.eq_nil_of_length_eq_zero (by omega)
          simp only [List.length_nil, List.append_nil] at *
          exact ⟨A2, Ev.ite_pos (by omega) (Ev.ite_neg (by omega) (Ev.now _)), sA, Fe.refl _, rfl⟩
      · obtain rfl : A2 = [] := List.eq_nil_of_length_eq_zero (by omega)
        simp only [List.length_nil, List.append_nil, List.nil_append] at *
        exact ⟨B2, Ev.ite_neg (by omega) (Ev.now _), sB, Fe.refl _, rfl⟩
    have key : ∀ (i0 j0 : Int), i0 = (P.length : Int) + ((d - V.length : Nat) : Int) → j0 = (P.length : Int) + ((min d U.length : Nat) : Int) → Sorts (fun k => ledger_Entry_66.j4 k (P ++ U ++ V ++ Q) a m b ((P.length : Int) + d) ((P.length : Int) + d + m) i0 j0) P (U ++ V) Q := by
      intro i0 j0 hi0 hj0
      have hsrch := sym_search P U V Q d (d - V.length) (min d U.length) a m b ((P.length : Int) + d) ((P.length : Int) + d + m) ((P.length : Int) + d + m - 1) hs hd (by omega) (by omega) (by omega) (by omega) (U ++ V) (by
        intro s hs1 hs2 g1 g2
        obtain ⟨A1, A2, rfl, hA⟩ : ∃ A1 A2, U = A1 ++ A2 ∧ A1.length = s := ⟨U.take s, U.drop s, (List.take_append_drop _ _).symm, by rw [List.length_take]; omega⟩
        obtain ⟨B1, B2, rfl, hB⟩ : ∃ B1 B2, V = B1 ++ B2 ∧ B1.length = d - s := ⟨V.take (d - s), V.drop (d - s), (List.take_append_drop _ _).symm, by rw [List.length_take]; omega⟩
        simp only [List.length_append] at hs' ht hu hv hm hb hdd hs1 hs2 right c1 c2
        have x1 : ∀ x ∈ A1, ∀ y ∈ B2, kD x ≤ kD y := by
          have := cross_le (i := s) (j := d - s) sU sV (by simp only [List.length_append]; omega) (by simp only [List.length_append]; omega) (fun h1 h2 => g1 (by simp only [List.length_append] at h2 ⊢; omega) (by simp only [List.length_append]; omega) h2)
          rw [List.take_left' hA, List.drop_left' hB] at this
          exact this
        have x2 : ∀ x ∈ A2, ∀ y ∈ B1, kD y < kD x := by
          have := cross_lt (i := s) (j := d - s) sU sV (by simp only [List.length_append]; omega) (by simp only [List.length_append]; omega) (fun h1 h2 => by
            have := g2 (by simp only [List.length_append] at h2 ⊢; omega) h2 (by simp only [List.length_append]; omega)
            have e1 : d - 1 - s = d - s - 1 := by omega
            simp only [e1] at this
            exact this)
          rw [List.drop_left' hA, List.take_left' hB] at this
          exact this
        have hen : wrap64 ((P.length : Int) + d + m - ((P.length : Int) + s)) = (P.length : Int) + d + A2.length := by rw [w64 (by omega) (by omega)]; omega
        rw [hen]
        clear hen
        -- behind the rotation
        have h7 : Sorts (fun k => ledger_Entry_66.j7 k (P ++ A1 ++ B1 ++ A2 ++ B2 ++ Q) a b ((P.length : Int) + d) ((P.length : Int) + s) ((P.length : Int) + d + A2.length)) P (A1 ++ A2 ++ (B1 ++ B2)) Q := by
          have d1 : dayOk (A1 ++ B1) := fun z hz => hd z (by
            rcases List.mem_append.1 hz with h | h
            · exact List.mem_append_left _ (List.mem_append_left _ h)
            · exact List.mem_append_right _ (List.mem_append_left _ h))
          have d2 : dayOk (A2 ++ B2) := fun z hz => hd z (by
            rcases List.mem_append.1 hz with h | h
            · exact List.mem_append_left _ (List.mem_append_right _ h)
            · exact List.mem_append_right _ (List.mem_append_right _ h))
          -- the right half, with the left one done
          have h9 : ∀ W1, Sd kD W1 → Fe kD (A1 ++ B1) W1 → W1.length = d → Sorts (fun k => if (P.length : Int) + d < (P.length : Int) + d + A2.length then (if (P.length : Int) + d + A2.length < b then ((ledger_Entry_66.f k (P ++ W1 ++ (A2 ++ B2 ++ Q)) ((P.length : Int) + d) ((P.length : Int) + d + A2.length) b).bind fun t307 => (some t307)) else (some (P ++ W1 ++ (A2 ++ B2 ++ Q)))) else (some (P ++ W1 ++ (A2 ++ B2 ++ Q)))) P (A1 ++ A2 ++ (B1 ++ B2)) Q := by
            intro W1 w1 w2 w3
            obtain ⟨W2, e, s2, f2, l2⟩ := right (P ++ W1) A2 B2 ((P.length : Int) + d + A2.length) (by simp only [List.length_append]; omega) (by omega) sU.right sV.right d2 (by simp only [List.length_append]; omega) (by simp only [List.length_append]; omega)
            obtain ⟨j1, j2⟩ := sym_join sU sV x1 x2 w1 w2 s2 f2
            refine ⟨W1 ++ W2, ?_, j1, j2, by simp only [List.length_append] at l2 ⊢; omega⟩
            rw [show P ++ (W1 ++ W2) ++ Q = P ++ W1 ++ W2 ++ Q by simp [List.append_assoc]]
            simpa only [List.append_assoc] using e
          have h8 : ∀ fl : Bool, (fl = true ↔ 0 < A1.length ∧ 0 < B1.length) → Sorts (fun k => ledger_Entry_66.j8 k (P ++ A1 ++ B1 ++ A2 ++ B2 ++ Q) a b ((P.length : Int) + d) ((P.length : Int) + s) ((P.length : Int) + d + A2.length) fl) P (A1 ++ A2 ++ (B1 ++ B2)) Q := by
            intro fl hfl
            by_cases cf : fl = true
            · obtain ⟨q1, q2⟩ := hfl.1 cf
              obtain ⟨W1, e, s1, f1, l1⟩ := ih P A1 B1 (A2 ++ B2 ++ Q) a ((P.length : Int) + s) ((P.length : Int) + d) (by omega) q1 q2 (by unfold small; simp only [List.length_append]; omega) sU.left sV.left d1 ha (by omega) (by omega)
              simp only [List.length_append] at l1
              obtain ⟨F, e2, s2, f2, l2⟩ := h9 W1 s1 f1 (by omega)
              refine ⟨F, ?_, s2, f2, l2⟩
              apply Ev.step
              · intro k; rw [ledger_Entry_66.j8]
              · refine Ev.ite_pos cf (Ev.bind ?_ e2)
                simpa only [List.append_assoc] using e
            · have hE : A1 = [] ∨ B1 = [] := by
                rcases Nat.eq_zero_or_pos A1.length with h | h
                · exact Or.inl (List.eq_nil_of_length_eq_zero h)
                · rcases Nat.eq_zero_or_pos B1.length with h' | h'
                  · exact Or.inr (List.eq_nil_of_length_eq_zero h')
                  · exact absurd (hfl.2 ⟨h, h'⟩) cf
              have hsW : Sd kD (A1 ++ B1) := by
                rcases hE with h | h
                · rw [h]; exact sV.left
                · rw [h, List.append_nil]; exact sU.left
              obtain ⟨F, e2, s2, f2, l2⟩ := h9 (A1 ++ B1) hsW (Fe.refl _) (by simp only [List.length_append]; omega)
              refine ⟨F, ?_, s2, f2, l2⟩
              apply Ev.step
              · intro k; rw [ledger_Entry_66.j8]
              · refine Ev.ite_neg cf ?_
                simpa only [List.append_assoc] using e2
          by_cases c3 : 0 < s
          · obtain ⟨F, e, s2, f2, l2⟩ := h8 (decide ((P.length : Int) + s < (P.length : Int) + d)) (by rw [decide_eq_true_iff]; omega)
            refine ⟨F, ?_, s2, f2, l2⟩
            apply Ev.step
            · intro k; rw [ledger_Entry_66.j7]
            · exact Ev.ite_pos (by omega) e
          · obtain ⟨F, e, s2, f2, l2⟩ := h8 false (by simp; omega)
            refine ⟨F, ?_, s2, f2, l2⟩
            apply Ev.step
            · intro k; rw [ledger_Entry_66.j7]
            · exact Ev.ite_neg (by omega) e
        have h6 : ∀ fl : Bool, (fl = true ↔ 0 < A2.length ∧ 0 < B1.length) → Sorts (fun k => ledger_Entry_66.j6 k (P ++ (A1 ++ A2) ++ (B1 ++ B2) ++ Q) a m b ((P.length : Int) + d) ((P.length : Int) + s) ((P.length : Int) + d + A2.length) fl) P (A1 ++ A2 ++ (B1 ++ B2)) Q := by
          intro fl hfl
          obtain ⟨F, e, s2, f2, l2⟩ := h7
          refine ⟨F, ?_, s2, f2, l2⟩
          apply Ev.step
          · intro k; rw [ledger_Entry_66.j6]
          · by_cases cf : fl = true
            · obtain ⟨q1, q2⟩ := hfl.1 cf
              have hr := rot_ok (P ++ A1) A2 B1 (B2 ++ Q) ((P.length : Int) + s) m ((P.length : Int) + d + A2.length) q1 q2 (by unfold small; simp only [List.length_append]; omega) (by simp only [List.length_append]; omega) (by simp only [List.length_append]; omega) (by simp only [List.length_append]; omega)
              refine Ev.ite_pos cf (Ev.bind (a := P ++ A1 ++ B1 ++ A2 ++ B2 ++ Q) ?_ e)
              simpa only [List.append_assoc] using hr
            · refine Ev.ite_neg cf ?_
              have hE : P ++ (A1 ++ A2) ++ (B1 ++ B2) ++ Q = P ++ A1 ++ B1 ++ A2 ++ B2 ++ Q := by
                rcases Nat.eq_zero_or_pos A2.length with h | h
                · rw [List.eq_nil_of_length_eq_zero h]; simp [List.append_assoc]
                · rcases Nat.eq_zero_or_pos B1.length with h' | h'
                  · rw [List.eq_nil_of_length_eq_zero h']; simp [List.append_assoc]
                  · exact absurd (hfl.2 ⟨h, h'⟩) cf
              rw [hE]
              exact e
        by_cases c3 : (P.length : Int) + s < m
        · obtain ⟨F, e, s2, f2, l2⟩ := h6 (decide (m < (P.length : Int) + d + A2.length)) (by rw [decide_eq_true_iff]; omega)
          exact ⟨F, Ev.ite_pos c3 e, s2, f2, l2⟩
        · obtain ⟨F, e, s2, f2, l2⟩ := h6 false (by simp; omega)
          exact ⟨F, Ev.ite_neg c3 e, s2, f2, l2⟩)
        (min d U.length - (d - V.length)) (d - V.length) (min d U.length) rfl (Nat.le_refl _) (by omega) (Nat.le_refl _) (fun h => absurd h (Nat.lt_irrefl _)) (fun h => absurd h (Nat.lt_irrefl _))
      obtain ⟨F, e, s, f, l⟩ := hsrch
      refine ⟨F, ?_, s, f, l⟩
      apply Ev.step
      · intro k; rw [ledger_Entry_66.j4]
      · rw [w64 (a := (P.length : Int) + d + m - 1) (by omega) (by omega), hi0, hj0]
        exact e
    have hfin : ∀ F, Ev (fun k => if m > (P.length : Int) + d then (ledger_Entry_66.j4 k (P ++ U ++ V ++ Q) a m b ((P.length : Int) + d) ((P.length : Int) + d + m) ((P.length : Int) + d + m - b) ((P.length : Int) + d)) else (ledger_Entry_66.j4 k (P ++ U ++ V ++ Q) a m b ((P.length : Int) + d) ((P.length : Int) + d + m) a m)) F → Ev (fun k => ledger_Entry_66.f k (P ++ U ++ V ++ Q) a m b) F := by
      intro F e
      apply Ev.step
      · intro k; rw [ledger_Entry_66.f]
      · rw [hmid.out, w64 (a := m - a) (by omega) (by omega), w64 (a := b - m) (by omega) (by omega), w64 (a := (P.length : Int) + d + m) (by omega) (by omega), w64 (a := (P.length : Int) + d + m - b) (by omega) (by omega)]
        exact Ev.ite_neg (by omega) (Ev.ite_neg (by omega) e)
    by_cases c3 : m > (P.length : Int) + d
    · obtain ⟨F, e, s, f, l⟩ := key ((P.length : Int) + d + m - b) ((P.length : Int) + d) (by omega) (by omega)
      exact ⟨F, hfin _ (Ev.ite_pos c3 e), s, f, l⟩
    · obtain ⟨F, e, s, f, l⟩ := key a m (by omega) (by omega)
      exact ⟨F, hfin _ (Ev.ite_neg c3 e), s, f, l⟩

/- Plain lemmas: the stable sort as a whole. -/
open Go.RowKit Go.Proofs.Ytenhnlclnjnboaa.PPad Go.Proofs.YtenhnlclnjnboaaW.PrintWords Go.Proofs.YtenhnlclnjnboaaW.PrintLast
set_option linter.unusedVariables false
set_option linter.unusedSimpArgs false
def Sorted (g : Nat → Option (List S35)) (X : List S35) : Prop := ∃ F, Ev g F ∧ Sd kD F ∧ Fe kD X F ∧ F.length = X.length
theorem st_l2 (N : Nat) (n bs bb : Int) (B : Nat) (hN : N ≤ 4398046511104) (hn : n = N) (hbs : bs = B) (hB : 0 < B) (hBN : B < N) (hbb : bb = 2 * bs)
    (hc : ∀ Y : List S35, Y.length = N → Ch kD (2 * B) Y → dayOk Y → Sorted (fun k => ledger_Entry_59.l1 k Y n bb) Y) :
    ∀ (q : Nat) (Ls : List (List S35)), Ls.length = q → ∀ (Ms : List (List S35)) (t : List S35) (a b : Int), (∀ x ∈ Ms, x.length = 2 * B ∧ Sd kD x) → (∀ x ∈ Ls, x.length = B ∧ Sd kD x) → Sd kD t → t.length < B → (Ms.flatten ++ (Ls.flatten ++ t)).length = N → dayOk (Ms.flatten ++ (Ls.flatten ++ t)) → a = Ms.flatten.length → b = a + bb →
    Sorted (fun k => ledger_Entry_59.l2 k (Ms.flatten ++ (Ls.flatten ++ t)) n bs a b) (Ms.flatten ++ (Ls.flatten ++ t)) := by
  intro q
  induction q using Nat.strongRecOn with
  | _ q ih =>
    intro Ls hq Ms t a b hM hL st lt hlen hd ha hb
    have hw2 : wrap64 (2 * bs) = bb := by rw [w64 (by omega) (by omega)]; omega
    have hw3 : wrap64 (bs * 2) = bb := by rw [w64 (by omega) (by omega)]; omega
    have hl1 := flat_len hL
    have hl2 := flat_len hM
    match Ls with
    | x :: y :: Ls' =>
      have hx := hL x (by simp)
      have hy := hL y (by simp)
      simp only [List.length_append, List.flatten_cons] at hlen
      have e0 : Ms.flatten ++ ((x :: y :: Ls').flatten ++ t) = Ms.flatten ++ x ++ y ++ (Ls'.flatten ++ t) := by simp [List.append_assoc]
      obtain ⟨W, e, s, f, l⟩ := sym_ok (x.length + y.length) Ms.flatten x y (Ls'.flatten ++ t) a (a + bs) b (Nat.le_refl _) (by omega) (by omega) (by unfold small; simp only [List.length_append]; omega) hx.2 hy.2 (fun z hz => hd z (by
        simp only [List.flatten_cons, List.mem_append] at hz ⊢
        rcases hz with h | h
        · exact Or.inr (Or.inl (Or.inl h))
        · exact Or.inr (Or.inl (Or.inr (Or.inl h))))) ha (by omega) (by omega)
      simp only [List.length_append] at l
      have e1 : Ms.flatten ++ W ++ (Ls'.flatten ++ t) = (Ms ++ [W]).flatten ++ (Ls'.flatten ++ t) := by simp [List.append_assoc]
      have fE : Fe kD (Ms.flatten ++ x ++ y ++ (Ls'.flatten ++ t)) (Ms.flatten ++ W ++ (Ls'.flatten ++ t)) := by
        have := (f.left Ms.flatten).right (Ls'.flatten ++ t)
        simpa [List.append_assoc] using this
      have hr := ih Ls'.length (by simp at hq; omega) Ls' rfl (Ms ++ [W]) t b (b + bb) (fun z hz => by
        rcases List.mem_append.1 hz with hz | hz
        · exact hM z hz
        · rw [List.mem_singleton.1 hz]; exact ⟨by omega, s⟩) (fun z hz => hL z (by simp [hz])) st lt (by simp only [List.flatten_append, List.length_append, List.flatten_cons, List.flatten_nil, List.append_nil]; omega) (by rw [← e1]; rw [e0] at hd; exact fE.dayOk hd) (by simp only [List.flatten_append, List.length_append, List.flatten_cons, List.flatten_nil, List.append_nil]; omega) rfl
      rw [← e1] at hr
      obtain ⟨F, e2, s2, f2, l2⟩ := hr
      rw [e0]
      refine ⟨F, ?_, s2, fE.trans f2, by rw [l2]; simp only [List.length_append]; omega⟩
      have hwa : wrap64 (a + bs) = a + bs := w64 (by omega) (by omega)
      have hwb : wrap64 (b + bb) = b + bb := w64 (by omega) (by omega)
      have q1 : b ≤ n := by omega
      apply Ev.step
      · intro k; rw [ledger_Entry_59.l2]
      · rw [hw2, hwa, hwb]
        exact Ev.ite_pos q1 (Ev.bind e e2)
    | [x] =>
      have hx := hL x (by simp)
      simp only [List.length_append, List.flatten_cons, List.flatten_nil, List.append_nil] at hlen
      have e0 : Ms.flatten ++ ([x].flatten ++ t) = Ms.flatten ++ x ++ t ++ [] := by simp [List.append_assoc]
      by_cases c : 0 < t.length
      · obtain ⟨W, e, s, f, l⟩ := sym_ok (x.length + t.length) Ms.flatten x t [] a (a + bs) n (Nat.le_refl _) (by omega) c (by unfold small; simp only [List.length_append, List.length_nil]; omega) hx.2 st (fun z hz => hd z (by simpa using Or.inr (by simpa using hz))) ha (by omega) (by omega)
        simp only [List.length_append] at l
        have fE : Fe kD (Ms.flatten ++ x ++ t ++ []) (Ms.flatten ++ W ++ []) := by
          have := f.left Ms.flatten
          simpa [List.append_assoc] using this
        have hr := hc (Ms.flatten ++ W ++ []) (by simp only [List.length_append, List.length_nil]; omega) ⟨Ms, W, by simp, hM, s, by omega⟩ (by rw [e0] at hd; exact fE.dayOk hd)
        obtain ⟨F, e2, s2, f2, l2⟩ := hr
        rw [e0]
        refine ⟨F, ?_, s2, fE.trans f2, by rw [l2]; simp only [List.length_append, List.length_nil]; omega⟩
        have hwa : wrap64 (a + bs) = a + bs := w64 (by omega) (by omega)
        have q1 : ¬ b ≤ n := by omega
        have q2 : a + bs < n := by omega
        apply Ev.step
        · intro k; rw [ledger_Entry_59.l2]
        · rw [hw2, hwa, hw3]
          exact Ev.ite_neg q1 (Ev.ite_pos q2 (Ev.bind e e2))
      · obtain rfl : t = [] := List.eq_nil_of_length_eq_zero (by omega)
        have hr := hc (Ms.flatten ++ ([x].flatten ++ [])) (by simpa using hlen) ⟨Ms, x, by simp, hM, hx.2, by omega⟩ hd
        obtain ⟨F, e2, s2, f2, l2⟩ := hr
        refine ⟨F, ?_, s2, f2, l2⟩
        have hwa : wrap64 (a + bs) = a + bs := w64 (by omega) (by omega)
        simp only [List.length_nil] at hlen
        have q1 : ¬ b ≤ n := by omega
        have q2 : ¬ a + bs < n := by omega
        apply Ev.step
        · intro k; rw [ledger_Entry_59.l2]
        · rw [hw2, hwa, hw3]
          exact Ev.ite_neg q1 (Ev.ite_neg q2 e2)
    | [] =>
      simp only [List.length_append, List.flatten_nil, List.length_nil] at hlen
      have hr := hc (Ms.flatten ++ ([].flatten ++ t)) (by simpa using hlen) ⟨Ms, t, by simp, hM, st, by omega⟩ hd
      obtain ⟨F, e2, s2, f2, l2⟩ := hr
      refine ⟨F, ?_, s2, f2, l2⟩
      have hwa : wrap64 (a + bs) = a + bs := w64 (by omega) (by omega)
      have q1 : ¬ b ≤ n := by omega
      have q2 : ¬ a + bs < n := by omega
      apply Ev.step
      · intro k; rw [ledger_Entry_59.l2]
      · rw [hw2, hwa, hw3]
        exact Ev.ite_neg q1 (Ev.ite_neg q2 e2)
theorem st_l1 (N : Nat) (n : Int) (hN : N ≤ 4398046511104) (hn : n = N) : ∀ (q B : Nat), N - B = q → 0 < B → ∀ (bs : Int) (Y : List S35), bs = B → Y.length = N → Ch kD B Y → dayOk Y → Sorted (fun k => ledger_Entry_59.l1 k Y n bs) Y := by
  intro q
  induction q using Nat.strongRecOn with
  | _ q ih =>
    intro B hq hB bs Y hbs hY hC hd
    by_cases c : B < N
    · have hC' := hC
      obtain ⟨Ls, t, rfl, h1, h2, h3⟩ := hC'
      have hw : wrap64 (2 * bs) = 2 * bs := w64 (by omega) (by omega)
      have hr := st_l2 N n bs (2 * bs) B hN hn hbs hB c rfl (fun Z hZ hZC hZd => ih (N - 2 * B) (by omega) (2 * B) rfl (by omega) (2 * bs) Z (by omega) hZ hZC hZd) Ls.length Ls rfl [] t 0 (2 * bs) (by simp) h1 h2 h3 (by simpa using hY) (by simpa using hd) (by simp) (by omega)
      simp only [List.flatten_nil, List.nil_append] at hr
      obtain ⟨F, e, s, f, l⟩ := hr
      refine ⟨F, ?_, s, f, l⟩
      have q1 : bs < n := by omega
      apply Ev.step
      · intro k; rw [ledger_Entry_59.l1]
      · rw [hw]
        exact Ev.ite_pos q1 e
    · refine ⟨Y, ?_, hC.small (by omega), Fe.refl _, rfl⟩
      have q1 : ¬ bs < n := by omega
      apply Ev.step
      · intro k; rw [ledger_Entry_59.l1]
      · exact Ev.ite_neg q1 (Ev.now _)
theorem st_l0 (N : Nat) (n : Int) (hN : N ≤ 4398046511104) (hn : n = N) : ∀ (q : Nat) (R : List S35), R.length = q → ∀ (Ms : List (List S35)) (a b : Int), (∀ x ∈ Ms, x.length = 20 ∧ Sd kD x) → (Ms.flatten ++ R).length = N → dayOk (Ms.flatten ++ R) → a = Ms.flatten.length → b = a + 20 →
    Sorted (fun k => ledger_Entry_59.l0 k (Ms.flatten ++ R) n 20 a b) (Ms.flatten ++ R) := by
  intro q
  induction q using Nat.strongRecOn with
  | _ q ih =>
    intro R hq Ms a b hM hlen hd ha hb
    simp only [List.length_append] at hlen
    by_cases c : 20 ≤ R.length
    · obtain ⟨X, R', rfl, hX⟩ : ∃ X R', R = X ++ R' ∧ X.length = 20 := ⟨R.take 20, R.drop 20, (List.take_append_drop _ _).symm, by rw [List.length_take]; omega⟩
      simp only [List.length_append] at hlen hq
      obtain ⟨W, e, s, f, l⟩ := ins_ok Ms.flatten X R' a b (by unfold small; simp only [List.length_append]; omega) (fun z hz => hd z (by simp [hz])) ha (by omega)
      have fE : Fe kD (Ms.flatten ++ (X ++ R')) (Ms.flatten ++ W ++ R') := by
        have := (f.left Ms.flatten).right R'
        simpa [List.append_assoc] using this
      have e1 : Ms.flatten ++ W ++ R' = (Ms ++ [W]).flatten ++ R' := by simp [List.append_assoc]
      have hr := ih R'.length (by omega) R' rfl (Ms ++ [W]) b (b + 20) (fun z hz => by
        rcases List.mem_append.1 hz with hz | hz
        · exact hM z hz
        · rw [List.mem_singleton.1 hz]; exact ⟨by omega, s⟩) (by rw [← e1]; simp only [List.length_append]; omega) (by rw [← e1]; exact fE.dayOk hd) (by simp only [List.flatten_append, List.length_append, List.flatten_cons, List.flatten_nil, List.append_nil]; omega) rfl
      rw [← e1] at hr
      obtain ⟨F, e2, s2, f2, l2⟩ := hr
      refine ⟨F, ?_, s2, fE.trans f2, by rw [l2]; simp only [List.length_append]; omega⟩
      have hw : wrap64 (b + 20) = b + 20 := w64 (by omega) (by omega)
      have q1 : b ≤ n := by omega
      apply Ev.step
      · intro k; rw [ledger_Entry_59.l0]
      · rw [hw]
        refine Ev.ite_pos q1 (Ev.bind ?_ e2)
        simpa only [List.append_assoc] using e
    · obtain ⟨W, e, s, f, l⟩ := ins_ok Ms.flatten R [] a n (by unfold small; simp only [List.length_append, List.length_nil]; omega) (fun z hz => hd z (by simp [hz])) ha (by omega)
      have fE : Fe kD (Ms.flatten ++ R) (Ms.flatten ++ W ++ []) := by
        have := f.left Ms.flatten
        simpa [List.append_assoc] using this
      have hr := st_l1 N n hN hn (N - 20) 20 rfl (by omega) 20 (Ms.flatten ++ W ++ []) rfl (by simp only [List.length_append, List.length_nil]; omega) ⟨Ms, W, by simp, hM, s, by omega⟩ (fE.dayOk hd)
      obtain ⟨F, e2, s2, f2, l2⟩ := hr
      refine ⟨F, ?_, s2, fE.trans f2, by rw [l2]; simp only [List.length_append, List.length_nil]; omega⟩
      have q1 : ¬ b ≤ n := by omega
      apply Ev.step
      · intro k; rw [ledger_Entry_59.l0]
      · refine Ev.ite_neg q1 (Ev.bind ?_ e2)
        simpa only [List.append_assoc, List.append_nil] using e
theorem sort_ok (X : List S35) (hs : small X) (hd : dayOk X) : Sorted (fun k => ledger_Entry_46.f k X) X := by
  obtain ⟨F, e, s, f, l⟩ := st_l0 X.length (X.length : Int) hs rfl X.length X rfl [] 0 20 (by simp) (by simp) (by simpa using hd) (by simp) (by omega)
  refine ⟨F, ?_, s, by simpa using f, by simpa using l⟩
  unfold ledger_Entry_46.f ledger_Entry_59.f
  simp only [List.flatten_nil, List.nil_append] at e
  exact Ev.bind e (Ev.now _)
end Go.Proofs.Ytenhnlclnjnboaa.Pure
