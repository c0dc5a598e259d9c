/- Closing a ledger on a day empties the named accounts into account 0 and leaves the others: for every list of raw numbers, every raw choice of accounts and every raw day. -/
import Derived.Test.YtenhnlclnjnboaaPAllx0
import Derived.Test.YtenhnlclnjnboaaPAllx7
import Derived.Test.YtenhnlclnjnboaaPAllx8
import Derived.Test.YtenhnlclnjnboaaPAllx13
import Derived.Test.YtenhnlclnjnboaaPAllx14
import Derived.Test.YtenhnlclnjnboaaPAllx19
import Derived.Test.YtenhnlclnjnboaaPAllx25
import Derived.Test.YtenhnlclnjnboaaPAllx26
import Derived.Test.YtenhnlclnjnboaaPAllx27
import Derived.Test.YtenhnlclnjnboaaLemC
namespace Go.Proofs.Ytenhnlclnjnboaa.Pure
open Go.RowKit Go.Proofs.Ytenhnlclnjnboaa.PAll Go.Proofs.YtenhnlclnjnboaaW.PrintWords Go.Proofs.YtenhnlclnjnboaaW.PrintLast
set_option linter.unusedVariables false
set_option linter.unusedSimpArgs false

theorem check_snoc (l : List S35) (e : S35) (h : checkV l = 0) (he : oneV e = 0) (hl : l.length < 2000) (hx : ∀ x ∈ l, x.f0 ≤ e.f0) : checkV (l ++ [e]) = 0 := by
  unfold checkV at h ⊢
  rw [if_neg (by omega)] at h
  rw [if_neg (by simp; omega)]
  exact chk_snoc l e he 0 h hx (one_day e he).1
theorem post_ok (l : List S35) (a b c d : Int) (h : checkV l = 0) (he : oneV ⟨a, b, c, d⟩ = 0) (hl : l.length < 2000) (hx : ∀ x ∈ l, x.f0 ≤ a) : Ev (fun k => ledger_Post.f k l a b c d) (l ++ [(⟨a, b, c, d⟩ : S35)], 0) := by
  have e1 : ledger_Entry_18.f l = some l := if_pos (by omega)
  have hc := check_ok (l ++ [(⟨a, b, c, d⟩ : S35)])
  rw [check_snoc l _ h he hl hx] at hc
  unfold ledger_Post.f
  simp only [e1, Option.bind_some]
  refine Ev.ite_pos (by simp; omega) (Ev.bind hc (Ev.ite_pos rfl (Ev.now _)))
def close1 (d : Int) (L : List S35) (c : Int) : List S35 :=
  if bal c d L = 0 then L else if bal c d L < 0 then L ++ [(⟨d, 0, c, -(bal c d L)⟩ : S35)] else L ++ [(⟨d, c, 0, bal c d L⟩ : S35)]
def clo (d : Int) (L : List S35) : List Int → List S35
  | [] => L
  | c :: cs => clo d (close1 d L c) cs
theorem clo_append (d : Int) (A B : List Int) : ∀ L, clo d L (A ++ B) = clo d (clo d L A) B := by
  induction A with
  | nil => intro L; rfl
  | cons a as' ih => intro L; exact ih _
structure CI (d : Int) (n : Nat) (L : List S35) : Prop where
  hc : checkV L = 0
  hd : ∀ e ∈ L, e.f0 ≤ d
  hl : L.length ≤ 11 + n
  hb : ∀ a, 1 ≤ a → a ≤ 5 → -5500 ≤ bal a d L ∧ bal a d L ≤ 5500
theorem close1_bal (d : Int) (L : List S35) (c a : Int) (h1 : 1 ≤ c) : bal a d (close1 d L c) = if a = c then 0 else if a = 0 then bal 0 d L + bal c d L else bal a d L := by
  unfold close1
  split
  · rename_i h
    by_cases e : a = c
    · rw [if_pos e, e, h]
    · rw [if_neg e]
      by_cases e0 : a = 0
      · rw [if_pos e0, e0, h]; omega
      · rw [if_neg e0]
  · split
    · rw [bal_append]
      simp only [bal, eff, Int.lt_irrefl, gt_iff_lt, if_false]
      by_cases e : a = c
      · subst e; simp; omega
      · rw [if_neg e, if_neg (fun z => e z.symm)]
        by_cases e0 : a = 0
        · subst e0; simp
        · rw [if_neg e0, if_neg (fun z => e0 z.symm)]; omega
    · rw [bal_append]
      simp only [bal, eff, Int.lt_irrefl, gt_iff_lt, if_false]
      by_cases e : a = c
      · subst e; rw [if_neg (by omega), if_pos rfl, if_pos rfl]; omega
      · rw [if_neg e, if_neg (c := c = a) (fun z => e z.symm)]
        by_cases e0 : a = 0
        · subst e0; simp
        · rw [if_neg e0, if_neg (fun z => e0 z.symm)]; omega
theorem close1_ci {d : Int} {n : Nat} {L : List S35} {c : Int} (h : CI d n L) (hn : n ≤ 100) (d0 : 0 ≤ d) (d1 : d ≤ 1048575) (c1 : 1 ≤ c) (c5 : c ≤ 5) : CI d (n + 1) (close1 d L c) := by
  have hb := h.hb c c1 c5
  have hl := h.hl
  refine ⟨?_, ?_, ?_, ?_⟩
  · unfold close1
    split
    · exact h.hc
    · split
      · exact check_snoc L _ h.hc (by unfold oneV; simp only; rw [if_neg (by omega), if_neg (by omega), if_neg (by omega)]) (by omega) h.hd
      · exact check_snoc L _ h.hc (by unfold oneV; simp only; rw [if_neg (by omega), if_neg (by omega), if_neg (by omega)]) (by omega) h.hd
  · intro e he
    unfold close1 at he
    split at he
    · exact h.hd e he
    · split at he
      · rcases List.mem_append.1 he with he | he
        · exact h.hd e he
        · rw [List.mem_singleton.1 he]; exact Int.le_refl _
      · rcases List.mem_append.1 he with he | he
        · exact h.hd e he
        · rw [List.mem_singleton.1 he]; exact Int.le_refl _
  · unfold close1
    split
    · omega
    · split <;> simp <;> omega
  · intro a a1 a5
    have := h.hb a a1 a5
    rw [close1_bal d L c a c1]
    split
    · omega
    · split <;> omega
theorem close_l0 (d : Int) (C : List Int) (hC : ∀ c ∈ C, 1 ≤ c ∧ c ≤ 5) (hCl : C.length ≤ 5) (d0 : 0 ≤ d) (d1 : d ≤ 1048575) : ∀ (n i : Nat) (L : List S35), i + n = C.length → CI d i L →
    Ev (fun k => ledger_Close.l0 k d L C (C.length : Int) (i : Int)) (clo d L (C.drop i), 0) := by
  intro n
  induction n with
  | zero =>
    intro i L h hi
    rw [List.drop_of_length_le (by omega)]
    apply Ev.step
    · intro k; rw [ledger_Close.l0]
    · exact Ev.ite_neg (by omega) (Ev.now _)
  | succ n ih =>
    intro i L h hi
    have hm : C.getD i 0 ∈ C := by
      have : C.getD i 0 = C[i]'(by omega) := by simp [List.getD_eq_getElem?_getD, show i < C.length by omega]
      rw [this]; exact List.getElem_mem _
    obtain ⟨c1, c5⟩ := hC _ hm
    have hrd : rd C (i : Int) = C.getD i 0 := rfl
    have hw : wrap64 ((i : Int) + 1) = ((i + 1 : Nat) : Int) := by rw [w64 (by omega) (by omega)]; omega
    rw [drop_cons C 0 i (by omega), clo]
    generalize hc : C.getD i 0 = c at *
    have e := ih (i + 1) (close1 d L c) (by omega) (close1_ci hi (by omega) d0 d1 c1 c5)
    have hb := hi.hb c c1 c5
    have hl := hi.hl
    have e0 : Ev (fun k => ledger_Close.l1 k d (close1 d L c) c 0 C (C.length : Int) (i : Int)) (clo d (close1 d L c) (C.drop (i + 1)), 0) := by
      apply Ev.step
      · intro k; rw [ledger_Close.l1]
      · refine Ev.ite_pos rfl ?_
        rw [hw]; exact e
    apply Ev.step
    · intro k; rw [ledger_Close.l0]
    · refine Ev.ite_pos (by omega) (Ev.ite_pos (by omega) (Ev.ite_pos (by omega) (Ev.ite_neg (by rw [hrd]; omega) ?_)))
      rw [hrd]
      refine Ev.bind (balance_ok L c d hi.hc (by omega) (by omega)) (Ev.ite_pos rfl ?_)
      simp only
      by_cases z : bal c d L = 0
      · have q : close1 d L c = L := by unfold close1; rw [if_pos z]
        rw [q] at e0 ⊢
        rw [z]; exact e0
      · apply Ev.step
        · intro k; rw [ledger_Close.l1]
        · refine Ev.ite_neg z ?_
          rw [mn_eq, mn_eq, mn_eq, mx_eq, w64 (a := -bal c d L) (by omega) (by omega), w64 (by omega) (by omega)]
          rw [show bal c d L - max (-1099511627776) (min 1099511627776 (bal c d L)) = 0 by omega, show min (-bal c d L) 1099511627776 = -bal c d L by omega, show min (bal c d L) 1099511627776 = bal c d L by omega]
          by_cases z2 : bal c d L < 0
          · have q : close1 d L c = L ++ [(⟨d, 0, c, -(bal c d L)⟩ : S35)] := by unfold close1; rw [if_neg z, if_pos z2]
            refine Ev.ite_pos z2 (Ev.bind (post_ok L d 0 c (-(bal c d L)) hi.hc (by unfold oneV; simp only; rw [if_neg (by omega), if_neg (by omega), if_neg (by omega)]) (by omega) hi.hd) (Ev.ite_pos rfl ?_))
            rw [q] at e0 ⊢
            exact e0
          · have q : close1 d L c = L ++ [(⟨d, c, 0, bal c d L⟩ : S35)] := by unfold close1; rw [if_neg z, if_neg z2]
            refine Ev.ite_neg z2 (Ev.bind (post_ok L d c 0 (bal c d L) hi.hc (by unfold oneV; simp only; rw [if_neg (by omega), if_neg (by omega), if_neg (by omega)]) (by omega) hi.hd) (Ev.ite_pos rfl ?_))
            rw [q] at e0 ⊢
            exact e0
theorem close_ok (d : Int) (C : List Int) (hC : ∀ c ∈ C, 1 ≤ c ∧ c ≤ 5) (hCl : C.length ≤ 5) (d0 : 0 ≤ d) (d1 : d ≤ 1048575) (L : List S35) (hi : CI d 0 L) :
    Ev (fun k => ledger_Close.f k L C d) (clo d L C, 0) := by
  have hc := check_ok L
  rw [hi.hc] at hc
  have e := close_l0 d C hC hCl d0 d1 C.length 0 L (by omega) hi
  have hl := hi.hl
  have j1 : Ev (fun k => ledger_Close.j1 k L C d false) (clo d L C, 0) := by
    apply Ev.step
    · intro k; rw [ledger_Close.j1]
    · refine Ev.ite_neg (by decide) ?_
      have e1 : ledger_Entry_18.f L = some L := if_pos (by omega)
      simp only [e1, Option.bind_some]
      simpa using e
  unfold ledger_Close.f
  refine Ev.bind hc (Ev.ite_pos rfl (Ev.ite_neg (by omega) ?_))
  rw [decide_eq_false (show ¬ d > 1048575 by omega)]
  apply Ev.step
  · intro k; rw [ledger_Close.j0]
  · refine Ev.ite_neg (by decide) ?_
    by_cases z : (L.length : Int) > 0
    · refine Ev.ite_pos z ?_
      rw [w64 (a := (L.length : Int) - 1) (by omega) (by omega)]
      refine Ev.ite_pos (by omega) (Ev.ite_pos (by omega) ?_)
      rw [show (L.length : Int) - 1 = ((L.length - 1 : Nat) : Int) by omega, rd_nat]
      have hm : rdE L (L.length - 1) ∈ L := by
        have : rdE L (L.length - 1) = L[L.length - 1]'(by omega) := by simp [rdE, List.getD_eq_getElem?_getD, show L.length - 1 < L.length by omega]
        rw [this]; exact List.getElem_mem _
      have := hi.hd _ hm
      rw [decide_eq_false (show ¬ (rdE L (L.length - 1)).f0 > d by omega)]
      exact j1
    · exact Ev.ite_neg z j1
/-- The accounts that a choice names, from 1 to n. -/
def Cl (p : Nat → Bool) : Nat → List Int
  | 0 => []
  | n + 1 => if p (n + 1) = true then Cl p n ++ [((n + 1 : Nat) : Int)] else Cl p n
theorem Cl_mem (p : Nat → Bool) (x : Int) : ∀ n, x ∈ Cl p n ↔ ∃ j : Nat, x = (j : Int) ∧ 1 ≤ j ∧ j ≤ n ∧ p j = true := by
  intro n
  induction n with
  | zero => simp [Cl]; omega
  | succ n ih =>
    rw [Cl]
    constructor
    · intro h
      split at h
      · rcases List.mem_append.1 h with h | h
        · obtain ⟨j, a, b, c, e⟩ := ih.1 h; exact ⟨j, a, b, by omega, e⟩
        · exact ⟨n + 1, List.mem_singleton.1 h, by omega, by omega, by assumption⟩
      · obtain ⟨j, a, b, c, e⟩ := ih.1 h; exact ⟨j, a, b, by omega, e⟩
    · rintro ⟨j, a, b, c, e⟩
      by_cases q : j = n + 1
      · subst q; rw [if_pos e]; simp [a]
      · have := ih.2 ⟨j, a, b, by omega, e⟩
        split
        · exact List.mem_append.2 (Or.inl this)
        · exact this
theorem Cl_len (p : Nat → Bool) : ∀ n, (Cl p n).length ≤ n := by
  intro n
  induction n with
  | zero => simp [Cl]
  | succ n ih =>
    rw [Cl]
    split
    · rw [List.length_append]; simp only [List.length_cons, List.length_nil]; omega
    · omega
def want (d : Int) (X : List S35) (p : Nat → Bool) : Nat → Int
  | 0 => bal 0 d X
  | n + 1 => if p (n + 1) = true then want d X p n + bal ((n + 1 : Nat) : Int) d X else want d X p n
theorem clo_all (d : Int) (X : List S35) (p : Nat → Bool) (hX : CI d 0 X) (d0 : 0 ≤ d) (d1 : d ≤ 1048575) : ∀ n : Nat, n ≤ 5 →
    CI d n (clo d X (Cl p n)) ∧ bal 0 d (clo d X (Cl p n)) = want d X p n ∧ ∀ a : Nat, 1 ≤ a → a ≤ 5 → bal (a : Int) d (clo d X (Cl p n)) = if a ≤ n ∧ p a = true then 0 else bal (a : Int) d X := by
  intro n
  induction n with
  | zero => intro _; exact ⟨hX, rfl, fun a _ _ => by rw [if_neg (by omega)]; rfl⟩
  | succ n ih =>
    intro hn
    obtain ⟨i1, i2, i3⟩ := ih (by omega)
    rw [Cl, want]
    by_cases c : p (n + 1) = true
    · rw [if_pos c, if_pos c, clo_append]
      simp only [clo]
      refine ⟨close1_ci i1 (by omega) d0 d1 (by omega) (by omega), ?_, ?_⟩
      · rw [close1_bal _ _ _ _ (by omega), if_neg (by omega), if_pos rfl, i2, i3 (n + 1) (by omega) (by omega), if_neg (by omega)]
      · intro a a1 a5
        rw [close1_bal _ _ _ _ (by omega)]
        by_cases q : a = n + 1
        · subst q; rw [if_pos rfl, if_pos ⟨Nat.le_refl _, c⟩]
        · rw [if_neg (by omega), if_neg (by omega), i3 a a1 a5]
          by_cases r : a ≤ n ∧ p a = true
          · rw [if_pos r, if_pos ⟨by omega, r.2⟩]
          · rw [if_neg r, if_neg (fun z => r ⟨by omega, z.2⟩)]
    · rw [if_neg c, if_neg c]
      refine ⟨⟨i1.hc, i1.hd, by have := i1.hl; omega, i1.hb⟩, i2, ?_⟩
      intro a a1 a5
      rw [i3 a a1 a5]
      by_cases r : a ≤ n ∧ p a = true
      · rw [if_pos r, if_pos ⟨by omega, r.2⟩]
      · rw [if_neg r, if_neg]
        rintro ⟨z1, z2⟩
        by_cases q : a = n + 1
        · subst q; exact c z2
        · exact r ⟨by omega, z2⟩
theorem index_l0 (C : List Int) (v : Int) (hn : C.length ≤ 100) : ∀ (n i : Nat), i + n = C.length → ∃ r, Ev (fun k => slices_Index_int_int.l0 k C v (C.length : Int) (i : Int)) r ∧ (decide (r ≥ 0)) = decide (v ∈ C.drop i) := by
  intro n
  induction n with
  | zero =>
    intro i h
    refine ⟨-1, ?_, by rw [List.drop_of_length_le (by omega)]; simp⟩
    apply Ev.step
    · intro k; rw [slices_Index_int_int.l0]
    · exact Ev.ite_neg (by omega) (Ev.now _)
  | succ n ih =>
    intro i h
    obtain ⟨r, hr, hv⟩ := ih (i + 1) (by omega)
    have hw : wrap64 ((i : Int) + 1) = ((i + 1 : Nat) : Int) := by rw [w64 (by omega) (by omega)]; omega
    have hrd : rd C (i : Int) = C.getD i 0 := rfl
    rw [drop_cons C 0 i (by omega)]
    by_cases c : v = C.getD i 0
    · refine ⟨(i : Int), ?_, ?_⟩
      · apply Ev.step
        · intro k; rw [slices_Index_int_int.l0]
        · exact Ev.ite_pos (by omega) (Ev.ite_pos (by omega) (Ev.ite_pos (by omega) (Ev.ite_pos (by rw [hrd]; exact c) (Ev.now _))))
      · rw [decide_eq_true (show (i : Int) ≥ 0 by omega), decide_eq_true]; rw [c]; exact List.mem_cons_self
    · refine ⟨r, ?_, ?_⟩
      · apply Ev.step
        · intro k; rw [slices_Index_int_int.l0]
        · refine Ev.ite_pos (by omega) (Ev.ite_pos (by omega) (Ev.ite_pos (by omega) (Ev.ite_neg (by rw [hrd]; exact c) ?_)))
          rw [hw]; exact hr
      · rw [hv]
        by_cases q : v ∈ C.drop (i + 1)
        · rw [decide_eq_true q, decide_eq_true (List.mem_cons_of_mem _ q)]
        · rw [decide_eq_false q, decide_eq_false (fun z => (List.mem_cons.1 z).elim c q)]
theorem contains_ok (C : List Int) (v : Int) (hn : C.length ≤ 100) : Ev (fun k => slices_Contains_int_int.f k C v) (decide (v ∈ C)) := by
  obtain ⟨r, hr, hv⟩ := index_l0 C v hn C.length 0 (by omega)
  unfold slices_Contains_int_int.f slices_Index_int_int.f
  rw [List.drop_zero] at hv
  rw [← hv]
  exact Ev.bind hr (Ev.now _)
theorem closed_l1 (d : Int) (X : List S35) (p : Nat → Bool) (hX : CI d 0 X) (d0 : 0 ≤ d) (d1 : d ≤ 1048575) (hb0 : -5500 ≤ bal 0 d X ∧ bal 0 d X ≤ 5500) : ∀ (n i : Nat), i + n = 5 →
    Ev (fun k => mootkeep4_LedgerClosed.l1 k X d (Cl p 5) (clo d X (Cl p 5)) (want d X p i) ((i + 1 : Nat) : Int)) true := by
  obtain ⟨q1, q2, q3⟩ := clo_all d X p hX d0 d1 5 (by omega)
  have hw : ∀ m : Nat, m ≤ 5 → -(5500 * ((m + 1 : Nat) : Int)) ≤ want d X p m ∧ want d X p m ≤ 5500 * ((m + 1 : Nat) : Int) := by
    intro m
    induction m with
    | zero => intro _; simp only [want]; omega
    | succ m ih =>
      intro hm
      have := ih (by omega)
      have h2 := hX.hb ((m + 1 : Nat) : Int) (by omega) (by omega)
      simp only [want]
      split <;> omega
  intro n
  induction n with
  | zero =>
    intro i h
    obtain rfl : i = 5 := by omega
    apply Ev.step
    · intro k; rw [mootkeep4_LedgerClosed.l1]
    · refine Ev.ite_neg (by omega) (Ev.bind (balance_ok _ 0 d q1.hc (by omega) (by omega)) (Ev.ite_pos rfl (Ev.some_ ?_)))
      simp only [q2]; simp
  | succ n ih =>
    intro i h
    have e := ih (i + 1) (by omega)
    have w1 := hw i (by omega)
    have w2 := hX.hb ((i + 1 : Nat) : Int) (by omega) (by omega)
    have hs : wrap64 (((i + 1 : Nat) : Int) + 1) = ((i + 1 + 1 : Nat) : Int) := by rw [w64 (by omega) (by omega)]; omega
    apply Ev.step
    · intro k; rw [mootkeep4_LedgerClosed.l1]
    · refine Ev.ite_pos (by omega) (Ev.bind (balance_ok X ((i + 1 : Nat) : Int) d hX.hc (by omega) (by omega)) (Ev.bind (balance_ok _ ((i + 1 : Nat) : Int) d q1.hc (by omega) (by omega)) (Ev.ite_pos rfl ?_)))
      simp only
      apply Ev.step
      · intro k; rw [mootkeep4_LedgerClosed.j3]
      · refine Ev.ite_neg (by decide) (Ev.bind (contains_ok (Cl p 5) _ (by have := Cl_len p 5; omega)) ?_)
        have hv := q3 (i + 1) (by omega) (by omega)
        by_cases c : p (i + 1) = true
        · rw [if_pos ⟨by omega, c⟩] at hv
          refine Ev.ite_pos (decide_eq_true ((Cl_mem p _ 5).2 ⟨i + 1, rfl, by omega, by omega, c⟩)) (Ev.ite_pos hv ?_)
          rw [w64 (by omega) (by omega), hs]
          rw [want, if_pos c] at e
          exact e
        · rw [if_neg (fun z => c z.2)] at hv
          refine Ev.ite_neg ?_ (Ev.ite_pos hv ?_)
          · intro z
            obtain ⟨j, a, _, _, b⟩ := (Cl_mem p _ 5).1 (of_decide_eq_true z)
            have : i + 1 = j := by omega
            subst this; exact c b
          · rw [hs]
            rw [want, if_neg c] at e
            exact e
theorem closed_l0 (a1 : Int) (q : Int) (hq : mootmake_Below.f a1 32 = some q) (d : Int) (X : List S35) (p : Nat → Bool) (hp : ∀ j : Nat, p j = decide (Go.bits .and .i64 (shr .i64 q ((j : Int) - 1)) 1 = 1)) (hX : CI d 0 X) (d0 : 0 ≤ d) (d1 : d ≤ 1048575) (hb0 : -5500 ≤ bal 0 d X ∧ bal 0 d X ≤ 5500) : ∀ (n i : Nat), i + n = 5 →
    Ev (fun k => mootkeep4_LedgerClosed.l0 k a1 X d (Cl p i) ((i + 1 : Nat) : Int)) true := by
  intro n
  induction n with
  | zero =>
    intro i h
    obtain rfl : i = 5 := by omega
    obtain ⟨q1, q2, q3⟩ := clo_all d X p hX d0 d1 5 (by omega)
    have e := closed_l1 d X p hX d0 d1 hb0 5 0 (by omega)
    have hw : Ev (fun k => ledger_Close.f k X (Cl p 5) d) (clo d X (Cl p 5), 0) :=
      close_ok d (Cl p 5) (fun c hc => by obtain ⟨j, a, b, c', _⟩ := (Cl_mem p c 5).1 hc; omega) (Cl_len p 5) d0 d1 X hX
    apply Ev.step
    · intro k; rw [mootkeep4_LedgerClosed.l0]
    · refine Ev.ite_neg (by omega) (Ev.bind hw (Ev.bind (balance_ok X 0 d hX.hc (by omega) (by omega)) (Ev.ite_pos rfl ?_)))
      simp only
      apply Ev.step
      · intro k; rw [mootkeep4_LedgerClosed.j1]
      · exact Ev.ite_neg (by decide) e
  | succ n ih =>
    intro i h
    have e := ih (i + 1) (by omega)
    have hs : wrap64 (((i + 1 : Nat) : Int) + 1) = ((i + 1 + 1 : Nat) : Int) := by rw [w64 (by omega) (by omega)]; omega
    have hl := Cl_len p i
    apply Ev.step
    · intro k; rw [mootkeep4_LedgerClosed.l0]
    · refine Ev.ite_pos (by omega) ?_
      simp only [hq, Option.bind_some]
      rw [w64 (a := ((i + 1 : Nat) : Int) - 1) (by omega) (by omega), hs]
      refine Ev.ite_pos (by omega) ?_
      rw [Cl] at e
      by_cases c : Go.bits .and .i64 (shr .i64 q (((i + 1 : Nat) : Int) - 1)) 1 = 1
      · rw [if_pos (by rw [hp]; exact decide_eq_true c)] at e
        exact Ev.ite_pos c (Ev.ite_pos (by omega) e)
      · rw [if_neg (by rw [hp, decide_eq_false c]; decide)] at e
        exact Ev.ite_neg c e
theorem LedgerClosed : mootkeep4_LedgerClosed.Pure := by
  intro l0 a1 a2 _ _ hl h1 h2
  obtain ⟨y, hy, hn, hm, hc⟩ := entries_ok l0 hl
  have b1 := wf_bd h1
  have b2 := wf_bd h2
  obtain ⟨q, hq, _, _⟩ := below_ok a1 32 b1.1 b1.2 (by omega) (by omega)
  obtain ⟨r, hr, r0, r1⟩ := below_ok a2 100 b2.1 b2.2 (by omega) (by omega)
  have hd : mootmake_Day.f 39999 = some 739999 := by decide +kernel
  have hb : ∀ a, -5500 ≤ bal a (739999 + r) y ∧ bal a (739999 + r) y ≤ 5500 := by
    intro a
    have := bal_bd a (739999 + r) 500 y (fun e he => by have := hm e he; unfold madeE at this; omega)
    omega
  have e := closed_l0 a1 q hq (739999 + r) y (fun j => decide (Go.bits .and .i64 (shr .i64 q ((j : Int) - 1)) 1 = 1)) (fun _ => rfl)
    ⟨hc, fun e he => by have := (hm e he).2.1; omega, by omega, fun a _ _ => hb a⟩ (by omega) (by omega) (hb 0) 5 0 (by omega)
  refine Ev.rounds ?_
  unfold mootkeep4_LedgerClosed.f
  refine Ev.bind posted_ok (Ev.ite_pos rfl (Ev.bind hy ?_))
  simp only [hd, hr, Option.bind_some]
  rw [w64 (by omega) (by omega)]
  exact e
end Go.Proofs.Ytenhnlclnjnboaa.Pure
