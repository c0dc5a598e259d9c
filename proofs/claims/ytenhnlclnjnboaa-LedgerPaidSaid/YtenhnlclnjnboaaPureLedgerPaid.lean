/- Payments and the corrections of them, written as entries of a ledger, give each party in sum what was due: for every list of payments, of dues, and every day.
   The entries are sorted by a stable sort (the same entries in another order), so the balances are the sums of the payments; month by month the payments and the corrections sum to what was due. -/
import Derived.Test.YtenhnlclnjnboaaPPadx0
import Derived.Test.YtenhnlclnjnboaaPPadx2
import Derived.Test.YtenhnlclnjnboaaPPadx3
import Derived.Test.YtenhnlclnjnboaaPPadx5
import Derived.Test.YtenhnlclnjnboaaPPadx14
import Derived.Test.YtenhnlclnjnboaaPPadx15
import Derived.Test.YtenhnlclnjnboaaPPadx46
import Derived.Test.YtenhnlclnjnboaaPPadx47
import Derived.Test.YtenhnlclnjnboaaPPadx48
import Derived.Test.YtenhnlclnjnboaaPadP
namespace Go.Proofs.Ytenhnlclnjnboaa.Pure
open Go.RowKit Go.Proofs.Ytenhnlclnjnboaa.PPad Go.Proofs.YtenhnlclnjnboaaW.PrintWords Go.Proofs.YtenhnlclnjnboaaW.PrintLast
set_option linter.unusedVariables false
set_option linter.unusedSimpArgs false

theorem Fe.perm {l m : List S35} {key : S35 → Int} (h : Fe key l m) : l.Perm m := by
  classical
  refine List.perm_iff_count.2 (fun a => ?_)
  have e := h (key a)
  have e1 : List.count a (l.filter fun x => decide (key x = key a)) = List.count a l := List.count_filter (by simp)
  have e2 : List.count a (m.filter fun x => decide (key x = key a)) = List.count a m := List.count_filter (by simp)
  rw [← e1, e, e2]
theorem bal_perm (a d : Int) {l m : List S35} (h : l.Perm m) : bal a d l = bal a d m := by
  induction h with
  | nil => rfl
  | cons x _ ih => simp only [bal, ih]
  | swap x y l => simp only [bal]; omega
  | trans _ _ i1 i2 => exact i1.trans i2
theorem chk_sorted : ∀ (F : List S35) (p : Int), (∀ e ∈ F, oneV e = 0) → (∀ e ∈ F, p ≤ kD e) → Sd kD F → chk p F = 0
  | [], _, _, _, _ => rfl
  | e :: F, p, h, hp, hs => by
    have h1 := hp e (by simp)
    unfold kD at h1
    rw [chk, if_pos (h e (by simp)), if_neg (by omega)]
    unfold Sd at hs
    rw [List.pairwise_cons] at hs
    exact chk_sorted F _ (fun x hx => h x (by simp [hx])) (fun x hx => hs.1 x hx) hs.2
/-- What payments sum to for a party. -/
def wsum (who : Int) : List S51 → Int
  | [] => 0
  | p :: r => (if p.f0 = who then p.f2 else 0) + wsum who r
theorem wsum_tot (who : Int) : ∀ (l : List S51), (∀ p ∈ l, 20000 ≤ p.f1 ∧ p.f1 ≤ 20003) → wsum who l = tot (who, 20000) l + tot (who, 20001) l + tot (who, 20002) l + tot (who, 20003) l
  | [], _ => rfl
  | p :: r, h => by
    have hp := h p (by simp)
    have ih := wsum_tot who r (fun q hq => h q (by simp [hq]))
    simp only [wsum, tot, Prod.mk.injEq, ih]
    by_cases e : p.f0 = who
    · have hc : p.f1 = 20000 ∨ p.f1 = 20001 ∨ p.f1 = 20002 ∨ p.f1 = 20003 := by omega
      rcases hc with c | c | c | c <;> simp [e, c] <;> omega
    · simp [e]
theorem wsum_append (who : Int) : ∀ (l m : List S51), wsum who (l ++ m) = wsum who l + wsum who m
  | [], m => by simp [wsum]
  | p :: l, m => by simp only [List.cons_append, wsum, wsum_append who l m]; omega
theorem psumW_l0 (l : List S51) (hn : l.length ≤ 1000) (h : ∀ p ∈ l, made p) (who : Int) : ∀ (n i : Nat) (s : Int), i + n = l.length → -(1000 * (i : Int)) ≤ s → s ≤ 1000 * (i : Int) → Ev (fun k => pay_Sum.l0 k who 0 30000 s l (l.length : Int) (i : Int)) (s + wsum who (l.drop i)) := by
  intro n
  induction n with
  | zero =>
    intro i s hi h1 h2
    apply Ev.step
    · intro k; rw [pay_Sum.l0]
    · refine Ev.ite_neg (by omega) (Ev.some_ ?_)
      rw [List.drop_of_length_le (by omega)]
      simp [wsum]
  | succ n ih =>
    intro i s hi h1 h2
    have hb := h _ (rd_mem (l := l) (i := (i : Int)) (by omega) (by omega))
    have hd : l.drop i = rd_T51 l (i : Int) :: l.drop (i + 1) := by
      rw [drop_cons l z51 i (by omega)]
      rfl
    have hx : wrap64 ((i : Int) + 1) = ((i + 1 : Nat) : Int) := by rw [w64 (by omega) (by omega)]; omega
    rw [hd, wsum]
    unfold made at hb
    apply Ev.step
    · intro k; rw [pay_Sum.l0]
    · refine Ev.ite_pos (by omega) (Ev.ite_pos (by omega) (Ev.ite_pos (by omega) ?_))
      rw [hx]
      by_cases e0 : (rd_T51 l (i : Int)).f0 = who
      · rw [if_pos e0]
        refine Ev.ite_pos e0 (Ev.ite_pos (by omega) (Ev.ite_pos (by omega) ?_))
        rw [w64 (a := s + (rd_T51 l (i : Int)).f2) (by omega) (by omega), ← Int.add_assoc]
        exact ih (i + 1) _ (by omega) (by omega) (by omega)
      · rw [if_neg e0, Int.zero_add]
        exact Ev.ite_neg e0 (ih (i + 1) _ (by omega) (by omega) (by omega))
/-- The entry of a payment from an account. -/
def entOf (from_ : Int) (p : S51) : S35 := if p.f2 < 0 ∧ p.f2 ≥ -1099511627776 then ⟨p.f3, p.f0, from_, wrap64 (-p.f2)⟩ else ⟨p.f3, from_, p.f0, p.f2⟩
theorem pays_step (from_ : Int) (X : List S35) (l : List S51) (n i : Int) (hi : i < n) (h0 : 0 ≤ i) (hil : i < (l.length : Int)) (r : List S35 × Int)
    (hk : Ev (fun k => if (rd_T51 l i).f2 = 0 then (ledger_Pays.l0 k from_ X l n (wrap64 (i + 1))) else ((ledger_one.f k (entOf from_ (rd_T51 l i)).f0 (entOf from_ (rd_T51 l i)).f1 (entOf from_ (rd_T51 l i)).f2 (entOf from_ (rd_T51 l i)).f3).bind fun t317 => (if t317 = 0 then (if X.length < 4398046511104 then (ledger_Pays.l0 k from_ (X ++ [(⟨(entOf from_ (rd_T51 l i)).f0, (entOf from_ (rd_T51 l i)).f1, (entOf from_ (rd_T51 l i)).f2, (entOf from_ (rd_T51 l i)).f3⟩ : S35)]) l n (wrap64 (i + 1))) else (none)) else (some (([] : List (S35)), t317))))) r) :
    Ev (fun k => ledger_Pays.l0 k from_ X l n i) r := by
  apply Ev.step
  · intro k; rw [ledger_Pays.l0]
  · refine Ev.ite_pos hi (Ev.ite_pos h0 (Ev.ite_pos hil ?_))
    unfold entOf at hk
    by_cases c1 : (rd_T51 l i).f2 < 0
    · refine Ev.ite_pos c1 ?_
      by_cases c2 : (rd_T51 l i).f2 ≥ -1099511627776
      · rw [if_pos ⟨c1, c2⟩] at hk
        apply Ev.step
        · intro k; rw [ledger_Pays.j1]
        · refine Ev.ite_pos (decide_eq_true c2) ?_
          apply Ev.step
          · intro k; rw [ledger_Pays.j2]
          · exact hk
      · rw [if_neg (fun h => c2 h.2)] at hk
        apply Ev.step
        · intro k; rw [ledger_Pays.j1]
        · refine Ev.ite_neg (by simpa using c2) ?_
          apply Ev.step
          · intro k; rw [ledger_Pays.j2]
          · exact hk
    · rw [if_neg (fun h => c1 h.1)] at hk
      refine Ev.ite_neg c1 ?_
      apply Ev.step
      · intro k; rw [ledger_Pays.j1]
      · refine Ev.ite_neg (by simp) ?_
        apply Ev.step
        · intro k; rw [ledger_Pays.j2]
        · exact hk
def ents : List S51 → List S35
  | [] => []
  | p :: r => if p.f2 = 0 then ents r else entOf 9 p :: ents r
theorem ents_len : ∀ l : List S51, (ents l).length ≤ l.length
  | [] => by simp [ents]
  | p :: r => by
    have := ents_len r
    unfold ents
    split <;> simp <;> omega
theorem ents_mem : ∀ (l : List S51) (e : S35), e ∈ ents l → ∃ p ∈ l, p.f2 ≠ 0 ∧ e = entOf 9 p
  | [], e, h => by simp [ents] at h
  | p :: r, e, h => by
    unfold ents at h
    split at h
    · obtain ⟨q, hq, h1⟩ := ents_mem r e h
      exact ⟨q, by simp [hq], h1⟩
    · rename_i hp
      rcases List.mem_cons.1 h with h | h
      · exact ⟨p, by simp, hp, h⟩
      · obtain ⟨q, hq, h1⟩ := ents_mem r e h
        exact ⟨q, by simp [hq], h1⟩
/-- A payment whose entry is right. -/
def fine (p : S51) : Prop := 1 ≤ p.f0 ∧ p.f0 ≤ 3 ∧ -20000 ≤ p.f2 ∧ p.f2 ≤ 20000 ∧ 0 ≤ p.f3 ∧ p.f3 ≤ 1048575
theorem fine_one {p : S51} (h : fine p) (hz : p.f2 ≠ 0) : oneV (entOf 9 p) = 0 := by
  obtain ⟨p0, p1, p2, p3⟩ := p
  unfold fine at h
  simp only at h hz
  unfold entOf
  simp only
  by_cases c : p2 < 0 ∧ p2 ≥ -1099511627776
  · rw [if_pos c, w64 (by omega) (by omega)]
    unfold oneV
    simp only
    rw [if_neg (by omega), if_neg (by omega), if_neg (by omega)]
  · rw [if_neg c]
    unfold oneV
    simp only
    rw [if_neg (by omega), if_neg (by omega), if_neg (by omega)]
theorem bal_ents (who : Int) (h1 : 1 ≤ who) (h3 : who ≤ 3) : ∀ (l : List S51), (∀ p ∈ l, fine p) → bal who 1048575 (ents l) = wsum who l
  | [], _ => rfl
  | p :: r, h => by
    have hp := h p (by simp)
    have ih := bal_ents who h1 h3 r (fun q hq => h q (by simp [hq]))
    unfold ents wsum
    by_cases hz : p.f2 = 0
    · rw [if_pos hz, ih, hz]
      simp
    · rw [if_neg hz, bal, ih]
      obtain ⟨p0, p1, p2, p3⟩ := p
      unfold fine at hp
      simp only at hp hz
      unfold entOf
      simp only
      congr 1
      by_cases c : p2 < 0 ∧ p2 ≥ -1099511627776
      · rw [if_pos c, w64 (by omega) (by omega)]
        unfold eff
        simp only
        rw [if_neg (by omega), if_neg (by omega)]
        by_cases e : p0 = who
        · rw [if_pos e, if_pos e]; omega
        · rw [if_neg e, if_neg e]
      · rw [if_neg c]
        unfold eff
        simp only
        rw [if_neg (by omega)]
        by_cases e : p0 = who
        · rw [if_pos e, if_pos e]
        · rw [if_neg e, if_neg e, if_neg (by omega)]
theorem pays_loop (l : List S51) (hl : l.length ≤ 1000) (h : ∀ p ∈ l, fine p) (r : List S35 × Int) : ∀ (n i : Nat) (X : List S35), i + n = l.length → X.length ≤ i →
    Ev (fun k => (ledger_Entry_46.f k (X ++ ents (l.drop i))).bind fun t164 => ((ledger_Check.f k t164).bind fun t165 => (if t165 = 0 then (some (t164, 0)) else (some (([] : List (S35)), t165))))) r → Ev (fun k => ledger_Pays.l0 k 9 X l (l.length : Int) (i : Int)) r := by
  intro n
  induction n with
  | zero =>
    intro i X hi hX he
    rw [List.drop_of_length_le (by omega), ents, List.append_nil] at he
    apply Ev.step
    · intro k; rw [ledger_Pays.l0]
    · exact Ev.ite_neg (by omega) he
  | succ n ih =>
    intro i X hi hX he
    have hb := h _ (rd_mem (l := l) (i := (i : Int)) (by omega) (by omega))
    have hd : l.drop i = rd_T51 l (i : Int) :: l.drop (i + 1) := by
      rw [drop_cons l z51 i (by omega)]
      rfl
    have hx : wrap64 ((i : Int) + 1) = ((i + 1 : Nat) : Int) := by rw [w64 (by omega) (by omega)]; omega
    rw [hd, ents] at he
    refine pays_step _ _ _ _ _ (by omega) (by omega) (by omega) _ ?_
    rw [hx]
    by_cases hz : (rd_T51 l (i : Int)).f2 = 0
    · rw [if_pos hz] at he
      exact Ev.ite_pos hz (ih (i + 1) X (by omega) (by omega) he)
    · rw [if_neg hz] at he
      refine Ev.ite_neg hz (Ev.bind (one_ok _) ?_)
      refine Ev.ite_pos (fine_one hb hz) (Ev.ite_pos (by omega) (ih (i + 1) _ (by omega) (by simp; omega) ?_))
      rw [show X ++ [(⟨(entOf 9 (rd_T51 l (i : Int))).f0, (entOf 9 (rd_T51 l (i : Int))).f1, (entOf 9 (rd_T51 l (i : Int))).f2, (entOf 9 (rd_T51 l (i : Int))).f3⟩ : S35)] ++ ents (l.drop (i + 1)) = X ++ (entOf 9 (rd_T51 l (i : Int)) :: ents (l.drop (i + 1))) by simp]
      exact he
theorem posted_ok : Ev (fun k => mootkeep4_posted.f k) true := Ev.of (mootkeep4_posted.mono) (k := 20) (by decide +kernel)
theorem LedgerPaid : mootkeep4_LedgerPaid.Pure := by
  intro l0 l1 a2 _ _ w1 _ _ w2 wa
  obtain ⟨d, hd, d0, d1⟩ := day_ok a2 (wf_bd wa).1 (wf_bd wa).2
  obtain ⟨P, hP, lP, mP⟩ := pays_ok l0 w1
  obtain ⟨D, hD, lD, mD⟩ := pays_ok l1 w2
  obtain ⟨x, hx, lx, _, mx_, tx⟩ := corr_made P D d lP lD mP mD d0 d1
  have hf : ∀ p ∈ P ++ x, fine p := by
    intro p hp
    rcases List.mem_append.1 hp with hp | hp
    · have := mP p hp; unfold made at this; unfold fine; omega
    · have := mx_ p hp; unfold fine; omega
  have ha : (P ++ x).length ≤ 36 := by simp; omega
  have hel := ents_len (P ++ x)
  have h1 : ∀ e ∈ ents (P ++ x), oneV e = 0 := by
    intro e he
    obtain ⟨p, hp, hz, rfl⟩ := ents_mem _ _ he
    exact fine_one (hf p hp) hz
  obtain ⟨F, eF, sF, fF, nF⟩ := sort_ok (ents (P ++ x)) (by unfold small; omega) (fun e he => by have := one_day e (h1 e he); unfold kD; omega)
  have h1F : ∀ e ∈ F, oneV e = 0 := fun e he => h1 e ((fF.mem e).2 he)
  have cF : checkV F = 0 := by
    unfold checkV
    rw [if_neg (by omega)]
    exact chk_sorted F 0 h1F (fun e he => by have := one_day e (h1F e he); unfold kD; omega) sF
  have key : ∀ who : Int, 1 ≤ who → who ≤ 3 → bal who 1048575 F = wsum who D := by
    intro who g1 g3
    rw [← bal_perm who 1048575 fF.perm, bal_ents who g1 g3 _ hf, wsum_append, wsum_tot who P (fun p hp => by have := mP p hp; unfold made at this; omega), wsum_tot who x (fun p hp => by have := mx_ p hp; omega), wsum_tot who D (fun p hp => by have := mD p hp; unfold made at this; omega)]
    have t0 := tx (who, 20000)
    have t1 := tx (who, 20001)
    have t2 := tx (who, 20002)
    have t3 := tx (who, 20003)
    omega
  have step : ∀ who : Int, 1 ≤ who → who ≤ 3 → Ev (fun k => mootkeep4_LedgerPaid.l0 k D F (who + 1)) true → Ev (fun k => mootkeep4_LedgerPaid.l0 k D F who) true := by
    intro who g1 g3 hk
    apply Ev.step
    · intro k; rw [mootkeep4_LedgerPaid.l0]
    · refine Ev.ite_pos g3 (Ev.bind (balance_ok F who 1048575 cF (by omega) (by omega)) (Ev.ite_pos rfl ?_))
      refine Ev.bind (a := wsum who D) ?_ (Ev.ite_pos (key who g1 g3) ?_)
      · have := psumW_l0 D (by omega) mD who D.length 0 0 (by omega) (by omega) (by omega)
        unfold pay_Sum.f
        simpa using this
      · rw [w64 (by omega) (by omega)]
        exact hk
  refine Ev.rounds ?_
  refine Ev.congr (fun k => by unfold mootkeep4_LedgerPaid.f; rfl) ?_
  refine Ev.bind posted_ok (Ev.ite_pos rfl (Ev.bind (a := true) ⟨3, fun k hk => corrected_ok k hk⟩ ?_))
  apply Ev.step
  · intro k; rw [mootkeep4_LedgerPaid.j0]
  · refine Ev.ite_neg (by simp) (Ev.bind (a := P) ⟨13, fun k hk => hP k hk⟩ (Ev.bind (a := D) ⟨13, fun k hk => hD k hk⟩ ?_))
    refine Ev.bind (a := d) ⟨0, fun _ _ => hd⟩ (Ev.bind (a := (x, 0)) ⟨0, fun _ _ => hx⟩ (Ev.bind (a := P ++ x) ⟨0, fun _ _ => by show api_Pay_41.cat2.f P x = _; unfold api_Pay_41.cat2.f; rw [if_pos ⟨by omega, by omega⟩]⟩ ?_))
    refine Ev.bind (a := (F, 0)) ?_ (Ev.ite_pos rfl ?_)
    · refine Ev.congr (fun k => by unfold ledger_Pays.f; rfl) ?_
      have := pays_loop (P ++ x) (by omega) hf (F, 0) (P ++ x).length 0 [] (by omega) (by simp) (by
        simp only [List.drop_zero, List.nil_append]
        exact Ev.bind eF (Ev.bind (check_ok F) (Ev.ite_pos cF (Ev.now _))))
      simpa using this
    · apply Ev.step
      · intro k; rw [mootkeep4_LedgerPaid.j1]
      · refine Ev.ite_neg (by simp) (step 1 (by omega) (by omega) (step 2 (by omega) (by omega) (step 3 (by omega) (by omega) ?_)))
        apply Ev.step
        · intro k; rw [mootkeep4_LedgerPaid.l0]
        · exact Ev.ite_neg (by omega) (Ev.now _)
end Go.Proofs.Ytenhnlclnjnboaa.Pure
