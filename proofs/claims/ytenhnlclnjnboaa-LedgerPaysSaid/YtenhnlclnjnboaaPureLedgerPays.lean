/- Payments become the entries of the reference: at all payments, from any account. -/
import Derived.Test.YtenhnlclnjnboaaPAllx0
import Derived.Test.YtenhnlclnjnboaaPAllx4
import Derived.Test.YtenhnlclnjnboaaPAllx37
import Derived.Test.YtenhnlclnjnboaaPAllx42
import Derived.Test.YtenhnlclnjnboaaPAllx43
import Derived.Test.YtenhnlclnjnboaaLemW
import Derived.Test.YtenhnlclnjnboaaLemX
namespace Go.Proofs.Ytenhnlclnjnboaa.Pure
open Go.RowKit Go.Proofs.Ytenhnlclnjnboaa.PAll Go.Proofs.YtenhnlclnjnboaaW.PrintWords Go.Proofs.YtenhnlclnjnboaaW.PrintLast
set_option linter.unusedVariables false
set_option linter.unusedSimpArgs false

theorem Ev.const {α : Type} {g : Option α} {r : α} (h : g = some r) : Ev (fun _ => g) r := ⟨0, fun _ _ => h⟩
/-- The reference's place for an entry, and what follows. -/
theorem put_l1 (from_ : Int) (x5 : List S35) (x6 x7 n i : Int) (l : List S51) (y : S35) (X : List S35) (hl : X.length < 4398046511103) (hX : Sd kD X)
    (hk : ∀ W, Sd kD W → Fe kD (X ++ [y]) W → W.length = X.length + 1 → Ev (fun k => mootlaw4_LedgerPays.l0 k from_ x5 x6 x7 W l n (wrap64 (i + 1))) true) :
    ∀ (m : Nat) (X1 X2 : List S35), X1.length = m → X = X1 ++ X2 → (∀ z ∈ X2, kD y < kD z) → Ev (fun k => mootlaw4_LedgerPays.l1 k from_ x5 x6 x7 X (X1.length : Int) l n i y.f0 y.f1 y.f2 y.f3) true := by
  have fin : ∀ (X1 X2 : List S35), X = X1 ++ X2 → (∀ z ∈ X1, kD z ≤ kD y) → (∀ z ∈ X2, kD y < kD z) → Ev (fun k => (ledger_Entry_28.one.f X (X1.length : Int) y.f0 y.f1 y.f2 y.f3).bind fun t => mootlaw4_LedgerPays.l0 k from_ x5 x6 x7 t l n (wrap64 (i + 1))) true := by
    intro X1 X2 e h1 h2
    have hW : Ev (fun k => mootlaw4_LedgerPays.l0 k from_ x5 x6 x7 (X1 ++ y :: X2) l n (wrap64 (i + 1))) true := by
      refine hk _ ?_ ?_ (by rw [e]; simp only [List.length_append, List.length_cons]; omega)
      · rw [e] at hX
        refine Sd.append hX.left (List.pairwise_cons.2 ⟨fun z hz => Int.le_of_lt (h2 z hz), hX.right⟩) ?_
        intro z hz u hu
        rcases List.mem_cons.1 hu with rfl | hu
        · exact h1 z hz
        · exact hX.across z hz u hu
      · rw [e]
        have : Fe kD (X2 ++ [y]) ([y] ++ X2) := Fe.swap (fun u hu z hz => by rw [List.mem_singleton.1 hz]; exact h2 u hu)
        have := this.left X1
        simpa [List.append_assoc] using this
    refine Ev.bind (Ev.const (r := X1 ++ y :: X2) ?_) hW
    have hle : (X1.length : Int) ≤ (X.length : Int) := by rw [e, List.length_append]; omega
    unfold ledger_Entry_28.one.f
    rw [if_pos (by omega), if_pos hle, if_pos hl, Int.toNat_natCast, e, List.take_left, List.drop_left]
  intro m
  induction m with
  | zero =>
    intro X1 X2 h0 e h2
    obtain rfl : X1 = [] := List.eq_nil_of_length_eq_zero h0
    apply Ev.step
    · intro k; rw [mootlaw4_LedgerPays.l1]
    · exact Ev.ite_neg (by simp) (fin [] X2 e (by simp) h2)
  | succ m ih =>
    intro X1 X2 h0 e h2
    obtain ⟨Y, x, rfl⟩ : ∃ Y x, X1 = Y ++ [x] := ⟨X1.dropLast, X1.getLast (by intro h; rw [h] at h0; simp at h0), (List.dropLast_concat_getLast _).symm⟩
    have e1 : X = Y ++ x :: X2 := by rw [e]; simp [List.append_assoc]
    have hl1 : ((Y ++ [x]).length : Int) = Y.length + 1 := by simp
    have hl2 : (X.length : Int) = Y.length + 1 + X2.length := by rw [e1]; simp only [List.length_append, List.length_cons]; omega
    have hr : rd_T35 X (Y.length : Int) = x := by rw [e1]; exact rd_at rfl
    have hw : wrap64 (((Y ++ [x]).length : Int) - 1) = (Y.length : Int) := by rw [hl1, w64 (by omega) (by omega)]; omega
    have q1 : ((Y ++ [x]).length : Int) > 0 := by omega
    have q2 : (0 : Int) ≤ (Y.length : Int) := by omega
    have q3 : (Y.length : Int) < (X.length : Int) := by omega
    apply Ev.step
    · intro k; rw [mootlaw4_LedgerPays.l1]
    · rw [hw, hr]
      refine Ev.ite_pos q1 (Ev.ite_pos q2 (Ev.ite_pos q3 ?_))
      by_cases c : x.f0 > y.f0
      · refine Ev.ite_pos c (ih Y (x :: X2) (by simpa using h0) e1 ?_)
        intro z hz
        rcases List.mem_cons.1 hz with rfl | hz
        · exact c
        · exact h2 z hz
      · refine Ev.ite_neg c (fin (Y ++ [x]) X2 e ?_ h2)
        rw [e] at hX
        intro z hz
        have hx : kD x ≤ kD y := Int.not_lt.1 c
        rcases List.mem_append.1 hz with h | h
        · exact Int.le_trans (hX.left.across z h x (by simp)) hx
        · rw [List.mem_singleton.1 h]; exact hx
/-- The entry of a payment. -/
def entOf (from_ : Int) (p : S51) : S35 := if p.f2 < 0 ∧ p.f2 ≥ -1099511627776 then ⟨p.f3, p.f0, from_, wrap64 (-p.f2)⟩ else ⟨p.f3, from_, p.f0, p.f2⟩
theorem law_step (from_ : Int) (x5 : List S35) (x6 x7 : Int) (l : List S51) (n i : Int) (X : List S35) (hi : i < n) (h0 : 0 ≤ i) (hil : i < (l.length : Int)) (hz : (rd_T51 l i).f2 ≠ 0) (r : Bool)
    (hk : Ev (fun k => mootlaw4_LedgerPays.j1 k from_ x5 x6 x7 X l n i (entOf from_ (rd_T51 l i)).f0 (entOf from_ (rd_T51 l i)).f1 (entOf from_ (rd_T51 l i)).f2 (entOf from_ (rd_T51 l i)).f3) r) :
    Ev (fun k => mootlaw4_LedgerPays.l0 k from_ x5 x6 x7 X l n i) r := by
  apply Ev.step
  · intro k; rw [mootlaw4_LedgerPays.l0]
  · refine Ev.ite_pos hi (Ev.ite_pos h0 (Ev.ite_pos hil (Ev.ite_neg hz ?_)))
    unfold entOf at hk
    by_cases c1 : (rd_T51 l i).f2 < 0
    · by_cases c2 : (rd_T51 l i).f2 ≥ -1099511627776
      · rw [if_pos ⟨c1, c2⟩] at hk
        exact Ev.ite_pos c1 (Ev.ite_pos c2 hk)
      · rw [if_neg (fun h => c2 h.2)] at hk
        exact Ev.ite_pos c1 (Ev.ite_neg c2 hk)
    · rw [if_neg (fun h => c1 h.1)] at hk
      exact Ev.ite_neg c1 hk
theorem law_skip (from_ : Int) (x5 : List S35) (x6 x7 : Int) (l : List S51) (n i : Int) (X : List S35) (hi : i < n) (h0 : 0 ≤ i) (hil : i < (l.length : Int)) (hz : (rd_T51 l i).f2 = 0) (r : Bool)
    (hk : Ev (fun k => mootlaw4_LedgerPays.l0 k from_ x5 x6 x7 X l n (wrap64 (i + 1))) r) : Ev (fun k => mootlaw4_LedgerPays.l0 k from_ x5 x6 x7 X l n i) r := by
  apply Ev.step
  · intro k; rw [mootlaw4_LedgerPays.l0]
  · exact Ev.ite_pos hi (Ev.ite_pos h0 (Ev.ite_pos hil (Ev.ite_pos hz hk)))
theorem nxt {l : List S51} {i n : Nat} (hi : i + (n + 1) = l.length) (hl : l.length ≤ 4398046511104) : wrap64 ((i : Int) + 1) = ((i + 1 : Nat) : Int) := by rw [w64 (by omega) (by omega)]; omega
/-- With a fault, nothing counts any more. -/
theorem law_bad (from_ f : Int) (hf : f ≠ 0) (l : List S51) (hl : l.length ≤ 4398046510976) : ∀ (n i : Nat) (X : List S35), i + n = l.length → X.length ≤ i → Sd kD X → Ev (fun k => mootlaw4_LedgerPays.l0 k from_ [] f f X l (l.length : Int) (i : Int)) true := by
  intro n
  induction n with
  | zero =>
    intro i X hi hX hs
    apply Ev.step
    · intro k; rw [mootlaw4_LedgerPays.l0]
    · exact Ev.ite_neg (by omega) (Ev.ite_neg hf (Ev.ite_pos rfl (Ev.const (by simp))))
  | succ n ih =>
    intro i X hi hX hs
    have hw := nxt hi (by omega)
    by_cases c : (rd_T51 l (i : Int)).f2 = 0
    · refine law_skip _ _ _ _ _ _ _ _ (by omega) (by omega) (by omega) c _ ?_
      rw [hw]
      exact ih (i + 1) X (by omega) (by omega) hs
    · refine law_step _ _ _ _ _ _ _ _ (by omega) (by omega) (by omega) c _ ?_
      apply Ev.step
      · intro k; rw [mootlaw4_LedgerPays.j1]
      · refine Ev.ite_neg hf ?_
        apply Ev.step
        · intro k; rw [mootlaw4_LedgerPays.j2]
        · exact put_l1 from_ [] f f _ (i : Int) l (entOf from_ (rd_T51 l (i : Int))) X (by omega) hs (fun W hW _ hWl => by rw [hw]; exact ih (i + 1) W (by omega) (by omega) hW) X.length X [] rfl (by simp) (by simp)
theorem pays_step (from_ : Int) (X : List S35) (l : List S51) (n i : Int) (hi : i < n) (h0 : 0 ≤ i) (hil : i < (l.length : Int)) (r : List S35 × Int)
    (hk : Ev (fun k => if (rd_T51 l i).f2 = 0 then (ledger_Pays.l0 k from_ X l n (wrap64 (i + 1))) else ((ledger_one.f k (entOf from_ (rd_T51 l i)).f0 (entOf from_ (rd_T51 l i)).f1 (entOf from_ (rd_T51 l i)).f2 (entOf from_ (rd_T51 l i)).f3).bind fun t317 => (if t317 = 0 then (if X.length < 4398046511104 then (ledger_Pays.l0 k from_ (X ++ [(⟨(entOf from_ (rd_T51 l i)).f0, (entOf from_ (rd_T51 l i)).f1, (entOf from_ (rd_T51 l i)).f2, (entOf from_ (rd_T51 l i)).f3⟩ : S35)]) l n (wrap64 (i + 1))) else (none)) else (some (([] : List (S35)), t317))))) r) :
    Ev (fun k => ledger_Pays.l0 k from_ X l n i) r := by
  apply Ev.step
  · intro k; rw [ledger_Pays.l0]
  · refine Ev.ite_pos hi (Ev.ite_pos h0 (Ev.ite_pos hil ?_))
    unfold entOf at hk
    by_cases c1 : (rd_T51 l i).f2 < 0
    · refine Ev.ite_pos c1 ?_
      by_cases c2 : (rd_T51 l i).f2 ≥ -1099511627776
      · rw [if_pos ⟨c1, c2⟩] at hk
        apply Ev.step
        · intro k; rw [ledger_Pays.j1]
        · refine Ev.ite_pos (decide_eq_true c2) ?_
          apply Ev.step
          · intro k; rw [ledger_Pays.j2]
          · exact hk
      · rw [if_neg (fun h => c2 h.2)] at hk
        apply Ev.step
        · intro k; rw [ledger_Pays.j1]
        · refine Ev.ite_neg (by simpa using c2) ?_
          apply Ev.step
          · intro k; rw [ledger_Pays.j2]
          · exact hk
    · rw [if_neg (fun h => c1 h.1)] at hk
      refine Ev.ite_neg c1 ?_
      apply Ev.step
      · intro k; rw [ledger_Pays.j1]
      · refine Ev.ite_neg (by simp) ?_
        apply Ev.step
        · intro k; rw [ledger_Pays.j2]
        · exact hk
theorem both (from_ : Int) (l : List S51) (hl : l.length ≤ 4398046510976) : ∀ (n i : Nat) (X W : List S35), i + n = l.length → X.length ≤ i → W.length = X.length → (∀ e ∈ X, oneV e = 0) → Sd kD W → Fe kD X W →
    ∃ r : List S35 × Int, Ev (fun k => ledger_Pays.l0 k from_ X l (l.length : Int) (i : Int)) r ∧ Ev (fun k => mootlaw4_LedgerPays.l0 k from_ r.1 r.2 0 W l (l.length : Int) (i : Int)) true := by
  intro n
  induction n with
  | zero =>
    intro i X W hi hX hWl hv hW hF
    have hd : dayOk X := fun e he => by have := one_day e (hv e he); exact ⟨this.1, this.2.1⟩
    obtain ⟨F, e, s, f, lf⟩ := sort_ok X (by unfold small; omega) hd
    obtain rfl : F = W := Fe.uniq s hW (f.symm.trans hF)
    have hc := check_ok F
    have hfa := fault_ok F
    by_cases c : checkV F = 0
    · refine ⟨(F, 0), ?_, ?_⟩
      · apply Ev.step
        · intro k; rw [ledger_Pays.l0]
        · exact Ev.ite_neg (by omega) (Ev.bind e (Ev.bind hc (Ev.ite_pos c (Ev.now _))))
      · apply Ev.step
        · intro k; rw [mootlaw4_LedgerPays.l0]
        · exact Ev.ite_neg (by omega) (Ev.ite_pos rfl (Ev.bind hfa (Ev.ite_pos c (Ev.ite_pos rfl (Ev.bind (equal_ok F (by omega)) (Ev.now _))))))
    · refine ⟨([], checkV F), ?_, ?_⟩
      · apply Ev.step
        · intro k; rw [ledger_Pays.l0]
        · exact Ev.ite_neg (by omega) (Ev.bind e (Ev.bind hc (Ev.ite_neg c (Ev.now _))))
      · apply Ev.step
        · intro k; rw [mootlaw4_LedgerPays.l0]
        · exact Ev.ite_neg (by omega) (Ev.ite_pos rfl (Ev.bind hfa (Ev.ite_neg c (Ev.ite_pos rfl (Ev.const (by simp))))))
  | succ n ih =>
    intro i X W hi hX hWl hv hW hF
    have hw := nxt hi (by omega)
    by_cases c : (rd_T51 l (i : Int)).f2 = 0
    · obtain ⟨r, h1, h2⟩ := ih (i + 1) X W (by omega) (by omega) hWl hv hW hF
      refine ⟨r, ?_, ?_⟩
      · refine pays_step _ _ _ _ _ (by omega) (by omega) (by omega) _ (Ev.ite_pos c ?_)
        rw [hw]; exact h1
      · refine law_skip _ _ _ _ _ _ _ _ (by omega) (by omega) (by omega) c _ ?_
        rw [hw]; exact h2
    · obtain ⟨y, hy⟩ : ∃ y, y = entOf from_ (rd_T51 l (i : Int)) := ⟨_, rfl⟩
      have ho := one_ok y
      have hf1 := fault1_ok y
      by_cases c1 : oneV y = 0
      · have hWk : ∃ r : List S35 × Int, Ev (fun k => ledger_Pays.l0 k from_ (X ++ [y]) l (l.length : Int) ((i + 1 : Nat) : Int)) r ∧ Ev (fun k => mootlaw4_LedgerPays.l1 k from_ r.1 r.2 0 W (W.length : Int) l (l.length : Int) (i : Int) y.f0 y.f1 y.f2 y.f3) true := by
          -- the place is the same whatever the answer: the answer is that of the row behind it
          obtain ⟨W', hW', hF', hl'⟩ : ∃ W', Sd kD W' ∧ Fe kD (W ++ [y]) W' ∧ W'.length = W.length + 1 := by
            refine ⟨W.filter (fun z => decide (kD z ≤ kD y)) ++ [y] ++ W.filter (fun z => !decide (kD z ≤ kD y)), ?_, ?_, ?_⟩
            · refine Sd.append (Sd.append (hW.sublist List.filter_sublist) (List.pairwise_singleton _ _) ?_) (hW.sublist List.filter_sublist) ?_
              · intro z hz u hu
                rw [List.mem_singleton.1 hu]
                simpa using (List.mem_filter.1 hz).2
              · intro z hz u hu
                have hu2 := (List.mem_filter.1 hu).2
                simp only [Bool.not_eq_true', decide_eq_false_iff_not] at hu2
                rcases List.mem_append.1 hz with hz | hz
                · have hz2 := (List.mem_filter.1 hz).2
                  simp only [decide_eq_true_eq] at hz2
                  omega
                · rw [List.mem_singleton.1 hz]; omega
            · intro d
              simp only [List.filter_append, List.filter_filter]
              by_cases cd : kD y = d
              · have e1 : W.filter (fun z => decide (kD z = d) && decide (kD z ≤ kD y)) = W.filter (fun z => decide (kD z = d)) := List.filter_congr (fun z _ => by by_cases h : kD z = d <;> simp [h]; omega)
                have e2 : W.filter (fun z => decide (kD z = d) && !decide (kD z ≤ kD y)) = [] := List.filter_eq_nil_iff.2 (fun z _ h => by simp at h; omega)
                rw [e1, e2, List.append_nil]
              · have e0 : [y].filter (fun z => decide (kD z = d)) = [] := by simp [cd]
                rw [e0, List.append_nil, List.append_nil]
                by_cases cl : d ≤ kD y
                · have e1 : W.filter (fun z => decide (kD z = d) && decide (kD z ≤ kD y)) = W.filter (fun z => decide (kD z = d)) := List.filter_congr (fun z _ => by by_cases h : kD z = d <;> simp [h]; omega)
                  have e2 : W.filter (fun z => decide (kD z = d) && !decide (kD z ≤ kD y)) = [] := List.filter_eq_nil_iff.2 (fun z _ h => by simp at h; omega)
                  rw [e1, e2, List.append_nil]
                · have e1 : W.filter (fun z => decide (kD z = d) && decide (kD z ≤ kD y)) = [] := List.filter_eq_nil_iff.2 (fun z _ h => by simp at h; omega)
                  have e2 : W.filter (fun z => decide (kD z = d) && !decide (kD z ≤ kD y)) = W.filter (fun z => decide (kD z = d)) := List.filter_congr (fun z _ => by by_cases h : kD z = d <;> simp [h]; omega)
                  rw [e1, e2, List.nil_append]
            · have : ∀ V : List S35, (V.filter (fun z => decide (kD z ≤ kD y))).length + (V.filter (fun z => !decide (kD z ≤ kD y))).length = V.length := by
                intro V
                induction V with
                | nil => rfl
                | cons v V ihV => by_cases h : kD v ≤ kD y <;> simp [h] <;> omega
              have := this W
              simp only [List.length_append, List.length_cons, List.length_nil]; omega
          obtain ⟨r, h1, h2⟩ := ih (i + 1) (X ++ [y]) W' (by omega) (by simp only [List.length_append, List.length_cons, List.length_nil]; omega) (by simp only [List.length_append, List.length_cons, List.length_nil]; omega) (fun e he => by
            rcases List.mem_append.1 he with he | he
            · exact hv e he
            · rw [List.mem_singleton.1 he]; exact c1) hW' ((hF.right [y]).trans hF')
          refine ⟨r, h1, ?_⟩
          refine put_l1 from_ r.1 r.2 0 _ (i : Int) l y W (by omega) hW (fun Z hZ hZF _ => ?_) W.length W [] rfl (by simp) (by simp)
          obtain rfl : Z = W' := Fe.uniq hZ hW' (hZF.symm.trans hF')
          rw [hw]; exact h2
        obtain ⟨r, h1, h2⟩ := hWk
        refine ⟨r, ?_, ?_⟩
        · refine pays_step _ _ _ _ _ (by omega) (by omega) (by omega) _ (Ev.ite_neg c ?_)
          rw [← hy]
          refine Ev.bind ho (Ev.ite_pos c1 (Ev.ite_pos (by omega) ?_))
          rw [hw]; exact h1
        · refine law_step _ _ _ _ _ _ _ _ (by omega) (by omega) (by omega) c _ ?_
          rw [← hy]
          apply Ev.step
          · intro k; rw [mootlaw4_LedgerPays.j1]
          · refine Ev.ite_pos rfl (Ev.bind hf1 ?_)
            rw [c1]
            apply Ev.step
            · intro k; rw [mootlaw4_LedgerPays.j2]
            · exact h2
      · refine ⟨([], oneV y), ?_, ?_⟩
        · refine pays_step _ _ _ _ _ (by omega) (by omega) (by omega) _ (Ev.ite_neg c ?_)
          rw [← hy]
          exact Ev.bind ho (Ev.ite_neg c1 (Ev.now _))
        · refine law_step _ _ _ _ _ _ _ _ (by omega) (by omega) (by omega) c _ ?_
          rw [← hy]
          apply Ev.step
          · intro k; rw [mootlaw4_LedgerPays.j1]
          · refine Ev.ite_pos rfl (Ev.bind hf1 ?_)
            apply Ev.step
            · intro k; rw [mootlaw4_LedgerPays.j2]
            · refine put_l1 from_ [] (oneV y) (oneV y) _ (i : Int) l y W (by omega) hW (fun Z hZ _ hZl => ?_) W.length W [] rfl (by simp) (by simp)
              rw [hw]
              exact law_bad from_ (oneV y) c1 l hl n (i + 1) Z (by omega) (by omega) hZ
theorem LedgerPays : mootlaw4_LedgerPays.Pure := by
  intro l a _ hl _ _
  refine Ev.rounds ?_
  obtain ⟨r, h1, h2⟩ := both a l (by omega) l.length 0 [] [] (by omega) (by simp) rfl (by simp) List.Pairwise.nil (Fe.refl _)
  refine Ev.congr (fun k => by unfold mootlaw4_LedgerPays.f; rfl) ?_
  refine Ev.bind posts_ok (Ev.ite_pos rfl (Ev.bind ?_ h2))
  exact Ev.congr (fun k => by unfold ledger_Pays.f; rfl) h1
end Go.Proofs.Ytenhnlclnjnboaa.Pure
