/- Plain lemmas on corrections: what Correct comes to, month by month. -/
import Derived.Test.YtbcaaocogphdeaaPOffx0
import Derived.Test.YtbcaaocogphdeaaPOffx27
import Derived.Test.YtbcaaocogphdeaaOffB
namespace Go.Proofs.Ytbcaaocogphdeaa.Pure
open Go.RowKit Go.Proofs.Ytbcaaocogphdeaa.POff Go.Proofs.YtbcaaocogphdeaaW.PrintWords Go.Proofs.YtbcaaocogphdeaaW.PrintLast
set_option linter.unusedVariables false
set_option linter.unusedSimpArgs false

/-- What payments sum to for a party and a month. -/
def tot (k : Int × Int) : List S32 → Int
  | [] => 0
  | p :: r => (if (p.f0, p.f1) = k then p.f2 else 0) + tot k r
theorem tot_append (k : Int × Int) (a b : List S32) : tot k (a ++ b) = tot k a + tot k b := by
  induction a with
  | nil => simp [tot]
  | cons p r ih => rw [List.cons_append, tot, tot, ih]; omega
theorem tot_perm (k : Int × Int) {a b : List S32} (h : a.Perm b) : tot k a = tot k b := by
  induction h with
  | nil => rfl
  | cons x _ ih => rw [tot, tot, ih]
  | swap x y l => simp only [tot]; omega
  | trans _ _ ih1 ih2 => rw [ih1, ih2]
theorem tot_bd (k : Int × Int) (B : Int) (hB : 0 ≤ B) (l : List S32) (h : ∀ p ∈ l, -B ≤ p.f2 ∧ p.f2 ≤ B) : -(B * l.length) ≤ tot k l ∧ tot k l ≤ B * l.length := by
  induction l with
  | nil => simp [tot]
  | cons p r ih =>
    obtain ⟨h1, h2⟩ := ih (fun q hq => h q (List.mem_cons_of_mem _ hq))
    obtain ⟨h3, h4⟩ := h p List.mem_cons_self
    rw [tot, List.length_cons]
    have e : B * ((r.length + 1 : Nat) : Int) = B * r.length + B := by rw [show ((r.length + 1 : Nat) : Int) = (r.length : Int) + 1 by omega, Int.mul_add, Int.mul_one]
    rw [e]
    split <;> omega
theorem get_fill (s : Int) (hs : s = 1 ∨ s = -1) (B : Int) (hB : 0 ≤ B) : ∀ (l : List S32) (m : List ((Int × Int) × Int)) (C : Int), (∀ p ∈ l, -B ≤ p.f2 ∧ p.f2 ≤ B) → (∀ k, -C ≤ corr_get m k ∧ corr_get m k ≤ C) → C + B * l.length ≤ 4611686018427387904 →
    ∀ k, corr_get (corr_fill s m l) k = corr_get m k + s * tot k l := by
  intro l
  induction l with
  | nil => intro m C _ _ _ k; simp [corr_fill, tot]
  | cons p r ih =>
    intro m C hp hm hC k
    obtain ⟨h3, h4⟩ := hp p List.mem_cons_self
    have e : B * (((p :: r).length : Nat) : Int) = B * r.length + B := by rw [List.length_cons, show ((r.length + 1 : Nat) : Int) = (r.length : Int) + 1 by omega, Int.mul_add, Int.mul_one]
    rw [e] at hC
    have hBr : 0 ≤ B * (r.length : Int) := Int.mul_nonneg hB (by omega)
    have hsp : -B ≤ s * p.f2 ∧ s * p.f2 ≤ B := by rcases hs with rfl | rfl <;> omega
    have hg : ∀ k', corr_get (corr_add m (p.f0, p.f1) (s * p.f2)) k' = corr_get m k' + s * (if (p.f0, p.f1) = k' then p.f2 else 0) := by
      intro k'
      rw [corr_get_add]
      have := hm (p.f0, p.f1)
      by_cases e : k' = (p.f0, p.f1)
      · rw [if_pos e, if_pos e.symm, e, w64 (by omega) (by omega)]
      · rw [if_neg e, if_neg (fun z => e z.symm)]; omega
    have := ih (corr_add m (p.f0, p.f1) (s * p.f2)) (C + B) (fun q hq => hp q (List.mem_cons_of_mem _ hq)) (by
      intro k'
      rw [hg]
      have := hm k'
      split
      · omega
      · omega) (by omega) k
    have e2 : corr_fill s m (p :: r) = corr_fill s (corr_add m (p.f0, p.f1) (s * p.f2)) r := rfl
    rw [e2, this, hg, tot, Int.mul_add]
    omega
theorem nodup_fill (s : Int) : ∀ (l : List S32) (m : List ((Int × Int) × Int)), (m.map Prod.fst).Nodup → ((corr_fill s m l).map Prod.fst).Nodup := by
  intro l
  induction l with
  | nil => intro m h; exact h
  | cons p r ih => intro m h; exact ih _ (corr_nodup_add _ _ _ h)
theorem len_fill (s : Int) : ∀ (l : List S32) (m : List ((Int × Int) × Int)), (corr_fill s m l).length ≤ m.length + l.length := by
  intro l
  induction l with
  | nil => intro m; exact Nat.le_refl _
  | cons p r ih =>
    intro m
    have h1 := ih (corr_add m (p.f0, p.f1) (s * p.f2))
    have h2 := corr_len_add m (p.f0, p.f1) (s * p.f2)
    have e2 : corr_fill s m (p :: r) = corr_fill s (corr_add m (p.f0, p.f1) (s * p.f2)) r := rfl
    rw [e2, List.length_cons]
    omega
theorem keys_fill (s : Int) : ∀ (l : List S32) (m : List ((Int × Int) × Int)) (k : Int × Int), k ∈ (corr_fill s m l).map Prod.fst → k ∈ m.map Prod.fst ∨ ∃ p ∈ l, (p.f0, p.f1) = k := by
  intro l
  induction l with
  | nil => intro m k h; exact .inl h
  | cons p r ih =>
    intro m k h
    rcases ih _ k h with h | ⟨q, hq, e⟩
    · rcases (corr_mem_add m (p.f0, p.f1) k (s * p.f2)).1 h with h | h
      · exact .inr ⟨p, List.mem_cons_self, h.symm⟩
      · exact .inl h
    · exact .inr ⟨q, List.mem_cons_of_mem _ hq, e⟩
theorem get_none {m : List ((Int × Int) × Int)} {k : Int × Int} (h : k ∉ m.map Prod.fst) : corr_get m k = 0 := by
  induction m with
  | nil => rfl
  | cons p r ih =>
    rw [List.map_cons, List.mem_cons] at h
    unfold corr_get
    rw [if_neg (fun e => h (.inl e.symm))]
    exact ih (fun z => h (.inr z))
theorem mem_list {M : List ((Int × Int) × Int)} (nd : (M.map Prod.fst).Nodup) (d : Int) (p : S32) : p ∈ corr_list M d ↔ p.f3 = d ∧ p.f2 = corr_get M (p.f0, p.f1) ∧ p.f2 ≠ 0 := by
  unfold corr_list
  rw [List.mem_map]
  constructor
  · rintro ⟨e, he, rfl⟩
    obtain ⟨h1, h2⟩ := List.mem_filter.1 he
    have hk : e.1 ∈ M.map Prod.fst := List.mem_map.2 ⟨e, h1, rfl⟩
    have := corr_once nd (corr_get_mem hk) h1 rfl
    refine ⟨rfl, ?_, by simpa using h2⟩
    show e.2 = corr_get M e.1
    rw [← this]
  · rintro ⟨h1, h2, h3⟩
    have hk : (p.f0, p.f1) ∈ M.map Prod.fst := by
      apply Classical.byContradiction
      intro hn
      rw [get_none hn] at h2
      exact h3 h2
    refine ⟨((p.f0, p.f1), p.f2), List.mem_filter.2 ⟨?_, by simp [h3]⟩, ?_⟩
    · rw [h2]; exact corr_get_mem hk
    · rw [← h1]
theorem nodup_list {M : List ((Int × Int) × Int)} (nd : (M.map Prod.fst).Nodup) (d : Int) : (corr_list M d).Nodup := by
  unfold corr_list
  have h1 : (M.filter fun e => !(e.2 == 0)).Pairwise (fun a b => a.1 ≠ b.1) := (List.pairwise_map.1 nd).filter _
  refine List.pairwise_map.2 (h1.imp ?_)
  intro a b hab e
  injection e with e1 e2 e3 e4
  exact hab (Prod.ext e1 e2)
theorem tot_list (d : Int) (k : Int × Int) : ∀ (M : List ((Int × Int) × Int)), (M.map Prod.fst).Nodup → tot k (corr_list M d) = corr_get M k := by
  intro M
  induction M with
  | nil => intro _; rfl
  | cons e r ih =>
    intro nd
    rw [List.map_cons, List.nodup_cons] at nd
    have h := ih nd.2
    unfold corr_get
    by_cases hz : e.2 = 0
    · have e1 : corr_list (e :: r) d = corr_list r d := by unfold corr_list; rw [List.filter_cons_of_neg (by simp [hz])]
      rw [e1, h]
      by_cases hk : e.1 = k
      · rw [if_pos hk, hz]; exact get_none (hk ▸ nd.1)
      · rw [if_neg hk]
    · have e1 : corr_list (e :: r) d = ⟨e.1.1, e.1.2, e.2, d⟩ :: corr_list r d := by unfold corr_list; rw [List.filter_cons_of_pos (by simp [hz])]; rfl
      rw [e1, tot, h]
      by_cases hk : e.1 = k
      · rw [if_pos hk]
        have : corr_get r k = 0 := get_none (hk ▸ nd.1)
        rw [this, if_pos (show (e.1.1, e.1.2) = k from hk)]
        show e.2 + 0 = e.2
        omega
      · rw [if_neg hk, if_neg (show ¬ (e.1.1, e.1.2) = k from hk)]; omega
/-- The sums that Correct makes. -/
def sums (a b : List S32) : List ((Int × Int) × Int) := corr_fill (-1) (corr_fill 1 [] b) a
theorem sums_nodup (a b : List S32) : ((sums a b).map Prod.fst).Nodup := nodup_fill _ _ _ (nodup_fill _ _ _ (by simp))
theorem sums_get (a b : List S32) (ha : a.length ≤ 1000) (hb : b.length ≤ 1000) (h1 : ∀ p ∈ a, okP p) (h2 : ∀ p ∈ b, okP p) (k : Int × Int) : corr_get (sums a b) k = tot k b - tot k a := by
  have g1 : ∀ k, corr_get (corr_fill 1 [] b) k = tot k b := by
    intro k
    rw [get_fill 1 (.inl rfl) 1099511627776 (by omega) b [] 0 (fun p hp => ⟨(h2 p hp).1, (h2 p hp).2.1⟩) (fun k => by simp [corr_get]) (by omega) k]
    simp [corr_get]
  unfold sums
  rw [get_fill (-1) (.inr rfl) 1099511627776 (by omega) a (corr_fill 1 [] b) 1099511627776000 (fun p hp => ⟨(h1 p hp).1, (h1 p hp).2.1⟩) (fun k => by
    rw [g1]
    have := tot_bd k 1099511627776 (by omega) b (fun p hp => ⟨(h2 p hp).1, (h2 p hp).2.1⟩)
    omega) (by omega) k, g1]
  omega
theorem correct_ok (a b : List S32) (d : Int) (ha : a.length ≤ 1000) (hb : b.length ≤ 1000) (h1 : ∀ p ∈ a, okP p) (h2 : ∀ p ∈ b, okP p) (w1 : ∀ p ∈ a, 0 ≤ p.f0 ∧ p.f0 ≤ 1000) (w2 : ∀ p ∈ b, 0 ≤ p.f0 ∧ p.f0 ≤ 1000) (hd0 : 0 ≤ d) (hd1 : d ≤ 1048575) :
    back_Correct.f a b d = some (pay_sort (corr_list (sums a b) d), 0) := by
  have wf : ∀ l : List S32, (∀ p ∈ l, okP p) → (∀ p ∈ l, 0 ≤ p.f0 ∧ p.f0 ≤ 1000) → corr_wf l = true := by
    intro l o w
    unfold corr_wf
    rw [List.all_eq_true]
    intro p hp
    have := o p hp
    have := w p hp
    unfold okP at *
    unfold isI64
    rw [Bool.and_eq_true, decide_eq_true_eq, decide_eq_true_eq]
    omega
  unfold back_Correct.f
  rw [check_ok a ha h1 _ (by omega), check_ok b hb h2 _ (by omega)]
  simp only [Option.bind_some, if_true]
  rw [if_neg (by omega), if_neg (by omega), if_pos (by rw [wf a h1 w1, wf b h2 w2]; simp [ha, hb])]
  rfl
theorem sort_one (p : S32) : pay_sort [p] = [p] := List.perm_singleton.1 (pay_perm [p]).1
theorem sort_nil : pay_sort [] = [] := List.perm_nil.1 (pay_perm []).1
def neg (p : S32) : S32 := ⟨p.f0, p.f1, -p.f2, p.f3⟩
theorem sort_neg {M N : List ((Int × Int) × Int)} (hM : (M.map Prod.fst).Nodup) (hN : (N.map Prod.fst).Nodup) (d : Int) (h : ∀ k, corr_get N k = - corr_get M k) : pay_sort (corr_list N d) = (pay_sort (corr_list M d)).map neg := by
  obtain ⟨p1, s1⟩ := pay_perm (corr_list N d)
  obtain ⟨p2, s2⟩ := pay_perm (corr_list M d)
  have nm : ((corr_list M d).map neg).Nodup := by
    refine List.pairwise_map.2 ((nodup_list hM d).imp ?_)
    intro a b hab e
    unfold neg at e
    injection e with e1 e2 e3 e4
    apply hab
    cases a
    cases b
    simp only [S32.mk.injEq]
    simp only at e1 e2 e3 e4
    exact ⟨e1, e2, by omega, e4⟩
  have hp : (corr_list N d).Perm ((corr_list M d).map neg) := by
    refine (List.perm_ext_iff_of_nodup (nodup_list hN d) nm).2 (fun p => ?_)
    rw [mem_list hN, List.mem_map]
    constructor
    · rintro ⟨a1, a2, a3⟩
      refine ⟨neg p, (mem_list hM d _).2 ⟨a1, ?_, ?_⟩, ?_⟩
      · show -p.f2 = corr_get M (p.f0, p.f1)
        rw [a2, h]; omega
      · show -p.f2 ≠ 0
        omega
      · show (⟨p.f0, p.f1, - -p.f2, p.f3⟩ : S32) = p
        rw [Int.neg_neg]
    · rintro ⟨q, hq, rfl⟩
      obtain ⟨a1, a2, a3⟩ := (mem_list hM d _).1 hq
      refine ⟨a1, ?_, ?_⟩
      · show -q.f2 = corr_get N (q.f0, q.f1)
        rw [h, a2]
      · show -q.f2 ≠ 0
        omega
  refine List.Perm.eq_of_pairwise (le := fun x y => Go.Proofs.ltOf pay_cmp y x = false) (fun a b ha hb h1 h2 => ?_) s1 ?_ (p1.trans (hp.trans (p2.symm.map neg)))
  · have ha' := (mem_list hN d a).1 (p1.mem_iff.1 ha)
    have hb' := (mem_list hN d b).1 (hp.mem_iff.2 ((p2.map neg).mem_iff.1 hb))
    rw [pay_lt] at h1 h2
    simp only [decide_eq_false_iff_not] at h1 h2
    have e0 : a.f0 = b.f0 := by omega
    have e1 : a.f1 = b.f1 := by omega
    have e2 : a.f2 = b.f2 := by rw [ha'.2.1, hb'.2.1, e0, e1]
    have e3 : a.f3 = b.f3 := by rw [ha'.1, hb'.1]
    cases a
    cases b
    simp only at e0 e1 e2 e3
    subst e0 e1 e2 e3
    rfl
  · refine List.pairwise_map.2 (s2.imp ?_)
    intro a b hab
    rw [pay_lt] at hab ⊢
    exact hab
end Go.Proofs.Ytbcaaocogphdeaa.Pure
