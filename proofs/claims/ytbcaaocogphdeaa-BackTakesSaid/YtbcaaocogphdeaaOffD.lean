/- Plain lemmas: Correct's answers at payments that were made. -/
import Derived.Test.YtbcaaocogphdeaaPOffx0
import Derived.Test.YtbcaaocogphdeaaPOffx27
import Derived.Test.YtbcaaocogphdeaaPOffx28
import Derived.Test.YtbcaaocogphdeaaPOffx29
import Derived.Test.YtbcaaocogphdeaaOffC
namespace Go.Proofs.Ytbcaaocogphdeaa.Pure
open Go.RowKit Go.Proofs.Ytbcaaocogphdeaa.POff Go.Proofs.YtbcaaocogphdeaaW.PrintWords Go.Proofs.YtbcaaocogphdeaaW.PrintLast
set_option linter.unusedVariables false
set_option linter.unusedSimpArgs false

theorem corrected_one : back_Correct.f [] [(⟨1, 2, 3, 4⟩ : S32)] 9 = some ([(⟨1, 2, 3, 9⟩ : S32)], 0) := by
  rw [correct_ok [] [(⟨1, 2, 3, 4⟩ : S32)] 9 (by simp) (by simp) (by simp) (by intro p hp; rw [List.mem_singleton] at hp; subst hp; unfold okP; simp) (by simp) (by intro p hp; rw [List.mem_singleton] at hp; subst hp; simp) (by omega) (by omega)]
  have e : corr_list (sums [] [(⟨1, 2, 3, 4⟩ : S32)]) 9 = [(⟨1, 2, 3, 9⟩ : S32)] := by
    simp [sums, corr_fill, corr_add, corr_list, wrap64]
  rw [e, sort_one]
theorem corrected_ok (k : Nat) (hk : 3 ≤ k) : mootkeep4_corrected.f k = some true := by
  obtain ⟨j, rfl⟩ : ∃ j, k = j + 1 + 1 := ⟨k - 2, by omega⟩
  unfold mootkeep4_corrected.f
  rw [corrected_one]
  simp only [Option.bind_some, if_true]
  have e : api_Pay_22.f (j + 1 + 1) [(⟨1, 2, 3, 9⟩ : S32)] [(⟨1, 2, 3, 9⟩ : S32)] = some true := by
    simp [api_Pay_22.f, api_Pay_22.l0, rd_T32, wrap64]
  rw [e]
  rfl
theorem made_ok {p : S32} (h : made p) : okP p := by unfold made at h; unfold okP; omega
/-- What a correction of made payments is. -/
theorem corr_made (a b : List S32) (d : Int) (ha : a.length ≤ 12) (hb : b.length ≤ 12) (h1 : ∀ p ∈ a, made p) (h2 : ∀ p ∈ b, made p) (hd0 : 700000 ≤ d) (hd1 : d ≤ 739999) :
    ∃ x, back_Correct.f a b d = some (x, 0) ∧ x.length ≤ 24 ∧ x = pay_sort (corr_list (sums a b) d) ∧ (∀ p ∈ x, 1 ≤ p.f0 ∧ p.f0 ≤ 3 ∧ 20000 ≤ p.f1 ∧ p.f1 ≤ 20003 ∧ -20000 ≤ p.f2 ∧ p.f2 ≤ 20000 ∧ p.f3 = d) ∧ ∀ k, tot k x = tot k b - tot k a := by
  have hs := fun k => sums_get a b (by omega) (by omega) (fun p hp => made_ok (h1 p hp)) (fun p hp => made_ok (h2 p hp)) k
  refine ⟨pay_sort (corr_list (sums a b) d), correct_ok a b d (by omega) (by omega) (fun p hp => made_ok (h1 p hp)) (fun p hp => made_ok (h2 p hp)) (fun p hp => by have := h1 p hp; unfold made at this; omega) (fun p hp => by have := h2 p hp; unfold made at this; omega) (by omega) (by omega), ?_, rfl, ?_, ?_⟩
  · rw [(pay_perm _).1.length_eq]
    have e1 := corr_list_len (sums a b) d
    have e2 := len_fill (-1) a (corr_fill 1 [] b)
    have e3 := len_fill 1 b []
    unfold sums at e1
    simp only [List.length_nil] at e3
    unfold sums
    omega
  · intro p hp
    have hp' := (pay_perm _).1.mem_iff.1 hp
    obtain ⟨a1, a2, a3⟩ := (mem_list (sums_nodup a b) d p).1 hp'
    have hk : (p.f0, p.f1) ∈ (sums a b).map Prod.fst := by
      apply Classical.byContradiction
      intro hn
      rw [get_none hn] at a2
      exact a3 a2
    have hq : ∃ q : S32, made q ∧ (q.f0, q.f1) = (p.f0, p.f1) := by
      rcases keys_fill (-1) a _ _ hk with hk | ⟨q, hq, e⟩
      · rcases keys_fill 1 b _ _ hk with hk | ⟨q, hq, e⟩
        · simp at hk
        · exact ⟨q, h2 q hq, e⟩
      · exact ⟨q, h1 q hq, e⟩
    obtain ⟨q, hm, e⟩ := hq
    injection e with e1 e2
    unfold made at hm
    rw [hs] at a2
    have t1 := tot_bd (p.f0, p.f1) 600 (by omega) a (fun p hp => by have := h1 p hp; unfold made at this; omega)
    have t2 := tot_bd (p.f0, p.f1) 600 (by omega) b (fun p hp => by have := h2 p hp; unfold made at this; omega)
    have t3 : (600 : Int) * a.length ≤ 7200 := by omega
    have t4 : (600 : Int) * b.length ≤ 7200 := by omega
    refine ⟨by omega, by omega, by omega, by omega, by omega, by omega, a1⟩
  · intro k
    rw [tot_perm k (pay_perm _).1, tot_list d k _ (sums_nodup a b), hs]
theorem corr_again (a b x : List S32) (d : Int) (ha : a.length ≤ 12) (hb : b.length ≤ 12) (h1 : ∀ p ∈ a, made p) (h2 : ∀ p ∈ b, made p) (hd0 : 700000 ≤ d) (hd1 : d ≤ 739999) (hx : x.length ≤ 24)
    (hp : ∀ p ∈ x, 1 ≤ p.f0 ∧ p.f0 ≤ 3 ∧ 20000 ≤ p.f1 ∧ p.f1 ≤ 20003 ∧ -20000 ≤ p.f2 ∧ p.f2 ≤ 20000 ∧ p.f3 = d) (ht : ∀ k, tot k x = tot k b - tot k a) : back_Correct.f (a ++ x) b d = some ([], 0) := by
  have ho : ∀ p ∈ a ++ x, okP p := by
    intro p hq
    rcases List.mem_append.1 hq with hq | hq
    · exact made_ok (h1 p hq)
    · have := hp p hq; unfold okP; omega
  rw [correct_ok (a ++ x) b d (by rw [List.length_append]; omega) (by omega) ho (fun p hp => made_ok (h2 p hp)) (fun p hq => by
    rcases List.mem_append.1 hq with hq | hq
    · have := h1 p hq; unfold made at this; omega
    · have := hp p hq; omega) (fun p hp => by have := h2 p hp; unfold made at this; omega) (by omega) (by omega)]
  have e : corr_list (sums (a ++ x) b) d = [] := by
    refine List.eq_nil_iff_forall_not_mem.2 (fun p hq => ?_)
    obtain ⟨a1, a2, a3⟩ := (mem_list (sums_nodup _ _) d p).1 hq
    rw [sums_get (a ++ x) b (by rw [List.length_append]; omega) (by omega) ho (fun p hp => made_ok (h2 p hp)), tot_append, ht] at a2
    omega
  rw [e, sort_nil]
theorem corr_back (a b : List S32) (d : Int) (ha : a.length ≤ 12) (hb : b.length ≤ 12) (h1 : ∀ p ∈ a, made p) (h2 : ∀ p ∈ b, made p) : pay_sort (corr_list (sums b a) d) = (pay_sort (corr_list (sums a b) d)).map neg := by
  refine sort_neg (sums_nodup a b) (sums_nodup b a) d (fun k => ?_)
  rw [sums_get a b (by omega) (by omega) (fun p hp => made_ok (h1 p hp)) (fun p hp => made_ok (h2 p hp)), sums_get b a (by omega) (by omega) (fun p hp => made_ok (h2 p hp)) (fun p hp => made_ok (h1 p hp))]
  omega
theorem rd_map (x : List S32) (i : Int) (h0 : 0 ≤ i) (h1 : i < x.length) : rd_T32 (x.map neg) i = neg (rd_T32 x i) := by
  have hx : i.toNat < x.length := by omega
  unfold rd_T32
  rw [List.getD_eq_getElem?_getD, List.getD_eq_getElem?_getD, List.getElem?_map, List.getElem?_eq_getElem hx]
  rfl
end Go.Proofs.Ytbcaaocogphdeaa.Pure
