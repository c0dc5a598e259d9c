import Derived.Test.YtbcaaocogphdeaaPCapx0
import Derived.Test.YtbcaaocogphdeaaPCapx29
import Derived.Test.YtbcaaocogphdeaaPCapx40
import Derived.Test.YtbcaaocogphdeaaPCapx41
import Derived.Test.YtbcaaocogphdeaaPCapx42
import Derived.Test.YtbcaaocogphdeaaPCapx44
import Derived.Test.YtbcaaocogphdeaaPCapx46
import Derived.Test.YtbcaaocogphdeaaCapD
import Derived.Test.YtbcaaocogphdeaaCapN
/- Plain lemmas: cap.Budget, as a whole; the drawn claims. -/
section
namespace Go.Proofs.Ytbcaaocogphdeaa.Pure
open Go.RowKit Go.Proofs.Ytbcaaocogphdeaa.PCap Go.Proofs.YtbcaaocogphdeaaW.PrintWords Go.Proofs.YtbcaaocogphdeaaW.PrintLast
set_option linter.unusedVariables false
set_option linter.unusedSimpArgs false

/-- The divisions that a budget of T0 asks for. -/
def DivOk (x : List S59) (T0 : Int) : Prop := ∀ n s w : Int, 0 ≤ n → n ≤ T0 → 0 < s → n ≤ s → s ≤ 219902325555200 → (w = 0 ∨ ∃ c ∈ x, w = c.f4) → Ev (fun k => bits_Div64.f k (n * w / 18446744073709551616) (n * w % 18446744073709551616) s) (sq n s w, sr n s w)
theorem div_small {n s w : Int} (h0 : 0 ≤ n * w) (h1 : n * w < 18446744073709551616) (hs : 0 < s) : Ev (fun k => bits_Div64.f k (n * w / 18446744073709551616) (n * w % 18446744073709551616) s) (sq n s w, sr n s w) := by
  rw [Int.ediv_eq_zero_of_lt h0 h1, Int.emod_eq_of_lt h0 h1]
  unfold bits_Div64.f
  refine Ev.ite_neg (by omega) (Ev.ite_neg (by omega) (Ev.ite_pos rfl (Ev.some_ ?_)))
  rw [Int.tdiv_eq_ediv_of_nonneg h0, Int.tmod_eq_emod_of_nonneg h0]
  have a0 : 0 ≤ n * w / s := Int.ediv_nonneg h0 (Int.le_of_lt hs)
  have a1 : n * w / s ≤ n * w := Int.ediv_le_self _ h0
  rw [Go.IntWalk.u64_in (n * w / s) ⟨by omega, by omega⟩]
  rfl
theorem bud_l0 {x : List S59} (hx : ClOk x) {T0 : Int} (hT0 : T0 ≤ 4611686018427387904) (hD : DivOk x T0) : ∀ (rs2 rs1 O : List Int) (T : Int), rnk x = rs1 ++ rs2 → Inv x T0 rs1 O T →
    ∃ O' T', Ev (fun k => cap_Budget.l0 k x T O (rnk x) ((rnk x).length : Int) (rs1.length : Int)) (O', 0) ∧ Inv x T0 (rnk x) O' T' := by
  intro rs2
  induction rs2 with
  | nil =>
    intro rs1 O T hr h
    rw [List.append_nil] at hr
    refine ⟨O, T, ?_, hr ▸ h⟩
    apply Ev.step
    · intro k; rw [cap_Budget.l0]
    · exact Ev.ite_neg (by rw [hr]; omega) (Ev.now _)
  | cons r rs2 ih =>
    intro rs1 O T hr h
    have hlt := rnk_lt x
    rw [hr] at hlt
    have hpw := List.pairwise_append.1 hlt
    have hd : ∀ d ∈ rs1, d < r := fun d hd => hpw.2.2 d hd r List.mem_cons_self
    have hall : ∀ c ∈ x, c.f3 < r → c.f3 ∈ rs1 := fun c hc hcr => by
      have hm := (rnk_mem x c.f3).2 ⟨c, hc, rfl⟩
      rw [hr] at hm
      rcases List.mem_append.1 hm with h1 | h1
      · exact h1
      · rcases List.mem_cons.1 h1 with h2 | h2
        · omega
        · have := (List.pairwise_cons.1 hpw.2.1).1 _ h2
          omega
    have hl := rnk_len x
    have hxl := hx.1
    have hrl : (rnk x).length = rs1.length + (rs2.length + 1) := by rw [hr]; simp
    have e : rnk x = (rs1 ++ [r]) ++ rs2 := by rw [hr]; simp
    have hrd : rd (rnk x) (rs1.length : Int) = r := by rw [hr]; exact rd_at rfl
    have hS := sum_bd (wt_bd hx r)
    rw [List.length_map] at hS
    have ht := h.t0
    have hnext : wrap64 ((rs1.length : Int) + 1) = ((rs1 ++ [r]).length : Int) := by rw [w64 (by omega) (by omega), List.length_append, List.length_singleton]; omega
    suffices hmain : ∃ O' T', Ev (afterW x T O (rnk x) (rs1.length : Int) (x.map (wt r)).sum (x.map (wt r))) (O', 0) ∧ Inv x T0 (rnk x) O' T' by
      obtain ⟨O', T', he, hi⟩ := hmain
      refine ⟨O', T', ?_, hi⟩
      apply Ev.step
      · intro k; rw [cap_Budget.l0]
      · rw [hrd]
        refine Ev.ite_pos (by omega) (Ev.ite_pos (by omega) (Ev.ite_pos (by omega) (Ev.ite_pos (by omega) (Ev.ite_pos (by omega) ?_))))
        have := bud_l1 x T O (rnk x) (rs1.length : Int) r (O', 0) x [] rfl hx he
        simpa using this
    by_cases c : (x.map (wt r)).sum = 0
    · obtain ⟨O', T', he, hi⟩ := ih (rs1 ++ [r]) O T e (h.skip hx (fun hm => by have := hd r hm; omega) c)
      refine ⟨O', T', ?_, hi⟩
      unfold afterW
      refine Ev.ite_pos c ?_
      rw [hnext]
      exact he
    · have hSp : 0 < (x.map (wt r)).sum := by omega
      obtain ⟨P, hPe, hPs⟩ := split_ok (n := min (x.map (wt r)).sum T) (s := (x.map (wt r)).sum) (W := x.map (wt r)) (by omega) hSp (by omega) (by rw [List.length_map]; exact hxl) rfl (wt_bd hx r) (fun w hw => by
        refine hD _ _ _ (by omega) (by omega) hSp (by omega) (by omega) ?_
        obtain ⟨cl, hcl, rfl⟩ := List.mem_map.1 hw
        unfold wt
        split
        · exact Or.inr ⟨cl, hcl, rfl⟩
        · exact Or.inl rfl)
      have hSh := hPs.shares (by omega) hSp (by omega) rfl (fun w hw => (wt_bd hx r w hw).1)
      obtain ⟨O', T', he, hi⟩ := ih (rs1 ++ [r]) (addL O P) (T - min (x.map (wt r)).sum T) e (h.step hx hd hall hSh hSp)
      refine ⟨O', T', ?_, hi⟩
      unfold afterW
      refine Ev.ite_neg c ?_
      rw [mn_eq]
      refine Ev.bind hPe ?_
      have hPl := hSh.len
      rw [List.length_map] at hPl
      have rng : ∀ (L : List Int), L.length = x.length → (∀ i : Int, 0 ≤ i → i < (x.length : Int) → 0 ≤ rd L i ∧ rd L i ≤ 1099511627776) → ∀ i : Int, 0 ≤ i → 0 ≤ rd L i ∧ rd L i ≤ 1099511627776 := fun L hL hb i h0 => by
        by_cases hi : i < (x.length : Int)
        · exact hb i h0 hi
        · unfold rd
          rw [List.getD_eq_getElem?_getD, List.getElem?_eq_none (by omega)]
          simp
      have bO := rng O h.len (fun i h0 h1 => by
        have a := h.bd i h0 h1
        have b := (hx.2 _ (rdS_mem h0 h1)).2
        exact ⟨a.1, by omega⟩)
      have bP := rng P hPl (fun i h0 h1 => by
        have a := hSh.bd i h0 (by rw [List.length_map]; exact h1)
        have b := (wt_bd hx r _ (rd_mem (l := x.map (wt r)) h0 (by rw [List.length_map]; exact h1))).2
        exact ⟨a.1, by omega⟩)
      have := bud_l2 x T (x.map (wt r)).sum (rnk x) (rs1.length : Int) (O', 0) P (by omega) (by omega) (by omega) P [] [] O rfl (by rw [h.len, hPl]) rfl (fun i hi => by have := bO i hi; omega) (fun i hi => by have := bP i hi; omega) (by rw [hnext]; simpa using he)
      simpa using this
theorem rep_sum (m : Nat) : (List.replicate m (0 : Int)).sum = 0 := by
  induction m with
  | zero => rfl
  | succ m ih => rw [List.replicate_succ, List.sum_cons, ih]; rfl
theorem rd_rep (m : Nat) (i : Int) : rd (List.replicate m (0 : Int)) i = 0 := by
  unfold rd
  rw [List.getD_eq_getElem?_getD, List.getElem?_replicate]
  split <;> rfl
theorem Inv.start {x : List S59} (hx : ClOk x) {T0 : Int} (hT : 0 ≤ T0) : Inv x T0 [] (List.replicate x.length 0) T0 where
  len := by simp
  t0 := by omega
  sum := by rw [rep_sum]; omega
  bd i h0 h1 := by rw [rd_rep]; exact ⟨Int.le_refl _, (hx.2 _ (rdS_mem h0 h1)).1⟩
  out i _ _ _ := rd_rep _ _
  full _ i _ _ h := by cases h
  fair i j _ _ _ _ _ h := by rw [rd_rep] at h; omega
  mono i j _ _ _ _ _ _ := by rw [rd_rep, rd_rep]; exact Int.le_refl _
theorem budget_ok {x : List S59} (hx : ClOk x) {T0 : Int} (hT : 0 ≤ T0) (hT0 : T0 ≤ 4611686018427387904) (hD : DivOk x T0) : ∃ O T', Ev (fun k => cap_Budget.f k x T0) (O, 0) ∧ Inv x T0 (rnk x) O T' := by
  obtain ⟨O, T', he, hi⟩ := bud_l0 hx hT0 hD (rnk x) [] (List.replicate x.length 0) T0 rfl (Inv.start hx hT)
  refine ⟨O, T', ?_, hi⟩
  unfold cap_Budget.f
  have hl := hx.1
  refine Ev.bind (check_ok hx) (Ev.ite_pos rfl (Ev.ite_neg (by omega) (Ev.ite_pos (by omega) (Ev.ite_pos (by omega) (Ev.bind (ranks_ok hl) ?_)))))
  have e0 : ((x.length : Int) : Int).toNat = x.length := Int.toNat_natCast _
  rw [e0]
  exact he
/-- All that is claimed. -/
theorem Inv.exact {x : List S59} {T0 : Int} {O : List Int} {T : Int} (h : Inv x T0 (rnk x) O T) : O.sum = min T0 (x.map (·.f4)).sum := by
  have le : ∀ (O : List Int) (x : List S59), O.length = x.length → (∀ i : Int, 0 ≤ i → i < (x.length : Int) → rd O i ≤ (rd_T59 x i).f4) → O.sum ≤ (x.map (·.f4)).sum ∧ ((∀ i : Int, 0 ≤ i → i < (x.length : Int) → rd O i = (rd_T59 x i).f4) → O.sum = (x.map (·.f4)).sum) := by
    intro O
    induction O with
    | nil => intro x hl _; rw [List.eq_nil_of_length_eq_zero hl.symm]; simp
    | cons o O ih =>
      intro x hl hb
      cases x with
      | nil => simp at hl
      | cons c x =>
        have tl : ∀ i : Int, 0 ≤ i → rd (o :: O) (i + 1) = rd O i ∧ rd_T59 (c :: x) (i + 1) = rd_T59 x i := fun i h0 => by
          unfold rd rd_T59
          rw [show (i + 1).toNat = i.toNat + 1 by omega]
          exact ⟨rfl, rfl⟩
        have h0 := hb 0 (by omega) (by simp only [List.length_cons]; omega)
        have h0' : o ≤ c.f4 := h0
        have h1 := ih x (by simpa using hl) (fun i g0 g1 => by
          have := hb (i + 1) (by omega) (by simp only [List.length_cons]; omega)
          rwa [(tl i g0).1, (tl i g0).2] at this)
        rw [List.map_cons, List.sum_cons, List.sum_cons]
        refine ⟨by omega, fun he => ?_⟩
        have e0 : o = c.f4 := he 0 (by omega) (by simp only [List.length_cons]; omega)
        have e1 := h1.2 (fun i g0 g1 => by
          have := he (i + 1) (by omega) (by simp only [List.length_cons]; omega)
          rwa [(tl i g0).1, (tl i g0).2] at this)
        omega
  have hl := le O x h.len (fun i h0 h1 => (h.bd i h0 h1).2)
  have hs := h.sum
  have ht := h.t0
  by_cases c : 0 < T
  · have := hl.2 (fun i h0 h1 => h.full c i h0 h1 ((rnk_mem x _).2 ⟨_, rdS_mem h0 h1, rfl⟩))
    omega
  · omega
theorem need_ok {x : List S59} (hx : ClOk x) : Ev (fun k => cap_Need.f k x) ((x.map (·.f4)).sum, 0) := by
  unfold cap_Need.f
  refine Ev.bind (check_ok hx) (Ev.ite_pos rfl ?_)
  have go : ∀ (x2 x1 : List S59), x = x1 ++ x2 → Ev (fun k => cap_Need.l0 k (x1.map (·.f4)).sum x (x.length : Int) (x1.length : Int)) ((x.map (·.f4)).sum, 0) := by
    intro x2
    induction x2 with
    | nil =>
      intro x1 e
      rw [List.append_nil] at e
      subst e
      apply Ev.step
      · intro k; rw [cap_Need.l0]
      · exact Ev.ite_neg (by omega) (Ev.now _)
    | cons c x2 ih =>
      intro x1 e
      have hl := hx.1
      have hl2 : x.length = x1.length + (x2.length + 1) := by rw [e]; simp
      have d := hx.2 c (by rw [e]; simp)
      have := ih (x1 ++ [c]) (by rw [e]; simp)
      rw [show ((x1 ++ [c]).length : Int) = x1.length + 1 by rw [List.length_append, List.length_singleton]; omega, List.map_append, List.map_singleton, sum_app] at this
      have hs := sum_bd (l := x1.map (·.f4)) (B := 1099511627776) (fun w hw => by
        obtain ⟨y, hy, rfl⟩ := List.mem_map.1 hw
        exact hx.2 y (by rw [e]; exact List.mem_append_left _ hy))
      rw [List.length_map] at hs
      have hrd : rd_T59 x (x1.length : Int) = c := by rw [e]; exact rdS_at rfl
      apply Ev.step
      · intro k; rw [cap_Need.l0]
      · rw [hrd]
        refine Ev.ite_pos (by omega) (Ev.ite_pos (by omega) (Ev.ite_pos (by omega) ?_))
        rw [w64 (a := (x1.length : Int) + 1) (by omega) (by omega), w64 (a := (x1.map (·.f4)).sum + c.f4) (by omega) (by omega)]
        simpa using this
  have := go x [] rfl
  simpa using this
theorem div_of {x : List S59} {T0 : Int} (hT : T0 ≤ 1000000) (hc : ∀ c ∈ x, 0 ≤ c.f4 ∧ c.f4 ≤ 1000000) : DivOk x T0 := fun n s w n0 n1 hs _ _ hw => by
  have hw2 : 0 ≤ w ∧ w ≤ 1000000 := by
    rcases hw with rfl | ⟨c, hm, rfl⟩
    · omega
    · exact hc c hm
  refine div_small (Int.mul_nonneg n0 hw2.1) ?_ hs
  have : n * w ≤ 1000000 * w := Int.mul_le_mul_of_nonneg_right (by omega) hw2.1
  omega
theorem equal_one (a b : Int) (h : a = b) : Ev (fun k => slices_Equal_int_int.f k [a] [b]) true := by
  subst h
  unfold slices_Equal_int_int.f
  refine Ev.ite_pos rfl ?_
  apply Ev.step
  · intro k; rw [slices_Equal_int_int.l0]
  · refine Ev.ite_pos (by simp) (Ev.ite_pos (by simp) (Ev.ite_pos (by simp) (Ev.ite_pos (by simp) (Ev.ite_pos rfl ?_))))
    apply Ev.step
    · intro k; rw [slices_Equal_int_int.l0]
    · exact Ev.ite_neg (by rw [w64 (by omega) (by omega)]; simp) (Ev.now _)
theorem capped_ok : Ev (fun k => mootkeep4_capped.f k) true := by
  have hx : ClOk [(⟨1, 0, 0, 0, 5⟩ : S59)] := ⟨by simp, fun c hc => by rw [List.mem_singleton.1 hc]; simp⟩
  obtain ⟨O, T', he, hi⟩ := budget_ok hx (T0 := 9) (by omega) (by omega) (div_of (by omega) (fun c hc => by rw [List.mem_singleton.1 hc]; simp))
  have hs := hi.exact
  obtain ⟨a, rfl⟩ : ∃ a, O = [a] := by
    have hl := hi.len
    match O, hl with
    | [a], _ => exact ⟨a, rfl⟩
  have ha : a = 5 := by
    simp only [List.map_cons, List.map_nil, List.sum_cons, List.sum_nil] at hs
    omega
  unfold mootkeep4_capped.f
  refine Ev.bind he (Ev.ite_pos rfl (Ev.bind (equal_one a 5 ha) (Ev.now _)))
theorem claims_ok (l : List Int) (hl : wfL l) : ∃ x, Ev (fun k => mootkeep4_Claims.f k l) x ∧ x.length ≤ 11 ∧ ∀ c ∈ x, (0 ≤ c.f4 ∧ c.f4 ≤ 899) ∧ (1 ≤ c.f1 ∧ c.f1 ≤ 3) ∧ (2000 ≤ c.f2 ∧ c.f2 ≤ 2001) := by
  have go : ∀ (m : Nat) (i n : Int) (y : List S59) (s : List Int), i + m = n → 0 ≤ i → n ≤ 11 → y.length = i → wfL s → (∀ c ∈ y, (0 ≤ c.f4 ∧ c.f4 ≤ 899) ∧ (1 ≤ c.f1 ∧ c.f1 ≤ 3) ∧ (2000 ≤ c.f2 ∧ c.f2 ≤ 2001)) →
      ∃ x, Ev (fun k => mootkeep4_Claims.l0 k y n i s) x ∧ x.length ≤ 11 ∧ ∀ c ∈ x, (0 ≤ c.f4 ∧ c.f4 ≤ 899) ∧ (1 ≤ c.f1 ∧ c.f1 ≤ 3) ∧ (2000 ≤ c.f2 ∧ c.f2 ≤ 2001) := by
    intro m
    induction m with
    | zero =>
      intro i n y s hin h0 hn hy hs hc
      refine ⟨y, ?_, by omega, hc⟩
      apply Ev.step
      · intro k; rw [mootkeep4_Claims.l0]
      · exact Ev.ite_neg (by omega) (Ev.now _)
    | succ m ih =>
      intro i n y s hin h0 hn hy hs hc
      obtain ⟨r1, s1, e1, a1, b1, _, w1⟩ := next_ok s 3 hs (by omega)
      obtain ⟨r2, s2, e2, a2, b2, _, w2⟩ := next_ok s1 2 w1 (by omega)
      obtain ⟨r3, s3, e3, a3, b3, _, w3⟩ := next_ok s2 3 w2 (by omega)
      obtain ⟨r4, s4, e4, a4, b4, _, w4⟩ := next_ok s3 900 w3 (by omega)
      have b1 := b1 (by omega)
      have b2 := b2 (by omega)
      have b4 := b4 (by omega)
      obtain ⟨x, he, hxl, hxc⟩ := ih (i + 1) n (y ++ [⟨i, 1 + r1, 2000 + r2, r3, r4⟩]) s4 (by omega) (by omega) hn (by rw [List.length_append, List.length_singleton]; omega) w4 (fun c hm => by
        rcases List.mem_append.1 hm with hm | hm
        · exact hc c hm
        · rw [List.mem_singleton.1 hm]; exact ⟨⟨a4, by simp only; omega⟩, ⟨by simp only; omega, by simp only; omega⟩, ⟨by simp only; omega, by simp only; omega⟩⟩)
      refine ⟨x, ?_, hxl, hxc⟩
      apply Ev.step
      · intro k; rw [mootkeep4_Claims.l0]
      · refine Ev.ite_pos (by omega) ?_
        rw [e1]
        refine Ev.bind (Ev.now _) ?_
        simp only
        rw [e2]
        refine Ev.bind (Ev.now _) ?_
        simp only
        rw [e3]
        refine Ev.bind (Ev.now _) ?_
        simp only
        rw [e4]
        refine Ev.bind (Ev.now _) ?_
        simp only
        refine Ev.ite_pos (by omega) ?_
        rw [w64 (a := 1 + r1) (by omega) (by omega), w64 (a := 2000 + r2) (by omega) (by omega), w64 (a := i + 1) (by omega) (by omega)]
        exact he
  obtain ⟨n, s, e, a, b, _, w⟩ := next_ok l 12 hl (by omega)
  have b := b (by omega)
  obtain ⟨x, he, h⟩ := go n.toNat 0 n [] s (by omega) (by omega) (by omega) rfl w (by simp)
  refine ⟨x, ?_, h⟩
  unfold mootkeep4_Claims.f
  rw [e]
  refine Ev.bind (Ev.now _) ?_
  simp only
  exact he
end Go.Proofs.Ytbcaaocogphdeaa.Pure
end
