import Derived.Test.YtbcaaocogphdeaaPCapx0
import Derived.Test.YtbcaaocogphdeaaPCapx39
import Derived.Test.YtbcaaocogphdeaaPCapx40
import Derived.Test.YtbcaaocogphdeaaCapC
/- Plain lemmas: cap.Budget's loops; what is known of what it has given when some ranks are done. -/
section
namespace Go.Proofs.Ytbcaaocogphdeaa.Pure
open Go.RowKit Go.Proofs.Ytbcaaocogphdeaa.PCap Go.Proofs.YtbcaaocogphdeaaW.PrintWords Go.Proofs.YtbcaaocogphdeaaW.PrintLast
set_option linter.unusedVariables false
set_option linter.unusedSimpArgs false

/-- A claim's weight in its rank. -/
def wt (r : Int) (c : S59) : Int := if c.f3 = r then c.f4 else 0
theorem wt_bd {x : List S59} (h : ClOk x) (r : Int) : ∀ w ∈ x.map (wt r), 0 ≤ w ∧ w ≤ 1099511627776 := fun w hw => by
  obtain ⟨c, hc, rfl⟩ := List.mem_map.1 hw
  have := h.2 c hc
  unfold wt
  split <;> omega
theorem set_rep0 {A : List Int} {m : Nat} : A ++ List.replicate (m + 1) 0 = (A ++ [0]) ++ List.replicate m 0 := by rw [List.replicate_succ]; simp
def addL (O P : List Int) : List Int := List.zipWith (· + ·) O P
/-- What follows a rank's weights. -/
def afterW (x : List S59) (T : Int) (O rs : List Int) (j S : Int) (W : List Int) (k : Nat) : Option (List Int × Int) :=
  if S = 0 then (cap_Budget.l0 k x T O rs (rs.length : Int) (wrap64 (j + 1))) else ((cap_split.f k (mn S T) S W).bind fun t316 => (cap_Budget.l2 k x T O S rs (rs.length : Int) j t316 (t316.length : Int) 0))
theorem bud_l1 (x : List S59) (T : Int) (O rs : List Int) (j r : Int) (res : List Int × Int) : ∀ (x2 x1 : List S59), x = x1 ++ x2 → ClOk x → Ev (afterW x T O rs j (x.map (wt r)).sum (x.map (wt r))) res →
    Ev (fun k => cap_Budget.l1 k x T O r (x1.map (wt r) ++ List.replicate x2.length 0) (x1.map (wt r)).sum rs (rs.length : Int) j x (x.length : Int) (x1.length : Int)) res := by
  intro x2
  induction x2 with
  | nil =>
    intro x1 hx h hf
    simp only [List.append_nil, List.length_nil, List.replicate_zero] at *
    subst hx
    apply Ev.step
    · intro k; rw [cap_Budget.l1]
    · exact Ev.ite_neg (by omega) hf
  | cons c x2 ih =>
    intro x1 hx h hf
    have e : x = (x1 ++ [c]) ++ x2 := by rw [hx]; simp
    have hl := h.1
    have hl2 : x.length = x1.length + (x2.length + 1) := by rw [hx]; simp
    have d := h.2 c (by rw [hx]; simp)
    have := ih (x1 ++ [c]) e h hf
    rw [show ((x1 ++ [c]).length : Int) = x1.length + 1 by rw [List.length_append, List.length_singleton]; omega, List.map_append, List.map_singleton, sum_app] at this
    have hs := sum_bd (l := x1.map (wt r)) (B := 1099511627776) (fun w hw => wt_bd h r w (by rw [hx, List.map_append]; exact List.mem_append_left _ hw))
    rw [List.length_map] at hs
    apply Ev.step
    · intro k; rw [cap_Budget.l1]
    · have hrd : rd_T59 x (x1.length : Int) = c := by rw [hx]; exact rdS_at rfl
      rw [hrd]
      refine Ev.ite_pos (by omega) (Ev.ite_pos (by omega) (Ev.ite_pos (by omega) ?_))
      rw [w64 (a := (x1.length : Int) + 1) (by omega) (by omega), w64 (a := (x1.map (wt r)).sum + c.f4) (by omega) (by omega)]
      by_cases hc : c.f3 = r
      · refine Ev.ite_pos hc (Ev.ite_pos (by simp only [List.length_append, List.length_map, List.length_replicate, List.length_cons]; omega) ?_)
        have hw : wt r c = c.f4 := if_pos hc
        rw [List.length_cons, set_rep (by simp)]
        rw [hw] at this
        simpa using this
      · refine Ev.ite_neg hc ?_
        have hw : wt r c = 0 := if_neg hc
        rw [List.length_cons, set_rep0]
        rw [hw] at this
        simpa using this
theorem bud_l2 (x : List S59) (T S : Int) (rs : List Int) (j : Int) (res : List Int × Int) (P : List Int) (hP : P.length ≤ 200) (hT : 0 ≤ T ∧ T ≤ 4611686018427387904) (hS : 0 ≤ S) : ∀ (P2 P1 R1 O2 : List Int), P = P1 ++ P2 → O2.length = P2.length → R1.length = P1.length →
    (∀ i : Int, 0 ≤ i → 0 ≤ rd O2 i ∧ rd O2 i ≤ 4611686018427387904) → (∀ i : Int, 0 ≤ i → 0 ≤ rd P2 i ∧ rd P2 i ≤ 4611686018427387) →
    Ev (fun k => cap_Budget.l0 k x (T - min S T) (R1 ++ addL O2 P2) rs (rs.length : Int) (wrap64 (j + 1))) res →
    Ev (fun k => cap_Budget.l2 k x T (R1 ++ O2) S rs (rs.length : Int) j P (P.length : Int) (P1.length : Int)) res := by
  intro P2
  induction P2 with
  | nil =>
    intro P1 R1 O2 hx ho hr _ _ hf
    obtain rfl : O2 = [] := List.eq_nil_of_length_eq_zero ho
    subst hx
    apply Ev.step
    · intro k; rw [cap_Budget.l2]
    · refine Ev.ite_neg (by simp) ?_
      rw [mn_eq, w64 (a := T - min S T) (by omega) (by omega)]
      simpa [addL] using hf
  | cons p P2 ih =>
    intro P1 R1 O2 hx ho hr hbO hbP hf
    cases O2 with
    | nil => simp at ho
    | cons o O2 =>
      have hl : P.length = P1.length + (P2.length + 1) := by rw [hx]; simp
      simp only [List.length_cons] at ho
      have b0 := hbO 0 (by omega)
      have p0 := hbP 0 (by omega)
      simp only [rd, Int.toNat_zero, List.getD_cons_zero] at b0 p0
      have tl : ∀ (a : Int) (l : List Int) (i : Int), 0 ≤ i → rd (a :: l) (i + 1) = rd l i := fun a l i hi => by
        unfold rd
        rw [show (i + 1).toNat = i.toNat + 1 by omega]
        rfl
      have := ih (P1 ++ [p]) (R1 ++ [o + p]) O2 (by rw [hx]; simp) (by omega) (by simp [hr]) (fun i hi => by have := hbO (i + 1) (by omega); rwa [tl o O2 i hi] at this) (fun i hi => by have := hbP (i + 1) (by omega); rwa [tl p P2 i hi] at this) (by simpa [addL] using hf)
      rw [show ((P1 ++ [p]).length : Int) = P1.length + 1 by rw [List.length_append, List.length_singleton]; omega] at this
      have hp : rd P (P1.length : Int) = p := by rw [hx]; exact rd_at rfl
      have hoo : rd (R1 ++ o :: O2) (P1.length : Int) = o := rd_at (by omega)
      apply Ev.step
      · intro k; rw [cap_Budget.l2]
      · rw [hp, hoo]
        refine Ev.ite_pos (by omega) (Ev.ite_pos (by omega) (Ev.ite_pos (by omega) (Ev.ite_pos (by simp only [List.length_append, List.length_cons]; omega) ?_)))
        rw [w64 (a := o + p) (by omega) (by omega), w64 (a := (P1.length : Int) + 1) (by omega) (by omega), set_at (by omega)]
        have e : R1 ++ (o + p) :: O2 = (R1 ++ [o + p]) ++ O2 := by simp
        rw [e]
        exact this
theorem addL_len {O P : List Int} (h : O.length = P.length) : (addL O P).length = O.length := by unfold addL; rw [List.length_zipWith]; omega
theorem addL_rd {O P : List Int} (h : O.length = P.length) {i : Int} (h0 : 0 ≤ i) (h1 : i < (O.length : Int)) : rd (addL O P) i = rd O i + rd P i := by
  obtain ⟨m, rfl⟩ : ∃ m : Nat, i = (m : Int) := ⟨i.toNat, by omega⟩
  rw [rd_get (by rw [addL_len h]; omega), rd_get (by omega), rd_get (by omega)]
  simp [addL]
theorem addL_sum : ∀ {O P : List Int}, O.length = P.length → (addL O P).sum = O.sum + P.sum
  | [], [], _ => by simp [addL]
  | o :: O, p :: P, h => by
    have := addL_sum (O := O) (P := P) (by simpa using h)
    unfold addL at this ⊢
    rw [List.zipWith_cons_cons, List.sum_cons, List.sum_cons, List.sum_cons, this]
    omega
/-- What is known when the ranks 'done' have been served: O given, T left of T0. -/
structure Inv (x : List S59) (T0 : Int) (done O : List Int) (T : Int) : Prop where
  len : O.length = x.length
  t0 : 0 ≤ T ∧ T ≤ T0
  sum : O.sum + T = T0
  bd : ∀ i : Int, 0 ≤ i → i < (x.length : Int) → 0 ≤ rd O i ∧ rd O i ≤ (rd_T59 x i).f4
  out : ∀ i : Int, 0 ≤ i → i < (x.length : Int) → (rd_T59 x i).f3 ∉ done → rd O i = 0
  full : 0 < T → ∀ i : Int, 0 ≤ i → i < (x.length : Int) → (rd_T59 x i).f3 ∈ done → rd O i = (rd_T59 x i).f4
  fair : ∀ i j : Int, 0 ≤ i → i < (x.length : Int) → 0 ≤ j → j < (x.length : Int) → (rd_T59 x j).f3 < (rd_T59 x i).f3 → 0 < rd O i → rd O j = (rd_T59 x j).f4
  mono : ∀ i j : Int, 0 ≤ i → i < (x.length : Int) → 0 ≤ j → j < (x.length : Int) → (rd_T59 x i).f3 = (rd_T59 x j).f3 → (rd_T59 x j).f4 < (rd_T59 x i).f4 → rd O j ≤ rd O i
theorem Inv.skip {x : List S59} (hx : ClOk x) {T0 : Int} {done O : List Int} {T : Int} (h : Inv x T0 done O T) {r : Int} (hr : r ∉ done) (hS : (x.map (wt r)).sum = 0) : Inv x T0 (done ++ [r]) O T := by
  have z : ∀ i : Int, 0 ≤ i → i < (x.length : Int) → (rd_T59 x i).f3 = r → (rd_T59 x i).f4 = 0 := fun i h0 h1 e => by
    have hc := rdS_mem h0 h1
    have key : ∀ l : List Int, (∀ w ∈ l, 0 ≤ w ∧ w ≤ 1099511627776) → l.sum = 0 → ∀ w ∈ l, w = 0 := by
      intro l
      induction l with
      | nil => intro _ _ w hw; cases hw
      | cons a l ih =>
        intro hb hs w hw
        have ha := hb a List.mem_cons_self
        have hl := sum_bd (l := l) (fun y hy => hb y (List.mem_cons_of_mem _ hy))
        rw [List.sum_cons] at hs
        rcases List.mem_cons.1 hw with rfl | hw
        · omega
        · exact ih (fun y hy => hb y (List.mem_cons_of_mem _ hy)) (by omega) w hw
    have := key _ (wt_bd hx r) hS (wt r (rd_T59 x i)) (List.mem_map.2 ⟨_, hc, rfl⟩)
    rwa [wt, if_pos e] at this
  refine ⟨h.len, h.t0, h.sum, h.bd, fun i h0 h1 hn => h.out i h0 h1 (fun hm => hn (List.mem_append_left _ hm)), fun ht i h0 h1 hm => ?_, h.fair, h.mono⟩
  rcases List.mem_append.1 hm with hm | hm
  · exact h.full ht i h0 h1 hm
  · have e := List.mem_singleton.1 hm
    rw [h.out i h0 h1 (by rw [e]; exact hr), z i h0 h1 e]
theorem Inv.step {x : List S59} (hx : ClOk x) {T0 : Int} {done O : List Int} {T : Int} (h : Inv x T0 done O T) {r : Int} (hr : ∀ d ∈ done, d < r) (hall : ∀ c ∈ x, c.f3 < r → c.f3 ∈ done) {P : List Int} (hP : Shares (min (x.map (wt r)).sum T) (x.map (wt r)).sum (x.map (wt r)) P) (hS : 0 < (x.map (wt r)).sum) :
    Inv x T0 (done ++ [r]) (addL O P) (T - min (x.map (wt r)).sum T) := by
  have hrd : r ∉ done := fun hm => by have := hr r hm; omega
  have hl : O.length = P.length := by rw [h.len, hP.len, List.length_map]
  have ht0 := h.t0
  have bdP : ∀ i : Int, 0 ≤ i → i < (x.length : Int) → 0 ≤ rd P i ∧ rd P i ≤ wt r (rd_T59 x i) := fun i h0 h1 => by
    have := hP.bd i h0 (by rw [List.length_map]; exact h1)
    rwa [rd_mapS h0 h1] at this
  have val : ∀ i : Int, 0 ≤ i → i < (x.length : Int) → rd (addL O P) i = rd O i + rd P i := fun i h0 h1 => addL_rd hl h0 (by rw [h.len]; exact h1)
  have other : ∀ i : Int, 0 ≤ i → i < (x.length : Int) → (rd_T59 x i).f3 ≠ r → rd (addL O P) i = rd O i := fun i h0 h1 hn => by
    have := bdP i h0 h1
    rw [wt, if_neg hn] at this
    rw [val i h0 h1]; omega
  have mine : ∀ i : Int, 0 ≤ i → i < (x.length : Int) → (rd_T59 x i).f3 = r → rd (addL O P) i = rd P i ∧ 0 ≤ rd P i ∧ rd P i ≤ (rd_T59 x i).f4 := fun i h0 h1 he => by
    have := bdP i h0 h1
    rw [wt, if_pos he] at this
    rw [val i h0 h1, h.out i h0 h1 (by rw [he]; exact hrd)]
    exact ⟨by omega, this⟩
  refine ⟨by rw [addL_len hl, h.len], by omega, ?_, fun i h0 h1 => ?_, fun i h0 h1 hn => ?_, fun ht i h0 h1 hm => ?_, fun i j hi0 hi1 hj0 hj1 hlt hpos => ?_, fun i j hi0 hi1 hj0 hj1 he hlt => ?_⟩
  · rw [addL_sum hl, hP.sum]
    have := h.sum
    omega
  · by_cases e : (rd_T59 x i).f3 = r
    · have := mine i h0 h1 e
      omega
    · rw [other i h0 h1 e]; exact h.bd i h0 h1
  · have e : (rd_T59 x i).f3 ≠ r := fun e => hn (List.mem_append_right _ (by rw [e]; exact List.mem_singleton.2 rfl))
    rw [other i h0 h1 e]
    exact h.out i h0 h1 (fun hm => hn (List.mem_append_left _ hm))
  · by_cases e : (rd_T59 x i).f3 = r
    · rw [(mine i h0 h1 e).1, hP.all rfl (by omega) i h0 (by rw [List.length_map]; exact h1), rd_mapS h0 h1, wt, if_pos e]
    · rw [other i h0 h1 e]
      rcases List.mem_append.1 hm with hm | hm
      · exact h.full (by omega) i h0 h1 hm
      · exact absurd (List.mem_singleton.1 hm) e
  · have hj : rd O j = (rd_T59 x j).f4 := by
      by_cases e : (rd_T59 x i).f3 = r
      · have hp := mine i hi0 hi1 e
        have hT : 0 < T := by
          refine Int.lt_of_not_ge fun hc => ?_
          have hz : min (x.map (wt r)).sum T = 0 := by omega
          have hs := hP.sum
          rw [hz] at hs
          have key : ∀ l : List Int, (∀ w ∈ l, 0 ≤ w) → l.sum = 0 → ∀ w ∈ l, w = 0 := by
            intro l
            induction l with
            | nil => intro _ _ w hw; cases hw
            | cons a l ih =>
              intro hb hs w hw
              have ha := hb a List.mem_cons_self
              have pos : ∀ l : List Int, (∀ w ∈ l, 0 ≤ w) → 0 ≤ l.sum := by
                intro l
                induction l with
                | nil => intro _; simp
                | cons a l ih => intro hb; rw [List.sum_cons]; have := hb a List.mem_cons_self; have := ih (fun y hy => hb y (List.mem_cons_of_mem _ hy)); omega
              have hl := pos l (fun y hy => hb y (List.mem_cons_of_mem _ hy))
              rw [List.sum_cons] at hs
              rcases List.mem_cons.1 hw with rfl | hw
              · omega
              · exact ih (fun y hy => hb y (List.mem_cons_of_mem _ hy)) (by omega) w hw
          have hz2 := key P (fun w hw => by
            obtain ⟨m, hm, e⟩ := List.getElem_of_mem hw
            have := bdP (m : Int) (by omega) (by rw [← h.len, hl]; omega)
            rw [rd_get hm, e] at this
            exact this.1) hs (rd P i) (rd_mem hi0 (by rw [← hl, h.len]; exact hi1))
          omega
        exact h.full hT j hj0 hj1 (hall _ (rdS_mem hj0 hj1) (by omega))
      · rw [other i hi0 hi1 e] at hpos
        exact h.fair i j hi0 hi1 hj0 hj1 hlt hpos
    by_cases e : (rd_T59 x j).f3 = r
    · have := mine j hj0 hj1 e
      have h0 := h.out j hj0 hj1 (by rw [e]; exact hrd)
      omega
    · rw [other j hj0 hj1 e]; exact hj
  · by_cases e : (rd_T59 x i).f3 = r
    · have ej : (rd_T59 x j).f3 = r := he ▸ e
      rw [(mine i hi0 hi1 e).1, (mine j hj0 hj1 ej).1]
      refine hP.mono i j hi0 (by rw [List.length_map]; exact hi1) hj0 (by rw [List.length_map]; exact hj1) ?_
      rw [rd_mapS hi0 hi1, rd_mapS hj0 hj1, wt, wt, if_pos e, if_pos ej]
      exact hlt
    · rw [other i hi0 hi1 e, other j hj0 hj1 (fun z => e (he.trans z))]
      exact h.mono i j hi0 hi1 hj0 hj1 he hlt
end Go.Proofs.Ytbcaaocogphdeaa.Pure
end
