import Derived.Test.YtbcaaocogphdeaaPCapx0
import Derived.Test.YtbcaaocogphdeaaCapA
/- Plain lemmas: what is known of cap.split's shares: their sum, their bounds, that greater claims get no less. -/
section
namespace Go.Proofs.Ytbcaaocogphdeaa.Pure
open Go.RowKit Go.Proofs.Ytbcaaocogphdeaa.PCap Go.Proofs.YtbcaaocogphdeaaW.PrintWords Go.Proofs.YtbcaaocogphdeaaW.PrintLast
set_option linter.unusedVariables false
set_option linter.unusedSimpArgs false

theorem Fe.perm {key : Int → Int} {l m : List Int} (h : Fe key l m) : l.Perm m := List.perm_iff_count.2 fun a => by
  have h1 := congrArg (List.count a) (h (key a))
  rw [List.count_filter (by simp), List.count_filter (by simp)] at h1
  exact h1
theorem perm_sum {l m : List Int} (h : l.Perm m) : l.sum = m.sum := by
  induction h with
  | nil => rfl
  | cons x _ ih => rw [List.sum_cons, List.sum_cons, ih]
  | swap x y l => rw [List.sum_cons, List.sum_cons, List.sum_cons, List.sum_cons]; omega
  | trans _ _ h1 h2 => exact h1.trans h2
theorem idx_nodup : ∀ m : Nat, (idx m).Nodup
  | 0 => by simp [idx]
  | m + 1 => by
    rw [idx_succ]
    refine List.nodup_append.2 ⟨idx_nodup m, by simp, fun a ha b hb => ?_⟩
    have := (mem_idx.1 ha).2
    rw [List.mem_singleton.1 hb]
    omega
theorem map_idx (l : List Int) : (idx l.length).map (rd l) = l := by
  unfold idx
  apply List.ext_getElem (by simp)
  intro i h1 h2
  simp only [List.getElem_map, List.getElem_range, Int.ofNat_eq_natCast]
  exact rd_get h2
theorem set_sum {O : List Int} {y v : Int} (h0 : 0 ≤ y) (h1 : y < (O.length : Int)) : (O.set y.toNat v).sum = O.sum - rd O y + v := by
  obtain ⟨A, x, B, rfl, hA⟩ : ∃ A x B, O = A ++ x :: B ∧ y = (A.length : Int) := by
    have hy : y.toNat < O.length := by omega
    refine ⟨O.take y.toNat, O[y.toNat], O.drop (y.toNat + 1), ?_, by rw [List.length_take]; omega⟩
    rw [List.getElem_cons_drop, List.take_append_drop]
  rw [set_at hA, rd_at hA, sum_app, sum_app, List.sum_cons, List.sum_cons]
  omega
theorem incs_sum : ∀ (Y O : List Int), (∀ y ∈ Y, 0 ≤ y ∧ y < (O.length : Int)) → (incs O Y).sum = O.sum + Y.length
  | [], O, _ => by simp [incs]
  | y :: Y, O, h => by
    have d := h y List.mem_cons_self
    rw [incs, incs_sum Y _ (fun z hz => by rw [List.length_set]; exact h z (List.mem_cons_of_mem _ hz)), set_sum d.1 d.2, List.length_cons]
    omega
theorem rd_map {f : Int → Int} {l : List Int} {i : Int} (h0 : 0 ≤ i) (h1 : i < (l.length : Int)) : rd (l.map f) i = f (rd l i) := by
  obtain ⟨m, rfl⟩ : ∃ m : Nat, i = (m : Int) := ⟨i.toNat, by omega⟩
  rw [rd_get (by rw [List.length_map]; omega), rd_get (by omega), List.getElem_map]
theorem rd_mem {l : List Int} {i : Int} (h0 : 0 ≤ i) (h1 : i < (l.length : Int)) : rd l i ∈ l := by
  obtain ⟨m, rfl⟩ : ∃ m : Nat, i = (m : Int) := ⟨i.toNat, by omega⟩
  rw [rd_get (by omega)]
  exact List.getElem_mem _
structure Shares (n s : Int) (W P : List Int) : Prop where
  len : P.length = W.length
  sum : P.sum = n
  bd : ∀ i : Int, 0 ≤ i → i < (W.length : Int) → 0 ≤ rd P i ∧ rd P i ≤ rd W i
  mono : ∀ i j : Int, 0 ≤ i → i < (W.length : Int) → 0 ≤ j → j < (W.length : Int) → rd W j < rd W i → rd P j ≤ rd P i
theorem IsSplit.shares {n s : Int} {W P : List Int} (h : IsSplit n s W P) (hn : 0 ≤ n) (hs : 0 < s) (hns : n ≤ s) (hW : W.sum = s) (hw : ∀ w ∈ W, 0 ≤ w) : Shares n s W P := by
  obtain ⟨F, sd, fe, hl, rfl⟩ := h
  obtain ⟨L0, L1, Ls⟩ := left_ok hn hs hW hw
  obtain ⟨L, hL⟩ : ∃ L : Nat, n - (W.map (sq n s)).sum = (L : Int) := ⟨_, (Int.toNat_of_nonneg L0).symm⟩
  rw [hL] at L0 L1 Ls ⊢
  rw [Int.toNat_natCast]
  have hF := fe.perm
  have hnd : F.Nodup := hF.nodup_iff.1 (idx_nodup _)
  have hFm : ∀ y ∈ F, 0 ≤ y ∧ y < (W.length : Int) := fun y hy => mem_idx.1 ((fe.mem y).2 hy)
  have hYm : ∀ y ∈ F.take L, 0 ≤ y ∧ y < (W.length : Int) := fun y hy => hFm y (List.mem_of_mem_take hy)
  have hsplit : F = F.take L ++ F.drop L := (List.take_append_drop _ _).symm
  have hYl : (F.take L).length = L := by rw [List.length_take]; omega
  have hYn : (F.take L).Nodup := hnd.sublist (List.take_sublist _ _)
  have hc1 : ∀ i, (F.take L).count i ≤ 1 := List.nodup_iff_count.1 hYn
  have across : ∀ a ∈ F.take L, ∀ b ∈ F.drop L, rd (W.map (sr n s)) b ≤ rd (W.map (sr n s)) a := fun a ha b hb => by
    have h1 := (List.pairwise_append.1 (hsplit ▸ sd)).2.2 a ha b hb
    unfold kD at h1
    omega
  have hr : ∀ i : Int, 0 ≤ i → i < (W.length : Int) → rd (W.map (sr n s)) i = sr n s (rd W i) := fun i h0 h1 => rd_map h0 h1
  have hq : ∀ i : Int, 0 ≤ i → i < (W.length : Int) → rd (W.map (sq n s)) i = sq n s (rd W i) := fun i h0 h1 => rd_map h0 h1
  have hsumR : (F.map (rd (W.map (sr n s)))).sum = (W.map (sr n s)).sum := by
    rw [← perm_sum (hF.map (rd (W.map (sr n s))))]
    have := map_idx (W.map (sr n s))
    rw [List.length_map] at this
    rw [this]
  have zero : ∀ a ∈ F.take L, sr n s (rd W a) ≠ 0 := fun a ha hz => by
    have da := hYm a ha
    have hZ : ∀ x ∈ (F.drop L).map (rd (W.map (sr n s))), 0 ≤ x ∧ x ≤ 0 := fun x hx => by
      obtain ⟨b, hb, rfl⟩ := List.mem_map.1 hx
      have db := hFm b (List.mem_of_mem_drop hb)
      have := across a ha b hb
      rw [hr a da.1 da.2, hz, hr b db.1 db.2] at this
      rw [hr b db.1 db.2]
      exact ⟨sr_nonneg hs, this⟩
    have hZs := sum_bd hZ
    have hE : ∀ x ∈ ((F.take L).erase a).map (rd (W.map (sr n s))), 0 ≤ x ∧ x ≤ s := fun x hx => by
      obtain ⟨b, hb, rfl⟩ := List.mem_map.1 hx
      have db := hYm b (List.mem_of_mem_erase hb)
      rw [hr b db.1 db.2]
      exact ⟨sr_nonneg hs, Int.le_of_lt (sr_lt hs)⟩
    have hEs := sum_bd hE
    have hEl : ((F.take L).erase a).length = L - 1 := by rw [List.length_erase_of_mem ha, hYl]
    have hLp : 0 < L := by rw [← hYl]; exact List.length_pos_of_mem ha
    have hY := perm_sum ((List.perm_cons_erase ha).map (rd (W.map (sr n s))))
    rw [List.map_cons, List.sum_cons, hr a da.1 da.2, hz] at hY
    rw [hsplit, List.map_append, sum_app, hY, ← Ls] at hsumR
    rw [List.length_map, hEl] at hEs
    have h3 : s * ((L - 1 : Nat) : Int) = s * L - s := by rw [show ((L - 1 : Nat) : Int) = (L : Int) - 1 by omega, Int.mul_sub, Int.mul_one]
    rw [h3] at hEs
    rw [Int.zero_mul] at hZs
    omega
  have hlen : (incs (W.map (sq n s)) (F.take L)).length = W.length := by rw [incs_len, List.length_map]
  have hval : ∀ i : Int, 0 ≤ i → i < (W.length : Int) → rd (incs (W.map (sq n s)) (F.take L)) i = sq n s (rd W i) + ((F.take L).count i : Int) := fun i h0 h1 => by
    rw [rd_incs _ _ (fun y hy => by rw [List.length_map]; exact hYm y hy) i h0, hq i h0 h1]
  refine ⟨hlen, ?_, fun i h0 h1 => ?_, fun i j hi0 hi1 hj0 hj1 hij => ?_⟩
  · rw [incs_sum _ _ (fun y hy => by rw [List.length_map]; exact hYm y hy), hYl]; omega
  · have hwi := hw _ (rd_mem h0 h1)
    have q0 := sq_nonneg (n := n) hn hs hwi
    have q1 := sq_le hs hns hwi
    have c1 := hc1 i
    rw [hval i h0 h1]
    refine ⟨by omega, ?_⟩
    by_cases c : i ∈ F.take L
    · have hz := zero i c
      have r0 := sr_nonneg (n := n) (w := rd W i) hs
      have e := sq_sr n s (rd W i)
      have : sq n s (rd W i) < rd W i := by
        refine Int.lt_of_mul_lt_mul_left (a := s) ?_ (Int.le_of_lt hs)
        have h4 : n * rd W i ≤ s * rd W i := Int.mul_le_mul_of_nonneg_right hns hwi
        omega
      omega
    · rw [List.count_eq_zero.2 c]; simpa using q1
  · rw [hval i hi0 hi1, hval j hj0 hj1]
    have ei := sq_sr n s (rd W i)
    have ej := sq_sr n s (rd W j)
    have hqq : sq n s (rd W j) ≤ sq n s (rd W i) := Int.ediv_le_ediv hs (Int.mul_le_mul_of_nonneg_left (Int.le_of_lt hij) hn)
    have ci := hc1 i
    have cj := hc1 j
    by_cases c : sq n s (rd W j) = sq n s (rd W i)
    · by_cases m : j ∈ F.take L
      · have hz := zero j m
        have hn0 : 0 < n := by
          rcases Int.lt_or_eq_of_le hn with h | h
          · exact h
          · subst h
            exact absurd (by unfold sr; simp) hz
        have hlt : n * rd W j < n * rd W i := Int.mul_lt_mul_of_pos_left hij hn0
        have mi : i ∈ F.take L := by
          have hiF : i ∈ F := (fe.mem i).1 (mem_idx.2 ⟨hi0, hi1⟩)
          rw [hsplit] at hiF
          rcases List.mem_append.1 hiF with h | h
          · exact h
          · have := across j m i h
            rw [hr i hi0 hi1, hr j hj0 hj1] at this
            rw [c] at ej
            omega
        have := List.count_pos_iff.2 mi
        omega
      · rw [List.count_eq_zero.2 m]; omega
    · omega
/-- With enough for all, all is given. -/
theorem Shares.all {n s : Int} {W P : List Int} (h : Shares n s W P) (hW : W.sum = s) (he : n = s) : ∀ i : Int, 0 ≤ i → i < (W.length : Int) → rd P i = rd W i := by
  have key : ∀ (P W : List Int), P.length = W.length → (∀ i : Int, 0 ≤ i → i < (W.length : Int) → 0 ≤ rd P i ∧ rd P i ≤ rd W i) → P.sum = W.sum → P = W := by
    intro P
    induction P with
    | nil => intro W hl _ _; exact (List.eq_nil_of_length_eq_zero hl.symm).symm
    | cons p P ih =>
      intro W hl hb hsum
      cases W with
      | nil => simp at hl
      | cons w W =>
        have le : ∀ (P W : List Int), P.length = W.length → (∀ i : Int, 0 ≤ i → i < (W.length : Int) → rd P i ≤ rd W i) → P.sum ≤ W.sum := by
          intro P
          induction P with
          | nil => intro W hl _; rw [List.eq_nil_of_length_eq_zero hl.symm]; simp
          | cons p P ih =>
            intro W hl hb
            cases W with
            | nil => simp at hl
            | cons w W =>
              have h0 := hb 0 (by omega) (by simp only [List.length_cons]; omega)
              have h1 := ih W (by simpa using hl) (fun i h0 h1 => by
                have := hb (i + 1) (by omega) (by simp only [List.length_cons]; omega)
                unfold rd at this ⊢
                rw [show (i + 1).toNat = i.toNat + 1 by omega] at this
                simpa using this)
              simp only [List.sum_cons]
              have : p ≤ w := by simpa [rd] using h0
              omega
        have hb' : ∀ i : Int, 0 ≤ i → i < (W.length : Int) → 0 ≤ rd P i ∧ rd P i ≤ rd W i := fun i h0 h1 => by
          have := hb (i + 1) (by omega) (by simp only [List.length_cons]; omega)
          unfold rd at this ⊢
          rw [show (i + 1).toNat = i.toNat + 1 by omega] at this
          simpa using this
        have h0 := hb 0 (by omega) (by simp only [List.length_cons]; omega)
        have h0' : p ≤ w := by simpa [rd] using h0.2
        have hle := le P W (by simpa using hl) (fun i h0 h1 => (hb' i h0 h1).2)
        simp only [List.sum_cons] at hsum
        have hpw : p = w := by omega
        rw [hpw, ih W (by simpa using hl) hb' (by omega)]
  intro i _ _
  rw [key P W h.len h.bd (by rw [h.sum, hW, he])]
end Go.Proofs.Ytbcaaocogphdeaa.Pure
end
