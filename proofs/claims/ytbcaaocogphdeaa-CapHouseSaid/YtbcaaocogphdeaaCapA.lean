import Derived.Test.YtbcaaocogphdeaaPCapx29
import Derived.Test.YtbcaaocogphdeaaPCapx38
import Derived.Test.YtbcaaocogphdeaaPCapx39
import Derived.Test.YtbcaaocogphdeaaCapV
/- Plain lemmas: what cap.split comes to: shares rounded down, and one more for those that stand first in a sorted order of the remainders. -/
section
namespace Go.Proofs.Ytbcaaocogphdeaa.Pure
open Go.RowKit Go.Proofs.Ytbcaaocogphdeaa.PCap Go.Proofs.YtbcaaocogphdeaaW.PrintWords Go.Proofs.YtbcaaocogphdeaaW.PrintLast
set_option linter.unusedVariables false
set_option linter.unusedSimpArgs false

theorem rd_get {l : List Int} {i : Nat} (h : i < l.length) : rd l (i : Int) = l[i] := by
  unfold rd
  rw [Int.toNat_natCast, List.getD_eq_getElem?_getD, List.getElem?_eq_getElem h]
  rfl
def idx (m : Nat) : List Int := (List.range m).map Int.ofNat
theorem idx_len (m : Nat) : (idx m).length = m := by simp [idx]
theorem idx_succ (m : Nat) : idx (m + 1) = idx m ++ [(m : Int)] := by simp [idx, List.range_succ]
theorem mem_idx {m : Nat} {x : Int} : x ∈ idx m ↔ 0 ≤ x ∧ x < (m : Int) := by
  unfold idx
  rw [List.mem_map]
  constructor
  · rintro ⟨a, ha, rfl⟩
    have := List.mem_range.1 ha
    simp only [Int.ofNat_eq_natCast]
    omega
  · intro h
    exact ⟨x.toNat, List.mem_range.2 (by omega), by simp only [Int.ofNat_eq_natCast]; omega⟩
def sq (n s w : Int) : Int := n * w / s
def sr (n s w : Int) : Int := n * w % s
theorem sq_nonneg {n s w : Int} (hn : 0 ≤ n) (hs : 0 < s) (hw : 0 ≤ w) : 0 ≤ sq n s w := Int.ediv_nonneg (Int.mul_nonneg hn hw) (Int.le_of_lt hs)
theorem sq_le {n s w : Int} (hs : 0 < s) (hns : n ≤ s) (hw : 0 ≤ w) : sq n s w ≤ w := by
  have h1 : n * w ≤ s * w := Int.mul_le_mul_of_nonneg_right hns hw
  have h2 := Int.ediv_le_ediv hs h1
  rw [Int.mul_ediv_cancel_left _ (by omega)] at h2
  exact h2
theorem sr_nonneg {n s w : Int} (hs : 0 < s) : 0 ≤ sr n s w := Int.emod_nonneg _ (by omega)
theorem sr_lt {n s w : Int} (hs : 0 < s) : sr n s w < s := Int.emod_lt_of_pos _ hs
theorem sq_sr (n s w : Int) : s * sq n s w + sr n s w = n * w := Int.mul_ediv_add_emod _ _
theorem set_rep {A : List Int} {m : Nat} {v : Int} {i : Int} (hi : i = A.length) : (A ++ List.replicate (m + 1) 0).set i.toNat v = (A ++ [v]) ++ List.replicate m 0 := by
  rw [List.replicate_succ, set_at hi]
  simp
theorem sum_bd {B : Int} : ∀ {l : List Int}, (∀ x ∈ l, 0 ≤ x ∧ x ≤ B) → 0 ≤ l.sum ∧ l.sum ≤ B * l.length
  | [], _ => by simp
  | x :: l, h => by
    have h1 := h x List.mem_cons_self
    have h2 := sum_bd (l := l) (fun y hy => h y (List.mem_cons_of_mem _ hy))
    rw [List.sum_cons, List.length_cons, show ((l.length + 1 : Nat) : Int) = (l.length : Int) + 1 by omega, Int.mul_add, Int.mul_one]
    omega
theorem sum_app : ∀ (l m : List Int), (l ++ m).sum = l.sum + m.sum
  | [], m => by simp
  | x :: l, m => by rw [List.cons_append, List.sum_cons, List.sum_cons, sum_app l m]; omega
/-- What follows the first loop. -/
def splitEnd (W : List Int) (n s : Int) (k : Nat) : Option (List Int) :=
  (slices_SortStableFunc_int_int.f k (idx W.length) (W.map (sr n s))).bind fun t295 => (if 0 ≤ n - (W.map (sq n s)).sum then (if n - (W.map (sq n s)).sum ≤ ((idx W.length).length : Int) then ((some (t295.take (n - (W.map (sq n s)).sum : Int).toNat : List Int)).bind fun y296 => (cap_split.l1 k (W.map (sq n s)) y296 (y296.length : Int) 0)) else (none)) else (none))
theorem split_l0 (n s : Int) (hn : 0 ≤ n) (hs : 0 < s) (hns : n ≤ s) (hsb : s ≤ 4611686018427387904) (res : List Int) : ∀ (W2 W1 : List Int), (W1 ++ W2).length ≤ 200 → (∀ w ∈ W1 ++ W2, 0 ≤ w ∧ w ≤ 1099511627776) →
    (∀ w ∈ W1 ++ W2, Ev (fun k => bits_Div64.f k (n * w / 18446744073709551616) (n * w % 18446744073709551616) s) (sq n s w, sr n s w)) → Ev (splitEnd (W1 ++ W2) n s) res →
    Ev (fun k => cap_split.l0 k n s (W1.map (sq n s) ++ List.replicate W2.length 0) (idx W1.length ++ List.replicate W2.length 0) (n - (W1.map (sq n s)).sum) (W1 ++ W2) ((W1 ++ W2).length : Int) (W1.length : Int) (W1.map (sr n s) ++ List.replicate W2.length 0)) res := by
  intro W2
  induction W2 with
  | nil =>
    intro W1 hl hw hdiv hfin
    simp only [List.append_nil, List.length_nil, List.replicate_zero] at *
    apply Ev.step
    · intro k; rw [cap_split.l0]
    · exact Ev.ite_neg (by omega) hfin
  | cons w W2 ih =>
    intro W1 hl hw hdiv hfin
    have hl' := hl
    simp only [List.length_append, List.length_cons] at hl'
    have e : W1 ++ w :: W2 = (W1 ++ [w]) ++ W2 := by simp
    have dw := hw w (by simp)
    have hq0 := sq_nonneg (n := n) hn hs dw.1
    have hq1 := sq_le hs hns dw.1
    have hr0 := sr_nonneg (n := n) (w := w) hs
    have hr1 := sr_lt (n := n) (w := w) hs
    have hsum : 0 ≤ (W1.map (sq n s)).sum ∧ (W1.map (sq n s)).sum ≤ 1099511627776 * ((W1.map (sq n s)).length : Int) := sum_bd (fun x hx => by
      obtain ⟨y, hy, rfl⟩ := List.mem_map.1 hx
      have d := hw y (by simp [hy])
      exact ⟨sq_nonneg hn hs d.1, Int.le_trans (sq_le hs hns d.1) d.2⟩)
    rw [List.length_map] at hsum
    have hih := ih (W1 ++ [w]) (by rw [← e]; exact hl) (by rw [← e]; exact hw) (by rw [← e]; exact hdiv) (by rw [← e]; exact hfin)
    rw [← e] at hih
    have i1 : idx (W1 ++ [w]).length = idx W1.length ++ [(W1.length : Int)] := by rw [List.length_append, List.length_singleton, idx_succ]
    have i2 : ((W1 ++ [w]).map (sq n s)).sum = (W1.map (sq n s)).sum + sq n s w := by rw [List.map_append, sum_app]; simp
    have i3 : ((W1 ++ [w]).length : Int) = W1.length + 1 := by rw [List.length_append, List.length_singleton]; omega
    rw [i1, i2, i3, List.map_append, List.map_append, List.map_singleton, List.map_singleton] at hih
    have hmul : n * w ≤ 4611686018427387904 * 1099511627776 := by
      have a1 : n * w ≤ 4611686018427387904 * w := Int.mul_le_mul_of_nonneg_right (by omega) dw.1
      omega
    have hmul0 : 0 ≤ n * w := Int.mul_nonneg hn dw.1
    apply Ev.step
    · intro k; rw [cap_split.l0]
    · rw [rd_at (A := W1) (B := W2) (x := w) rfl, Go.IntWalk.u64_in n ⟨by omega, by omega⟩, Go.IntWalk.u64_in w ⟨by omega, by omega⟩, Go.IntWalk.u64_in s ⟨by omega, by omega⟩]
      refine Ev.ite_pos (by simp only [List.length_append, List.length_cons]; omega) (Ev.ite_pos (by omega) (Ev.ite_pos (by simp only [List.length_append, List.length_cons]; omega) ?_))
      refine Ev.bind (a := (n * w / 18446744073709551616, n * w % 18446744073709551616)) (Ev.some_ rfl |> fun h => by unfold bits_Mul64.f; rw [if_pos ⟨hn, by omega, dw.1, by omega⟩]; exact h) ?_
      refine Ev.bind (hdiv w (by simp)) ?_
      simp only
      refine Ev.ite_pos (by simp only [List.length_append, List.length_cons, List.length_map, List.length_replicate]; omega) (Ev.ite_pos (by simp only [List.length_append, List.length_cons, List.length_map, List.length_replicate]; omega) (Ev.ite_pos (by simp only [List.length_append, List.length_cons, List.length_replicate, idx_len]; omega) ?_))
      rw [w64 (a := sq n s w) (by omega) (by omega), w64 (a := n - (W1.map (sq n s)).sum - sq n s w) (by omega) (by omega), w64 (a := (W1.length : Int) + 1) (by omega) (by omega)]
      rw [List.length_cons, set_rep (A := W1.map (sq n s)) (by simp), set_rep (A := W1.map (sr n s)) (by simp), set_rep (A := idx W1.length) (by simp [idx_len]), show n - (W1.map (sq n s)).sum - sq n s w = n - ((W1.map (sq n s)).sum + sq n s w) by omega]
      exact hih
/-- One more for each of these places. -/
def incs (O : List Int) : List Int → List Int
  | [] => O
  | y :: Y => incs (O.set y.toNat (rd O y + 1)) Y
theorem incs_len : ∀ (Y O : List Int), (incs O Y).length = O.length
  | [], O => rfl
  | y :: Y, O => by rw [incs, incs_len Y, List.length_set]
theorem rd_set {O : List Int} {y i : Int} {v : Int} (h0 : 0 ≤ y) (h1 : y < (O.length : Int)) (hi : 0 ≤ i) : rd (O.set y.toNat v) i = if i = y then v else rd O i := by
  unfold rd
  rw [List.getD_eq_getElem?_getD, List.getD_eq_getElem?_getD, List.getElem?_set]
  by_cases c : y.toNat = i.toNat
  · rw [if_pos c, if_pos (by omega), if_pos (by omega)]; rfl
  · rw [if_neg c, if_neg (by omega)]
theorem rd_incs : ∀ (Y O : List Int), (∀ y ∈ Y, 0 ≤ y ∧ y < (O.length : Int)) → ∀ i : Int, 0 ≤ i → rd (incs O Y) i = rd O i + (Y.count i : Int)
  | [], O, _, i, _ => by simp [incs]
  | y :: Y, O, h, i, hi => by
    have d := h y List.mem_cons_self
    rw [incs, rd_incs Y _ (fun z hz => by rw [List.length_set]; exact h z (List.mem_cons_of_mem _ hz)) i hi, rd_set d.1 d.2 hi, List.count_cons]
    by_cases c : i = y
    · subst c; simp; omega
    · rw [if_neg c, if_neg (by simp; exact fun e => c e.symm)]; simp
theorem split_l1 (O0 : List Int) : ∀ (Y1 Y0 O : List Int), O.length = O0.length → (Y0 ++ Y1).length ≤ 200 → (∀ y ∈ Y1, 0 ≤ y ∧ y < (O.length : Int)) → (∀ i : Int, 0 ≤ i → 0 ≤ rd O i ∧ rd O i + Y1.length ≤ 4611686018427387904) →
    Ev (fun k => cap_split.l1 k O (Y0 ++ Y1) ((Y0 ++ Y1).length : Int) (Y0.length : Int)) (incs O Y1) := by
  intro Y1
  induction Y1 with
  | nil =>
    intro Y0 O hO hl hY hB
    apply Ev.step
    · intro k; rw [cap_split.l1]
    · exact Ev.ite_neg (by simp) (Ev.now _)
  | cons y Y1 ih =>
    intro Y0 O hO hl hY hB
    have hl' := hl
    simp only [List.length_append, List.length_cons] at hl'
    have d := hY y List.mem_cons_self
    have b := hB y d.1
    rw [List.length_cons] at b
    have e : Y0 ++ y :: Y1 = (Y0 ++ [y]) ++ Y1 := by simp
    have hih := ih (Y0 ++ [y]) (O.set y.toNat (rd O y + 1)) (by rw [List.length_set]; exact hO) (by rw [← e]; exact hl) (fun z hz => by rw [List.length_set]; exact hY z (List.mem_cons_of_mem _ hz)) (fun i hi => by
      have bi := hB i hi
      rw [List.length_cons] at bi
      rw [rd_set d.1 d.2 hi]
      split <;> omega)
    rw [← e, show ((Y0 ++ [y]).length : Int) = Y0.length + 1 by rw [List.length_append, List.length_singleton]; omega] at hih
    apply Ev.step
    · intro k; rw [cap_split.l1]
    · rw [rd_at (A := Y0) (B := Y1) (x := y) rfl]
      refine Ev.ite_pos (by simp only [List.length_append, List.length_cons]; omega) (Ev.ite_pos (by omega) (Ev.ite_pos (by simp only [List.length_append, List.length_cons]; omega) (Ev.ite_pos d.1 (Ev.ite_pos d.2 ?_))))
      rw [w64 (a := rd O y + 1) (by omega) (by omega), w64 (a := (Y0.length : Int) + 1) (by omega) (by omega)]
      exact hih
/-- What split yields. -/
def IsSplit (n s : Int) (W P : List Int) : Prop := ∃ F, Sd (kD (W.map (sr n s))) F ∧ Fe (kD (W.map (sr n s))) (idx W.length) F ∧ F.length = W.length ∧ P = incs (W.map (sq n s)) (F.take (n - (W.map (sq n s)).sum).toNat)
theorem left_sum (n s : Int) : ∀ (W : List Int), s * (W.map (sq n s)).sum + (W.map (sr n s)).sum = n * W.sum
  | [] => by simp
  | w :: W => by
    rw [List.map_cons, List.map_cons, List.sum_cons, List.sum_cons, List.sum_cons, Int.mul_add, Int.mul_add, ← left_sum n s W, ← sq_sr n s w]
    omega
theorem left_ok {n s : Int} {W : List Int} (hn : 0 ≤ n) (hs : 0 < s) (hW : W.sum = s) (hw : ∀ w ∈ W, 0 ≤ w) : 0 ≤ n - (W.map (sq n s)).sum ∧ n - (W.map (sq n s)).sum ≤ W.length ∧ s * (n - (W.map (sq n s)).sum) = (W.map (sr n s)).sum := by
  have h := left_sum n s W
  rw [hW] at h
  have hr : 0 ≤ (W.map (sr n s)).sum ∧ (W.map (sr n s)).sum ≤ s * ((W.map (sr n s)).length : Int) := sum_bd (fun x hx => by
    obtain ⟨y, hy, rfl⟩ := List.mem_map.1 hx
    exact ⟨sr_nonneg hs, Int.le_of_lt (sr_lt hs)⟩)
  rw [List.length_map] at hr
  have e : s * (n - (W.map (sq n s)).sum) = (W.map (sr n s)).sum := by rw [Int.mul_sub, Int.mul_comm s n]; omega
  refine ⟨?_, ?_, e⟩
  · refine Int.le_of_not_gt fun hc => ?_
    have : s * (n - (W.map (sq n s)).sum) < 0 := Int.mul_neg_of_pos_of_neg hs (by omega)
    omega
  · refine Int.le_of_mul_le_mul_left (a := s) ?_ hs
    rw [e]; exact hr.2
theorem split_ok {n s : Int} {W : List Int} (hn : 0 ≤ n) (hs : 0 < s) (hns : n ≤ s) (hl : W.length ≤ 200) (hW : W.sum = s) (hw : ∀ w ∈ W, 0 ≤ w ∧ w ≤ 1099511627776)
    (hdiv : ∀ w ∈ W, Ev (fun k => bits_Div64.f k (n * w / 18446744073709551616) (n * w % 18446744073709551616) s) (sq n s w, sr n s w)) : ∃ P, Ev (fun k => cap_split.f k n s W) P ∧ IsSplit n s W P := by
  have hsb : s ≤ 4611686018427387904 := by
    have := sum_bd hw
    omega
  obtain ⟨L0, L1, _⟩ := left_ok hn hs hW (fun w h => (hw w h).1)
  obtain ⟨F, e, sd, fe, l⟩ := sort_ok (Rr := W.map (sr n s)) (idx W.length) (by unfold small; rw [idx_len]; omega) (fun x hx => by rw [List.length_map]; exact mem_idx.1 hx)
  rw [idx_len] at l
  have hFm : ∀ y ∈ F, 0 ≤ y ∧ y < (W.length : Int) := fun y hy => mem_idx.1 ((fe.mem y).2 hy)
  have hq : ∀ i : Int, 0 ≤ i → 0 ≤ rd (W.map (sq n s)) i ∧ rd (W.map (sq n s)) i ≤ 1099511627776 := fun i hi => by
    unfold rd
    rw [List.getD_eq_getElem?_getD, List.getElem?_map]
    cases h : W[i.toNat]? with
    | none => simp
    | some w =>
      have d := hw w (List.mem_of_getElem? h)
      exact ⟨sq_nonneg hn hs d.1, Int.le_trans (sq_le hs hns d.1) d.2⟩
  refine ⟨_, ?_, F, sd, fe, l, rfl⟩
  unfold cap_split.f
  have hfin : Ev (splitEnd W n s) (incs (W.map (sq n s)) (F.take (n - (W.map (sq n s)).sum).toNat)) := by
    unfold splitEnd
    refine Ev.bind e ?_
    refine Ev.ite_pos L0 (Ev.ite_pos (by rw [idx_len]; exact L1) ?_)
    refine Ev.bind (Ev.now _) ?_
    have := split_l1 (W.map (sq n s)) (F.take (n - (W.map (sq n s)).sum).toNat) [] (W.map (sq n s)) rfl (by rw [List.nil_append, List.length_take]; omega) (fun y hy => by rw [List.length_map]; exact hFm y (List.mem_of_mem_take hy)) (fun i hi => by
      have := hq i hi
      have : (F.take (n - (W.map (sq n s)).sum).toNat).length ≤ 200 := by rw [List.length_take]; omega
      omega)
    simpa using this
  have := split_l0 n s hn hs hns hsb _ W [] (by simpa using hl) (by simpa using hw) (by simpa using hdiv) (by simpa using hfin)
  simp only [List.nil_append, List.map_nil, List.length_nil, List.sum_nil, Int.sub_zero] at this
  refine Ev.ite_pos (by omega) (Ev.ite_pos (by omega) ?_)
  have e0 : ((W.length : Int) : Int).toNat = W.length := Int.toNat_natCast _
  rw [e0]
  exact this
end Go.Proofs.Ytbcaaocogphdeaa.Pure
end
