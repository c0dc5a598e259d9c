import Derived.Test.YtbcaaocogphdeaaPCapx36
import Derived.Test.YtbcaaocogphdeaaPCapx38
import Derived.Test.YtbcaaocogphdeaaCapT
import Derived.IntWalk
/- Plain lemmas: what a merge in place comes to. -/
section
namespace Go.Proofs.Ytbcaaocogphdeaa.Pure
open Go.RowKit Go.Proofs.Ytbcaaocogphdeaa.PCap Go.Proofs.YtbcaaocogphdeaaW.PrintWords Go.Proofs.YtbcaaocogphdeaaW.PrintLast
set_option linter.unusedVariables false
set_option linter.unusedSimpArgs false
variable {Rr : List Int}

theorem mid_ok {x y : Int} (h0 : 0 ≤ x + y) (h1 : x + y ≤ 9000000000000000000) : wrap64 ((IntKind.u64.wrap (wrap64 (x + y))) / 2) = (x + y) / 2 := by
  rw [w64 (a := x + y) (by omega) (by omega), Go.IntWalk.u64_in _ ⟨by omega, by omega⟩, w64 (by omega) (by omega)]
/-- An element of a part of a row. -/
theorem rd_in {P X Q : List Int} {i : Int} {j : Nat} (h : j < X.length) (hi : i = P.length + j) : rd (P ++ X ++ Q) i = X[j] := by
  subst hi
  unfold rd
  rw [show ((P.length : Int) + (j : Int)).toNat = P.length + j by omega, List.getD_eq_getElem?_getD, List.append_assoc, List.getElem?_append_right (by omega), List.getElem?_append_left (by omega), show P.length + j - P.length = j by omega, List.getElem?_eq_getElem h]
  rfl
theorem getElem_mem' {X : List Int} {j : Nat} (h : j < X.length) : X[j] ∈ X := List.getElem_mem h
/-- The first of the single elements: where it belongs among V. -/
theorem sym_find0 (P V Q : List Int) (x : Int) (hs : small (P ++ [x] ++ V ++ Q)) (hd : dayOk Rr (x :: V)) (a : Int) (ha : a = P.length) (res : Nat → Prop)
    (hres : ∀ s : Nat, s ≤ V.length → (∀ h : 0 < s, ∀ h2 : s - 1 < V.length, (kD Rr) V[s - 1] < (kD Rr) x) → (∀ h : s < V.length, ¬ (kD Rr) V[s] < (kD Rr) x) → Sorts Rr (fun k => slices_symMergeCmpFunc_int.l1 k (P ++ [x] ++ V ++ Q) ((P.length : Int) + 1 + s) a) P (x :: V) Q) :
    ∀ (n i j : Nat), j - i = n → i ≤ j → j ≤ V.length → (∀ h : 0 < i, ∀ h2 : i - 1 < V.length, (kD Rr) V[i - 1] < (kD Rr) x) → (∀ h : j < V.length, ¬ (kD Rr) V[j] < (kD Rr) x) →
    Sorts Rr (fun k => slices_symMergeCmpFunc_int.l0 k (P ++ [x] ++ V ++ Q) a Rr ((P.length : Int) + 1 + i) ((P.length : Int) + 1 + j)) P (x :: V) Q := by
  have hs' := hs
  unfold small at hs'
  simp only [List.length_append, List.length_cons, List.length_nil] at hs'
  have hlen : ((P ++ [x] ++ V ++ Q).length : Int) = P.length + 1 + V.length + Q.length := by simp only [List.length_append, List.length_cons, List.length_nil]; omega
  have ra_ : rd (P ++ [x] ++ V ++ Q) a = x := by
    have := rd_at (A := P) (B := V ++ Q) (x := x) ha
    simpa [List.append_assoc] using this
  have ra := Aside0.mk ra_
  clear ra_
  intro n
  induction n using Nat.strongRecOn with
  | _ n ih =>
    intro i j hn hij hj h1 h2
    by_cases c : i < j
    · have hm := mid_ok (x := (P.length : Int) + 1 + i) (y := (P.length : Int) + 1 + j) (by omega) (by omega)
      obtain ⟨h, hh⟩ : ∃ h : Nat, h = (i + j) / 2 := ⟨_, rfl⟩
      have hmid : ((P.length : Int) + 1 + i + ((P.length : Int) + 1 + j)) / 2 = (P.length : Int) + 1 + h := by omega
      rw [hmid] at hm
      have hhl : h < V.length := by omega
      have rh_ : rd (P ++ [x] ++ V ++ Q) ((P.length : Int) + 1 + h) = V[h] := by
        have := rd_in (P := P ++ [x]) (X := V) (Q := Q) (i := (P.length : Int) + 1 + h) hhl (by simp only [List.length_append, List.length_cons, List.length_nil]; omega)
        exact this
      have rh := Aside0.mk rh_
      clear rh_
      have dh := hd V[h] (List.mem_cons_of_mem _ (getElem_mem' hhl))
      have dx := hd x List.mem_cons_self
      by_cases c2 : (kD Rr) V[h] < (kD Rr) x
      · obtain ⟨F, e, s, f, l⟩ := ih (j - (h + 1)) (by omega) (h + 1) j rfl (by omega) hj (fun _ h2 => by simpa using c2) h2
        refine ⟨F, ?_, s, f, l⟩
        apply Ev.step
        · intro k; rw [slices_symMergeCmpFunc_int.l0]
        · rw [hm, rh.out, ra.out, cmp_ok _ _ dh dx]
          have hcS_ := cS_of dh dx
          refine Ev.ite_pos (by omega) (Ev.ite_pos (by omega) (Ev.ite_pos (by omega) (Ev.ite_pos (by omega) (Ev.ite_pos (by omega) ?_))))
          refine Ev.ite_pos (by omega) ?_
          rw [w64 (a := (P.length : Int) + 1 + h + 1) (by omega) (by omega), show (P.length : Int) + 1 + h + 1 = (P.length : Int) + 1 + ((h + 1 : Nat) : Int) by omega]
          exact e
      · obtain ⟨F, e, s, f, l⟩ := ih (h - i) (by omega) i h rfl (by omega) (by omega) h1 (fun _ => c2)
        refine ⟨F, ?_, s, f, l⟩
        apply Ev.step
        · intro k; rw [slices_symMergeCmpFunc_int.l0]
        · rw [hm, rh.out, ra.out, cmp_ok _ _ dh dx]
          have hcS_ := cS_of dh dx
          refine Ev.ite_pos (by omega) (Ev.ite_pos (by omega) (Ev.ite_pos (by omega) (Ev.ite_pos (by omega) (Ev.ite_pos (by omega) ?_))))
          exact Ev.ite_neg (by omega) e
    · obtain rfl : i = j := by omega
      obtain ⟨F, e, s, f, l⟩ := hres i hj h1 h2
      refine ⟨F, ?_, s, f, l⟩
      apply Ev.step
      · intro k; rw [slices_symMergeCmpFunc_int.l0]
      · exact Ev.ite_neg (by omega) e
/-- It is brought there. -/
theorem sym_move1 (P V2 Q : List Int) (x : Int) (e0 : Int) : ∀ (V1 V0 : List Int) (i : Int), small (P ++ V0 ++ [x] ++ V1 ++ V2 ++ Q) → i = P.length + V0.length → e0 = P.length + V0.length + 1 + V1.length →
    Ev (fun k => slices_symMergeCmpFunc_int.l1 k (P ++ V0 ++ [x] ++ V1 ++ V2 ++ Q) e0 i) (P ++ (V0 ++ V1 ++ [x] ++ V2) ++ Q) := by
  intro V1
  induction V1 with
  | nil =>
    intro V0 i hs hi he
    unfold small at hs
    simp only [List.length_append, List.length_cons, List.length_nil] at hs he
    apply Ev.step
    · intro k; rw [slices_symMergeCmpFunc_int.l1]
    · rw [w64 (a := e0 - 1) (by omega) (by omega)]
      refine Ev.ite_neg (by omega) (Ev.some_ (by simp [List.append_assoc]))
  | cons v V1 ih =>
    intro V0 i hs hi he
    have hs' := hs
    unfold small at hs'
    simp only [List.length_append, List.length_cons, List.length_nil] at hs' he
    have e1 : P ++ V0 ++ [x] ++ (v :: V1) ++ V2 ++ Q = (P ++ V0) ++ x :: (v :: V1 ++ V2 ++ Q) := by simp [List.append_assoc]
    have e2 : P ++ V0 ++ [x] ++ (v :: V1) ++ V2 ++ Q = (P ++ V0 ++ [x]) ++ v :: (V1 ++ V2 ++ Q) := by simp [List.append_assoc]
    have r1_ : rd (P ++ V0 ++ [x] ++ (v :: V1) ++ V2 ++ Q) i = x := by rw [e1]; exact rd_at (by simp only [List.length_append]; omega)
    have r1 := Aside0.mk r1_
    clear r1_
    have r2_ : rd (P ++ V0 ++ [x] ++ (v :: V1) ++ V2 ++ Q) (i + 1) = v := by rw [e2]; exact rd_at (by simp only [List.length_append, List.length_cons, List.length_nil]; omega)
    have r2 := Aside0.mk r2_
    clear r2_
    have hlen : ((P ++ V0 ++ [x] ++ (v :: V1) ++ V2 ++ Q).length : Int) = P.length + V0.length + 1 + (V1.length + 1) + V2.length + Q.length := by simp only [List.length_append, List.length_cons, List.length_nil]; omega
    have e3 : ((P ++ V0 ++ [x] ++ (v :: V1) ++ V2 ++ Q).set i.toNat v).set (i + 1).toNat x = P ++ (V0 ++ [v]) ++ [x] ++ V1 ++ V2 ++ Q := by
      rw [e1, set_at (by simp only [List.length_append]; omega), show (P ++ V0) ++ v :: (v :: V1 ++ V2 ++ Q) = (P ++ V0 ++ [v]) ++ v :: (V1 ++ V2 ++ Q) by simp [List.append_assoc], set_at (by simp only [List.length_append, List.length_cons, List.length_nil]; omega)]
      simp [List.append_assoc]
    have := ih (V0 ++ [v]) (i + 1) (by unfold small; simp only [List.length_append, List.length_cons, List.length_nil]; omega) (by simp only [List.length_append, List.length_cons, List.length_nil]; omega) (by simp only [List.length_append, List.length_cons, List.length_nil]; omega)
    rw [show P ++ (V0 ++ (v :: V1) ++ [x] ++ V2) ++ Q = P ++ (V0 ++ [v] ++ V1 ++ [x] ++ V2) ++ Q by simp [List.append_assoc]]
    apply Ev.step
    · intro k; rw [slices_symMergeCmpFunc_int.l1]
    · rw [w64 (a := e0 - 1) (by omega) (by omega), w64 (a := i + 1) (by omega) (by omega), r1.out, r2.out]
      refine Ev.ite_pos (by omega) (Ev.ite_pos (by omega) (Ev.ite_pos (by omega) (Ev.ite_pos (by omega) (Ev.ite_pos (by omega) ?_))))
      have hh : Ev (fun k => slices_symMergeCmpFunc_int.l1 k (((P ++ V0 ++ [x] ++ (v :: V1) ++ V2 ++ Q).set i.toNat v).set (i + 1).toNat x) e0 (i + 1)) (P ++ (V0 ++ [v] ++ V1 ++ [x] ++ V2) ++ Q) := by rw [e3]; exact this
      exact hh
theorem sym_one0 (P V Q : List Int) (x : Int) (a m b : Int) (hs : small (P ++ [x] ++ V ++ Q)) (hd : dayOk Rr (x :: V)) (hV : Sd (kD Rr) V) (ha : a = P.length) (hm : m = P.length + 1) (hb : b = P.length + 1 + V.length) :
    Sorts Rr (fun k => slices_symMergeCmpFunc_int.l0 k (P ++ [x] ++ V ++ Q) a Rr m b) P (x :: V) Q := by
  have hs' := hs
  unfold small at hs'
  simp only [List.length_append, List.length_cons, List.length_nil] at hs'
  have := sym_find0 (Rr := Rr) P V Q x hs hd a ha (fun _ => True) (by
    intro s hs1 h1 h2
    obtain ⟨V1, V2, rfl, hl⟩ : ∃ V1 V2, V = V1 ++ V2 ∧ V1.length = s := ⟨V.take s, V.drop s, (List.take_append_drop _ _).symm, by rw [List.length_take]; omega⟩
    have hlt : ∀ y ∈ V1, (kD Rr) y < (kD Rr) x := by
      intro y hy
      obtain ⟨q, hq, rfl⟩ := List.getElem_of_mem hy
      have hl1 := h1 (by omega) (by simp only [List.length_append]; omega)
      rw [List.getElem_append_left (by omega)] at hl1
      rcases Nat.lt_or_ge q (s - 1) with c | c
      · have := List.pairwise_iff_getElem.1 hV.left q (s - 1) hq (by omega) c
        omega
      · have : q = s - 1 := by omega
        subst this; exact hl1
    have hge : ∀ y ∈ V2, (kD Rr) x ≤ (kD Rr) y := by
      intro y hy
      obtain ⟨q, hq, rfl⟩ := List.getElem_of_mem hy
      have hl2 := h2 (by simp only [List.length_append]; omega)
      rw [List.getElem_append_right (by omega)] at hl2
      simp only [hl, Nat.sub_self] at hl2
      rcases Nat.eq_zero_or_pos q with c | c
      · subst c; omega
      · have := List.pairwise_iff_getElem.1 hV.right 0 q (by omega) hq c
        omega
    refine ⟨V1 ++ [x] ++ V2, ?_, ?_, ?_, by simp only [List.length_append, List.length_cons, List.length_nil]; omega⟩
    · have := sym_move1 P V2 Q x ((P.length : Int) + 1 + s) V1 [] a (by simpa [List.append_assoc] using hs) (by simp; omega) (by simp; omega)
      simpa [List.append_assoc] using this
    · refine Sd.append (Sd.append hV.left (List.pairwise_singleton _ _) (fun y hy z hz => by rw [List.mem_singleton.1 hz]; exact Int.le_of_lt (hlt y hy))) hV.right ?_
      intro y hy z hz
      rcases List.mem_append.1 hy with hy | hy
      · exact hV.across y hy z hz
      · rw [List.mem_singleton.1 hy]; exact hge z hz
    · have : Fe (kD Rr) ([x] ++ V1) (V1 ++ [x]) := Fe.swap (fun u hu y hy => by rw [List.mem_singleton.1 hu]; exact hlt y hy)
      have := this.right V2
      simpa [List.append_assoc] using this) V.length 0 V.length (by omega) (by omega) (Nat.le_refl _) (fun h => absurd h (by omega)) (fun h => absurd h (by omega))
  rw [hm, hb]
  simpa using this
/-- The last of the single elements: where it belongs among U. -/
theorem sym_find2 (P U Q : List Int) (y : Int) (hs : small (P ++ U ++ [y] ++ Q)) (hd : dayOk Rr (U ++ [y])) (m : Int) (hm : m = P.length + U.length)
    (hres : ∀ s : Nat, s ≤ U.length → (∀ h : 0 < s, ∀ h2 : s - 1 < U.length, (kD Rr) U[s - 1] ≤ (kD Rr) y) → (∀ h : s < U.length, (kD Rr) y < (kD Rr) U[s]) → Sorts Rr (fun k => slices_symMergeCmpFunc_int.l3 k (P ++ U ++ [y] ++ Q) ((P.length : Int) + s) m) P (U ++ [y]) Q) :
    ∀ (n i j : Nat), j - i = n → i ≤ j → j ≤ U.length → (∀ h : 0 < i, ∀ h2 : i - 1 < U.length, (kD Rr) U[i - 1] ≤ (kD Rr) y) → (∀ h : j < U.length, (kD Rr) y < (kD Rr) U[j]) →
    Sorts Rr (fun k => slices_symMergeCmpFunc_int.l2 k (P ++ U ++ [y] ++ Q) m Rr ((P.length : Int) + i) ((P.length : Int) + j)) P (U ++ [y]) Q := by
  have hs' := hs
  unfold small at hs'
  simp only [List.length_append, List.length_cons, List.length_nil] at hs'
  have hlen : ((P ++ U ++ [y] ++ Q).length : Int) = P.length + U.length + 1 + Q.length := by simp only [List.length_append, List.length_cons, List.length_nil]; omega
  have ra_ : rd (P ++ U ++ [y] ++ Q) m = y := by
    have := rd_at (A := P ++ U) (B := Q) (x := y) (i := m) (by simp only [List.length_append]; omega)
    simpa [List.append_assoc] using this
  have ra := Aside0.mk ra_
  clear ra_
  intro n
  induction n using Nat.strongRecOn with
  | _ n ih =>
    intro i j hn hij hj h1 h2
    by_cases c : i < j
    · have hmm := mid_ok (x := (P.length : Int) + i) (y := (P.length : Int) + j) (by omega) (by omega)
      obtain ⟨h, hh⟩ : ∃ h : Nat, h = (i + j) / 2 := ⟨_, rfl⟩
      have hmid : ((P.length : Int) + i + ((P.length : Int) + j)) / 2 = (P.length : Int) + h := by omega
      rw [hmid] at hmm
      have hhl : h < U.length := by omega
      have rh_ : rd (P ++ U ++ [y] ++ Q) ((P.length : Int) + h) = U[h] := by
        have := rd_in (P := P) (X := U) (Q := [y] ++ Q) (i := (P.length : Int) + h) hhl rfl
        rw [← List.append_assoc] at this
        exact this
      have rh := Aside0.mk rh_
      clear rh_
      have dh := hd U[h] (List.mem_append_left _ (getElem_mem' hhl))
      have dy := hd y (by simp)
      by_cases c2 : (kD Rr) y < (kD Rr) U[h]
      · obtain ⟨F, e, s, f, l⟩ := ih (h - i) (by omega) i h rfl (by omega) (by omega) h1 (fun _ => c2)
        refine ⟨F, ?_, s, f, l⟩
        apply Ev.step
        · intro k; rw [slices_symMergeCmpFunc_int.l2]
        · rw [hmm, rh.out, ra.out, cmp_ok _ _ dy dh]
          have hcS_ := cS_of dy dh
          refine Ev.ite_pos (by omega) (Ev.ite_pos (by omega) (Ev.ite_pos (by omega) (Ev.ite_pos (by omega) (Ev.ite_pos (by omega) ?_))))
          exact Ev.ite_pos (by omega) e
      · obtain ⟨F, e, s, f, l⟩ := ih (j - (h + 1)) (by omega) (h + 1) j rfl (by omega) hj (fun _ h2 => by simpa using (show (kD Rr) U[h] ≤ (kD Rr) y by omega)) h2
        refine ⟨F, ?_, s, f, l⟩
        apply Ev.step
        · intro k; rw [slices_symMergeCmpFunc_int.l2]
        · rw [hmm, rh.out, ra.out, cmp_ok _ _ dy dh]
          have hcS_ := cS_of dy dh
          refine Ev.ite_pos (by omega) (Ev.ite_pos (by omega) (Ev.ite_pos (by omega) (Ev.ite_pos (by omega) (Ev.ite_pos (by omega) ?_))))
          refine Ev.ite_neg (by omega) ?_
          rw [w64 (a := (P.length : Int) + h + 1) (by omega) (by omega), show (P.length : Int) + h + 1 = (P.length : Int) + ((h + 1 : Nat) : Int) by omega]
          exact e
    · obtain rfl : i = j := by omega
      obtain ⟨F, e, s, f, l⟩ := hres i hj h1 h2
      refine ⟨F, ?_, s, f, l⟩
      apply Ev.step
      · intro k; rw [slices_symMergeCmpFunc_int.l2]
      · exact Ev.ite_neg (by omega) e
theorem sym_move3 (P U1 Q : List Int) (y : Int) (s0 : Int) (hs0 : s0 = P.length + U1.length) : ∀ (n : Nat) (U2 U3 : List Int) (i : Int), U2.length = n → small (P ++ U1 ++ U2 ++ [y] ++ U3 ++ Q) → i = P.length + U1.length + U2.length →
    Ev (fun k => slices_symMergeCmpFunc_int.l3 k (P ++ U1 ++ U2 ++ [y] ++ U3 ++ Q) s0 i) (P ++ (U1 ++ [y] ++ U2 ++ U3) ++ Q) := by
  intro n
  induction n with
  | zero =>
    intro U2 U3 i hn hs hi
    obtain rfl : U2 = [] := List.eq_nil_of_length_eq_zero hn
    simp only [List.length_nil] at hi
    apply Ev.step
    · intro k; rw [slices_symMergeCmpFunc_int.l3]
    · exact Ev.ite_neg (by omega) (Ev.some_ (by simp [List.append_assoc]))
  | succ n ih =>
    intro U2 U3 i hn hs hi
    obtain ⟨X, x, rfl⟩ : ∃ X x, U2 = X ++ [x] := ⟨U2.dropLast, U2.getLast (by intro h; rw [h] at hn; simp at hn), (List.dropLast_concat_getLast _).symm⟩
    have hs' := hs
    unfold small at hs'
    simp only [List.length_append, List.length_cons, List.length_nil] at hs' hi hn
    have e1 : P ++ U1 ++ (X ++ [x]) ++ [y] ++ U3 ++ Q = (P ++ U1 ++ X ++ [x]) ++ y :: (U3 ++ Q) := by simp [List.append_assoc]
    have e2 : P ++ U1 ++ (X ++ [x]) ++ [y] ++ U3 ++ Q = (P ++ U1 ++ X) ++ x :: (y :: U3 ++ Q) := by simp [List.append_assoc]
    have r1_ : rd (P ++ U1 ++ (X ++ [x]) ++ [y] ++ U3 ++ Q) i = y := by rw [e1]; exact rd_at (by simp only [List.length_append, List.length_cons, List.length_nil]; omega)
    have r1 := Aside0.mk r1_
    clear r1_
    have r2_ : rd (P ++ U1 ++ (X ++ [x]) ++ [y] ++ U3 ++ Q) (i - 1) = x := by rw [e2]; exact rd_at (by simp only [List.length_append]; omega)
    have r2 := Aside0.mk r2_
    clear r2_
    have hlen : ((P ++ U1 ++ (X ++ [x]) ++ [y] ++ U3 ++ Q).length : Int) = P.length + U1.length + (X.length + 1) + 1 + U3.length + Q.length := by simp only [List.length_append, List.length_cons, List.length_nil]; omega
    have e3 : ((P ++ U1 ++ (X ++ [x]) ++ [y] ++ U3 ++ Q).set i.toNat x).set (i - 1).toNat y = P ++ U1 ++ X ++ [y] ++ ([x] ++ U3) ++ Q := by
      rw [e1, set_at (by simp only [List.length_append, List.length_cons, List.length_nil]; omega), show (P ++ U1 ++ X ++ [x]) ++ x :: (U3 ++ Q) = (P ++ U1 ++ X) ++ x :: (x :: U3 ++ Q) by simp [List.append_assoc], set_at (by simp only [List.length_append]; omega)]
      simp [List.append_assoc]
    have := ih X ([x] ++ U3) (i - 1) (by omega) (by unfold small; simp only [List.length_append, List.length_cons, List.length_nil]; omega) (by omega)
    rw [show P ++ (U1 ++ [y] ++ (X ++ [x]) ++ U3) ++ Q = P ++ (U1 ++ [y] ++ X ++ ([x] ++ U3)) ++ Q by simp [List.append_assoc]]
    apply Ev.step
    · intro k; rw [slices_symMergeCmpFunc_int.l3]
    · rw [w64 (a := i - 1) (by omega) (by omega), r1.out, r2.out]
      refine Ev.ite_pos (by omega) (Ev.ite_pos (by omega) (Ev.ite_pos (by omega) (Ev.ite_pos (by omega) (Ev.ite_pos (by omega) ?_))))
      have hh : Ev (fun k => slices_symMergeCmpFunc_int.l3 k (((P ++ U1 ++ (X ++ [x]) ++ [y] ++ U3 ++ Q).set i.toNat x).set (i - 1).toNat y) s0 (i - 1)) (P ++ (U1 ++ [y] ++ X ++ ([x] ++ U3)) ++ Q) := by rw [e3]; exact this
      exact hh
theorem sym_one2 (P U Q : List Int) (y : Int) (a m : Int) (hs : small (P ++ U ++ [y] ++ Q)) (hd : dayOk Rr (U ++ [y])) (hU : Sd (kD Rr) U) (ha : a = P.length) (hm : m = P.length + U.length) :
    Sorts Rr (fun k => slices_symMergeCmpFunc_int.l2 k (P ++ U ++ [y] ++ Q) m Rr a m) P (U ++ [y]) Q := by
  have hs' := hs
  unfold small at hs'
  simp only [List.length_append, List.length_cons, List.length_nil] at hs'
  have := sym_find2 (Rr := Rr) P U Q y hs hd m hm (by
    intro s hs1 h1 h2
    obtain ⟨U1, U2, rfl, hl⟩ : ∃ U1 U2, U = U1 ++ U2 ∧ U1.length = s := ⟨U.take s, U.drop s, (List.take_append_drop _ _).symm, by rw [List.length_take]; omega⟩
    have hle : ∀ x ∈ U1, (kD Rr) x ≤ (kD Rr) y := by
      intro x hx
      obtain ⟨q, hq, rfl⟩ := List.getElem_of_mem hx
      have hl1 := h1 (by omega) (by simp only [List.length_append]; omega)
      rw [List.getElem_append_left (by omega)] at hl1
      rcases Nat.lt_or_ge q (s - 1) with c | c
      · have := List.pairwise_iff_getElem.1 hU.left q (s - 1) hq (by omega) c
        omega
      · have : q = s - 1 := by omega
        subst this; exact hl1
    have hgt : ∀ x ∈ U2, (kD Rr) y < (kD Rr) x := by
      intro x hx
      obtain ⟨q, hq, rfl⟩ := List.getElem_of_mem hx
      have hl2 := h2 (by simp only [List.length_append]; omega)
      rw [List.getElem_append_right (by omega)] at hl2
      simp only [hl, Nat.sub_self] at hl2
      rcases Nat.eq_zero_or_pos q with c | c
      · subst c; exact hl2
      · have := List.pairwise_iff_getElem.1 hU.right 0 q (by omega) hq c
        omega
    refine ⟨U1 ++ [y] ++ U2, ?_, ?_, ?_, by simp only [List.length_append, List.length_cons, List.length_nil]; omega⟩
    · have := sym_move3 P U1 Q y ((P.length : Int) + s) (by omega) U2.length U2 [] m rfl (by simpa [List.append_assoc] using hs) (by simp only [List.length_append] at hm; omega)
      simpa [List.append_assoc] using this
    · refine Sd.append (Sd.append hU.left (List.pairwise_singleton _ _) (fun x hx z hz => by rw [List.mem_singleton.1 hz]; exact hle x hx)) hU.right ?_
      intro x hx z hz
      rcases List.mem_append.1 hx with hx | hx
      · exact hU.across x hx z hz
      · rw [List.mem_singleton.1 hx]; exact Int.le_of_lt (hgt z hz)
    · have : Fe (kD Rr) (U2 ++ [y]) ([y] ++ U2) := Fe.swap (fun u hu z hz => by rw [List.mem_singleton.1 hz]; exact hgt u hu)
      have := this.left U1
      simpa [List.append_assoc] using this) U.length 0 U.length (by omega) (by omega) (Nat.le_refl _) (fun h => absurd h (by omega)) (fun h => absurd h (by omega))
  rw [ha]
  rw [hm] at this ⊢
  simpa using this
end Go.Proofs.Ytbcaaocogphdeaa.Pure
end

/- Plain lemmas: the merge in place, and the stable sort as a whole. -/
section
namespace Go.Proofs.Ytbcaaocogphdeaa.Pure
open Go.RowKit Go.Proofs.Ytbcaaocogphdeaa.PCap Go.Proofs.YtbcaaocogphdeaaW.PrintWords Go.Proofs.YtbcaaocogphdeaaW.PrintLast
set_option linter.unusedVariables false
set_option linter.unusedSimpArgs false
variable {Rr : List Int}

theorem Sorts.bind {g : Nat → Option (List Int)} {P X Q : List Int} {f : Nat → List Int → Option (List Int)} {P2 X2 Q2 : List Int} (h : Sorts Rr g P X Q) (hk : ∀ F, Sd (kD Rr) F → Fe (kD Rr) X F → F.length = X.length → Sorts Rr (fun k => f k (P ++ F ++ Q)) P2 X2 Q2) : Sorts Rr (fun k => (g k).bind (f k)) P2 X2 Q2 := by
  obtain ⟨F, e, s, fe, l⟩ := h
  obtain ⟨F2, e2, s2, fe2, l2⟩ := hk F s fe l
  exact ⟨F2, Ev.bind e e2, s2, fe2, l2⟩
/-- The search for where the two halves are parted. -/
theorem sym_search (P U V Q : List Int) (d i0 j0 : Nat) (a m b mid n p : Int) (hs : small (P ++ U ++ V ++ Q)) (hd : dayOk Rr (U ++ V)) (hi0 : d ≤ i0 + V.length) (hj1 : j0 ≤ d) (hj2 : j0 ≤ U.length) (hp : p = (P.length : Int) + d + P.length + U.length - 1) (res : List Int)
    (hres : ∀ s : Nat, i0 ≤ s → s ≤ j0 → (∀ (_ : i0 < s) (h1 : s - 1 < U.length) (h2 : d - s < V.length), (kD Rr) U[s - 1] ≤ (kD Rr) V[d - s]) → (∀ (_ : s < j0) (h1 : s < U.length) (h2 : d - 1 - s < V.length), (kD Rr) V[d - 1 - s] < (kD Rr) U[s]) →
      Sorts Rr (fun k => if (P.length : Int) + s < m then (slices_symMergeCmpFunc_int.j6 k (P ++ U ++ V ++ Q) a m b Rr mid ((P.length : Int) + s) (wrap64 (n - ((P.length : Int) + s))) (decide (m < (wrap64 (n - ((P.length : Int) + s)))))) else (slices_symMergeCmpFunc_int.j6 k (P ++ U ++ V ++ Q) a m b Rr mid ((P.length : Int) + s) (wrap64 (n - ((P.length : Int) + s))) false)) P res Q) :
    ∀ (t i j : Nat), j - i = t → i0 ≤ i → i ≤ j → j ≤ j0 → (∀ (_ : i0 < i) (h1 : i - 1 < U.length) (h2 : d - i < V.length), (kD Rr) U[i - 1] ≤ (kD Rr) V[d - i]) → (∀ (_ : j < j0) (h1 : j < U.length) (h2 : d - 1 - j < V.length), (kD Rr) V[d - 1 - j] < (kD Rr) U[j]) →
    Sorts Rr (fun k => slices_symMergeCmpFunc_int.l4 k (P ++ U ++ V ++ Q) a m b Rr mid n ((P.length : Int) + i) ((P.length : Int) + j) p) P res Q := by
  have hs' := hs
  unfold small at hs'
  simp only [List.length_append] at hs'
  have hlen : ((P ++ U ++ V ++ Q).length : Int) = P.length + U.length + V.length + Q.length := by simp only [List.length_append]; omega
  intro t
  induction t using Nat.strongRecOn with
  | _ t ih =>
    intro i j ht hi hij hj h1 h2
    by_cases c : i < j
    · obtain ⟨h, hh⟩ : ∃ h : Nat, h = (i + j) / 2 := ⟨_, rfl⟩
      have hhu : h < U.length := by omega
      have hhd : h < d := by omega
      have hhv : d - 1 - h < V.length := by omega
      have hih : i ≤ h := by omega
      have hhj : h < j := by omega
      have hmid : ((P.length : Int) + i + ((P.length : Int) + j)) / 2 = (P.length : Int) + h := by omega
      have m1 : 0 ≤ (P.length : Int) + i + ((P.length : Int) + j) := by omega
      have m2 : (P.length : Int) + i + ((P.length : Int) + j) ≤ 9000000000000000000 := by omega
      clear hh
      have ru_ : rd (P ++ U ++ V ++ Q) ((P.length : Int) + h) = U[h] := by
        have := rd_in (P := P) (X := U) (Q := V ++ Q) (i := (P.length : Int) + h) hhu rfl
        rw [← List.append_assoc] at this
        exact this
      have ru := Aside0.mk ru_
      clear ru_
      have z0 : p - ((P.length : Int) + h) = ((P ++ U).length : Int) + ((d - 1 - h : Nat) : Int) := by rw [List.length_append]; omega
      have rv_ : rd (P ++ U ++ V ++ Q) (p - ((P.length : Int) + h)) = V[d - 1 - h] := rd_in (P := P ++ U) (X := V) (Q := Q) hhv z0
      have rv := Aside0.mk rv_
      clear rv_
      have q1 : (P.length : Int) + i < (P.length : Int) + j := by omega
      have q2 : 0 ≤ p - ((P.length : Int) + h) := by omega
      have q3 : p - ((P.length : Int) + h) < ((P ++ U ++ V ++ Q).length : Int) := by rw [hlen]; omega
      have q4 : 0 ≤ (P.length : Int) + h := by omega
      have q5 : (P.length : Int) + h < ((P ++ U ++ V ++ Q).length : Int) := by rw [hlen]; omega
      have b1 : p - ((P.length : Int) + h) ≤ 9223372036854775807 := by omega
      have b2 : (P.length : Int) + h + 1 ≤ 9223372036854775807 := by omega
      have t1 : h - i < t := by omega
      have t2 : j - (h + 1) < t := by omega
      have t3 : h ≤ j0 := by omega
      have t4 : i0 ≤ h + 1 := by omega
      have t5 : h + 1 ≤ j := by omega
      have t6 : d - (h + 1) = d - 1 - h := by omega
      have t7 : (P.length : Int) + h + 1 = (P.length : Int) + ((h + 1 : Nat) : Int) := by omega
      clear hlen hs' hp ht c z0
      have du := hd U[h] (List.mem_append_left _ (getElem_mem' hhu))
      have dv := hd V[d - 1 - h] (List.mem_append_right _ (getElem_mem' hhv))
      have hw1 : wrap64 (p - ((P.length : Int) + h)) = p - ((P.length : Int) + h) := w64 (Int.le_trans (by decide) q2) b1
      have hw2 : wrap64 ((P.length : Int) + h + 1) = (P.length : Int) + ((h + 1 : Nat) : Int) := (w64 (Int.le_trans (by decide) (Int.le_trans q4 (Int.le_add_one (Int.le_refl _)))) b2).trans t7
      have hmm : wrap64 ((IntKind.u64.wrap (wrap64 ((P.length : Int) + i + ((P.length : Int) + j)))) / 2) = (P.length : Int) + h := (mid_ok m1 m2).trans hmid
      by_cases c2 : (kD Rr) V[d - 1 - h] < (kD Rr) U[h]
      · have c3 : (kD Rr) V[d - 1 - h] - (kD Rr) U[h] < 0 := Int.sub_neg_of_lt c2
        obtain ⟨F, e, s, f, l⟩ := ih (h - i) t1 i h rfl hi hih t3 h1 (fun _ _ _ => c2)
        refine ⟨F, ?_, s, f, l⟩
        apply Ev.step
        · intro k; rw [slices_symMergeCmpFunc_int.l4]
        · rw [hmm, hw1, ru.out, rv.out, cmp_ok _ _ dv du]
          have hcS_ := cS_of dv du
          refine Ev.ite_pos q1 (Ev.ite_pos q2 (Ev.ite_pos q3 (Ev.ite_pos q4 (Ev.ite_pos q5 ?_))))
          exact Ev.ite_pos (hcS_.2 (by omega)) e
      · have c3 : ¬ (kD Rr) V[d - 1 - h] - (kD Rr) U[h] < 0 := fun h_ => c2 (Int.lt_of_sub_neg h_)
        obtain ⟨F, e, s, f, l⟩ := ih (j - (h + 1)) t2 (h + 1) j rfl t4 t5 hj (fun _ g1 g2 => by
          simp only [Nat.add_sub_cancel, t6]
          exact Int.not_lt.1 c2) h2
        refine ⟨F, ?_, s, f, l⟩
        apply Ev.step
        · intro k; rw [slices_symMergeCmpFunc_int.l4]
        · rw [hmm, hw1, ru.out, rv.out, cmp_ok _ _ dv du, hw2]
          have hcS_ := cS_of dv du
          refine Ev.ite_pos q1 (Ev.ite_pos q2 (Ev.ite_pos q3 (Ev.ite_pos q4 (Ev.ite_pos q5 ?_))))
          exact Ev.ite_neg (fun z_ => c3 (by have := hcS_.1 z_; omega)) e
    · obtain rfl : i = j := by omega
      obtain ⟨F, e, s, f, l⟩ := hres i hi hj h1 h2
      refine ⟨F, ?_, s, f, l⟩
      apply Ev.step
      · intro k; rw [slices_symMergeCmpFunc_int.l4]
      · exact Ev.ite_neg (by omega) e
theorem Fe.app_len {l m : List Int} (h : l.length = m.length) : ((l.length : Nat) : Int) = m.length := by rw [h]
set_option maxHeartbeats 4000000 in
theorem sym_ok : ∀ (t : Nat) (P U V Q : List Int) (a m b : Int), U.length + V.length ≤ t → 0 < U.length → 0 < V.length → small (P ++ U ++ V ++ Q) → Sd (kD Rr) U → Sd (kD Rr) V → dayOk Rr (U ++ V) → a = P.length → m = P.length + U.length → b = P.length + U.length + V.length →
    Sorts Rr (fun k => slices_symMergeCmpFunc_int.f k (P ++ U ++ V ++ Q) a m b Rr) P (U ++ V) Q := by
  intro t
  induction t with
  | zero => intro P U V Q a m b h h1; omega
  | succ t ih =>
    intro P U V Q a m b ht hu hv hs sU sV hd ha hm hb
    have hs' := hs
    unfold small at hs'
    simp only [List.length_append] at hs'
    obtain ⟨d, hdd⟩ : ∃ d : Nat, d = (U.length + V.length) / 2 := ⟨_, rfl⟩
    have hmid := Aside0.mk ((mid_ok (x := a) (y := b) (by omega) (by omega)).trans (show (a + b) / 2 = (P.length : Int) + d by omega))
    by_cases c1 : U.length = 1
    · obtain ⟨x, rfl⟩ := List.length_eq_one_iff.1 c1
      obtain ⟨F, e, s, f, l⟩ := sym_one0 (Rr := Rr) P V Q x a m b hs hd sV ha (by simpa using hm) (by simpa using hb)
      refine ⟨F, ?_, s, f, l⟩
      apply Ev.step
      · intro k; rw [slices_symMergeCmpFunc_int.f]
      · rw [w64 (a := m - a) (by omega) (by omega)]
        exact Ev.ite_pos (by omega) e
    by_cases c2 : V.length = 1
    · obtain ⟨y, rfl⟩ := List.length_eq_one_iff.1 c2
      obtain ⟨F, e, s, f, l⟩ := sym_one2 (Rr := Rr) P U Q y a m hs hd sU ha hm
      refine ⟨F, ?_, s, f, l⟩
      apply Ev.step
      · intro k; rw [slices_symMergeCmpFunc_int.f]
      · rw [w64 (a := m - a) (by omega) (by omega), w64 (a := b - m) (by omega) (by omega)]
        exact Ev.ite_neg (by omega) (Ev.ite_pos (by omega) e)
    -- the right half, behind the left one
    have right : ∀ (P1 A2 B2 : List Int) (e0 : Int), P1.length = P.length + d → A2.length + B2.length = U.length + V.length - d → Sd (kD Rr) A2 → Sd (kD Rr) B2 → dayOk Rr (A2 ++ B2) → e0 = P1.length + A2.length → b = P1.length + A2.length + B2.length →
        Sorts Rr (fun k => if (P.length : Int) + d < e0 then (if e0 < b then ((slices_symMergeCmpFunc_int.f k (P1 ++ A2 ++ B2 ++ Q) ((P.length : Int) + d) e0 b Rr).bind fun t307 => (some t307)) else (some (P1 ++ A2 ++ B2 ++ Q))) else (some (P1 ++ A2 ++ B2 ++ Q))) P1 (A2 ++ B2) Q := by
      intro P1 A2 B2 e0 hp1 hl sA sB dA he hb2
      by_cases c : 0 < A2.length
      · by_cases c' : 0 < B2.length
        · obtain ⟨F, e, s, f, l⟩ := ih P1 A2 B2 Q ((P.length : Int) + d) e0 b (by omega) c c' (by unfold small; simp only [List.length_append]; omega) sA sB dA (by omega) he hb2
          exact ⟨F, Ev.ite_pos (by omega) (Ev.ite_pos (by omega) (Ev.bind e (Ev.now _))), s, f, l⟩
        · obtain rfl : B2 = [] := List.eq_nil_of_length_eq_zero (by omega)
          simp only [List.length_nil, List.append_nil] at *
          exact ⟨A2, Ev.ite_pos (by omega) (Ev.ite_neg (by omega) (Ev.now _)), sA, Fe.refl _, rfl⟩
      · obtain rfl : A2 = [] := List.eq_nil_of_length_eq_zero (by omega)
        simp only [List.length_nil, List.append_nil, List.nil_append] at *
        exact ⟨B2, Ev.ite_neg (by omega) (Ev.now _), sB, Fe.refl _, rfl⟩
    have key : ∀ (i0 j0 : Int), i0 = (P.length : Int) + ((d - V.length : Nat) : Int) → j0 = (P.length : Int) + ((min d U.length : Nat) : Int) → Sorts Rr (fun k => slices_symMergeCmpFunc_int.j4 k (P ++ U ++ V ++ Q) a m b Rr ((P.length : Int) + d) ((P.length : Int) + d + m) i0 j0) P (U ++ V) Q := by
      intro i0 j0 hi0 hj0
      have hsrch := sym_search (Rr := Rr) P U V Q d (d - V.length) (min d U.length) a m b ((P.length : Int) + d) ((P.length : Int) + d + m) ((P.length : Int) + d + m - 1) hs hd (by omega) (by omega) (by omega) (by omega) (U ++ V) (by
        intro s hs1 hs2 g1 g2
        obtain ⟨A1, A2, rfl, hA⟩ : ∃ A1 A2, U = A1 ++ A2 ∧ A1.length = s := ⟨U.take s, U.drop s, (List.take_append_drop _ _).symm, by rw [List.length_take]; omega⟩
        obtain ⟨B1, B2, rfl, hB⟩ : ∃ B1 B2, V = B1 ++ B2 ∧ B1.length = d - s := ⟨V.take (d - s), V.drop (d - s), (List.take_append_drop _ _).symm, by rw [List.length_take]; omega⟩
        simp only [List.length_append] at hs' ht hu hv hm hb hdd hs1 hs2 right c1 c2
        have x1 : ∀ x ∈ A1, ∀ y ∈ B2, (kD Rr) x ≤ (kD Rr) y := by
          have := cross_le (i := s) (j := d - s) sU sV (by simp only [List.length_append]; omega) (by simp only [List.length_append]; omega) (fun h1 h2 => g1 (by simp only [List.length_append] at h2 ⊢; omega) (by simp only [List.length_append]; omega) h2)
          rw [List.take_left' hA, List.drop_left' hB] at this
          exact this
        have x2 : ∀ x ∈ A2, ∀ y ∈ B1, (kD Rr) y < (kD Rr) x := by
          have := cross_lt (i := s) (j := d - s) sU sV (by simp only [List.length_append]; omega) (by simp only [List.length_append]; omega) (fun h1 h2 => by
            have := g2 (by simp only [List.length_append] at h2 ⊢; omega) h2 (by simp only [List.length_append]; omega)
            have e1 : d - 1 - s = d - s - 1 := by omega
            simp only [e1] at this
            exact this)
          rw [List.drop_left' hA, List.take_left' hB] at this
          exact this
        have hen : wrap64 ((P.length : Int) + d + m - ((P.length : Int) + s)) = (P.length : Int) + d + A2.length := by rw [w64 (by omega) (by omega)]; omega
        rw [hen]
        clear hen
        -- behind the rotation
        have h7 : Sorts Rr (fun k => slices_symMergeCmpFunc_int.j7 k (P ++ A1 ++ B1 ++ A2 ++ B2 ++ Q) a b Rr ((P.length : Int) + d) ((P.length : Int) + s) ((P.length : Int) + d + A2.length)) P (A1 ++ A2 ++ (B1 ++ B2)) Q := by
          have d1 : dayOk Rr (A1 ++ B1) := fun z hz => hd z (by
            rcases List.mem_append.1 hz with h | h
            · exact List.mem_append_left _ (List.mem_append_left _ h)
            · exact List.mem_append_right _ (List.mem_append_left _ h))
          have d2 : dayOk Rr (A2 ++ B2) := fun z hz => hd z (by
            rcases List.mem_append.1 hz with h | h
            · exact List.mem_append_left _ (List.mem_append_right _ h)
            · exact List.mem_append_right _ (List.mem_append_right _ h))
          -- the right half, with the left one done
          have h9 : ∀ W1, Sd (kD Rr) W1 → Fe (kD Rr) (A1 ++ B1) W1 → W1.length = d → Sorts Rr (fun k => if (P.length : Int) + d < (P.length : Int) + d + A2.length then (if (P.length : Int) + d + A2.length < b then ((slices_symMergeCmpFunc_int.f k (P ++ W1 ++ (A2 ++ B2 ++ Q)) ((P.length : Int) + d) ((P.length : Int) + d + A2.length) b Rr).bind fun t307 => (some t307)) else (some (P ++ W1 ++ (A2 ++ B2 ++ Q)))) else (some (P ++ W1 ++ (A2 ++ B2 ++ Q)))) P (A1 ++ A2 ++ (B1 ++ B2)) Q := by
            intro W1 w1 w2 w3
            obtain ⟨W2, e, s2, f2, l2⟩ := right (P ++ W1) A2 B2 ((P.length : Int) + d + A2.length) (by simp only [List.length_append]; omega) (by omega) sU.right sV.right d2 (by simp only [List.length_append]; omega) (by simp only [List.length_append]; omega)
            obtain ⟨j1, j2⟩ := sym_join sU sV x1 x2 w1 w2 s2 f2
            refine ⟨W1 ++ W2, ?_, j1, j2, by simp only [List.length_append] at l2 ⊢; omega⟩
            rw [show P ++ (W1 ++ W2) ++ Q = P ++ W1 ++ W2 ++ Q by simp [List.append_assoc]]
            simpa only [List.append_assoc] using e
          have h8 : ∀ fl : Bool, (fl = true ↔ 0 < A1.length ∧ 0 < B1.length) → Sorts Rr (fun k => slices_symMergeCmpFunc_int.j8 k (P ++ A1 ++ B1 ++ A2 ++ B2 ++ Q) a b Rr ((P.length : Int) + d) ((P.length : Int) + s) ((P.length : Int) + d + A2.length) fl) P (A1 ++ A2 ++ (B1 ++ B2)) Q := by
            intro fl hfl
            by_cases cf : fl = true
            · obtain ⟨q1, q2⟩ := hfl.1 cf
              obtain ⟨W1, e, s1, f1, l1⟩ := ih P A1 B1 (A2 ++ B2 ++ Q) a ((P.length : Int) + s) ((P.length : Int) + d) (by omega) q1 q2 (by unfold small; simp only [List.length_append]; omega) sU.left sV.left d1 ha (by omega) (by omega)
              simp only [List.length_append] at l1
              obtain ⟨F, e2, s2, f2, l2⟩ := h9 W1 s1 f1 (by omega)
              refine ⟨F, ?_, s2, f2, l2⟩
              apply Ev.step
              · intro k; rw [slices_symMergeCmpFunc_int.j8]
              · refine Ev.ite_pos cf (Ev.bind ?_ e2)
                simpa only [List.append_assoc] using e
            · have hE : A1 = [] ∨ B1 = [] := by
                rcases Nat.eq_zero_or_pos A1.length with h | h
                · exact Or.inl (List.eq_nil_of_length_eq_zero h)
                · rcases Nat.eq_zero_or_pos B1.length with h' | h'
                  · exact Or.inr (List.eq_nil_of_length_eq_zero h')
                  · exact absurd (hfl.2 ⟨h, h'⟩) cf
              have hsW : Sd (kD Rr) (A1 ++ B1) := by
                rcases hE with h | h
                · rw [h]; exact sV.left
                · rw [h, List.append_nil]; exact sU.left
              obtain ⟨F, e2, s2, f2, l2⟩ := h9 (A1 ++ B1) hsW (Fe.refl _) (by simp only [List.length_append]; omega)
              refine ⟨F, ?_, s2, f2, l2⟩
              apply Ev.step
              · intro k; rw [slices_symMergeCmpFunc_int.j8]
              · refine Ev.ite_neg cf ?_
                simpa only [List.append_assoc] using e2
          by_cases c3 : 0 < s
          · obtain ⟨F, e, s2, f2, l2⟩ := h8 (decide ((P.length : Int) + s < (P.length : Int) + d)) (by rw [decide_eq_true_iff]; omega)
            refine ⟨F, ?_, s2, f2, l2⟩
            apply Ev.step
            · intro k; rw [slices_symMergeCmpFunc_int.j7]
            · exact Ev.ite_pos (by omega) e
          · obtain ⟨F, e, s2, f2, l2⟩ := h8 false (by simp; omega)
            refine ⟨F, ?_, s2, f2, l2⟩
            apply Ev.step
            · intro k; rw [slices_symMergeCmpFunc_int.j7]
            · exact Ev.ite_neg (by omega) e
        have h6 : ∀ fl : Bool, (fl = true ↔ 0 < A2.length ∧ 0 < B1.length) → Sorts Rr (fun k => slices_symMergeCmpFunc_int.j6 k (P ++ (A1 ++ A2) ++ (B1 ++ B2) ++ Q) a m b Rr ((P.length : Int) + d) ((P.length : Int) + s) ((P.length : Int) + d + A2.length) fl) P (A1 ++ A2 ++ (B1 ++ B2)) Q := by
          intro fl hfl
          obtain ⟨F, e, s2, f2, l2⟩ := h7
          refine ⟨F, ?_, s2, f2, l2⟩
          apply Ev.step
          · intro k; rw [slices_symMergeCmpFunc_int.j6]
          · by_cases cf : fl = true
            · obtain ⟨q1, q2⟩ := hfl.1 cf
              have hr := rot_ok (Rr := Rr) (P ++ A1) A2 B1 (B2 ++ Q) ((P.length : Int) + s) m ((P.length : Int) + d + A2.length) q1 q2 (by unfold small; simp only [List.length_append]; omega) (by simp only [List.length_append]; omega) (by simp only [List.length_append]; omega) (by simp only [List.length_append]; omega)
              refine Ev.ite_pos cf (Ev.bind (a := P ++ A1 ++ B1 ++ A2 ++ B2 ++ Q) ?_ e)
              simpa only [List.append_assoc] using hr
            · refine Ev.ite_neg cf ?_
              have hE : P ++ (A1 ++ A2) ++ (B1 ++ B2) ++ Q = P ++ A1 ++ B1 ++ A2 ++ B2 ++ Q := by
                rcases Nat.eq_zero_or_pos A2.length with h | h
                · rw [List.eq_nil_of_length_eq_zero h]; simp [List.append_assoc]
                · rcases Nat.eq_zero_or_pos B1.length with h' | h'
                  · rw [List.eq_nil_of_length_eq_zero h']; simp [List.append_assoc]
                  · exact absurd (hfl.2 ⟨h, h'⟩) cf
              rw [hE]
              exact e
        by_cases c3 : (P.length : Int) + s < m
        · obtain ⟨F, e, s2, f2, l2⟩ := h6 (decide (m < (P.length : Int) + d + A2.length)) (by rw [decide_eq_true_iff]; omega)
          exact ⟨F, Ev.ite_pos c3 e, s2, f2, l2⟩
        · obtain ⟨F, e, s2, f2, l2⟩ := h6 false (by simp; omega)
          exact ⟨F, Ev.ite_neg c3 e, s2, f2, l2⟩)
        (min d U.length - (d - V.length)) (d - V.length) (min d U.length) rfl (Nat.le_refl _) (by omega) (Nat.le_refl _) (fun h => absurd h (Nat.lt_irrefl _)) (fun h => absurd h (Nat.lt_irrefl _))
      obtain ⟨F, e, s, f, l⟩ := hsrch
      refine ⟨F, ?_, s, f, l⟩
      apply Ev.step
      · intro k; rw [slices_symMergeCmpFunc_int.j4]
      · rw [w64 (a := (P.length : Int) + d + m - 1) (by omega) (by omega), hi0, hj0]
        exact e
    have hfin : ∀ F, Ev (fun k => if m > (P.length : Int) + d then (slices_symMergeCmpFunc_int.j4 k (P ++ U ++ V ++ Q) a m b Rr ((P.length : Int) + d) ((P.length : Int) + d + m) ((P.length : Int) + d + m - b) ((P.length : Int) + d)) else (slices_symMergeCmpFunc_int.j4 k (P ++ U ++ V ++ Q) a m b Rr ((P.length : Int) + d) ((P.length : Int) + d + m) a m)) F → Ev (fun k => slices_symMergeCmpFunc_int.f k (P ++ U ++ V ++ Q) a m b Rr) F := by
      intro F e
      apply Ev.step
      · intro k; rw [slices_symMergeCmpFunc_int.f]
      · rw [hmid.out, w64 (a := m - a) (by omega) (by omega), w64 (a := b - m) (by omega) (by omega), w64 (a := (P.length : Int) + d + m) (by omega) (by omega), w64 (a := (P.length : Int) + d + m - b) (by omega) (by omega)]
        exact Ev.ite_neg (by omega) (Ev.ite_neg (by omega) e)
    by_cases c3 : m > (P.length : Int) + d
    · obtain ⟨F, e, s, f, l⟩ := key ((P.length : Int) + d + m - b) ((P.length : Int) + d) (by omega) (by omega)
      exact ⟨F, hfin _ (Ev.ite_pos c3 e), s, f, l⟩
    · obtain ⟨F, e, s, f, l⟩ := key a m (by omega) (by omega)
      exact ⟨F, hfin _ (Ev.ite_neg c3 e), s, f, l⟩
end Go.Proofs.Ytbcaaocogphdeaa.Pure
end

/- Plain lemmas: the stable sort as a whole. -/
section
namespace Go.Proofs.Ytbcaaocogphdeaa.Pure
open Go.RowKit Go.Proofs.Ytbcaaocogphdeaa.PCap Go.Proofs.YtbcaaocogphdeaaW.PrintWords Go.Proofs.YtbcaaocogphdeaaW.PrintLast
set_option linter.unusedVariables false
set_option linter.unusedSimpArgs false
variable {Rr : List Int}

/-- A whole row that is sorted. -/
def Sorted (Rr : List Int) (g : Nat → Option (List Int)) (X : List Int) : Prop := ∃ F, Ev g F ∧ Sd (kD Rr) F ∧ Fe (kD Rr) X F ∧ F.length = X.length
theorem Sorted.pre {g : Nat → Option (List Int)} {X Y : List Int} (f : Fe (kD Rr) X Y) (l : Y.length = X.length) (h : Sorted Rr g Y) : Sorted Rr g X := by
  obtain ⟨F, e, s, f2, l2⟩ := h
  exact ⟨F, e, s, f.trans f2, l2.trans l⟩
theorem st_l2 (N : Nat) (n bs bb : Int) (B : Nat) (hN : N ≤ 4398046511104) (hn : n = N) (hbs : bs = B) (hB : 0 < B) (hBN : B < N) (hbb : bb = 2 * bs)
    (hc : ∀ Y : List Int, Y.length = N → Ch (kD Rr) (2 * B) Y → dayOk Rr Y → Sorted Rr (fun k => slices_stableCmpFunc_int.l1 k Y n Rr bb) Y) :
    ∀ (q : Nat) (Ls : List (List Int)), Ls.length = q → ∀ (Ms : List (List Int)) (t : List Int) (a b : Int), (∀ x ∈ Ms, x.length = 2 * B ∧ Sd (kD Rr) x) → (∀ x ∈ Ls, x.length = B ∧ Sd (kD Rr) x) → Sd (kD Rr) t → t.length < B → (Ms.flatten ++ (Ls.flatten ++ t)).length = N → dayOk Rr (Ms.flatten ++ (Ls.flatten ++ t)) → a = Ms.flatten.length → b = a + bb →
    Sorted Rr (fun k => slices_stableCmpFunc_int.l2 k (Ms.flatten ++ (Ls.flatten ++ t)) n Rr bs a b) (Ms.flatten ++ (Ls.flatten ++ t)) := by
  intro q
  induction q using Nat.strongRecOn with
  | _ q ih =>
    intro Ls hq Ms t a b hM hL st lt hlen hd ha hb
    have hw2 : wrap64 (2 * bs) = bb := by rw [w64 (by omega) (by omega)]; omega
    have hw3 : wrap64 (bs * 2) = bb := by rw [w64 (by omega) (by omega)]; omega
    have hl1 := flat_len hL
    have hl2 := flat_len hM
    match Ls with
    | x :: y :: Ls' =>
      have hx := hL x (by simp)
      have hy := hL y (by simp)
      simp only [List.length_append, List.flatten_cons] at hlen
      have e0 : Ms.flatten ++ ((x :: y :: Ls').flatten ++ t) = Ms.flatten ++ x ++ y ++ (Ls'.flatten ++ t) := by simp [List.append_assoc]
      obtain ⟨W, e, s, f, l⟩ := sym_ok (Rr := Rr) (x.length + y.length) Ms.flatten x y (Ls'.flatten ++ t) a (a + bs) b (Nat.le_refl _) (by omega) (by omega) (by unfold small; simp only [List.length_append]; omega) hx.2 hy.2 (fun z hz => hd z (by
        simp only [List.flatten_cons, List.mem_append] at hz ⊢
        rcases hz with h | h
        · exact Or.inr (Or.inl (Or.inl h))
        · exact Or.inr (Or.inl (Or.inr (Or.inl h))))) ha (by omega) (by omega)
      simp only [List.length_append] at l
      have e1 : Ms.flatten ++ W ++ (Ls'.flatten ++ t) = (Ms ++ [W]).flatten ++ (Ls'.flatten ++ t) := by simp [List.append_assoc]
      have fE : Fe (kD Rr) (Ms.flatten ++ x ++ y ++ (Ls'.flatten ++ t)) (Ms.flatten ++ W ++ (Ls'.flatten ++ t)) := by
        have := (f.left Ms.flatten).right (Ls'.flatten ++ t)
        simpa [List.append_assoc] using this
      have hr := ih Ls'.length (by simp at hq; omega) Ls' rfl (Ms ++ [W]) t b (b + bb) (fun z hz => by
        rcases List.mem_append.1 hz with hz | hz
        · exact hM z hz
        · rw [List.mem_singleton.1 hz]; exact ⟨by omega, s⟩) (fun z hz => hL z (by simp [hz])) st lt (by simp only [List.flatten_append, List.length_append, List.flatten_cons, List.flatten_nil, List.append_nil]; omega) (by rw [← e1]; rw [e0] at hd; exact fE.dayOk hd) (by simp only [List.flatten_append, List.length_append, List.flatten_cons, List.flatten_nil, List.append_nil]; omega) rfl
      rw [← e1] at hr
      obtain ⟨F, e2, s2, f2, l2⟩ := hr
      rw [e0]
      refine ⟨F, ?_, s2, fE.trans f2, by rw [l2]; simp only [List.length_append]; omega⟩
      have hwa : wrap64 (a + bs) = a + bs := w64 (by omega) (by omega)
      have hwb : wrap64 (b + bb) = b + bb := w64 (by omega) (by omega)
      have q1 : b ≤ n := by omega
      apply Ev.step
      · intro k; rw [slices_stableCmpFunc_int.l2]
      · rw [hw2, hwa, hwb]
        exact Ev.ite_pos q1 (Ev.bind e e2)
    | [x] =>
      have hx := hL x (by simp)
      simp only [List.length_append, List.flatten_cons, List.flatten_nil, List.append_nil] at hlen
      have e0 : Ms.flatten ++ ([x].flatten ++ t) = Ms.flatten ++ x ++ t ++ [] := by simp [List.append_assoc]
      by_cases c : 0 < t.length
      · obtain ⟨W, e, s, f, l⟩ := sym_ok (Rr := Rr) (x.length + t.length) Ms.flatten x t [] a (a + bs) n (Nat.le_refl _) (by omega) c (by unfold small; simp only [List.length_append, List.length_nil]; omega) hx.2 st (fun z hz => hd z (by simpa using Or.inr (by simpa using hz))) ha (by omega) (by omega)
        simp only [List.length_append] at l
        have fE : Fe (kD Rr) (Ms.flatten ++ x ++ t ++ []) (Ms.flatten ++ W ++ []) := by
          have := f.left Ms.flatten
          simpa [List.append_assoc] using this
        have hr := hc (Ms.flatten ++ W ++ []) (by simp only [List.length_append, List.length_nil]; omega) ⟨Ms, W, by simp, hM, s, by omega⟩ (by rw [e0] at hd; exact fE.dayOk hd)
        obtain ⟨F, e2, s2, f2, l2⟩ := hr
        rw [e0]
        refine ⟨F, ?_, s2, fE.trans f2, by rw [l2]; simp only [List.length_append, List.length_nil]; omega⟩
        have hwa : wrap64 (a + bs) = a + bs := w64 (by omega) (by omega)
        have q1 : ¬ b ≤ n := by omega
        have q2 : a + bs < n := by omega
        apply Ev.step
        · intro k; rw [slices_stableCmpFunc_int.l2]
        · rw [hw2, hwa, hw3]
          exact Ev.ite_neg q1 (Ev.ite_pos q2 (Ev.bind e e2))
      · obtain rfl : t = [] := List.eq_nil_of_length_eq_zero (by omega)
        have hr := hc (Ms.flatten ++ ([x].flatten ++ [])) (by simpa using hlen) ⟨Ms, x, by simp, hM, hx.2, by omega⟩ hd
        obtain ⟨F, e2, s2, f2, l2⟩ := hr
        refine ⟨F, ?_, s2, f2, l2⟩
        have hwa : wrap64 (a + bs) = a + bs := w64 (by omega) (by omega)
        simp only [List.length_nil] at hlen
        have q1 : ¬ b ≤ n := by omega
        have q2 : ¬ a + bs < n := by omega
        apply Ev.step
        · intro k; rw [slices_stableCmpFunc_int.l2]
        · rw [hw2, hwa, hw3]
          exact Ev.ite_neg q1 (Ev.ite_neg q2 e2)
    | [] =>
      simp only [List.length_append, List.flatten_nil, List.length_nil] at hlen
      have hr := hc (Ms.flatten ++ ([].flatten ++ t)) (by simpa using hlen) ⟨Ms, t, by simp, hM, st, by omega⟩ hd
      obtain ⟨F, e2, s2, f2, l2⟩ := hr
      refine ⟨F, ?_, s2, f2, l2⟩
      have hwa : wrap64 (a + bs) = a + bs := w64 (by omega) (by omega)
      have q1 : ¬ b ≤ n := by omega
      have q2 : ¬ a + bs < n := by omega
      apply Ev.step
      · intro k; rw [slices_stableCmpFunc_int.l2]
      · rw [hw2, hwa, hw3]
        exact Ev.ite_neg q1 (Ev.ite_neg q2 e2)
theorem st_l1 (N : Nat) (n : Int) (hN : N ≤ 4398046511104) (hn : n = N) : ∀ (q B : Nat), N - B = q → 0 < B → ∀ (bs : Int) (Y : List Int), bs = B → Y.length = N → Ch (kD Rr) B Y → dayOk Rr Y → Sorted Rr (fun k => slices_stableCmpFunc_int.l1 k Y n Rr bs) Y := by
  intro q
  induction q using Nat.strongRecOn with
  | _ q ih =>
    intro B hq hB bs Y hbs hY hC hd
    by_cases c : B < N
    · have hC' := hC
      obtain ⟨Ls, t, rfl, h1, h2, h3⟩ := hC'
      have hw : wrap64 (2 * bs) = 2 * bs := w64 (by omega) (by omega)
      have hr := st_l2 (Rr := Rr) N n bs (2 * bs) B hN hn hbs hB c rfl (fun Z hZ hZC hZd => ih (N - 2 * B) (by omega) (2 * B) rfl (by omega) (2 * bs) Z (by omega) hZ hZC hZd) Ls.length Ls rfl [] t 0 (2 * bs) (by simp) h1 h2 h3 (by simpa using hY) (by simpa using hd) (by simp) (by omega)
      simp only [List.flatten_nil, List.nil_append] at hr
      obtain ⟨F, e, s, f, l⟩ := hr
      refine ⟨F, ?_, s, f, l⟩
      have q1 : bs < n := by omega
      apply Ev.step
      · intro k; rw [slices_stableCmpFunc_int.l1]
      · rw [hw]
        exact Ev.ite_pos q1 e
    · refine ⟨Y, ?_, hC.small (by omega), Fe.refl _, rfl⟩
      have q1 : ¬ bs < n := by omega
      apply Ev.step
      · intro k; rw [slices_stableCmpFunc_int.l1]
      · exact Ev.ite_neg q1 (Ev.now _)
theorem st_l0 (N : Nat) (n : Int) (hN : N ≤ 4398046511104) (hn : n = N) : ∀ (q : Nat) (R : List Int), R.length = q → ∀ (Ms : List (List Int)) (a b : Int), (∀ x ∈ Ms, x.length = 20 ∧ Sd (kD Rr) x) → (Ms.flatten ++ R).length = N → dayOk Rr (Ms.flatten ++ R) → a = Ms.flatten.length → b = a + 20 →
    Sorted Rr (fun k => slices_stableCmpFunc_int.l0 k (Ms.flatten ++ R) n Rr 20 a b) (Ms.flatten ++ R) := by
  intro q
  induction q using Nat.strongRecOn with
  | _ q ih =>
    intro R hq Ms a b hM hlen hd ha hb
    simp only [List.length_append] at hlen
    by_cases c : 20 ≤ R.length
    · obtain ⟨X, R', rfl, hX⟩ : ∃ X R', R = X ++ R' ∧ X.length = 20 := ⟨R.take 20, R.drop 20, (List.take_append_drop _ _).symm, by rw [List.length_take]; omega⟩
      simp only [List.length_append] at hlen hq
      obtain ⟨W, e, s, f, l⟩ := ins_ok (Rr := Rr) Ms.flatten X R' a b (by unfold small; simp only [List.length_append]; omega) (fun z hz => hd z (by simp [hz])) ha (by omega)
      have fE : Fe (kD Rr) (Ms.flatten ++ (X ++ R')) (Ms.flatten ++ W ++ R') := by
        have := (f.left Ms.flatten).right R'
        simpa [List.append_assoc] using this
      have e1 : Ms.flatten ++ W ++ R' = (Ms ++ [W]).flatten ++ R' := by simp [List.append_assoc]
      have hr := ih R'.length (by omega) R' rfl (Ms ++ [W]) b (b + 20) (fun z hz => by
        rcases List.mem_append.1 hz with hz | hz
        · exact hM z hz
        · rw [List.mem_singleton.1 hz]; exact ⟨by omega, s⟩) (by rw [← e1]; simp only [List.length_append]; omega) (by rw [← e1]; exact fE.dayOk hd) (by simp only [List.flatten_append, List.length_append, List.flatten_cons, List.flatten_nil, List.append_nil]; omega) rfl
      rw [← e1] at hr
      obtain ⟨F, e2, s2, f2, l2⟩ := hr
      refine ⟨F, ?_, s2, fE.trans f2, by rw [l2]; simp only [List.length_append]; omega⟩
      have hw : wrap64 (b + 20) = b + 20 := w64 (by omega) (by omega)
      have q1 : b ≤ n := by omega
      apply Ev.step
      · intro k; rw [slices_stableCmpFunc_int.l0]
      · rw [hw]
        refine Ev.ite_pos q1 (Ev.bind ?_ e2)
        simpa only [List.append_assoc] using e
    · obtain ⟨W, e, s, f, l⟩ := ins_ok (Rr := Rr) Ms.flatten R [] a n (by unfold small; simp only [List.length_append, List.length_nil]; omega) (fun z hz => hd z (by simp [hz])) ha (by omega)
      have fE : Fe (kD Rr) (Ms.flatten ++ R) (Ms.flatten ++ W ++ []) := by
        have := f.left Ms.flatten
        simpa [List.append_assoc] using this
      have hr := st_l1 (Rr := Rr) N n hN hn (N - 20) 20 rfl (by omega) 20 (Ms.flatten ++ W ++ []) rfl (by simp only [List.length_append, List.length_nil]; omega) ⟨Ms, W, by simp, hM, s, by omega⟩ (fE.dayOk hd)
      obtain ⟨F, e2, s2, f2, l2⟩ := hr
      refine ⟨F, ?_, s2, fE.trans f2, by rw [l2]; simp only [List.length_append, List.length_nil]; omega⟩
      have q1 : ¬ b ≤ n := by omega
      apply Ev.step
      · intro k; rw [slices_stableCmpFunc_int.l0]
      · refine Ev.ite_neg q1 (Ev.bind ?_ e2)
        simpa only [List.append_assoc, List.append_nil] using e
theorem sort_ok (X : List Int) (hs : small X) (hd : dayOk Rr X) : Sorted Rr (fun k => slices_SortStableFunc_int_int.f k X Rr) X := by
  obtain ⟨F, e, s, f, l⟩ := st_l0 (Rr := Rr) X.length (X.length : Int) hs rfl X.length X rfl [] 0 20 (by simp) (by simp) (by simpa using hd) (by simp) (by omega)
  refine ⟨F, ?_, s, by simpa using f, by simpa using l⟩
  unfold slices_SortStableFunc_int_int.f slices_stableCmpFunc_int.f
  simp only [List.flatten_nil, List.nil_append] at e
  exact Ev.bind e (Ev.now _)
end Go.Proofs.Ytbcaaocogphdeaa.Pure
end
