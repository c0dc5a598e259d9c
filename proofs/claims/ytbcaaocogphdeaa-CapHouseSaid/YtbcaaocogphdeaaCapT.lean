import Derived.Test.YtbcaaocogphdeaaPCapx32
import Derived.Test.YtbcaaocogphdeaaPCapx33
import Derived.Test.YtbcaaocogphdeaaPCapx34
import Derived.Test.YtbcaaocogphdeaaPCapx35
import Derived.Test.YtbcaaocogphdeaaCapP
/- Plain lemmas: lists sorted by a key; the same elements, those of one key in their order; joining two sorted parts as a merge in place does. -/
section
namespace Go.Proofs.Ytbcaaocogphdeaa.Pure
open Go.RowKit Go.Proofs.Ytbcaaocogphdeaa.PCap Go.Proofs.YtbcaaocogphdeaaW.PrintWords Go.Proofs.YtbcaaocogphdeaaW.PrintLast
set_option linter.unusedVariables false
set_option linter.unusedSimpArgs false

/-- Sorted Rr by a key. -/
def Sd {α : Type} (key : α → Int) (l : List α) : Prop := l.Pairwise (fun x y => key x ≤ key y)
/-- The same elements, those of one key in the same order. -/
def Fe {α : Type} (key : α → Int) (l m : List α) : Prop := ∀ d, l.filter (fun x => decide (key x = d)) = m.filter (fun x => decide (key x = d))
section
variable {α : Type} {key : α → Int}
theorem Fe.refl (l : List α) : Fe key l l := fun _ => rfl
theorem Fe.symm {l m : List α} (h : Fe key l m) : Fe key m l := fun d => (h d).symm
theorem Fe.trans {l m n : List α} (h : Fe key l m) (k : Fe key m n) : Fe key l n := fun d => (h d).trans (k d)
theorem Fe.append {l l' m m' : List α} (h : Fe key l l') (k : Fe key m m') : Fe key (l ++ m) (l' ++ m') := fun d => by rw [List.filter_append, List.filter_append, h d, k d]
theorem Fe.left (p : List α) {l m : List α} (h : Fe key l m) : Fe key (p ++ l) (p ++ m) := (Fe.refl p).append h
theorem Fe.right (p : List α) {l m : List α} (h : Fe key l m) : Fe key (l ++ p) (m ++ p) := h.append (Fe.refl p)
theorem Fe.swap {u v : List α} (h : ∀ x ∈ u, ∀ y ∈ v, key y < key x) : Fe key (u ++ v) (v ++ u) := fun d => by
  rw [List.filter_append, List.filter_append]
  by_cases hu : ∃ x ∈ u, key x = d
  · obtain ⟨x, hx, e⟩ := hu
    have : v.filter (fun x => decide (key x = d)) = [] := by
      rw [List.filter_eq_nil_iff]
      intro y hy hd
      have := h x hx y hy
      simp only [decide_eq_true_eq] at hd
      omega
    rw [this]; simp
  · have : u.filter (fun x => decide (key x = d)) = [] := by
      rw [List.filter_eq_nil_iff]
      intro y hy hd
      exact hu ⟨y, hy, by simpa using hd⟩
    rw [this]; simp
theorem Fe.mem {l m : List α} (h : Fe key l m) (x : α) : x ∈ l ↔ x ∈ m := by
  have e := h (key x)
  have h1 : x ∈ l ↔ x ∈ l.filter (fun y => decide (key y = key x)) := by simp
  have h2 : x ∈ m ↔ x ∈ m.filter (fun y => decide (key y = key x)) := by simp
  rw [h1, h2, e]
theorem Fe.nil {m : List α} (h : Fe key [] m) : m = [] := by
  cases m with
  | nil => rfl
  | cons y r => exact absurd ((h.mem y).2 List.mem_cons_self) (by simp)
theorem Fe.uniq {l : List α} : ∀ {m : List α}, Sd key l → Sd key m → Fe key l m → l = m := by
  induction l with
  | nil => intro m _ _ h; exact h.nil.symm
  | cons x r ih =>
    intro m hl hm h
    cases m with
    | nil => exact absurd h.symm.nil (by simp)
    | cons y s =>
      have hl' := List.pairwise_cons.1 hl
      have hm' := List.pairwise_cons.1 hm
      have h1 : key x ≤ key y := by
        rcases List.mem_cons.1 ((h.mem y).2 List.mem_cons_self) with e | e
        · rw [e]; exact Int.le_refl _
        · exact hl'.1 y e
      have h2 : key y ≤ key x := by
        rcases List.mem_cons.1 ((h.mem x).1 List.mem_cons_self) with e | e
        · rw [e]; exact Int.le_refl _
        · exact hm'.1 x e
      have h3 := h (key x)
      rw [List.filter_cons, if_pos (by simp), List.filter_cons, if_pos (by simp; omega)] at h3
      obtain ⟨e, _⟩ := List.cons.inj h3
      subst e
      rw [ih hl'.2 hm'.2 (fun d => by
        have h4 := h d
        rw [List.filter_cons, List.filter_cons] at h4
        split at h4
        · exact (List.cons.inj h4).2
        · exact h4)]
theorem Sd.append {l m : List α} (h : Sd key l) (k : Sd key m) (e : ∀ x ∈ l, ∀ y ∈ m, key x ≤ key y) : Sd key (l ++ m) := List.pairwise_append.2 ⟨h, k, e⟩
theorem Sd.left {l m : List α} (h : Sd key (l ++ m)) : Sd key l := (List.pairwise_append.1 h).1
theorem Sd.right {l m : List α} (h : Sd key (l ++ m)) : Sd key m := (List.pairwise_append.1 h).2.1
theorem Sd.across {l m : List α} (h : Sd key (l ++ m)) : ∀ x ∈ l, ∀ y ∈ m, key x ≤ key y := (List.pairwise_append.1 h).2.2
end
section
variable {α : Type} {key : α → Int}
theorem cross_le {u v : List α} {i j : Nat} (hu : Sd key u) (hv : Sd key v) (hi : i ≤ u.length) (hj : j ≤ v.length) (h : ∀ (h1 : 0 < i) (h2 : j < v.length), key (u[i - 1]'(by omega)) ≤ key v[j]) : ∀ x ∈ u.take i, ∀ y ∈ v.drop j, key x ≤ key y := by
  intro x hx y hy
  obtain ⟨a, ha, rfl⟩ := List.getElem_of_mem hx
  obtain ⟨b, hb, rfl⟩ := List.getElem_of_mem hy
  rw [List.length_take] at ha
  rw [List.length_drop] at hb
  have h0 := h (by omega) (by omega)
  rw [List.getElem_take, List.getElem_drop]
  have h1 : key u[a] ≤ key (u[i - 1]'(by omega)) := by
    rcases Nat.lt_or_ge a (i - 1) with c | c
    · exact List.pairwise_iff_getElem.1 hu a (i - 1) (by omega) (by omega) c
    · have : a = i - 1 := by omega
      subst this; exact Int.le_refl _
  have h2 : key (v[j]'(by omega)) ≤ key (v[j + b]'(by omega)) := by
    rcases Nat.eq_zero_or_pos b with c | c
    · subst c; exact Int.le_refl _
    · exact List.pairwise_iff_getElem.1 hv j (j + b) (by omega) (by omega) (by omega)
  omega
theorem cross_lt {u v : List α} {i j : Nat} (hu : Sd key u) (hv : Sd key v) (hi : i ≤ u.length) (hj : j ≤ v.length) (h : ∀ (h1 : 0 < j) (h2 : i < u.length), key (v[j - 1]'(by omega)) < key u[i]) : ∀ x ∈ u.drop i, ∀ y ∈ v.take j, key y < key x := by
  intro x hx y hy
  obtain ⟨a, ha, rfl⟩ := List.getElem_of_mem hx
  obtain ⟨b, hb, rfl⟩ := List.getElem_of_mem hy
  rw [List.length_drop] at ha
  rw [List.length_take] at hb
  have h0 := h (by omega) (by omega)
  rw [List.getElem_take, List.getElem_drop]
  have h1 : key v[b] ≤ key (v[j - 1]'(by omega)) := by
    rcases Nat.lt_or_ge b (j - 1) with c | c
    · exact List.pairwise_iff_getElem.1 hv b (j - 1) (by omega) (by omega) c
    · have : b = j - 1 := by omega
      subst this; exact Int.le_refl _
  have h2 : key (u[i]'(by omega)) ≤ key (u[i + a]'(by omega)) := by
    rcases Nat.eq_zero_or_pos a with c | c
    · subst c; exact Int.le_refl _
    · exact List.pairwise_iff_getElem.1 hu i (i + a) (by omega) (by omega) (by omega)
  omega
theorem sym_join {a1 a2 b1 b2 l r : List α} (hu : Sd key (a1 ++ a2)) (hv : Sd key (b1 ++ b2)) (h1 : ∀ x ∈ a1, ∀ y ∈ b2, key x ≤ key y) (h2 : ∀ x ∈ a2, ∀ y ∈ b1, key y < key x) (sl : Sd key l) (fl : Fe key (a1 ++ b1) l) (sr : Sd key r) (fr : Fe key (a2 ++ b2) r) :
    Sd key (l ++ r) ∧ Fe key (a1 ++ a2 ++ (b1 ++ b2)) (l ++ r) := by
  refine ⟨Sd.append sl sr ?_, ?_⟩
  · intro x hx y hy
    have hx' := (fl.mem x).2 hx
    have hy' := (fr.mem y).2 hy
    rcases List.mem_append.1 hx' with hx' | hx' <;> rcases List.mem_append.1 hy' with hy' | hy'
    · exact hu.across x hx' y hy'
    · exact h1 x hx' y hy'
    · have := h2 y hy' x hx'; omega
    · exact hv.across x hx' y hy'
  · refine Fe.trans ?_ (fl.append fr)
    have := ((Fe.swap h2).left a1).right b2
    simpa [List.append_assoc] using this
/-- The chunks of a list: exact ones of a size, and a shorter one behind them. -/
def Ch (key : α → Int) (bs : Nat) (l : List α) : Prop := ∃ (Ls : List (List α)) (t : List α), l = Ls.flatten ++ t ∧ (∀ x ∈ Ls, x.length = bs ∧ Sd key x) ∧ Sd key t ∧ t.length < bs
theorem flat_len {bs : Nat} {Ls : List (List α)} (h : ∀ x ∈ Ls, x.length = bs ∧ Sd key x) : Ls.flatten.length = bs * Ls.length := by
  induction Ls with
  | nil => rfl
  | cons x r ih =>
    rw [List.flatten_cons, List.length_append, ih (fun y hy => h y (List.mem_cons_of_mem _ hy)), (h x List.mem_cons_self).1, List.length_cons, Nat.mul_add]
    omega
theorem Ch.small {bs : Nat} {l : List α} (h : Ch key bs l) (hl : l.length ≤ bs) : Sd key l := by
  obtain ⟨Ls, t, rfl, h1, h2, h3⟩ := h
  rw [List.length_append, flat_len h1] at hl
  match Ls with
  | [] => simpa using h2
  | x :: r =>
    rw [List.length_cons, Nat.mul_add] at hl
    have ht : t.length = 0 := by omega
    obtain rfl : t = [] := List.eq_nil_of_length_eq_zero ht
    have : r = [] := by
      cases r with
      | nil => rfl
      | cons y r =>
        rw [List.length_cons, Nat.mul_add] at hl
        simp only [List.length_nil] at h3
        omega
    subst this
    simpa using (h1 x List.mem_cons_self).2
end
end Go.Proofs.Ytbcaaocogphdeaa.Pure
end

/- Plain lemmas: what the parts of the stable sort come to: swaps of ranges, rotations, insertion. -/
section
namespace Go.Proofs.Ytbcaaocogphdeaa.Pure
open Go.RowKit Go.Proofs.Ytbcaaocogphdeaa.PCap Go.Proofs.YtbcaaocogphdeaaW.PrintWords Go.Proofs.YtbcaaocogphdeaaW.PrintLast
set_option linter.unusedVariables false
set_option linter.unusedSimpArgs false
variable {Rr : List Int}

theorem rd_at {A B : List Int} {x : Int} {i : Int} (hi : i = A.length) : rd (A ++ x :: B) i = x := by
  subst hi
  unfold rd
  rw [Int.toNat_natCast, List.getD_eq_getElem?_getD, List.getElem?_append_right (Nat.le_refl _), Nat.sub_self]
  rfl
theorem set_at {A B : List Int} {x y : Int} {i : Int} (hi : i = A.length) : (A ++ x :: B).set i.toNat y = A ++ y :: B := by
  subst hi
  rw [Int.toNat_natCast, List.set_append, if_neg (Nat.lt_irrefl _), Nat.sub_self]
  rfl
def small (l : List Int) : Prop := l.length ≤ 4398046511104
theorem swap_l0 : ∀ (U V P M Q : List Int) (a b n i : Int), U.length = V.length → small (P ++ U ++ M ++ V ++ Q) → 0 ≤ a → 0 ≤ i → a + i = P.length → b + i = P.length + U.length + M.length → n - i = U.length →
    Ev (fun k => slices_swapRangeCmpFunc_int.l0 k (P ++ U ++ M ++ V ++ Q) a b n i) (P ++ V ++ M ++ U ++ Q) := by
  intro U
  induction U with
  | nil =>
    intro V P M Q a b n i hv _ _ _ _ _ hn
    obtain rfl : V = [] := List.eq_nil_of_length_eq_zero hv.symm
    simp only [List.length_nil] at hn
    apply Ev.step
    · intro k; rw [slices_swapRangeCmpFunc_int.l0]
    · exact Ev.ite_neg (by omega) (Ev.now _)
  | cons u U' ih =>
    intro V P M Q a b n i hv hs ha hi hp hb hn
    cases V with
    | nil => simp at hv
    | cons v V' =>
      simp only [List.length_cons] at hv hb hn
      have hs' := hs
      unfold small at hs
      simp only [List.length_append, List.length_cons] at hs
      have e1 : P ++ (u :: U') ++ M ++ (v :: V') ++ Q = P ++ u :: (U' ++ M ++ (v :: V') ++ Q) := by simp [List.append_assoc]
      have e2 : P ++ (u :: U') ++ M ++ (v :: V') ++ Q = (P ++ u :: (U' ++ M)) ++ v :: (V' ++ Q) := by simp [List.append_assoc]
      have r1_ : rd (P ++ (u :: U') ++ M ++ (v :: V') ++ Q) (a + i) = u := by rw [e1]; exact rd_at hp
      have r1 := Aside0.mk r1_
      clear r1_
      have r2_ : rd (P ++ (u :: U') ++ M ++ (v :: V') ++ Q) (b + i) = v := by rw [e2]; exact rd_at (by simp only [List.length_append, List.length_cons]; omega)
      have r2 := Aside0.mk r2_
      clear r2_
      have e3 : ((P ++ (u :: U') ++ M ++ (v :: V') ++ Q).set (a + i).toNat v).set (b + i).toNat u = (P ++ [v]) ++ U' ++ (M ++ [u]) ++ V' ++ Q := by
        rw [e1, set_at hp, show P ++ v :: (U' ++ M ++ (v :: V') ++ Q) = (P ++ v :: (U' ++ M)) ++ v :: (V' ++ Q) by simp [List.append_assoc], set_at (by simp only [List.length_append, List.length_cons]; omega)]
        simp [List.append_assoc]
      have hlen : ((P ++ (u :: U') ++ M ++ (v :: V') ++ Q).length : Int) = P.length + (U'.length + 1) + M.length + (V'.length + 1) + Q.length := by simp only [List.length_append, List.length_cons]; omega
      have := ih V' (P ++ [v]) (M ++ [u]) Q a b n (i + 1) (by omega) (by unfold small; simp only [List.length_append, List.length_cons, List.length_nil]; omega) ha (by omega) (by simp only [List.length_append, List.length_cons, List.length_nil]; omega) (by simp only [List.length_append, List.length_cons, List.length_nil]; omega) (by omega)
      rw [show P ++ (v :: V') ++ M ++ (u :: U') ++ Q = P ++ [v] ++ V' ++ (M ++ [u]) ++ U' ++ Q by simp [List.append_assoc]]
      apply Ev.step
      · intro k; rw [slices_swapRangeCmpFunc_int.l0]
      · rw [w64 (a := b + i) (by omega) (by omega), w64 (a := a + i) (by omega) (by omega), w64 (a := i + 1) (by omega) (by omega), r1.out, r2.out]
        refine Ev.ite_pos (by omega) (Ev.ite_pos (by omega) (Ev.ite_pos (by omega) (Ev.ite_pos (by omega) (Ev.ite_pos (by omega) ?_))))
        have hh : Ev (fun k => slices_swapRangeCmpFunc_int.l0 k (((P ++ (u :: U') ++ M ++ (v :: V') ++ Q).set (a + i).toNat v).set (b + i).toNat u) a b n (i + 1)) (P ++ [v] ++ V' ++ (M ++ [u]) ++ U' ++ Q) := by rw [e3]; exact this
        exact hh
theorem swap_ok (P U M V Q : List Int) (a b n : Int) (hv : U.length = V.length) (hs : small (P ++ U ++ M ++ V ++ Q)) (ha : a = P.length) (hb : b = P.length + U.length + M.length) (hn : n = U.length) : Ev (fun k => slices_swapRangeCmpFunc_int.f k (P ++ U ++ M ++ V ++ Q) a b n Rr) (P ++ V ++ M ++ U ++ Q) := by
  unfold slices_swapRangeCmpFunc_int.f
  exact swap_l0 U V P M Q a b n 0 hv hs (by omega) (by omega) (by omega) (by omega) (by omega)
theorem rot_l0 : ∀ (t : Nat) (P U V Q : List Int) (m i j : Int), U.length + V.length ≤ t → 0 < U.length → 0 < V.length → small (P ++ U ++ V ++ Q) → i = U.length → j = V.length → m = P.length + U.length →
    Ev (fun k => slices_rotateCmpFunc_int.l0 k (P ++ U ++ V ++ Q) m Rr i j) (P ++ V ++ U ++ Q) := by
  intro t
  induction t with
  | zero => intro P U V Q m i j h h1; omega
  | succ t ih =>
    intro P U V Q m i j h h1 h2 hs hi hj hm
    have hs' := hs
    unfold small at hs'
    simp only [List.length_append] at hs'
    apply Ev.step
    · intro k; rw [slices_rotateCmpFunc_int.l0]
    · rw [w64 (a := m - i) (by omega) (by omega)]
      by_cases c : i = j
      · refine Ev.ite_pos c (Ev.bind ?_ (Ev.now _))
        have := swap_ok (Rr := Rr) P U [] V Q (m - i) m i (by omega) (by simpa using hs) (by omega) (by simp; omega) hi
        simpa using this
      · refine Ev.ite_neg c ?_
        by_cases c2 : i > j
        · refine Ev.ite_pos c2 ?_
          obtain ⟨U1, U2, rfl, hl⟩ : ∃ U1 U2, U = U1 ++ U2 ∧ U1.length = V.length := ⟨U.take V.length, U.drop V.length, (List.take_append_drop _ _).symm, by rw [List.length_take]; omega⟩
          simp only [List.length_append] at h h1 hi hm hs'
          have e1 : P ++ (U1 ++ U2) ++ V ++ Q = P ++ U1 ++ U2 ++ V ++ Q := by simp [List.append_assoc]
          have s1 := swap_ok (Rr := Rr) P U1 U2 V Q (m - i) m j hl (by rw [← e1]; exact hs) (by omega) (by omega) (by omega)
          rw [e1]
          refine Ev.bind s1 ?_
          rw [w64 (a := i - j) (by omega) (by omega)]
          have := ih (P ++ V) U2 U1 Q m (i - j) j (by omega) (by omega) (by omega) (by unfold small; simp only [List.length_append]; omega) (by omega) (by omega) (by simp only [List.length_append]; omega)
          rw [show P ++ V ++ (U1 ++ U2) ++ Q = P ++ V ++ U1 ++ U2 ++ Q by simp [List.append_assoc]]
          exact this
        · refine Ev.ite_neg c2 ?_
          obtain ⟨V1, V2, rfl, hl⟩ : ∃ V1 V2, V = V1 ++ V2 ∧ U.length = V2.length := ⟨V.take (V.length - U.length), V.drop (V.length - U.length), (List.take_append_drop _ _).symm, by rw [List.length_drop]; omega⟩
          simp only [List.length_append] at h h2 hj hs'
          have e1 : P ++ U ++ (V1 ++ V2) ++ Q = P ++ U ++ V1 ++ V2 ++ Q := by simp [List.append_assoc]
          rw [w64 (a := m + j) (by omega) (by omega), w64 (a := m + j - i) (by omega) (by omega), w64 (a := j - i) (by omega) (by omega)]
          have s1 := swap_ok (Rr := Rr) P U V1 V2 Q (m - i) (m + j - i) i hl (by rw [← e1]; exact hs) (by omega) (by omega) hi
          rw [e1]
          refine Ev.bind s1 ?_
          have := ih P V2 V1 (U ++ Q) m i (j - i) (by omega) (by omega) (by omega) (by unfold small; simp only [List.length_append]; omega) (by omega) (by omega) (by omega)
          rw [show P ++ (V1 ++ V2) ++ U ++ Q = P ++ V1 ++ V2 ++ (U ++ Q) by simp [List.append_assoc], show P ++ V2 ++ V1 ++ U ++ Q = P ++ V2 ++ V1 ++ (U ++ Q) by simp [List.append_assoc]]
          exact this
theorem rot_ok (P U V Q : List Int) (a m b : Int) (h1 : 0 < U.length) (h2 : 0 < V.length) (hs : small (P ++ U ++ V ++ Q)) (ha : a = P.length) (hm : m = P.length + U.length) (hb : b = P.length + U.length + V.length) : Ev (fun k => slices_rotateCmpFunc_int.f k (P ++ U ++ V ++ Q) a m b Rr) (P ++ V ++ U ++ Q) := by
  have hs' := hs
  unfold small at hs'
  simp only [List.length_append] at hs'
  unfold slices_rotateCmpFunc_int.f
  rw [w64 (a := m - a) (by omega) (by omega), w64 (a := b - m) (by omega) (by omega)]
  exact rot_l0 (Rr := Rr) _ P U V Q m (m - a) (b - m) (Nat.le_refl _) h1 h2 hs (by omega) (by omega) hm
/-- The key: the greater what the closure's slice holds at a place, the earlier. -/
def kD (Rr : List Int) (e : Int) : Int := -(rd Rr e)
def dayOk (Rr : List Int) (l : List Int) : Prop := ∀ e ∈ l, 0 ≤ e ∧ e < (Rr.length : Int)
def cS (Rr : List Int) (x y : Int) : Int := cap_split_1.sgnI (rd Rr y) (rd Rr x)
theorem cS_lt (Rr : List Int) (x y : Int) : cS Rr x y < 0 ↔ kD Rr x < kD Rr y := by
  unfold cS kD cap_split_1.sgnI
  split
  · omega
  · split <;> omega
theorem cS_of {Rr : List Int} {x y : Int} (hx : 0 ≤ x ∧ x < (Rr.length : Int)) (hy : 0 ≤ y ∧ y < (Rr.length : Int)) : cS Rr x y < 0 ↔ kD Rr x < kD Rr y := cS_lt Rr x y
theorem cmp_ok {Rr : List Int} (x y : Int) (hx : 0 ≤ x ∧ x < (Rr.length : Int)) (hy : 0 ≤ y ∧ y < (Rr.length : Int)) : cap_split_1.f x y Rr = some (cS Rr x y) := by
  unfold cap_split_1.f cS
  rw [if_pos ⟨hx.1, hx.2, hy.1, hy.2⟩]
/-- What a run on a part of a row comes to: the part sorted, nothing else changed. -/
def Sorts (Rr : List Int) (g : Nat → Option (List Int)) (P X Q : List Int) : Prop := ∃ F, Ev g (P ++ F ++ Q) ∧ Sd (kD Rr) F ∧ Fe (kD Rr) X F ∧ F.length = X.length
theorem Fe.dayOk {l m : List Int} (h : Fe (kD Rr) l m) (hl : dayOk Rr l) : dayOk Rr m := fun e he => hl e ((h.mem e).2 he)
theorem ins_l1 (P R Q : List Int) (a b i : Int) (y : Int) (N : Nat) (hN : small (P ++ R ++ Q)) (hout : ∀ W : List Int, W.length = N + 1 → Sd (kD Rr) W → dayOk Rr W → Sorts Rr (fun k => slices_insertionSortCmpFunc_int.l0 k (P ++ W ++ R ++ Q) a b Rr (wrap64 (i + 1))) P (W ++ R) Q) :
    ∀ (X1 X2 : List Int) (j : Int), X1.length + X2.length = N → small (P ++ X1 ++ (y :: X2) ++ R ++ Q) → Sd (kD Rr) (X1 ++ X2) → (∀ z ∈ X2, (kD Rr) y < (kD Rr) z) → dayOk Rr (X1 ++ y :: X2) → a = P.length → j = P.length + X1.length →
    Sorts Rr (fun k => slices_insertionSortCmpFunc_int.l1 k (P ++ X1 ++ (y :: X2) ++ R ++ Q) a b Rr i j) P (X1 ++ X2 ++ [y] ++ R) Q := by
  intro X1
  generalize hq : X1.length = q
  induction q generalizing X1 with
  | zero =>
    intro X2 j hl hs h1 h2 hd ha hj
    obtain rfl : X1 = [] := List.eq_nil_of_length_eq_zero hq
    simp only [List.nil_append, List.append_nil, List.length_nil] at *
    obtain ⟨F, e, s, f, l⟩ := hout (y :: X2) (by rw [List.length_cons]; omega) (List.pairwise_cons.2 ⟨fun z hz => Int.le_of_lt (h2 z hz), h1⟩) hd
    refine ⟨F, ?_, s, ?_, ?_⟩
    · apply Ev.step
      · intro k; rw [slices_insertionSortCmpFunc_int.l1]
      · exact Ev.ite_neg (by omega) e
    · refine Fe.trans ?_ f
      have : Fe (kD Rr) (X2 ++ [y]) ([y] ++ X2) := Fe.swap (fun x hx z hz => by rw [List.mem_singleton.1 hz]; exact h2 x hx)
      exact this.right R
    · rw [l]; simp only [List.length_append, List.length_cons, List.length_nil]
  | succ q ih =>
    intro X2 j hl hs h1 h2 hd ha hj
    obtain ⟨X, x, rfl⟩ : ∃ X x, X1 = X ++ [x] := ⟨X1.dropLast, X1.getLast (by intro h; rw [h] at hq; simp at hq), (List.dropLast_concat_getLast _).symm⟩
    simp only [List.length_append, List.length_cons, List.length_nil] at hq hj hl
    have hs' := hs
    unfold small at hs'
    simp only [List.length_append, List.length_cons, List.length_nil] at hs'
    have e1 : P ++ (X ++ [x]) ++ (y :: X2) ++ R ++ Q = (P ++ (X ++ [x])) ++ y :: (X2 ++ R ++ Q) := by simp [List.append_assoc]
    have e2 : P ++ (X ++ [x]) ++ (y :: X2) ++ R ++ Q = (P ++ X) ++ x :: (y :: X2 ++ R ++ Q) := by simp [List.append_assoc]
    have r1_ : rd (P ++ (X ++ [x]) ++ (y :: X2) ++ R ++ Q) j = y := by rw [e1]; exact rd_at (by simp only [List.length_append, List.length_cons, List.length_nil]; omega)
    have r1 := Aside0.mk r1_
    clear r1_
    have r2_ : rd (P ++ (X ++ [x]) ++ (y :: X2) ++ R ++ Q) (j - 1) = x := by rw [e2]; exact rd_at (by simp only [List.length_append]; omega)
    have r2 := Aside0.mk r2_
    clear r2_
    have hlen : ((P ++ (X ++ [x]) ++ (y :: X2) ++ R ++ Q).length : Int) = P.length + (X.length + 1) + (X2.length + 1) + R.length + Q.length := by simp only [List.length_append, List.length_cons, List.length_nil]; omega
    have dx := hd x (by simp)
    have dy := hd y (by simp)
    by_cases c : (kD Rr) y < (kD Rr) x
    · have e3 : ((P ++ (X ++ [x]) ++ (y :: X2) ++ R ++ Q).set j.toNat x).set (j - 1).toNat y = P ++ X ++ (y :: (x :: X2)) ++ R ++ Q := by
        rw [e1, set_at (by simp only [List.length_append, List.length_cons, List.length_nil]; omega), show (P ++ (X ++ [x])) ++ x :: (X2 ++ R ++ Q) = (P ++ X) ++ x :: (x :: X2 ++ R ++ Q) by simp [List.append_assoc], set_at (by simp only [List.length_append]; omega)]
        simp [List.append_assoc]
      obtain ⟨F, e, s, f, l⟩ := ih X (by omega) (x :: X2) (j - 1) (by rw [List.length_cons]; omega) (by unfold small; simp only [List.length_append, List.length_cons]; omega) (by simpa [List.append_assoc] using h1) (by
        intro z hz
        rcases List.mem_cons.1 hz with rfl | hz
        · exact c
        · exact h2 z hz) (by
        intro z hz
        apply hd
        simp only [List.mem_append, List.mem_cons, List.not_mem_nil, or_false] at hz ⊢
        rcases hz with h | h | h | h
        · exact Or.inl (Or.inl h)
        · exact Or.inr (Or.inl h)
        · exact Or.inl (Or.inr h)
        · exact Or.inr (Or.inr h)) ha (by omega)
      refine ⟨F, ?_, s, by simpa [List.append_assoc] using f, by rw [l]; simp only [List.length_append, List.length_cons, List.length_nil]; omega⟩
      apply Ev.step
      · intro k; rw [slices_insertionSortCmpFunc_int.l1]
      · rw [w64 (a := j - 1) (by omega) (by omega), r1.out, r2.out, cmp_ok y x dy dx]
        have hcS_ := cS_of dy dx
        refine Ev.ite_pos (by omega) (Ev.ite_pos (by omega) (Ev.ite_pos (by omega) (Ev.ite_pos (by omega) (Ev.ite_pos (by omega) ?_))))
        refine Ev.ite_pos (by omega) ?_
        have hh : Ev (fun k => slices_insertionSortCmpFunc_int.l1 k (((P ++ (X ++ [x]) ++ (y :: X2) ++ R ++ Q).set j.toNat x).set (j - 1).toNat y) a b Rr i (j - 1)) (P ++ F ++ Q) := by rw [e3]; exact e
        exact hh
    · have hW : Sd (kD Rr) (X ++ [x] ++ (y :: X2)) := by
        refine Sd.append h1.left (List.pairwise_cons.2 ⟨fun z hz => Int.le_of_lt (h2 z hz), h1.right⟩) ?_
        have hxl : ∀ z ∈ X ++ [x], (kD Rr) z ≤ (kD Rr) x := by
          intro z hz
          rcases List.mem_append.1 hz with hz | hz
          · exact h1.left.across z hz x (by simp)
          · rw [List.mem_singleton.1 hz]; exact Int.le_refl _
        intro z hz u hu
        rcases List.mem_cons.1 hu with rfl | hu
        · have := hxl z hz; omega
        · have := hxl z hz; have := h2 u hu; omega
      obtain ⟨F, e, s, f, l⟩ := hout (X ++ [x] ++ (y :: X2)) (by simp only [List.length_append, List.length_cons, List.length_nil]; omega) hW hd
      refine ⟨F, ?_, s, ?_, by rw [l]; simp only [List.length_append, List.length_cons, List.length_nil]; omega⟩
      · apply Ev.step
        · intro k; rw [slices_insertionSortCmpFunc_int.l1]
        · rw [w64 (a := j - 1) (by omega) (by omega), r1.out, r2.out, cmp_ok y x dy dx]
          have hcS_ := cS_of dy dx
          refine Ev.ite_pos (by omega) (Ev.ite_pos (by omega) (Ev.ite_pos (by omega) (Ev.ite_pos (by omega) (Ev.ite_pos (by omega) ?_))))
          refine Ev.ite_neg (by omega) ?_
          have e4 : P ++ (X ++ [x]) ++ (y :: X2) ++ R ++ Q = P ++ (X ++ [x] ++ (y :: X2)) ++ R ++ Q := by simp [List.append_assoc]
          rw [e4]
          exact e
      · refine Fe.trans ?_ f
        have : Fe (kD Rr) (X2 ++ [y]) ([y] ++ X2) := Fe.swap (fun x hx z hz => by rw [List.mem_singleton.1 hz]; exact h2 x hx)
        have := (this.left (X ++ [x])).right R
        simpa [List.append_assoc] using this
theorem ins_l0 (P Q : List Int) (a b : Int) : ∀ (R X : List Int) (i : Int), small (P ++ X ++ R ++ Q) → Sd (kD Rr) X → dayOk Rr (X ++ R) → a = P.length → b = P.length + X.length + R.length → i = P.length + X.length →
    Sorts Rr (fun k => slices_insertionSortCmpFunc_int.l0 k (P ++ X ++ R ++ Q) a b Rr i) P (X ++ R) Q := by
  intro R
  induction R with
  | nil =>
    intro X i hs hX hd ha hb hi
    simp only [List.append_nil, List.length_nil] at *
    refine ⟨X, ?_, hX, Fe.refl _, rfl⟩
    apply Ev.step
    · intro k; rw [slices_insertionSortCmpFunc_int.l0]
    · exact Ev.ite_neg (by omega) (Ev.now _)
  | cons y R ih =>
    intro X i hs hX hd ha hb hi
    have hs' := hs
    unfold small at hs'
    simp only [List.length_append, List.length_cons] at hs' hb
    have e4 : P ++ X ++ (y :: R) ++ Q = P ++ X ++ (y :: []) ++ R ++ Q := by simp [List.append_assoc]
    obtain ⟨F, e, s, f, l⟩ := ins_l1 (Rr := Rr) P R Q a b i y X.length (by unfold small; simp only [List.length_append]; omega) (fun W hW hWs hWd => by
      rw [w64 (a := i + 1) (by omega) (by omega)]
      exact ih W (i + 1) (by unfold small; simp only [List.length_append]; omega) hWs (fun z hz => by
        rcases List.mem_append.1 hz with hz | hz
        · exact hWd z hz
        · exact hd z (by simp [hz])) ha (by omega) (by omega)) X [] i (by simp) (by rw [← e4]; exact hs) (by simpa using hX) (by simp) (fun z hz => hd z (by
        simp only [List.mem_append, List.mem_cons, List.not_mem_nil, or_false] at hz ⊢
        rcases hz with h | h
        · exact Or.inl h
        · exact Or.inr (Or.inl h))) ha hi
    refine ⟨F, ?_, s, by simpa [List.append_assoc] using f, by rw [l]; simp only [List.length_append, List.length_cons, List.length_nil]; omega⟩
    apply Ev.step
    · intro k; rw [slices_insertionSortCmpFunc_int.l0]
    · refine Ev.ite_pos (by omega) ?_
      rw [e4]
      exact e
theorem ins_ok (P X Q : List Int) (a b : Int) (hs : small (P ++ X ++ Q)) (hd : dayOk Rr X) (ha : a = P.length) (hb : b = P.length + X.length) : Sorts Rr (fun k => slices_insertionSortCmpFunc_int.f k (P ++ X ++ Q) a b Rr) P X Q := by
  have hs' := hs
  unfold small at hs'
  simp only [List.length_append] at hs'
  unfold slices_insertionSortCmpFunc_int.f
  rw [w64 (a := a + 1) (by omega) (by omega)]
  cases X with
  | nil =>
    refine ⟨[], ?_, List.Pairwise.nil, Fe.refl _, rfl⟩
    simp only [List.length_nil] at hb
    apply Ev.step
    · intro k; rw [slices_insertionSortCmpFunc_int.l0]
    · exact Ev.ite_neg (by omega) (Ev.now _)
  | cons x X =>
    have e4 : P ++ (x :: X) ++ Q = P ++ [x] ++ X ++ Q := by simp [List.append_assoc]
    simp only [List.length_cons] at hb hs'
    obtain ⟨F, e, s, f, l⟩ := ins_l0 (Rr := Rr) P Q a b X [x] (a + 1) (by rw [← e4]; exact hs) (List.pairwise_singleton _ _) hd ha (by simp only [List.length_cons, List.length_nil]; omega) (by simp only [List.length_cons, List.length_nil]; omega)
    exact ⟨F, by rw [e4]; exact e, s, f, l⟩
end Go.Proofs.Ytbcaaocogphdeaa.Pure
end
