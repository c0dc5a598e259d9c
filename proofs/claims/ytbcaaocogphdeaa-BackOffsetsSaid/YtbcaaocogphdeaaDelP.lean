/- Plain lemmas, picked by pick.py out of this seat's other plain texts. -/
import Derived.Test.YtbcaaocogphdeaaPDelx0
import Derived.Test.YtbcaaocogphdeaaPDelx3
import Derived.Test.YtbcaaocogphdeaaPDelx4
import Derived.Test.YtbcaaocogphdeaaPDelx28
import Derived.Test.YtbcaaocogphdeaaPDelx29
import Derived.Test.YtbcaaocogphdeaaPDelx30
import Derived.Test.YtbcaaocogphdeaaPDelx31
import Derived.Test.YtbcaaocogphdeaaPDelx33
namespace Go.Proofs.Ytbcaaocogphdeaa.Pure
open Go.RowKit Go.Proofs.Ytbcaaocogphdeaa.PDel Go.Proofs.YtbcaaocogphdeaaW.PrintWords Go.Proofs.YtbcaaocogphdeaaW.PrintLast
set_option linter.unusedVariables false
set_option linter.unusedSimpArgs false

theorem w64 {a : Int} (h0 : -9223372036854775808 ≤ a) (h1 : a ≤ 9223372036854775807) : wrap64 a = a := by unfold wrap64; omega
theorem Ev.ite_pos {α : Type} {c : Prop} [Decidable c] {f g : Nat → Option α} {r : α} (hc : c) (h : Ev f r) : Ev (fun k => if c then f k else g k) r := Ev.congr (fun _ => if_pos hc) h
theorem Ev.ite_neg {α : Type} {c : Prop} [Decidable c] {f g : Nat → Option α} {r : α} (hc : ¬ c) (h : Ev g r) : Ev (fun k => if c then f k else g k) r := Ev.congr (fun _ => if_neg hc) h
theorem Ev.some_ {α : Type} {r r' : α} (h : r = r') : Ev (fun _ => some r) r' := h ▸ Ev.now r
theorem Ev.res {α : Type} {g : Nat → Option α} {r r' : α} (e : r' = r) (h : Ev g r) : Ev g r' := e ▸ h
theorem drop_cons {α : Type} (l : List α) (z : α) (i : Nat) (h : i < l.length) : l.drop i = l.getD i z :: l.drop (i + 1) := by
  rw [List.drop_eq_getElem_cons h]; simp [List.getD_eq_getElem?_getD, h]
def okP (p : S32) : Prop := -1099511627776 ≤ p.f2 ∧ p.f2 ≤ 1099511627776 ∧ 0 ≤ p.f3 ∧ p.f3 ≤ 1048575 ∧ 0 ≤ p.f1 ∧ p.f1 ≤ 1048575
theorem rd_mem {l : List S32} {i : Int} (h0 : 0 ≤ i) (h1 : i < l.length) : rd_T32 l i ∈ l := by
  have hx : i.toNat < l.length := by omega
  unfold rd_T32
  rw [List.getD_eq_getElem?_getD, List.getElem?_eq_getElem hx]
  exact List.getElem_mem hx
theorem check_l0 (l : List S32) (hn : l.length ≤ 1000) (h : ∀ p ∈ l, okP p) : ∀ (n i : Nat), i + n = l.length → ∀ k, 2 * n + 1 ≤ k → back_Check.l0 k l (l.length : Int) (i : Int) = some 0 := by
  intro n
  induction n with
  | zero =>
    intro i hi k hk
    obtain ⟨k, rfl⟩ : ∃ j, k = j + 1 := ⟨k - 1, by omega⟩
    rw [back_Check.l0, if_neg (by omega)]
  | succ n ih =>
    intro i hi k hk
    obtain ⟨k, rfl⟩ : ∃ j, k = j + 1 + 1 := ⟨k - 2, by omega⟩
    obtain ⟨a1, a2, a3, a4, a5, a6⟩ := h _ (rd_mem (l := l) (i := (i : Int)) (by omega) (by omega))
    rw [back_Check.l0, if_pos (by omega), if_pos (by omega), if_pos (by omega), if_neg (by omega), back_Check.j1, if_neg (by simp; omega), if_neg (by omega), if_neg (by omega), if_neg (by omega), if_neg (by omega)]
    rw [show wrap64 ((i : Int) + 1) = ((i + 1 : Nat) : Int) by rw [w64 (by omega) (by omega)]; omega]
    exact ih (i + 1) (by omega) k (by omega)
theorem check_ok (l : List S32) (hn : l.length ≤ 1000) (h : ∀ p ∈ l, okP p) (k : Nat) (hk : 2 * l.length + 1 ≤ k) : back_Check.f k l = some 0 := by
  unfold back_Check.f
  rw [if_neg (by omega)]
  exact check_l0 l hn h l.length 0 (by omega) k hk
def sums (a b : List S32) : List ((Int × Int) × Int) := corr_fill (-1) (corr_fill 1 [] b) a
theorem correct_ok (a b : List S32) (d : Int) (ha : a.length ≤ 1000) (hb : b.length ≤ 1000) (h1 : ∀ p ∈ a, okP p) (h2 : ∀ p ∈ b, okP p) (w1 : ∀ p ∈ a, 0 ≤ p.f0 ∧ p.f0 ≤ 1000) (w2 : ∀ p ∈ b, 0 ≤ p.f0 ∧ p.f0 ≤ 1000) (hd0 : 0 ≤ d) (hd1 : d ≤ 1048575) :
    back_Correct.f a b d = some (pay_sort (corr_list (sums a b) d), 0) := by
  have wf : ∀ l : List S32, (∀ p ∈ l, okP p) → (∀ p ∈ l, 0 ≤ p.f0 ∧ p.f0 ≤ 1000) → corr_wf l = true := by
    intro l o w
    unfold corr_wf
    rw [List.all_eq_true]
    intro p hp
    have := o p hp
    have := w p hp
    unfold okP at *
    unfold isI64
    rw [Bool.and_eq_true, decide_eq_true_eq, decide_eq_true_eq]
    omega
  unfold back_Correct.f
  rw [check_ok a ha h1 _ (by omega), check_ok b hb h2 _ (by omega)]
  simp only [Option.bind_some, if_true]
  rw [if_neg (by omega), if_neg (by omega), if_pos (by rw [wf a h1 w1, wf b h2 w2]; simp [ha, hb])]
  rfl
theorem sort_one (p : S32) : pay_sort [p] = [p] := List.perm_singleton.1 (pay_perm [p]).1
theorem corrected_one : back_Correct.f [] [(⟨1, 2, 3, 4⟩ : S32)] 9 = some ([(⟨1, 2, 3, 9⟩ : S32)], 0) := by
  rw [correct_ok [] [(⟨1, 2, 3, 4⟩ : S32)] 9 (by simp) (by simp) (by simp) (by intro p hp; rw [List.mem_singleton] at hp; subst hp; unfold okP; simp) (by simp) (by intro p hp; rw [List.mem_singleton] at hp; subst hp; simp) (by omega) (by omega)]
  have e : corr_list (sums [] [(⟨1, 2, 3, 4⟩ : S32)]) 9 = [(⟨1, 2, 3, 9⟩ : S32)] := by
    simp [sums, corr_fill, corr_add, corr_list, wrap64]
  rw [e, sort_one]
def payV (p : S32) : Int := if p.f2 < -1099511627776 ∨ p.f2 > 1099511627776 then 2 else if p.f3 < 0 ∨ p.f3 > 1048575 ∨ p.f1 < 0 ∨ p.f1 > 1048575 then 1 else 0
def payC : List S32 → Int
  | [] => 0
  | p :: r => if payV p = 0 then payC r else payV p
def payF (l : List S32) : Int := if l.length > 1000 then 2 else payC l
theorem payV_ok {p : S32} (h : payV p = 0) : okP p := by
  unfold payV at h
  unfold okP
  split at h
  · omega
  · split at h
    · omega
    · omega
theorem payC_ok {l : List S32} (h : payC l = 0) : ∀ p ∈ l, okP p := by
  induction l with
  | nil => simp
  | cons p r ih =>
    unfold payC at h
    split at h
    · rename_i h0
      intro q hq
      rcases List.mem_cons.1 hq with rfl | hq
      · exact payV_ok h0
      · exact ih h q hq
    · rename_i h0
      exact absurd h h0
theorem payF_ok {l : List S32} (h : payF l = 0) : l.length ≤ 1000 ∧ ∀ p ∈ l, okP p := by
  unfold payF at h
  split at h
  · omega
  · exact ⟨by omega, payC_ok h⟩
theorem drop_rd (l : List S32) (i : Nat) (h : i < l.length) : l.drop i = rd_T32 l (i : Int) :: l.drop (i + 1) := by
  rw [drop_cons l z32 i h]
  rfl
theorem next_i {l : List S32} {i n : Nat} (hi : i + (n + 1) = l.length) (hn : l.length ≤ 100000) : wrap64 ((i : Int) + 1) = ((i + 1 : Nat) : Int) := by rw [w64 (by omega) (by omega)]; omega
theorem checkF_l0 (l : List S32) (hn : l.length ≤ 1000) : ∀ (n i : Nat), i + n = l.length → ∀ k, 2 * n + 1 ≤ k → back_Check.l0 k l (l.length : Int) (i : Int) = some (payC (l.drop i)) := by
  intro n
  induction n with
  | zero =>
    intro i hi k hk
    obtain ⟨k, rfl⟩ : ∃ j, k = j + 1 := ⟨k - 1, by omega⟩
    rw [back_Check.l0, if_neg (by omega), List.drop_of_length_le (by omega), payC]
  | succ n ih =>
    intro i hi k hk
    obtain ⟨k, rfl⟩ : ∃ j, k = j + 1 + 1 := ⟨k - 2, by omega⟩
    have hr := ih (i + 1) (by omega) k (by omega)
    rw [drop_rd l i (by omega), payC, back_Check.l0, if_pos (by omega), if_pos (by omega), if_pos (by omega)]
    generalize rd_T32 l (i : Int) = p
    unfold payV
    by_cases c1 : p.f2 < -1099511627776
    · rw [if_pos c1, back_Check.j1, if_pos rfl, if_pos (Or.inl c1), if_neg (by omega)]
    · rw [if_neg c1, back_Check.j1]
      by_cases c2 : p.f2 > 1099511627776
      · rw [if_pos (decide_eq_true c2), if_pos (Or.inr c2), if_neg (by omega)]
      · rw [if_neg (by simpa using c2), if_neg (show ¬ (p.f2 < -1099511627776 ∨ p.f2 > 1099511627776) by omega)]
        by_cases c3 : p.f3 < 0
        · rw [if_pos c3, if_pos (Or.inl c3), if_neg (by omega)]
        · rw [if_neg c3]
          by_cases c4 : p.f3 > 1048575
          · rw [if_pos c4, if_pos (Or.inr (Or.inl c4)), if_neg (by omega)]
          · rw [if_neg c4]
            by_cases c5 : p.f1 < 0
            · rw [if_pos c5, if_pos (Or.inr (Or.inr (Or.inl c5))), if_neg (by omega)]
            · rw [if_neg c5]
              by_cases c6 : p.f1 > 1048575
              · rw [if_pos c6, if_pos (Or.inr (Or.inr (Or.inr c6))), if_neg (by omega)]
              · rw [if_neg c6, if_neg (show ¬ (p.f3 < 0 ∨ p.f3 > 1048575 ∨ p.f1 < 0 ∨ p.f1 > 1048575) by omega), if_pos rfl, next_i hi (by omega)]
                exact hr
theorem checkF (l : List S32) (k : Nat) (hk : 2 * l.length + 1 ≤ k) : back_Check.f k l = some (payF l) := by
  unfold back_Check.f payF
  by_cases c : l.length > 1000
  · rw [if_pos (by omega), if_pos c]
  · rw [if_neg (by omega), if_neg c]
    exact checkF_l0 l (by omega) l.length 0 (by omega) k hk
theorem faultF_l0 (l : List S32) (hn : l.length ≤ 1000) : ∀ (n i : Nat), i + n = l.length → ∀ k, 2 * n + 1 ≤ k → mootlaw4_paysFault.l0 k l (l.length : Int) (i : Int) = some (payC (l.drop i)) := by
  intro n
  induction n with
  | zero =>
    intro i hi k hk
    obtain ⟨k, rfl⟩ : ∃ j, k = j + 1 := ⟨k - 1, by omega⟩
    rw [mootlaw4_paysFault.l0, if_neg (by omega), List.drop_of_length_le (by omega), payC]
  | succ n ih =>
    intro i hi k hk
    obtain ⟨k, rfl⟩ : ∃ j, k = j + 1 + 1 := ⟨k - 2, by omega⟩
    have hr := ih (i + 1) (by omega) k (by omega)
    rw [drop_rd l i (by omega), payC, mootlaw4_paysFault.l0, if_pos (by omega), if_pos (by omega), if_pos (by omega)]
    generalize rd_T32 l (i : Int) = p
    unfold payV
    by_cases c1 : p.f2 < -1099511627776
    · rw [if_pos c1, mootlaw4_paysFault.j1, if_pos rfl, if_pos (Or.inl c1), if_neg (by omega)]
    · rw [if_neg c1, mootlaw4_paysFault.j1]
      by_cases c2 : p.f2 > 1099511627776
      · rw [if_pos (decide_eq_true c2), if_pos (Or.inr c2), if_neg (by omega)]
      · rw [if_neg (by simpa using c2), if_neg (show ¬ (p.f2 < -1099511627776 ∨ p.f2 > 1099511627776) by omega)]
        have e1 : mn p.f3 p.f1 = min p.f3 p.f1 := by unfold mn; split <;> omega
        have e2 : mx p.f3 p.f1 = max p.f3 p.f1 := by unfold mx; split <;> omega
        rw [e1, e2]
        by_cases c3 : min p.f3 p.f1 < 0
        · rw [if_pos c3, if_pos (show p.f3 < 0 ∨ p.f3 > 1048575 ∨ p.f1 < 0 ∨ p.f1 > 1048575 by omega), if_neg (by omega)]
        · rw [if_neg c3]
          by_cases c4 : max p.f3 p.f1 > 1048575
          · rw [if_pos c4, if_pos (show p.f3 < 0 ∨ p.f3 > 1048575 ∨ p.f1 < 0 ∨ p.f1 > 1048575 by omega), if_neg (by omega)]
          · rw [if_neg c4, if_neg (show ¬ (p.f3 < 0 ∨ p.f3 > 1048575 ∨ p.f1 < 0 ∨ p.f1 > 1048575) by omega), if_pos rfl, next_i hi (by omega)]
            exact hr
theorem faultF (l : List S32) (k : Nat) (hk : 2 * l.length + 1 ≤ k) : mootlaw4_paysFault.f k l = some (payF l) := by
  unfold mootlaw4_paysFault.f payF
  by_cases c : l.length > 1000
  · rw [if_pos (by omega), if_pos c]
  · rw [if_neg (by omega), if_neg c]
    exact faultF_l0 l (by omega) l.length 0 (by omega) k hk
theorem corrects_ok (k : Nat) (hk : 3 ≤ k) : mootlaw4_corrects.f k = some true := by
  obtain ⟨j, rfl⟩ : ∃ j, k = j + 1 + 1 := ⟨k - 2, by omega⟩
  unfold mootlaw4_corrects.f
  rw [corrected_one]
  simp only [Option.bind_some, if_true]
  have e : api_Pay_22.f (j + 1 + 1) [(⟨1, 2, 3, 9⟩ : S32)] [(⟨1, 2, 3, 9⟩ : S32)] = some true := by
    simp [api_Pay_22.f, api_Pay_22.l0, rd_T32, wrap64]
  rw [e]
  rfl
theorem wf_corr {l : List S32} (h : ∀ x ∈ l, wf_S32 x) : corr_wf l = true := by
  unfold corr_wf
  rw [List.all_eq_true]
  intro p hp
  have := h p hp
  rw [Bool.and_eq_true]
  exact ⟨wf_isI64 this.1, wf_isI64 this.2.1⟩
theorem Ev.const_ {α : Type} {g : Option α} {r : α} (h : g = some r) : Ev (fun _ => g) r := ⟨0, fun _ _ => h⟩
theorem equal_l0 (x : List S32) (hx : x.length ≤ 100000) : ∀ (n i : Nat), i + n = x.length → Ev (fun k => api_Pay_22.l0 k x x (x.length : Int) (i : Int)) true := by
  intro n
  induction n with
  | zero =>
    intro i hi
    apply Ev.step
    · intro k; rw [api_Pay_22.l0]
    · exact Ev.ite_neg (by omega) (Ev.now _)
  | succ n ih =>
    intro i hi
    apply Ev.step
    · intro k; rw [api_Pay_22.l0]
    · refine Ev.ite_pos (by omega) (Ev.ite_pos (by omega) (Ev.ite_pos (by omega) (Ev.ite_pos (by omega) (Ev.ite_neg (by simp) ?_))))
      rw [next_i hi hx]
      exact ih (i + 1) (by omega)
theorem equal_self (x : List S32) (hx : x.length ≤ 100000) : Ev (fun k => api_Pay_22.f k x x) true := by
  have := equal_l0 x hx x.length 0 (by omega)
  exact Ev.congr (fun k => by unfold api_Pay_22.f; rw [if_pos rfl]; rfl) this
theorem upd_same (M : Int → Int) (k v : Int) : back_Offsets.upd M k v k = v := if_pos rfl
theorem upd_other (M : Int → Int) {k j : Int} (v : Int) (h : j ≠ k) : back_Offsets.upd M k v j = M j := if_neg h
theorem mnv (a b : Int) : mn a b = min a b := by unfold mn; split <;> omega
theorem mxv (a b : Int) : mx a b = max a b := by unfold mx; split <;> omega
theorem drop_rd39 (l : List S39) (i : Nat) (h : i < l.length) : l.drop i = rd_T39 l (i : Int) :: l.drop (i + 1) := by
  rw [List.drop_eq_getElem_cons h]; simp [rd_T39, List.getD_eq_getElem?_getD, h]
end Go.Proofs.Ytbcaaocogphdeaa.Pure
