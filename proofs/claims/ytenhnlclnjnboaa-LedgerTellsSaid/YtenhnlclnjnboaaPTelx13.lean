-- Printed by this session's wip/myprint.py.
import Derived.Test.YtenhnlclnjnboaaPTelx0
namespace Go.Proofs.Ytenhnlclnjnboaa.PTel
open Go.RowKit Go.Proofs.YtenhnlclnjnboaaW.PrintWords Go.Proofs.YtenhnlclnjnboaaW.PrintLast Go.Proofs.YtenhnlclnjnboaaW.PrintMore
attribute [local go_sem] max2_int min2_int max_two min_two max_three min_three max_four min_four   -- for this text's walks alone
set_option linter.unusedVariables false
set_option linter.unusedSimpArgs false

/-! ### mootlaw4_moved: function 22 -/
/-- What came to an account, and what left it, on the days that a predicate lets in; from the last entry on. -/
def mootlaw4_moved.mv (p : Int → Bool) (acct : Int) (l : List S35) : Nat → Int → Int → Int × Int
  | 0, a, b => (a, b)
  | n + 1, a, b => mootlaw4_moved.mv p acct l n (if p (rd_T35 l (n : Int)).f0 = true ∧ (rd_T35 l (n : Int)).f2 = acct then wrap64 (a + (rd_T35 l (n : Int)).f3) else a) (if p (rd_T35 l (n : Int)).f0 = true ∧ (rd_T35 l (n : Int)).f1 = acct then wrap64 (b + (rd_T35 l (n : Int)).f3) else b)
def mootlaw4_moved_c32.p  (d : Int) : Bool := true
theorem mootlaw4_moved_c32.clo  (d : Int) (w : World)  : Calls Try.prog 32 #[.int .i64 d] w fun e w' => e = .returned (.bool (mootlaw4_moved_c32.p  d)) ∧ Drawn0 w w' := by
  unfold mootlaw4_moved_c32.p
  go_enter Try.func32, Try.ntmps32
  go_wp2
  go_ret
  exact ⟨by first | rfl | simp, by repeat (first | exact Drawn0.refl _ | apply Drawn0.step)⟩
def mootlaw4_moved_c32.f (l0 : List S35) (a1 : Int)  : Option (Int × Int) := if l0.length ≤ 1000000000000 then some (mootlaw4_moved.mv (mootlaw4_moved_c32.p ) a1 l0 l0.length 0 0) else none
set_option maxHeartbeats 4000000 in
set_option maxRecDepth 100000 in
theorem mootlaw4_moved_c32.go (A0 : Option Addr) (c0 : Nat) (l0 : List S35) (a1 : Int)  (w : World) (hr0 : Kd.C k35 w A0 l0.length l0) (hl : l0.length ≤ 1000000000000)  :
    Calls Try.prog 22 #[.slice A0 l0.length c0, .int .i64 a1, .func (.func 32) #[] #[]] w fun e w' => e = .returned (.tuple #[.int .i64 (mootlaw4_moved.mv (mootlaw4_moved_c32.p ) a1 l0 l0.length 0 0).1, .int .i64 (mootlaw4_moved.mv (mootlaw4_moved_c32.p ) a1 l0 l0.length 0 0).2]) ∧ Drawn0 w w' := by
  have HR := Aside0.mk hr0
  have HN := Aside0.mk hl
  clear hr0 hl
  have hx0 : IntKind.i64.wrap ((l0.length : Int) - 1) = (l0.length : Int) - 1 := by rw [i64_w]; have := HN.out; unfold wrap64; omega
  go_enter Try.func22, Try.ntmps22
  go_wp2
  go_loopg [8, 9, 10] l0.length (fun kq va vb vi wr => ∃ (a b x : Int), va = .int .i64 a ∧ vb = .int .i64 b ∧ vi = .int .i64 x ∧ Aside0 (x + 1 = kq ∧ kq ≤ l0.length) ∧ Aside0 (mootlaw4_moved.mv (mootlaw4_moved_c32.p ) a1 l0 kq a b = mootlaw4_moved.mv (mootlaw4_moved_c32.p ) a1 l0 l0.length 0 0) ∧ Drawn0 w wr)
  case atStart => exact ⟨0, 0, (l0.length : Int) - 1, rfl, rfl, (by first | rfl | rw [hx0]), ⟨by omega, Nat.le_refl _⟩, ⟨rfl⟩, by repeat (first | exact Drawn0.refl _ | apply Drawn0.step)⟩
  case round =>
    obtain ⟨a, b, x, rfl, rfl, rfl, HJ, HX, ⟨m1, rfl⟩⟩ := hrel
    clear hx0
    cases gk with
    | zero =>
      have cb : decide (0 ≤ x) = false := decide_eq_false (by have := HJ.out; omega)
      go_wp2
      go_ret2
      exact ⟨by rw [← HX.out]; rfl, by repeat (first | exact Drawn0.refl _ | apply Drawn0.step)⟩
    | succ kq =>
      have HXK := Aside0.mk (show (kq : Int) = x by have := HJ.out; omega)
      have cb0 : decide (0 ≤ x) = true := decide_eq_true (by have := HXK.out; omega)
      have cb1 : decide (x < (l0.length : Int)) = true := decide_eq_true (by have := HJ.out; have := HXK.out; omega)
      have hxm : IntKind.i64.wrap (x - 1) = x - 1 := by rw [i64_w]; have := HJ.out; have := HXK.out; have := HN.out; unfold wrap64; omega
      have p1 : 0 ≤ x := by have := HXK.out; omega
      have q1 : x < (l0.length : Int) := by have := HJ.out; have := HXK.out; omega
      obtain ⟨ad, e1, hx_0, hx_1, hx_2, hx_3⟩ := at_T35 HR.out x p1 q1
      cases e1
      replace p1 := eq_true p1
      replace q1 := eq_true q1
      have HS := Aside0.mk (HX.out.symm)
      clear HX
      cases hp : mootlaw4_moved_c32.p  (rd_T35 l0 x).f0 with
      | false =>
        have HP := Aside0.mk hp
        clear hp
        go_wp2_with (go_at_call 32; refine (mootlaw4_moved_c32.clo  (rd_T35 l0 x).f0 _ ).mono ?_; rintro e w' ⟨rfl, ⟨nd, rfl⟩⟩; rw [HP.out])
        go_roundg kq
        case measure => omega
        case rel => exact ⟨a, b, x - 1, rfl, rfl, (by first | rfl | rw [hxm]), ⟨by have := HXK.out; omega, by have := HJ.out; omega⟩, ⟨by rw [HS.out, mootlaw4_moved.mv, HXK.out, if_neg (by rw [HP.out]; simp), if_neg (by rw [HP.out]; simp)]⟩, by repeat (first | exact Drawn0.refl _ | apply Drawn0.step)⟩
      | true =>
        have HP := Aside0.mk hp
        clear hp
        by_cases t1 : (rd_T35 l0 x).f2 = a1
        · have T1 := Aside0.mk t1
          have d1 : ((rd_T35 l0 x).f2 == a1) = true := beq_iff_eq.mpr t1
          clear t1
          by_cases t2 : (rd_T35 l0 x).f1 = a1
          · have T2 := Aside0.mk t2
            have d2 : ((rd_T35 l0 x).f1 == a1) = true := beq_iff_eq.mpr t2
            clear t2
            go_wp2_with (go_at_call 32; refine (mootlaw4_moved_c32.clo  (rd_T35 l0 x).f0 _ ).mono ?_; rintro e w' ⟨rfl, ⟨nd, rfl⟩⟩; rw [HP.out])
            go_roundg kq
            case measure => omega
            case rel => exact ⟨wrap64 (a + (rd_T35 l0 x).f3), wrap64 (b + (rd_T35 l0 x).f3), x - 1, (by first | rfl | simp only [i64_w]), (by first | rfl | simp only [i64_w]), (by first | rfl | rw [hxm]), ⟨by have := HXK.out; omega, by have := HJ.out; omega⟩, ⟨by rw [HS.out, mootlaw4_moved.mv, HXK.out, if_pos ⟨HP.out, T1.out⟩, if_pos ⟨HP.out, T2.out⟩]⟩, by repeat (first | exact Drawn0.refl _ | apply Drawn0.step)⟩
          · have T2 := Aside0.mk t2
            have d2 : ((rd_T35 l0 x).f1 == a1) = false := beq_eq_false_iff_ne.mpr t2
            clear t2
            go_wp2_with (go_at_call 32; refine (mootlaw4_moved_c32.clo  (rd_T35 l0 x).f0 _ ).mono ?_; rintro e w' ⟨rfl, ⟨nd, rfl⟩⟩; rw [HP.out])
            go_roundg kq
            case measure => omega
            case rel => exact ⟨wrap64 (a + (rd_T35 l0 x).f3), b, x - 1, (by first | rfl | simp only [i64_w]), rfl, (by first | rfl | rw [hxm]), ⟨by have := HXK.out; omega, by have := HJ.out; omega⟩, ⟨by rw [HS.out, mootlaw4_moved.mv, HXK.out, if_pos ⟨HP.out, T1.out⟩, if_neg (fun z => T2.out z.2)]⟩, by repeat (first | exact Drawn0.refl _ | apply Drawn0.step)⟩
        · have T1 := Aside0.mk t1
          have d1 : ((rd_T35 l0 x).f2 == a1) = false := beq_eq_false_iff_ne.mpr t1
          clear t1
          by_cases t2 : (rd_T35 l0 x).f1 = a1
          · have T2 := Aside0.mk t2
            have d2 : ((rd_T35 l0 x).f1 == a1) = true := beq_iff_eq.mpr t2
            clear t2
            go_wp2_with (go_at_call 32; refine (mootlaw4_moved_c32.clo  (rd_T35 l0 x).f0 _ ).mono ?_; rintro e w' ⟨rfl, ⟨nd, rfl⟩⟩; rw [HP.out])
            go_roundg kq
            case measure => omega
            case rel => exact ⟨a, wrap64 (b + (rd_T35 l0 x).f3), x - 1, rfl, (by first | rfl | simp only [i64_w]), (by first | rfl | rw [hxm]), ⟨by have := HXK.out; omega, by have := HJ.out; omega⟩, ⟨by rw [HS.out, mootlaw4_moved.mv, HXK.out, if_neg (fun z => T1.out z.2), if_pos ⟨HP.out, T2.out⟩]⟩, by repeat (first | exact Drawn0.refl _ | apply Drawn0.step)⟩
          · have T2 := Aside0.mk t2
            have d2 : ((rd_T35 l0 x).f1 == a1) = false := beq_eq_false_iff_ne.mpr t2
            clear t2
            go_wp2_with (go_at_call 32; refine (mootlaw4_moved_c32.clo  (rd_T35 l0 x).f0 _ ).mono ?_; rintro e w' ⟨rfl, ⟨nd, rfl⟩⟩; rw [HP.out])
            go_roundg kq
            case measure => omega
            case rel => exact ⟨a, b, x - 1, rfl, rfl, (by first | rfl | rw [hxm]), ⟨by have := HXK.out; omega, by have := HJ.out; omega⟩, ⟨by rw [HS.out, mootlaw4_moved.mv, HXK.out, if_neg (fun z => T1.out z.2), if_neg (fun z => T2.out z.2)]⟩, by repeat (first | exact Drawn0.refl _ | apply Drawn0.step)⟩
theorem mootlaw4_moved_c32.calls (A0 : Option Addr) (c0 : Nat) (l0 : List S35) (a1 : Int)  (r1 : Int) (r2 : Int) (w : World) (hr0 : Kd.C k35 w A0 l0.length l0) (hc0 : l0.length ≤ c0)  (h : mootlaw4_moved_c32.f l0 a1  = some (r1, r2)) :
    Calls Try.prog 22 #[.slice A0 l0.length c0, .int .i64 a1, .func (.func 32) #[] #[]] w fun e w' => e = .returned (.tuple #[.int .i64 r1, .int .i64 r2]) ∧ Below w.heap.size w w' := by
  unfold mootlaw4_moved_c32.f at h
  by_cases c : l0.length ≤ 1000000000000
  · rw [if_pos c] at h
    have h2 := Option.some.inj h
    have e1 := congrArg Prod.fst h2
    have e2 := congrArg Prod.snd h2
    simp only at e1 e2
    subst e1; subst e2
    exact (mootlaw4_moved_c32.go A0 c0 l0 a1  w hr0 c ).mono (fun e w' z => ⟨z.1, z.2.below⟩)
  · rw [if_neg c] at h
    exact absurd h (by simp)
def mootlaw4_moved_c36.p (f0 : Int) (d : Int) : Bool := decide (d ≤ f0)
theorem mootlaw4_moved_c36.clo (gb0 : Nat) (f0 : Int) (d : Int) (w : World) (hbox0 : w.heap[gb0]? = some (.cells #[.int .i64 f0] 3 (0, 0))) : Calls Try.prog 36 #[.int .i64 d, .pointer (some ⟨gb0, 0, none⟩)] w fun e w' => e = .returned (.bool (mootlaw4_moved_c36.p f0 d)) ∧ Drawn0 w w' := by
  unfold mootlaw4_moved_c36.p
  have ce0 : w.cell? ⟨gb0, 0, none⟩ = some (.int .i64 f0) := (blk_cell hbox0 0).trans rfl
  clear hbox0
  go_enter Try.func36, Try.ntmps36
  go_wp2
  go_ret
  exact ⟨by first | rfl | simp, by repeat (first | exact Drawn0.refl _ | apply Drawn0.step)⟩
def mootlaw4_moved_c36.f (l0 : List S35) (a1 : Int) (f0 : Int) : Option (Int × Int) := if l0.length ≤ 1000000000000 then some (mootlaw4_moved.mv (mootlaw4_moved_c36.p f0) a1 l0 l0.length 0 0) else none
set_option maxHeartbeats 4000000 in
set_option maxRecDepth 100000 in
theorem mootlaw4_moved_c36.go (A0 : Option Addr) (c0 : Nat) (l0 : List S35) (a1 : Int) (gb0 : Nat) (f0 : Int) (w : World) (hr0 : Kd.C k35 w A0 l0.length l0) (hl : l0.length ≤ 1000000000000) (hbox0 : w.heap[gb0]? = some (.cells #[.int .i64 f0] 3 (0, 0))) :
    Calls Try.prog 22 #[.slice A0 l0.length c0, .int .i64 a1, .func (.func 36) #[] #[.pointer (some ⟨gb0, 0, none⟩)]] w fun e w' => e = .returned (.tuple #[.int .i64 (mootlaw4_moved.mv (mootlaw4_moved_c36.p f0) a1 l0 l0.length 0 0).1, .int .i64 (mootlaw4_moved.mv (mootlaw4_moved_c36.p f0) a1 l0 l0.length 0 0).2]) ∧ Drawn0 w w' := by
  have HR := Aside0.mk hr0
  have HN := Aside0.mk hl
  clear hr0 hl
  have BX0 := Aside0.mk hbox0
  clear hbox0
  have hx0 : IntKind.i64.wrap ((l0.length : Int) - 1) = (l0.length : Int) - 1 := by rw [i64_w]; have := HN.out; unfold wrap64; omega
  go_enter Try.func22, Try.ntmps22
  go_wp2
  go_loopg [8, 9, 10] l0.length (fun kq va vb vi wr => ∃ (a b x : Int), va = .int .i64 a ∧ vb = .int .i64 b ∧ vi = .int .i64 x ∧ Aside0 (x + 1 = kq ∧ kq ≤ l0.length) ∧ Aside0 (mootlaw4_moved.mv (mootlaw4_moved_c36.p f0) a1 l0 kq a b = mootlaw4_moved.mv (mootlaw4_moved_c36.p f0) a1 l0 l0.length 0 0) ∧ Drawn0 w wr)
  case atStart => exact ⟨0, 0, (l0.length : Int) - 1, rfl, rfl, (by first | rfl | rw [hx0]), ⟨by omega, Nat.le_refl _⟩, ⟨rfl⟩, by repeat (first | exact Drawn0.refl _ | apply Drawn0.step)⟩
  case round =>
    obtain ⟨a, b, x, rfl, rfl, rfl, HJ, HX, ⟨m1, rfl⟩⟩ := hrel
    clear hx0
    cases gk with
    | zero =>
      have cb : decide (0 ≤ x) = false := decide_eq_false (by have := HJ.out; omega)
      go_wp2
      go_ret2
      exact ⟨by rw [← HX.out]; rfl, by repeat (first | exact Drawn0.refl _ | apply Drawn0.step)⟩
    | succ kq =>
      have HXK := Aside0.mk (show (kq : Int) = x by have := HJ.out; omega)
      have cb0 : decide (0 ≤ x) = true := decide_eq_true (by have := HXK.out; omega)
      have cb1 : decide (x < (l0.length : Int)) = true := decide_eq_true (by have := HJ.out; have := HXK.out; omega)
      have hxm : IntKind.i64.wrap (x - 1) = x - 1 := by rw [i64_w]; have := HJ.out; have := HXK.out; have := HN.out; unfold wrap64; omega
      have p1 : 0 ≤ x := by have := HXK.out; omega
      have q1 : x < (l0.length : Int) := by have := HJ.out; have := HXK.out; omega
      obtain ⟨ad, e1, hx_0, hx_1, hx_2, hx_3⟩ := at_T35 HR.out x p1 q1
      cases e1
      replace p1 := eq_true p1
      replace q1 := eq_true q1
      have HS := Aside0.mk (HX.out.symm)
      clear HX
      cases hp : mootlaw4_moved_c36.p f0 (rd_T35 l0 x).f0 with
      | false =>
        have HP := Aside0.mk hp
        clear hp
        go_wp2_with (go_at_call 36; refine (mootlaw4_moved_c36.clo gb0 f0 (rd_T35 l0 x).f0 _ (by (with_reducible repeat (first | refine blk_drewN ?_ _ | refine blk_drew ?_)); exact BX0.out)).mono ?_; rintro e w' ⟨rfl, ⟨nd, rfl⟩⟩; rw [HP.out])
        go_roundg kq
        case measure => omega
        case rel => exact ⟨a, b, x - 1, rfl, rfl, (by first | rfl | rw [hxm]), ⟨by have := HXK.out; omega, by have := HJ.out; omega⟩, ⟨by rw [HS.out, mootlaw4_moved.mv, HXK.out, if_neg (by rw [HP.out]; simp), if_neg (by rw [HP.out]; simp)]⟩, by repeat (first | exact Drawn0.refl _ | apply Drawn0.step)⟩
      | true =>
        have HP := Aside0.mk hp
        clear hp
        by_cases t1 : (rd_T35 l0 x).f2 = a1
        · have T1 := Aside0.mk t1
          have d1 : ((rd_T35 l0 x).f2 == a1) = true := beq_iff_eq.mpr t1
          clear t1
          by_cases t2 : (rd_T35 l0 x).f1 = a1
          · have T2 := Aside0.mk t2
            have d2 : ((rd_T35 l0 x).f1 == a1) = true := beq_iff_eq.mpr t2
            clear t2
            go_wp2_with (go_at_call 36; refine (mootlaw4_moved_c36.clo gb0 f0 (rd_T35 l0 x).f0 _ (by (with_reducible repeat (first | refine blk_drewN ?_ _ | refine blk_drew ?_)); exact BX0.out)).mono ?_; rintro e w' ⟨rfl, ⟨nd, rfl⟩⟩; rw [HP.out])
            go_roundg kq
            case measure => omega
            case rel => exact ⟨wrap64 (a + (rd_T35 l0 x).f3), wrap64 (b + (rd_T35 l0 x).f3), x - 1, (by first | rfl | simp only [i64_w]), (by first | rfl | simp only [i64_w]), (by first | rfl | rw [hxm]), ⟨by have := HXK.out; omega, by have := HJ.out; omega⟩, ⟨by rw [HS.out, mootlaw4_moved.mv, HXK.out, if_pos ⟨HP.out, T1.out⟩, if_pos ⟨HP.out, T2.out⟩]⟩, by repeat (first | exact Drawn0.refl _ | apply Drawn0.step)⟩
          · have T2 := Aside0.mk t2
            have d2 : ((rd_T35 l0 x).f1 == a1) = false := beq_eq_false_iff_ne.mpr t2
            clear t2
            go_wp2_with (go_at_call 36; refine (mootlaw4_moved_c36.clo gb0 f0 (rd_T35 l0 x).f0 _ (by (with_reducible repeat (first | refine blk_drewN ?_ _ | refine blk_drew ?_)); exact BX0.out)).mono ?_; rintro e w' ⟨rfl, ⟨nd, rfl⟩⟩; rw [HP.out])
            go_roundg kq
            case measure => omega
            case rel => exact ⟨wrap64 (a + (rd_T35 l0 x).f3), b, x - 1, (by first | rfl | simp only [i64_w]), rfl, (by first | rfl | rw [hxm]), ⟨by have := HXK.out; omega, by have := HJ.out; omega⟩, ⟨by rw [HS.out, mootlaw4_moved.mv, HXK.out, if_pos ⟨HP.out, T1.out⟩, if_neg (fun z => T2.out z.2)]⟩, by repeat (first | exact Drawn0.refl _ | apply Drawn0.step)⟩
        · have T1 := Aside0.mk t1
          have d1 : ((rd_T35 l0 x).f2 == a1) = false := beq_eq_false_iff_ne.mpr t1
          clear t1
          by_cases t2 : (rd_T35 l0 x).f1 = a1
          · have T2 := Aside0.mk t2
            have d2 : ((rd_T35 l0 x).f1 == a1) = true := beq_iff_eq.mpr t2
            clear t2
            go_wp2_with (go_at_call 36; refine (mootlaw4_moved_c36.clo gb0 f0 (rd_T35 l0 x).f0 _ (by (with_reducible repeat (first | refine blk_drewN ?_ _ | refine blk_drew ?_)); exact BX0.out)).mono ?_; rintro e w' ⟨rfl, ⟨nd, rfl⟩⟩; rw [HP.out])
            go_roundg kq
            case measure => omega
            case rel => exact ⟨a, wrap64 (b + (rd_T35 l0 x).f3), x - 1, rfl, (by first | rfl | simp only [i64_w]), (by first | rfl | rw [hxm]), ⟨by have := HXK.out; omega, by have := HJ.out; omega⟩, ⟨by rw [HS.out, mootlaw4_moved.mv, HXK.out, if_neg (fun z => T1.out z.2), if_pos ⟨HP.out, T2.out⟩]⟩, by repeat (first | exact Drawn0.refl _ | apply Drawn0.step)⟩
          · have T2 := Aside0.mk t2
            have d2 : ((rd_T35 l0 x).f1 == a1) = false := beq_eq_false_iff_ne.mpr t2
            clear t2
            go_wp2_with (go_at_call 36; refine (mootlaw4_moved_c36.clo gb0 f0 (rd_T35 l0 x).f0 _ (by (with_reducible repeat (first | refine blk_drewN ?_ _ | refine blk_drew ?_)); exact BX0.out)).mono ?_; rintro e w' ⟨rfl, ⟨nd, rfl⟩⟩; rw [HP.out])
            go_roundg kq
            case measure => omega
            case rel => exact ⟨a, b, x - 1, rfl, rfl, (by first | rfl | rw [hxm]), ⟨by have := HXK.out; omega, by have := HJ.out; omega⟩, ⟨by rw [HS.out, mootlaw4_moved.mv, HXK.out, if_neg (fun z => T1.out z.2), if_neg (fun z => T2.out z.2)]⟩, by repeat (first | exact Drawn0.refl _ | apply Drawn0.step)⟩
theorem mootlaw4_moved_c36.calls (A0 : Option Addr) (c0 : Nat) (l0 : List S35) (a1 : Int) (gb0 : Nat) (f0 : Int) (r1 : Int) (r2 : Int) (w : World) (hr0 : Kd.C k35 w A0 l0.length l0) (hc0 : l0.length ≤ c0) (hbox0 : w.heap[gb0]? = some (.cells #[.int .i64 f0] 3 (0, 0))) (h : mootlaw4_moved_c36.f l0 a1 f0 = some (r1, r2)) :
    Calls Try.prog 22 #[.slice A0 l0.length c0, .int .i64 a1, .func (.func 36) #[] #[.pointer (some ⟨gb0, 0, none⟩)]] w fun e w' => e = .returned (.tuple #[.int .i64 r1, .int .i64 r2]) ∧ Below w.heap.size w w' := by
  unfold mootlaw4_moved_c36.f at h
  by_cases c : l0.length ≤ 1000000000000
  · rw [if_pos c] at h
    have h2 := Option.some.inj h
    have e1 := congrArg Prod.fst h2
    have e2 := congrArg Prod.snd h2
    simp only at e1 e2
    subst e1; subst e2
    exact (mootlaw4_moved_c36.go A0 c0 l0 a1 gb0 f0 w hr0 c hbox0).mono (fun e w' z => ⟨z.1, z.2.below⟩)
  · rw [if_neg c] at h
    exact absurd h (by simp)
def mootlaw4_moved_c37.p (f0 : Int) (f1 : Int) (d : Int) : Bool := decide (f0 ≤ d) && decide (d < f1)
theorem mootlaw4_moved_c37.clo (gb0 : Nat) (f0 : Int) (gb1 : Nat) (f1 : Int) (d : Int) (w : World) (hbox0 : w.heap[gb0]? = some (.cells #[.int .i64 f0] 3 (0, 0))) (hbox1 : w.heap[gb1]? = some (.cells #[.int .i64 f1] 3 (0, 0))) : Calls Try.prog 37 #[.int .i64 d, .pointer (some ⟨gb0, 0, none⟩), .pointer (some ⟨gb1, 0, none⟩)] w fun e w' => e = .returned (.bool (mootlaw4_moved_c37.p f0 f1 d)) ∧ Drawn0 w w' := by
  unfold mootlaw4_moved_c37.p
  have ce0 : w.cell? ⟨gb0, 0, none⟩ = some (.int .i64 f0) := (blk_cell hbox0 0).trans rfl
  clear hbox0
  have ce1 : w.cell? ⟨gb1, 0, none⟩ = some (.int .i64 f1) := (blk_cell hbox1 0).trans rfl
  clear hbox1
  go_enter Try.func37, Try.ntmps37
  by_cases c : f0 ≤ d
  · have cb : decide (f0 ≤ d) = true := decide_eq_true c
    clear c
    go_wp2
    go_ret
    exact ⟨by rw [cb]; first | rfl | simp, by repeat (first | exact Drawn0.refl _ | apply Drawn0.step)⟩
  · have cb : decide (f0 ≤ d) = false := decide_eq_false c
    clear c
    go_wp2
    go_ret
    exact ⟨by rw [cb]; first | rfl | simp, by repeat (first | exact Drawn0.refl _ | apply Drawn0.step)⟩
def mootlaw4_moved_c37.f (l0 : List S35) (a1 : Int) (f0 : Int) (f1 : Int) : Option (Int × Int) := if l0.length ≤ 1000000000000 then some (mootlaw4_moved.mv (mootlaw4_moved_c37.p f0 f1) a1 l0 l0.length 0 0) else none
set_option maxHeartbeats 4000000 in
set_option maxRecDepth 100000 in
theorem mootlaw4_moved_c37.go (A0 : Option Addr) (c0 : Nat) (l0 : List S35) (a1 : Int) (gb0 : Nat) (f0 : Int) (gb1 : Nat) (f1 : Int) (w : World) (hr0 : Kd.C k35 w A0 l0.length l0) (hl : l0.length ≤ 1000000000000) (hbox0 : w.heap[gb0]? = some (.cells #[.int .i64 f0] 3 (0, 0))) (hbox1 : w.heap[gb1]? = some (.cells #[.int .i64 f1] 3 (0, 0))) :
    Calls Try.prog 22 #[.slice A0 l0.length c0, .int .i64 a1, .func (.func 37) #[] #[.pointer (some ⟨gb0, 0, none⟩), .pointer (some ⟨gb1, 0, none⟩)]] w fun e w' => e = .returned (.tuple #[.int .i64 (mootlaw4_moved.mv (mootlaw4_moved_c37.p f0 f1) a1 l0 l0.length 0 0).1, .int .i64 (mootlaw4_moved.mv (mootlaw4_moved_c37.p f0 f1) a1 l0 l0.length 0 0).2]) ∧ Drawn0 w w' := by
  have HR := Aside0.mk hr0
  have HN := Aside0.mk hl
  clear hr0 hl
  have BX0 := Aside0.mk hbox0
  clear hbox0
  have BX1 := Aside0.mk hbox1
  clear hbox1
  have hx0 : IntKind.i64.wrap ((l0.length : Int) - 1) = (l0.length : Int) - 1 := by rw [i64_w]; have := HN.out; unfold wrap64; omega
  go_enter Try.func22, Try.ntmps22
  go_wp2
  go_loopg [8, 9, 10] l0.length (fun kq va vb vi wr => ∃ (a b x : Int), va = .int .i64 a ∧ vb = .int .i64 b ∧ vi = .int .i64 x ∧ Aside0 (x + 1 = kq ∧ kq ≤ l0.length) ∧ Aside0 (mootlaw4_moved.mv (mootlaw4_moved_c37.p f0 f1) a1 l0 kq a b = mootlaw4_moved.mv (mootlaw4_moved_c37.p f0 f1) a1 l0 l0.length 0 0) ∧ Drawn0 w wr)
  case atStart => exact ⟨0, 0, (l0.length : Int) - 1, rfl, rfl, (by first | rfl | rw [hx0]), ⟨by omega, Nat.le_refl _⟩, ⟨rfl⟩, by repeat (first | exact Drawn0.refl _ | apply Drawn0.step)⟩
  case round =>
    obtain ⟨a, b, x, rfl, rfl, rfl, HJ, HX, ⟨m1, rfl⟩⟩ := hrel
    clear hx0
    cases gk with
    | zero =>
      have cb : decide (0 ≤ x) = false := decide_eq_false (by have := HJ.out; omega)
      go_wp2
      go_ret2
      exact ⟨by rw [← HX.out]; rfl, by repeat (first | exact Drawn0.refl _ | apply Drawn0.step)⟩
    | succ kq =>
      have HXK := Aside0.mk (show (kq : Int) = x by have := HJ.out; omega)
      have cb0 : decide (0 ≤ x) = true := decide_eq_true (by have := HXK.out; omega)
      have cb1 : decide (x < (l0.length : Int)) = true := decide_eq_true (by have := HJ.out; have := HXK.out; omega)
      have hxm : IntKind.i64.wrap (x - 1) = x - 1 := by rw [i64_w]; have := HJ.out; have := HXK.out; have := HN.out; unfold wrap64; omega
      have p1 : 0 ≤ x := by have := HXK.out; omega
      have q1 : x < (l0.length : Int) := by have := HJ.out; have := HXK.out; omega
      obtain ⟨ad, e1, hx_0, hx_1, hx_2, hx_3⟩ := at_T35 HR.out x p1 q1
      cases e1
      replace p1 := eq_true p1
      replace q1 := eq_true q1
      have HS := Aside0.mk (HX.out.symm)
      clear HX
      cases hp : mootlaw4_moved_c37.p f0 f1 (rd_T35 l0 x).f0 with
      | false =>
        have HP := Aside0.mk hp
        clear hp
        go_wp2_with (go_at_call 37; refine (mootlaw4_moved_c37.clo gb0 f0 gb1 f1 (rd_T35 l0 x).f0 _ (by (with_reducible repeat (first | refine blk_drewN ?_ _ | refine blk_drew ?_)); exact BX0.out) (by (with_reducible repeat (first | refine blk_drewN ?_ _ | refine blk_drew ?_)); exact BX1.out)).mono ?_; rintro e w' ⟨rfl, ⟨nd, rfl⟩⟩; rw [HP.out])
        go_roundg kq
        case measure => omega
        case rel => exact ⟨a, b, x - 1, rfl, rfl, (by first | rfl | rw [hxm]), ⟨by have := HXK.out; omega, by have := HJ.out; omega⟩, ⟨by rw [HS.out, mootlaw4_moved.mv, HXK.out, if_neg (by rw [HP.out]; simp), if_neg (by rw [HP.out]; simp)]⟩, by repeat (first | exact Drawn0.refl _ | apply Drawn0.step)⟩
      | true =>
        have HP := Aside0.mk hp
        clear hp
        by_cases t1 : (rd_T35 l0 x).f2 = a1
        · have T1 := Aside0.mk t1
          have d1 : ((rd_T35 l0 x).f2 == a1) = true := beq_iff_eq.mpr t1
          clear t1
          by_cases t2 : (rd_T35 l0 x).f1 = a1
          · have T2 := Aside0.mk t2
            have d2 : ((rd_T35 l0 x).f1 == a1) = true := beq_iff_eq.mpr t2
            clear t2
            go_wp2_with (go_at_call 37; refine (mootlaw4_moved_c37.clo gb0 f0 gb1 f1 (rd_T35 l0 x).f0 _ (by (with_reducible repeat (first | refine blk_drewN ?_ _ | refine blk_drew ?_)); exact BX0.out) (by (with_reducible repeat (first | refine blk_drewN ?_ _ | refine blk_drew ?_)); exact BX1.out)).mono ?_; rintro e w' ⟨rfl, ⟨nd, rfl⟩⟩; rw [HP.out])
            go_roundg kq
            case measure => omega
            case rel => exact ⟨wrap64 (a + (rd_T35 l0 x).f3), wrap64 (b + (rd_T35 l0 x).f3), x - 1, (by first | rfl | simp only [i64_w]), (by first | rfl | simp only [i64_w]), (by first | rfl | rw [hxm]), ⟨by have := HXK.out; omega, by have := HJ.out; omega⟩, ⟨by rw [HS.out, mootlaw4_moved.mv, HXK.out, if_pos ⟨HP.out, T1.out⟩, if_pos ⟨HP.out, T2.out⟩]⟩, by repeat (first | exact Drawn0.refl _ | apply Drawn0.step)⟩
          · have T2 := Aside0.mk t2
            have d2 : ((rd_T35 l0 x).f1 == a1) = false := beq_eq_false_iff_ne.mpr t2
            clear t2
            go_wp2_with (go_at_call 37; refine (mootlaw4_moved_c37.clo gb0 f0 gb1 f1 (rd_T35 l0 x).f0 _ (by (with_reducible repeat (first | refine blk_drewN ?_ _ | refine blk_drew ?_)); exact BX0.out) (by (with_reducible repeat (first | refine blk_drewN ?_ _ | refine blk_drew ?_)); exact BX1.out)).mono ?_; rintro e w' ⟨rfl, ⟨nd, rfl⟩⟩; rw [HP.out])
            go_roundg kq
            case measure => omega
            case rel => exact ⟨wrap64 (a + (rd_T35 l0 x).f3), b, x - 1, (by first | rfl | simp only [i64_w]), rfl, (by first | rfl | rw [hxm]), ⟨by have := HXK.out; omega, by have := HJ.out; omega⟩, ⟨by rw [HS.out, mootlaw4_moved.mv, HXK.out, if_pos ⟨HP.out, T1.out⟩, if_neg (fun z => T2.out z.2)]⟩, by repeat (first | exact Drawn0.refl _ | apply Drawn0.step)⟩
        · have T1 := Aside0.mk t1
          have d1 : ((rd_T35 l0 x).f2 == a1) = false := beq_eq_false_iff_ne.mpr t1
          clear t1
          by_cases t2 : (rd_T35 l0 x).f1 = a1
          · have T2 := Aside0.mk t2
            have d2 : ((rd_T35 l0 x).f1 == a1) = true := beq_iff_eq.mpr t2
            clear t2
            go_wp2_with (go_at_call 37; refine (mootlaw4_moved_c37.clo gb0 f0 gb1 f1 (rd_T35 l0 x).f0 _ (by (with_reducible repeat (first | refine blk_drewN ?_ _ | refine blk_drew ?_)); exact BX0.out) (by (with_reducible repeat (first | refine blk_drewN ?_ _ | refine blk_drew ?_)); exact BX1.out)).mono ?_; rintro e w' ⟨rfl, ⟨nd, rfl⟩⟩; rw [HP.out])
            go_roundg kq
            case measure => omega
            case rel => exact ⟨a, wrap64 (b + (rd_T35 l0 x).f3), x - 1, rfl, (by first | rfl | simp only [i64_w]), (by first | rfl | rw [hxm]), ⟨by have := HXK.out; omega, by have := HJ.out; omega⟩, ⟨by rw [HS.out, mootlaw4_moved.mv, HXK.out, if_neg (fun z => T1.out z.2), if_pos ⟨HP.out, T2.out⟩]⟩, by repeat (first | exact Drawn0.refl _ | apply Drawn0.step)⟩
          · have T2 := Aside0.mk t2
            have d2 : ((rd_T35 l0 x).f1 == a1) = false := beq_eq_false_iff_ne.mpr t2
            clear t2
            go_wp2_with (go_at_call 37; refine (mootlaw4_moved_c37.clo gb0 f0 gb1 f1 (rd_T35 l0 x).f0 _ (by (with_reducible repeat (first | refine blk_drewN ?_ _ | refine blk_drew ?_)); exact BX0.out) (by (with_reducible repeat (first | refine blk_drewN ?_ _ | refine blk_drew ?_)); exact BX1.out)).mono ?_; rintro e w' ⟨rfl, ⟨nd, rfl⟩⟩; rw [HP.out])
            go_roundg kq
            case measure => omega
            case rel => exact ⟨a, b, x - 1, rfl, rfl, (by first | rfl | rw [hxm]), ⟨by have := HXK.out; omega, by have := HJ.out; omega⟩, ⟨by rw [HS.out, mootlaw4_moved.mv, HXK.out, if_neg (fun z => T1.out z.2), if_neg (fun z => T2.out z.2)]⟩, by repeat (first | exact Drawn0.refl _ | apply Drawn0.step)⟩
theorem mootlaw4_moved_c37.calls (A0 : Option Addr) (c0 : Nat) (l0 : List S35) (a1 : Int) (gb0 : Nat) (f0 : Int) (gb1 : Nat) (f1 : Int) (r1 : Int) (r2 : Int) (w : World) (hr0 : Kd.C k35 w A0 l0.length l0) (hc0 : l0.length ≤ c0) (hbox0 : w.heap[gb0]? = some (.cells #[.int .i64 f0] 3 (0, 0))) (hbox1 : w.heap[gb1]? = some (.cells #[.int .i64 f1] 3 (0, 0))) (h : mootlaw4_moved_c37.f l0 a1 f0 f1 = some (r1, r2)) :
    Calls Try.prog 22 #[.slice A0 l0.length c0, .int .i64 a1, .func (.func 37) #[] #[.pointer (some ⟨gb0, 0, none⟩), .pointer (some ⟨gb1, 0, none⟩)]] w fun e w' => e = .returned (.tuple #[.int .i64 r1, .int .i64 r2]) ∧ Below w.heap.size w w' := by
  unfold mootlaw4_moved_c37.f at h
  by_cases c : l0.length ≤ 1000000000000
  · rw [if_pos c] at h
    have h2 := Option.some.inj h
    have e1 := congrArg Prod.fst h2
    have e2 := congrArg Prod.snd h2
    simp only at e1 e2
    subst e1; subst e2
    exact (mootlaw4_moved_c37.go A0 c0 l0 a1 gb0 f0 gb1 f1 w hr0 c hbox0 hbox1).mono (fun e w' z => ⟨z.1, z.2.below⟩)
  · rw [if_neg c] at h
    exact absurd h (by simp)

end Go.Proofs.Ytenhnlclnjnboaa.PTel
