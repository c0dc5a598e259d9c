-- Printed by this session's wip/myprint.py.
import Derived.Test.YtenhnlclnjnboaaPPadx0
import Derived.Test.YtenhnlclnjnboaaPPadx6
namespace Go.Proofs.Ytenhnlclnjnboaa.PPad
open Go.RowKit Go.Proofs.YtenhnlclnjnboaaW.PrintWords Go.Proofs.YtenhnlclnjnboaaW.PrintLast Go.Proofs.YtenhnlclnjnboaaW.PrintMore
attribute [local go_sem] max2_int min2_int max_two min_two max_three min_three max_four min_four   -- for this text's walks alone
set_option linter.unusedVariables false
set_option linter.unusedSimpArgs false

/-- A state of type 69 at block g of W; what its slices lead to came in by w0. -/
def IsS69 (w0 W : World) (g : Nat) (f0 : List Int) : Prop := ∃ A0 c0, W.heap[g]? = some (.cells #[.slice A0 f0.length c0] 69 (0, 0)) ∧ w0.heap.size ≤ g ∧ (Kd.C (Kd.int .i64) w0 A0 f0.length f0 ∧ f0.length ≤ c0)
theorem IsS69.grown {w0 W : World} {g : Nat} {f0 : List Int} {W1 : World} {row : Option Nat} (h : IsS69 w0 W g f0) (hw : W.grownBy W1 row) (hne : some g ≠ row) : IsS69 w0 W1 g f0 := by
  obtain ⟨A0, c0, hb, hg, hr0⟩ := h
  exact ⟨A0, c0, blk_grown hb hw hne, hg, hr0⟩
theorem IsS69.own_neN {w0 W : World} {g : Nat} {f0 : List Int} {α : Type} {d : Kd α} {e : Nat} {base : Nat} {ok : Nat → Prop} {v : Value} {xs : List α} (h : IsS69 w0 W g f0) (ho : Kd.N d e W base ok v xs) (ht : e ≠ 69) : some g ≠ v.ownBlock := by
  obtain ⟨A0, c0, hb, hg, hr0⟩ := h
  exact Kd.N_ne ho hb ht
theorem IsS69.fresh {w0 W : World} {g : Nat} {f0 : List Int} (h : IsS69 w0 W g f0) : ∀ k, W.heap.size ≤ k → k ≠ g := by
  obtain ⟨A0, c0, hb, hg, hr0⟩ := h
  exact Kd.freshB hb
theorem IsS69.kept {w0 W : World} {g : Nat} {f0 : List Int} {W1 : World} {S : Nat → Prop} (h : IsS69 w0 W g f0) (hk : Kept W W1 S) (hne : ¬ S g) : IsS69 w0 W1 g f0 := by
  obtain ⟨A0, c0, hb, hg, hr0⟩ := h
  exact ⟨A0, c0, blk_kept hb hk hne, hg, hr0⟩
theorem IsS69.below {w0 W : World} {g : Nat} {f0 : List Int} {W1 : World} (h : IsS69 w0 W g f0) (hw : Below W.heap.size W W1) : IsS69 w0 W1 g f0 := h.grown (grown_of_below hw none) (by simp)
theorem IsS69.alloc {w0 W : World} {g : Nat} {f0 : List Int} (h : IsS69 w0 W g f0) (o : Obj) : IsS69 w0 (W.alloc o) g f0 := h.below (below_alloc (Below.refl _ _) o)
theorem IsS69.drewN {w0 W : World} {g : Nat} {f0 : List Int} (h : IsS69 w0 W g f0) (m : Nat) : IsS69 w0 (W.drewN m) g f0 := h
theorem IsS69.drew {w0 W : World} {g : Nat} {f0 : List Int} (h : IsS69 w0 W g f0) : IsS69 w0 W.drew g f0 := h
theorem IsS69.at_ {w0 W : World} {g : Nat} {f0 : List Int} {w' : World} {m : Nat} (hq : W.drewN m = w') (h : IsS69 w0 W g f0) : IsS69 w0 w' g f0 := by subst hq; exact IsS69.drewN h m
theorem IsS69.apart {w0 W : World} {g : Nat} {f0 : List Int} {α : Type} {d : Kd α} {e : Nat} {base : Nat} {ok : Nat → Prop} {v : Value} {xs : List α} (h : IsS69 w0 W g f0) (ho : d.R e W base ok v xs) (ht : ∀ q, q ∈ e :: d.E → q ≠ 69) : d.R e W base (fun k => ok k ∧ k ≠ g) v xs := by
  obtain ⟨A0, c0, hb, hg, hr0⟩ := h
  exact Kd.R_types ho hb ht
theorem IsS69.own_ne {w0 W : World} {g : Nat} {f0 : List Int} {α : Type} {d : Kd α} {e : Nat} {base : Nat} {ok : Nat → Prop} {v : Value} {xs : List α} (h : IsS69 w0 W g f0) (ho : d.R e W base ok v xs) (ht : e ≠ 69) : some g ≠ v.ownBlock := by
  obtain ⟨A0, c0, hb, hg, hr0⟩ := h
  exact Kd.R_ne ho hb ht
theorem IsS69.apartQ {w0 W : World} {g : Nat} {f0 : List Int} {α : Type} {d : Kd α} {e : Nat} {base : Nat} {ok : Nat → Prop} {v : Value} {xs : List α} (h : IsS69 w0 W g f0) (ho : d.Q e W base ok v xs) (ht : ∀ q, q ∈ e :: d.E → q ≠ 69) : d.Q e W base (fun k => ok k ∧ k ≠ g) v xs := by
  obtain ⟨A0, c0, hb, hg, hr0⟩ := h
  exact Kd.Q_types ho hb ht
theorem IsS69.own_neQ {w0 W : World} {g : Nat} {f0 : List Int} {α : Type} {d : Kd α} {e : Nat} {base : Nat} {ok : Nat → Prop} {v : Value} {xs : List α} (h : IsS69 w0 W g f0) (ho : d.Q e W base ok v xs) (ht : e ≠ 69) : some g ≠ v.ownBlock := by
  obtain ⟨A0, c0, hb, hg, hr0⟩ := h
  exact Kd.Q_ne ho hb ht
theorem IsS69.apartS {w0 W : World} {g : Nat} {f0 : List Int} {α : Type} {d : Kd α} {e : Nat} {base : Nat} {ok : Nat → Prop} {v : Value} {xs : List α} (h : IsS69 w0 W g f0) (ho : d.S e W base ok v xs) (ht : ∀ q, q ∈ e :: d.E → q ≠ 69) : d.S e W base (fun k => ok k ∧ k ≠ g) v xs := by
  obtain ⟨A0, c0, hb, hg, hr0⟩ := h
  exact Kd.S_types ho hb ht
theorem IsS69.own_neS {w0 W : World} {g : Nat} {f0 : List Int} {α : Type} {d : Kd α} {e : Nat} {base : Nat} {ok : Nat → Prop} {v : Value} {xs : List α} (h : IsS69 w0 W g f0) (ho : d.S e W base ok v xs) (ht : e ≠ 69) : some g ≠ v.ownBlock := by
  obtain ⟨A0, c0, hb, hg, hr0⟩ := h
  exact Kd.S_ne ho hb ht
theorem IsS69.lt {w0 W : World} {g : Nat} {f0 : List Int} (h : IsS69 w0 W g f0) : g < W.heap.size := by
  obtain ⟨A0, c0, hb, hg, hr0⟩ := h
  exact blk_lt hb
theorem IsS69.ge {w0 W : World} {g : Nat} {f0 : List Int} (h : IsS69 w0 W g f0) : w0.heap.size ≤ g := by
  obtain ⟨A0, c0, hb, hg, hr0⟩ := h
  exact hg
theorem IsS69.ne_blk {w0 W : World} {g : Nat} {f0 : List Int} {a : Nat} {cs : Array Value} {t : TypeId} {fr : Nat × Nat} (h : IsS69 w0 W g f0) (hb2 : W.heap[a]? = some (.cells cs t fr)) (ht : t ≠ 69) : g ≠ a := by
  obtain ⟨A0, c0, hb, hg, hr0⟩ := h
  rintro rfl
  rw [hb] at hb2
  injection hb2 with hb2
  injection hb2 with _ ht2
  exact ht ht2.symm
theorem IsS69.far {w0 W : World} {g : Nat} {f0 : List Int} {p : Addr} (h : IsS69 w0 W g f0) (hne : g ≠ p.block) (u : Value) : IsS69 w0 (W.setCell p u) g f0 := by
  obtain ⟨A0, c0, hb, hg, hr0⟩ := h
  exact ⟨A0, c0, blk_far hb hne u, hg, hr0⟩
theorem IsS69.of_box {w0 W : World} {g : Nat} {A0 : Option Addr} {c0 : Nat} {f0 : List Int} (hb : W.heap[g]? = some (.cells #[.slice A0 f0.length c0] 69 (0, 0))) (hg : w0.heap.size ≤ g) (hr0 : (Kd.C (Kd.int .i64) w0 A0 f0.length f0 ∧ f0.length ≤ c0)) : IsS69 w0 W g f0 := ⟨A0, c0, hb, hg, hr0⟩
theorem cellS69_0 {W : World} {g : Nat} {A0 : Option Addr} {c0 : Nat} {f0 : List Int} (h : W.heap[g]? = some (.cells #[.slice A0 f0.length c0] 69 (0, 0))) : W.cell? ⟨g, 0, none⟩ = some (.slice A0 f0.length c0) := (blk_cell h 0).trans rfl
theorem IsS69.set_0 {w0 W : World} {g : Nat} {f0 : List Int} (h : IsS69 w0 W g f0) (A : Option Addr) (c : Nat) (x : List Int) (hr : (Kd.C (Kd.int .i64) w0 A x.length x ∧ x.length ≤ c)) : IsS69 w0 (W.setCell ⟨g, 0, none⟩ (.slice A x.length c)) g x := by
  obtain ⟨A0, c0, hb, hg, hr0⟩ := h
  exact ⟨A, c, by simpa using blk_set hb 0 (.slice A x.length c), hg, hr⟩
theorem IsS69.new (w0 W : World) (A0 : Option Addr) (c0 : Nat) (f0 : List Int) (hB : Below w0.heap.size w0 W) (hr0 : (Kd.C (Kd.int .i64) w0 A0 f0.length f0 ∧ f0.length ≤ c0)) : IsS69 w0 (W.alloc (.cells #[.slice A0 f0.length c0] 69)) W.heap.size f0 := ⟨A0, c0, by simpa using heap_alloc_new W _, hB.size, hr0⟩

/-! ### mootmake_Stream_Next: function 43 -/
theorem stream_cut {P : Program} (t e : TypeId) {i : TypeInfo} (ht : P.underlying t = some (.slice e)) (hi : P.info? e = some i) (hsz : i.size = 1) (A : Option Addr) (c : Nat) (xs : List Int) (hm : 1 ≤ xs.length) (hc : xs.length ≤ c) :
    ∃ A' : Option Addr, (∀ W : World, (Instr.slice t (.slice A xs.length c) (some (.int .i64 1)) none none).run P W = .ok (.slice A' (xs.drop 1).length (c - 1)) W) ∧
      ∀ w : World, Kd.C (Kd.int .i64) w A xs.length xs → Kd.C (Kd.int .i64) w A' (xs.drop 1).length (xs.drop 1) := by
  refine ⟨if c = 1 then A else A.map (·.add (1 * (Kd.int .i64).sz)), fun W => ?_, fun w h => Kd.C_drop h hm hc⟩
  have hel : P.elem t = e := by simp [Program.elem, ht]
  have hu : P.underlying t = some (.slice (P.elem t)) := by rw [hel]; exact ht
  have hl : (xs.drop 1).length = xs.length - 1 := List.length_drop
  rw [run_slice_l W t A xs.length c hu .i64 1 (by omega) (by omega), hel, hl]
  simp [sizeOf, typeInfo, hi, hsz, sliced, Result.andThen, Kd.int, Kd.scalar]
def mootmake_Stream_Next.f (s0_0 : List Int) (a1 : Int) : Option (Int × List Int) :=
  if a1 < 1 then some (0, s0_0) else if s0_0.length = 0 then some (0, s0_0) else (mootmake_Below.f (s0_0.getD 0 0) a1).bind fun t => some (t, s0_0.drop 1)
theorem stream_info : (Try.prog.info? 3).map (fun i => (i.zero, i.size, i.bytes)) = some (some (.int .i64 0), 1, 8) := by kernel_rfl
set_option maxHeartbeats 400000 in
theorem mootmake_Stream_Next.calls (g : Nat) (s0_0 : List Int) (a1 : Int) (r1 : Int) (r2 : List Int) (w0 w : World) (hI : IsS69 w0 w g s0_0) (hB : Below w0.heap.size w0 w) (h : mootmake_Stream_Next.f s0_0 a1 = some (r1, r2)) :
    Calls Try.prog 43 #[.pointer (some ⟨g, 0, none⟩), .int .i64 a1] w fun e w' => e = .returned (.int .i64 r1) ∧ IsS69 w0 w' g r2 ∧ Below w0.heap.size w0 w' ∧ KeepBut w w' g none := by
  have hI0 := Aside0.mk hI
  obtain ⟨A0, c0, hb, hg, hr0, hl⟩ := hI
  have hc := cellS69_0 hb
  have hf := blk_frozen hb 0
  have HR := Aside0.mk hr0
  have HB := Aside0.mk hb
  have HG := Aside0.mk hg
  clear hr0 hb
  unfold mootmake_Stream_Next.f at h
  by_cases h1 : a1 < 1
  · rw [if_pos h1] at h
    simp only [Option.some.injEq, Prod.mk.injEq] at h
    obtain ⟨rfl, rfl⟩ := h
    have d1 : decide (a1 < 1) = true := decide_eq_true h1
    go_enter Try.func43, Try.ntmps43
    go_wp2
    go_ret
    exact ⟨rfl, hI0.out, hB, KeepBut.refl _ _ _⟩
  · rw [if_neg h1] at h
    have d1 : decide (a1 < 1) = false := decide_eq_false h1
    by_cases h2 : s0_0.length = 0
    · rw [if_pos h2] at h
      simp only [Option.some.injEq, Prod.mk.injEq] at h
      obtain ⟨rfl, rfl⟩ := h
      obtain rfl : s0_0 = [] := List.length_eq_zero_iff.1 h2
      clear h2 h1
      go_enter Try.func43, Try.ntmps43
      go_wp2
      go_ret
      exact ⟨rfl, hI0.out, hB, KeepBut.refl _ _ _⟩
    · rw [if_neg h2] at h
      obtain ⟨t, ht, h⟩ := Option.bind_eq_some_iff.1 h
      simp only [Option.some.injEq, Prod.mk.injEq] at h
      obtain ⟨rfl, rfl⟩ := h
      have hp : 0 < s0_0.length := by omega
      obtain ⟨ad, c, rfl, hlen, hk, hcell⟩ := Kd.C_get HR.out (0 : Int) 0 (by omega) (by omega)
      obtain rfl : c = [.int .i64 (s0_0.getD 0 0)] := hk
      have hc1 : w.cell? ad = some (.int .i64 (s0_0.getD 0 0)) := by
        have h0 := hcell 0 _ rfl
        rw [show (0 : Int).toNat * (Kd.int .i64).sz + 0 = 0 from rfl, show ad.add 0 = ad from rfl] at h0
        exact (hB.cell (World.block_lt_of_cell? w0 _ h0)).trans h0
      obtain ⟨i3, hi3, hz3, hs3, hb3⟩ := info_parts stream_info
      obtain ⟨A', hcut, hread⟩ := stream_cut (P := Try.prog) 22 3 Try.underlying22 hi3 hs3 (some ad) c0 s0_0 (by omega) hl
      have HD := hread w0
      have hn : ((s0_0.length : Int) == 0) = false := beq_eq_false_iff_ne.mpr (by omega)
      have HS := Aside0.mk (IsS69.set_0 hI0.out A' (c0 - 1) (s0_0.drop 1) ⟨HD HR.out, by rw [List.length_drop]; omega⟩)
      have HBs := Aside0.mk (below_set hB HG.out (j := 0) (v := .slice A' (s0_0.drop 1).length (c0 - 1)))
      have HKs := Aside0.mk (KeepBut.set_ (KeepBut.refl w g none) 0 (.slice A' (s0_0.drop 1).length (c0 - 1)))
      clear h2 hcell HD hread hi3 hz3 hs3 hb3 hlen h1
      have HT := Aside0.mk ht
      clear ht h
      generalize s0_0.getD 0 0 = z at hc1 HT
      go_enter Try.func43, Try.ntmps43
      go_wp2_with (go_at_call 15; refine (mootmake_Below.calls _ _ _ _ HT.out).mono ?_; rintro e w' ⟨rfl, hq⟩)
      obtain ⟨nd, rfl⟩ := hq.out
      rw [List.length_drop] at HS HBs HKs
      go_ret
      exact ⟨rfl, IsS69.drewN HS.out nd, pw_below_drewN HBs.out nd, keep_drewN HKs.out nd⟩

end Go.Proofs.Ytenhnlclnjnboaa.PPad
