/- A row of whole numbers of the call's own, sorted by slices.Sort, or without its repeats by slices.Compact: what it holds behind. -/
import Derived.Test.YtbcaaocogphdeaaSortR
import Derived.Shelf.Sort.Plain
import Derived.Shelf.Slices.In.SortNone
import Derived.Shelf.Slices.CompactI
namespace Go.Proofs.Ytbcaaocogphdeaa.Open
open Go.RowKit Go.Sort Go.Proofs.YtbcaaocogphdeaaW.PrintWords Go.Proofs.YtbcaaocogphdeaaW.PrintLast Go.Proofs.YtbcaaocogphdeaaW.PrintMore
set_option linter.unusedVariables false
set_option linter.unusedSimpArgs false

def enc1 (x : Int) : List Value := [.int .i64 x]
theorem flat_int (d : Array Int) : flatK enc1 1 d = d.map (Value.int .i64) := by
  apply Array.ext
  · simp
  · intro t h1 h2
    have h3 : t < d.size := by simpa using h1
    simp [flatK, enc1, Nat.mod_one, h3]
theorem holds_int {w : World} {g : Nat} {d : Array Int} (h : HoldsK enc1 1 w g 0 d) : Holds (Value.int .i64) w g 0 d := by
  intro j hj
  have := h j (by rw [flat_int]; simpa using hj)
  rw [flat_int] at this
  simpa [hj] using this
theorem putRow_int (w : World) (g : Nat) (d : Array Int) : putRow (Value.int .i64) w g 0 d = putRowK enc1 1 w g 0 d := by
  unfold putRowK
  rw [flat_int]
  have e : putCells (Value.int .i64) 0 d = putCells id 0 (d.map (Value.int .i64)) := by
    funext c
    unfold putCells
    apply Array.ext
    · simp
    · intro t h1 h2
      simp only [Array.getElem_mapIdx, Nat.zero_le, Nat.zero_add, true_and, Nat.sub_zero, Array.size_map, id_eq]
      by_cases h : t < d.size
      · simp [h]
      · simp [h]
  unfold putRow
  rw [e]
theorem mk_int (W : World) (base : Nat) (ok : Nat → Prop) (x : Int) : (Kd.int .i64).M W base ok x (enc1 x) := by first | rfl | exact ⟨rfl, trivial⟩ | simp [Kd.int, Kd.scalar, enc1, Kd.M]
theorem open_int {W : World} {base : Nat} {ok : Nat → Prop} {x : Int} {c : List Value} (h : (Kd.int .i64).M W base ok x c) : c = enc1 x := by first | exact h | exact h.1 | (simp [Kd.int, Kd.scalar, Kd.M] at h; exact h)
theorem R_sort_int {P : Program} {ρ : Go.Shelf.Ren} (L : Go.Proofs.Lays.n189 P ρ) {e0 : Nat} (P0_ : Nat → Prop) (u : Value) (l0 : List Int) (w0 w : World) (hB : Below w0.heap.size w0 w) (ho0 : Kd.R (Kd.int .i64) e0 w w0.heap.size P0_ u l0) (hl : l0.length < 4611686018427387904) :
    Calls P (ρ.f 189) #[u] w fun e w' => e = .returned (.tuple #[]) ∧ Kd.R (Kd.int .i64) e0 w' w0.heap.size (fun k_ => (P0_ k_ ∨ w.heap.size ≤ k_)) u (l0.mergeSort fun x y => decide (x ≤ y)) ∧ Below w0.heap.size w0 w' ∧ Kept w w' (fun k_ => P0_ k_) := by
  rcases Nat.eq_zero_or_pos l0.length with h0 | h0
  · obtain rfl := List.length_eq_zero_iff.1 h0
    obtain ⟨A, c, rfl⟩ := Kd.R_slice ho0
    have hcon := Go.Proofs.Any.slices_Sort_int_none L A c w
    refine Calls.mono hcon ?_
    rintro e w' ⟨rfl, hw⟩
    subst hw
    exact ⟨rfl, Kd.R_mono (by simpa using ho0) (fun _ h_ => .inl h_), hB, Kept.refl _ _⟩
  · obtain ⟨g, cap, rfl, hge, hgl, _⟩ := Kd.R_form ho0 h0
    have hH := holds_int (holdsK_of_R (d := Kd.int .i64) enc1 (fun _ => rfl) (fun W base ok x c hc => open_int hc) ho0)
    have hP : P0_ g := ho0.1 g (by simp [Value.ownBlock])
    refine Calls.mono (Go.Proofs.Any.slices_Sort_int L g 0 cap l0 w hH hgl hl) ?_
    rintro e w' ⟨rfl, n, os, rfl⟩
    rw [putRow_int]
    obtain ⟨hR, hgr⟩ := R_sorted (d := Kd.int .i64) enc1 (fun _ => rfl) (fun W base ok x => mk_int _ _ _ x) ho0 hgl (l0.mergeSort fun x y => decide (x ≤ y)).toArray (by simp) n os
    exact ⟨rfl, Kd.R_mono hR (fun _ h_ => .inl h_), hB.grown hgr (Nat.le_of_lt (Nat.lt_of_le_of_lt hge hgl)) (fun k hk => by injection hk with hk; subst hk; exact hge),
      Kept.of_grown (S := fun k_ => P0_ k_) hgr (Kept.refl w _) (fun k hk => .inl (by injection hk with hk; subst hk; exact hP))⟩
theorem compact_len (l : List Int) : (Go.Lib.compact l).length ≤ l.length := by
  unfold Go.Lib.compact Go.Lib.compactUpTo
  rw [List.length_map]
  exact Nat.le_trans (List.length_filter_le _ _) (by simp)
theorem R_compact_int {P : Program} {ρ : Go.Shelf.Ren} (L : Go.Proofs.Lays2.n20 P ρ) {e0 : Nat} (P0_ : Nat → Prop) (u : Value) (l0 : List Int) (w0 w : World) (hB : Below w0.heap.size w0 w) (ho0 : Kd.R (Kd.int .i64) e0 w w0.heap.size P0_ u l0) (hl : l0.length < 4611686018427387904) :
    Calls P (ρ.f 20) #[u] w fun e w' => ∃ v0_ : Value, e = .returned (v0_) ∧ Kd.R (Kd.int .i64) e0 w' w0.heap.size (fun k_ => (P0_ k_ ∨ w.heap.size ≤ k_)) v0_ (Go.Lib.compact l0) ∧ Below w0.heap.size w0 w' ∧ Kept w w' (fun k_ => P0_ k_) := by
  rcases Nat.eq_zero_or_pos l0.length with h0 | h0
  · obtain rfl := List.length_eq_zero_iff.1 h0
    obtain ⟨A, c, rfl⟩ := Kd.R_slice ho0
    have hcon := Go.Proofs.Any.slices_Compact_int_empty L A c w
    refine Calls.mono hcon ?_
    rintro e w' ⟨rfl, hw⟩
    subst hw
    exact ⟨_, rfl, Kd.R_mono ho0 (fun _ h_ => .inl h_), hB, Kept.refl _ _⟩
  · obtain ⟨g, cap, rfl, hge, hgl, hcap⟩ := Kd.R_form ho0 h0
    have hH := holds_int (holdsK_of_R (d := Kd.int .i64) enc1 (fun _ => rfl) (fun W base ok x c hc => open_int hc) ho0)
    have hP : P0_ g := ho0.1 g (by simp [Value.ownBlock])
    have hc : l0.length ≤ cap := by
      obtain ⟨_, inner, ⟨_, hor⟩, _⟩ := ho0
      rcases hor with ⟨hn, _⟩ | ⟨g', c', cur, hv, _, _, hnc, _⟩
      · simp at hn
      · injection hv with _ _ hc'
        rw [hc']
        exact hnc
    refine Calls.mono (Go.Proofs.Any.slices_Compact_int L g 0 cap l0 w hH (by omega) hc) ?_
    rintro e w' ⟨rfl, n, rfl⟩
    have hle := compact_len l0
    rw [putRow_int]
    have hs : (Go.Lib.compact l0 ++ List.replicate (l0.length - (Go.Lib.compact l0).length) 0).toArray.size = l0.length := by simp; omega
    obtain ⟨hR, hgr⟩ := R_sorted (d := Kd.int .i64) enc1 (fun _ => rfl) (fun W base ok x => mk_int _ _ _ x) ho0 hgl _ hs n #[]
    have e1 : sortWorldK enc1 (Kd.int .i64).sz w g 0 n (Go.Lib.compact l0 ++ List.replicate (l0.length - (Go.Lib.compact l0).length) 0).toArray #[] = putRowK enc1 1 (Go.Sort.ahead w n) g 0 (Go.Lib.compact l0 ++ List.replicate (l0.length - (Go.Lib.compact l0).length) 0).toArray := by
      unfold sortWorldK
      rw [grow_empty]
      rfl
    rw [e1] at hR hgr
    have hT := Kd.R_take (m := (Go.Lib.compact l0).length) hR (by simp)
    simp only [List.take_left] at hT
    exact ⟨_, rfl, Kd.R_mono hT (fun _ h_ => .inl h_), hB.grown hgr (Nat.le_of_lt (Nat.lt_of_le_of_lt hge hgl)) (fun k hk => by injection hk with hk; subst hk; exact hge),
      Kept.of_grown (S := fun k_ => P0_ k_) hgr (Kept.refl w _) (fun k hk => .inl (by injection hk with hk; subst hk; exact hP))⟩
end Go.Proofs.Ytbcaaocogphdeaa.Open
