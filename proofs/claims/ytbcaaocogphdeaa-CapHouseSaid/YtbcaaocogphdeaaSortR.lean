/- A row of the call's own, sorted by the library's slices.SortFunc: what it holds before and behind. -/
import Derived.Test.YtbcaaocogphdeaaCapW
import Derived.Test.YtbcaaocogphdeaaOpen
import Derived.Shelf.SlSortCmp.InsertionK
namespace Go.Proofs.Ytbcaaocogphdeaa.Open
open Go.RowKit Go.Sort Go.Proofs.YtbcaaocogphdeaaW.PrintWords Go.Proofs.YtbcaaocogphdeaaW.PrintLast
set_option linter.unusedVariables false
set_option linter.unusedSimpArgs false

theorem holdsK_of_R {α : Type} [Inhabited α] {d : Kd α} {e : Nat} {W : World} {base : Nat} {ok : Nat → Prop} {g n cap : Nat} {xs : List α} (enc : α → List Value) (hk : ∀ x, (enc x).length = d.sz)
    (hinv : ∀ (W : World) (base : Nat) (ok : Nat → Prop) (x : α) (c : List Value), d.M W base ok x c → c = enc x) (h : d.R e W base ok (.slice (some ⟨g, 0, none⟩) n cap) xs) : HoldsK enc d.sz W g 0 xs.toArray := by
  have hn := (Kd.R_reads' h).1
  intro t ht
  rw [size_flatK] at ht
  have ht' : t < xs.toArray.size * d.sz := ht
  simp only [List.size_toArray] at ht
  have k0 : 0 < d.sz := by
    rcases Nat.eq_zero_or_pos d.sz with z | z
    · rw [z] at ht; simp at ht
    · exact z
  have hq : t / d.sz < xs.length := Nat.div_lt_of_lt_mul (by rwa [Nat.mul_comm] at ht)
  obtain ⟨c, hc, hM, hcell, hfr⟩ := Kd.R_elem h default ((t / d.sz : Nat) : Int) (Int.natCast_nonneg _) (by rw [hn]; exact Int.ofNat_lt.2 hq)
  obtain rfl := hinv _ _ _ _ _ hM
  have hr : t % d.sz < d.sz := Nat.mod_lt _ k0
  have e1 : xs.getD ((t / d.sz : Nat) : Int).toNat default = xs.toArray[t / d.sz]! := by
    rw [Int.toNat_natCast, List.getD_eq_getElem?_getD, List.getElem?_eq_getElem hq, getElem!_pos xs.toArray _ (by simpa using hq)]; rfl
  have hz : ((t / d.sz : Nat) : Int).toNat * d.sz + t % d.sz = t := by
    rw [Int.toNat_natCast, Nat.mul_comm]; exact Nat.div_add_mod t d.sz
  have h1 := hcell (t % d.sz) (enc xs.toArray[t / d.sz]!)[t % d.sz]! (by
    rw [e1, List.getElem?_eq_getElem (by rw [hk]; exact hr)]
    simp [hk, hr])
  have h2 := hfr (t % d.sz)
  rw [hz] at h1 h2
  rw [Nat.zero_add, get_flatK _ _ _ _ ht']
  exact ⟨h1, h2⟩

theorem heap_sortWorldK {α : Type} [Inhabited α] (enc : α → List Value) (k : Nat) (W : World) (g m : Nat) (d' : Array α) (os : Array Obj) (hg : g < W.heap.size) (i : Nat) (hi : i < W.heap.size) :
    (sortWorldK enc k W g 0 m d' os).heap[i]? = (W.heap[i]?).map (fun o => if g = i then onCells (putCells id 0 (flatK enc k d')) o else o) := by
  unfold sortWorldK grow putRowK putRow mapBlock Go.Sort.ahead
  simp only
  rw [Array.getElem?_append_left (by simp; exact hi), Array.getElem?_modify]
  split
  · rfl
  · cases W.heap[i]? <;> rfl

theorem R_sorted {α : Type} [Inhabited α] {d : Kd α} {e : Nat} {W : World} {base : Nat} {ok : Nat → Prop} {g n cap : Nat} {xs : List α} (enc : α → List Value) (hk : ∀ x, (enc x).length = d.sz)
    (hmk : ∀ (W : World) (base : Nat) (ok : Nat → Prop) (x : α), d.M W base ok x (enc x)) (h : d.R e W base ok (.slice (some ⟨g, 0, none⟩) n cap) xs) (hg : g < W.heap.size) (d' : Array α) (hs : d'.size = xs.length) (m : Nat) (os : Array Obj) :
    d.R e (sortWorldK enc d.sz W g 0 m d' os) base ok (.slice (some ⟨g, 0, none⟩) n cap) d'.toList ∧ W.grownBy (sortWorldK enc d.sz W g 0 m d' os) (some g) := by
  have hgrow : W.grownBy (sortWorldK enc d.sz W g 0 m d' os) (some g) := by
    refine ⟨rfl, rfl, rfl, ?_, fun i hi hne => ?_⟩
    · unfold sortWorldK grow putRowK putRow mapBlock Go.Sort.ahead; simp
    · rw [heap_sortWorldK enc d.sz W g m d' os hg i hi]
      have : g ≠ i := fun z => hne (by rw [z])
      simp [this]
  refine ⟨?_, hgrow⟩
  have hnx := (Kd.R_reads' h).1
  subst hnx
  have hdl : d'.toList.length = xs.length := by rw [Array.length_toList, hs]
  obtain ⟨hok, inner, ⟨hin, hor⟩, hr⟩ := h
  rcases hor with ⟨hn, _⟩ | ⟨g', c', cur, hv, hb, hh, hnc, hcm, hcs, htake⟩
  · simp at hn
  · injection hv with ha hlen hc
    injection ha with ha
    injection ha with ha
    subst ha; subst hc
    have hF : (flatK enc d.sz d').size = xs.length * d.sz := by rw [size_flatK, hs]
    have hle : xs.length * d.sz ≤ cap * d.sz := Nat.mul_le_mul_right _ hnc
    refine ⟨hok, (flatK enc d.sz d').toList, ?_, ?_, ?_⟩
    · rw [hdl]
      refine ⟨by rw [Array.length_toList, hF], .inr ⟨g, cap, putCells id 0 (flatK enc d.sz d') cur, rfl, hb, ?_, hnc, hcm, ?_, ?_⟩⟩
      · rw [heap_sortWorldK enc d.sz W g m d' os hg g hg, hh]; simp [onCells]
      · unfold putCells; rw [Array.size_mapIdx, hcs]
      · apply List.ext_getElem?
        intro t
        by_cases ht : t < xs.length * d.sz
        · rw [List.getElem?_take_of_lt ht, Array.getElem?_toList, Array.getElem?_toList]
          unfold putCells
          have h1 : t < cur.size := by rw [hcs]; omega
          have h2 : t < (flatK enc d.sz d').size := by rw [hF]; exact ht
          rw [Array.getElem?_mapIdx, Array.getElem?_eq_getElem h1, Array.getElem?_eq_getElem h2]
          simp only [Option.map_some, Nat.zero_le, Nat.zero_add, true_and, Nat.sub_zero, id_eq]
          rw [if_pos h2, getElem!_pos (flatK enc d.sz d') t h2]
        · rw [List.getElem?_eq_none (by rw [List.length_take]; omega), List.getElem?_eq_none (by rw [Array.length_toList, hF]; omega)]
    · rw [Array.length_toList, hF, hdl]
    · intro j p hp
      have hj : j < d'.size := by
        have := (List.getElem?_eq_some_iff.1 hp).1
        simpa using this
      have hp' : d'[j]! = p := by
        have := (List.getElem?_eq_some_iff.1 hp).2
        rw [getElem!_pos d' j hj]; simpa using this
      have hcell : ((flatK enc d.sz d').toList.drop (j * d.sz)).take d.sz = enc p := by
        apply List.ext_getElem?
        intro t
        by_cases ht : t < d.sz
        · have hjt : j * d.sz + t < d'.size * d.sz := by
            have := Nat.mul_le_mul_right d.sz (show j + 1 ≤ d'.size from hj)
            rw [Nat.add_mul, Nat.one_mul] at this; omega
          rw [List.getElem?_take_of_lt ht, List.getElem?_drop, Array.getElem?_toList, Array.getElem?_eq_getElem (by rw [size_flatK]; exact hjt)]
          have e1 := get_flatK enc d.sz d' (j * d.sz + t) hjt
          rw [getElem!_pos _ _ (by rw [size_flatK]; exact hjt)] at e1
          rw [e1]
          have d1 : (j * d.sz + t) / d.sz = j := by rw [Nat.mul_comm, Nat.mul_add_div (by omega), Nat.div_eq_of_lt ht]; rfl
          have d2 : (j * d.sz + t) % d.sz = t := by rw [Nat.mul_comm, Nat.mul_add_mod, Nat.mod_eq_of_lt ht]
          rw [d1, d2, hp', List.getElem?_eq_getElem (by rw [hk]; exact ht)]
          simp [hk, ht]
        · rw [List.getElem?_eq_none (by rw [List.length_take]; omega), List.getElem?_eq_none (by rw [hk]; omega)]
      rw [hcell]
      exact hmk _ _ _ _
end Go.Proofs.Ytbcaaocogphdeaa.Open
