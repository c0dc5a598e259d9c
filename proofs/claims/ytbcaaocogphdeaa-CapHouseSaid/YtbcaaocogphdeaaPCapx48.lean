-- Printed by this session's wip/myprint.py.
import Derived.Test.YtbcaaocogphdeaaPCapx0
namespace Go.Proofs.Ytbcaaocogphdeaa.PCap
open Go.RowKit Go.Proofs.YtbcaaocogphdeaaW.PrintWords Go.Proofs.YtbcaaocogphdeaaW.PrintLast Go.Proofs.YtbcaaocogphdeaaW.PrintMore
attribute [local go_sem] max2_int min2_int max_two min_two max_three min_three max_four min_four   -- for this text's walks alone
set_option linter.unusedVariables false
set_option linter.unusedSimpArgs false

/-! ### ms86: function 90000086 -/
section
open Go.Maps Go.WideElems Go.ChangeMaps Go.MapKept Go.WideShapes
theorem ms86_laidOut : laidOutB Try.prog = true := by kernel_rfl
theorem ms86_row : (88 : TypeId) < Try.prog.types.size := of_decide_eq_true (by kernel_rfl)
theorem ms86_wide : (match Try.prog.underlying 88 with | some (.array _ _) | some (.struct _) => true | _ => false) = true := by rw [Try.underlying88]
theorem ms86_kt : Try.prog.keyTypeAt 3 88 = true := by kernel_rfl
set_option maxRecDepth 100000 in
theorem ms86_law : Go.WideMaps.KeyLaw Try.prog 88 := deep_law_laid (P := Try.prog) ms86_laidOut (m := 3) (Nat.le_of_ble_eq_true rfl) ms86_row ms86_kt ms86_wide
set_option maxRecDepth 100000 in
theorem ms86_keyed : Go.Maps.Keyed Try.prog 88 := Go.Maps.Keyed.of_law ms86_law
theorem ms86_key : Try.prog.keyType 88 = true := by kernel_rfl
def ms86.isI64 (a : Int) : Bool := decide (-9223372036854775808 ≤ a ∧ a ≤ 9223372036854775807)
theorem ms86.isI64_wf {a : Int} (h : ms86.isI64 a = true) : (Lit.int .i64 a).wf = true := by
 have := of_decide_eq_true h
 simpa [Lit.wf, IntKind.min, IntKind.max, IntKind.signed, IntKind.bits] using this
theorem ms86.keyOf_ {a b : Int} (wa : ms86.isI64 a = true) (wb : ms86.isI64 b = true) : ∃ l, keyOf Try.prog 88 (.agg #[.int .i64 a, .int .i64 b]) = some l := by
 replace wa := ms86.isI64_wf wa
 replace wb := ms86.isI64_wf wb
 have hsz : ∃ m, Try.prog.types.size = m + 1 := ⟨Try.prog.types.size - 1, by kernel_rfl⟩
 obtain ⟨m, hm⟩ := hsz
 have hc : Try.prog.cellsOf 88 = 2 := by kernel_rfl
 have hc3 : Try.prog.cellsOf 3 = 1 := by kernel_rfl
 have hf : (Value.agg #[.int .i64 a, .int .i64 b]).formed Try.prog 88 = true := by simp [Value.formed, Try.underlying88, hc]
 unfold keyOf
 rw [Try.underlying88]
 simp only [ms86_key, hf, Bool.and_self, if_true]
 rw [hm]
 simp [Program.keyLits, Try.underlying88, Try.underlying3, Value.cells, hc3, wa, wb]
 exact hc.symm
def ms86.keyV (k : Int × Int) : Value := .agg #[.int .i64 k.1, .int .i64 k.2]
instance ms86.ne : Nonempty Lit := ⟨.bool false⟩
noncomputable def ms86.keyL (k : Int × Int) : Lit := Classical.epsilon (fun l => keyOf Try.prog 88 (ms86.keyV k) = some l)
def ms86.wfK (k : Int × Int) : Bool := ms86.isI64 k.1 && ms86.isI64 k.2
theorem ms86.keyL_eq {k : Int × Int} (h : ms86.wfK k = true) : keyOf Try.prog 88 (ms86.keyV k) = some (ms86.keyL k) := by
 unfold ms86.wfK at h
 rw [Bool.and_eq_true] at h
 obtain ⟨l, hl⟩ := ms86.keyOf_ h.1 h.2
 exact Classical.epsilon_spec (p := fun l => keyOf Try.prog 88 (ms86.keyV k) = some l) ⟨l, hl⟩
set_option maxRecDepth 100000 in
theorem ms86.keyL_inj {k k' : Int × Int} (h : ms86.wfK k = true) (h' : ms86.wfK k' = true) (e : ms86.keyL k = ms86.keyL k') : k = k' := by
 have h1 := ms86.keyL_eq h
 have h2 := ms86.keyL_eq h'
 rw [← e] at h2
 have := ms86_keyed.inj (a := ms86.keyV k) (b := ms86.keyV k') (l := ms86.keyL k) h1 h2
 unfold ms86.keyV at this
 injection this with this
 simp at this
 exact Prod.ext this.1 this.2
set_option maxRecDepth 100000 in
theorem ms86.isKey {k : Int × Int} (h : ms86.wfK k = true) : WideAt.IsKeyLit (ms86.keyL k) := ms86_keyed.key (v := ms86.keyV k) (ms86.keyL_eq h)
/-- The datum D is the set of these keys. -/
structure ms86.Set (D : DataW Unit) (C : List (Int × Int)) : Prop where
 map : IsMap D
 at_ : ∀ k, ms86.wfK k = true → D.atKey (ms86.keyL k) (.lit (.bool false)) = .lit (.bool (decide (k ∈ C)))
theorem ms86.Set.empty : ms86.Set (.map []) [] := ⟨⟨[], rfl⟩, fun k _ => by simp; rfl⟩
theorem ms86.Set.add {D : DataW Unit} {C : List (Int × Int)} (h : ms86.Set D C) (k : Int × Int) (hk : ms86.wfK k = true) : ms86.Set (D.put (ms86.keyL k) (.lit (.bool true))) (k :: C) where
 map := h.map.put _ _
 at_ k' hk' := by
  by_cases e : k' = k
  ·subst e; rw [atKey_put_same h.map (ms86.isKey hk)]; simp
  ·rw [atKey_put_other (fun z => e (ms86.keyL_inj hk' hk z)), h.at_ k' hk']; simp [e]
def IsS86 (w0 W : World) (g : Nat) (f0 : List (Int × Int)) : Prop := (∃ D n, W.ownsMap Try.prog 88 (plainElem (H := Unit) Try.prog 4) g n D ∧ n ≤ f0.length ∧ ms86.Set D f0) ∧ w0.heap.size ≤ g
theorem IsS86.obj {w0 W : World} {g : Nat} {f0 : List (Int × Int)} (h : IsS86 w0 W g f0) : ∃ es clock, W.heap[g]? = some (.map es clock) := by
 obtain ⟨⟨D, n, ⟨es, clock, hb, _⟩, _⟩, _⟩ := h
 exact ⟨es, clock, hb⟩
theorem IsS86.move {w0 W W1 : World} {g : Nat} {f0 : List (Int × Int)} (h : IsS86 w0 W g f0) (hm : ∀ o, W.heap[g]? = some o → W1.heap[g]? = some o) : IsS86 w0 W1 g f0 := by
 obtain ⟨⟨D, n, ⟨es, clock, hb, r⟩, hn, hs⟩, hg⟩ := h
 exact ⟨⟨D, n, ⟨es, clock, hm _ hb, r⟩, hn, hs⟩, hg⟩
theorem IsS86.lt {w0 W : World} {g : Nat} {f0 : List (Int × Int)} (h : IsS86 w0 W g f0) : g < W.heap.size := by
 obtain ⟨es, clock, hb⟩ := h.obj
 exact blk_lt hb
theorem IsS86.ge {w0 W : World} {g : Nat} {f0 : List (Int × Int)} (h : IsS86 w0 W g f0) : w0.heap.size ≤ g := h.2
theorem IsS86.fresh {w0 W : World} {g : Nat} {f0 : List (Int × Int)} (h : IsS86 w0 W g f0) : ∀ k, W.heap.size ≤ k → k ≠ g := fun k hk => by have := h.lt; omega
theorem IsS86.grown {w0 W : World} {g : Nat} {f0 : List (Int × Int)} {W1 : World} {row : Option Nat} (h : IsS86 w0 W g f0) (hw : W.grownBy W1 row) (hne : some g ≠ row) : IsS86 w0 W1 g f0 := h.move (fun _ hb => blk_grown hb hw hne)
theorem IsS86.kept {w0 W : World} {g : Nat} {f0 : List (Int × Int)} {W1 : World} {S : Nat → Prop} (h : IsS86 w0 W g f0) (hk : Kept W W1 S) (hne : ¬ S g) : IsS86 w0 W1 g f0 := h.move (fun _ hb => blk_kept hb hk hne)
theorem IsS86.below {w0 W : World} {g : Nat} {f0 : List (Int × Int)} {W1 : World} (h : IsS86 w0 W g f0) (hw : Below W.heap.size W W1) : IsS86 w0 W1 g f0 := h.move (fun _ hb => blk_below hb hw)
theorem IsS86.alloc {w0 W : World} {g : Nat} {f0 : List (Int × Int)} (h : IsS86 w0 W g f0) (o : Obj) : IsS86 w0 (W.alloc o) g f0 := h.below (below_alloc (Below.refl _ _) o)
theorem IsS86.drewN {w0 W : World} {g : Nat} {f0 : List (Int × Int)} (h : IsS86 w0 W g f0) (m : Nat) : IsS86 w0 (W.drewN m) g f0 := h.move (fun _ hb => blk_drewN hb m)
theorem IsS86.drew {w0 W : World} {g : Nat} {f0 : List (Int × Int)} (h : IsS86 w0 W g f0) : IsS86 w0 W.drew g f0 := h.move (fun _ hb => blk_drew hb)
theorem IsS86.at_ {w0 W : World} {g : Nat} {f0 : List (Int × Int)} {w' : World} {m : Nat} (hq : W.drewN m = w') (h : IsS86 w0 W g f0) : IsS86 w0 w' g f0 := by subst hq; exact IsS86.drewN h m
theorem IsS86.apart {w0 W : World} {g : Nat} {f0 : List (Int × Int)} {α : Type} {d : Kd α} {e : Nat} {base : Nat} {ok : Nat → Prop} {v : Value} {xs : List α} (h : IsS86 w0 W g f0) (ho : d.R e W base ok v xs) (ht : ∀ q, q ∈ e :: d.E → q ≠ 86) : d.R e W base (fun k => ok k ∧ k ≠ g) v xs :=
 Kd.R_mono (Kd.R_bound ho) (fun k hk => ⟨hk.1, by
  obtain ⟨_, _, _, q, hq, cells', hc⟩ := hk
  rintro rfl
  obtain ⟨es, clock, hb⟩ := h.obj
  rw [hc] at hb
  cases hb⟩)
theorem IsS86.own_ne {w0 W : World} {g : Nat} {f0 : List (Int × Int)} {α : Type} {d : Kd α} {e : Nat} {base : Nat} {ok : Nat → Prop} {v : Value} {xs : List α} (h : IsS86 w0 W g f0) (ho : d.R e W base ok v xs) (ht : e ≠ 86) : some g ≠ v.ownBlock := fun he => by
 obtain ⟨cells, hc⟩ := Kd.R_typed ho g he.symm
 obtain ⟨es, clock, hb⟩ := h.obj
 rw [hc] at hb
 cases hb
theorem IsS86.ne_blk {w0 W : World} {g : Nat} {f0 : List (Int × Int)} {a : Nat} {cs : Array Value} {t : TypeId} {fr : Nat × Nat} (h : IsS86 w0 W g f0) (hb2 : W.heap[a]? = some (.cells cs t fr)) (ht : t ≠ 86) : g ≠ a := by
 rintro rfl
 obtain ⟨es, clock, hb⟩ := h.obj
 rw [hb2] at hb
 cases hb
theorem IsS86.far {w0 W : World} {g : Nat} {f0 : List (Int × Int)} {p : Addr} (h : IsS86 w0 W g f0) (hne : g ≠ p.block) (u : Value) : IsS86 w0 (W.setCell p u) g f0 := h.move (fun _ hb => (Below.heap_setCell W p u g hne).trans hb)
def ms86mk.f : Option (List (Int × Int)) := some []
def ms86has.f (C : List (Int × Int)) (a b : Int) : Option (Bool × List (Int × Int)) := if ms86.wfK (a, b) = true then some (decide ((a, b) ∈ C), C) else none
def ms86put.f (C : List (Int × Int)) (a b : Int) : Option (List (Int × Int)) := if ms86.wfK (a, b) = true ∧ C.length < 1000000 then some ((a, b) :: C) else none
section
variable {ops : Array Oper} {rest : List Oper} {o : Oper} {a : Act} {Q : Exit → Act → World → Prop}
theorem gate_mapput {P : Program} {W : World} {t : TypeId} {m k v : Operand} (_ho : o.op = .mapUpdate t m k v) (h : wpList P ops Q (o :: rest) a W) : wpList P ops Q (o :: rest) a W := h
theorem gate_lookup {P : Program} {W : World} {t : TypeId} {m k : Operand} {ok : Bool} (_ho : o.op = .lookup t m k ok) (h : wpList P ops Q (o :: rest) a W) : wpList P ops Q (o :: rest) a W := h
set_option maxRecDepth 100000 in
theorem ms86mk.ev (hgd : o.guard = none) (ho : o.op = .makeMap 86 none) (C : List (Int × Int)) (w0 W : World) (hB : Below w0.heap.size w0 W) (h : ms86mk.f = some C)
 (hc : ∀ (g_ : Nat) (w' : World), IsS86 w0 w' g_ C → Below w0.heap.size w0 w' → Below W.heap.size W w' → wpList Try.prog ops Q rest (a.put o.dst (.map (some g_))) w') : wpList Try.prog ops Q (o :: rest) a W := by
 obtain rfl := Option.some.inj h
 have hrun : (execOp a.eval o).run Try.prog W = .ok (.value (.map (some W.heap.size))) (W.alloc (.map #[] 0)) := by
  unfold execOp
  simp only [ho]
  go_simp
  first | done | rfl
 exact Kd.event_run hgd hrun (hc W.heap.size _ ⟨⟨.map [], 0, World.ownsMap_made W _ _ _, Nat.le_refl _, ms86.Set.empty⟩, hB.size⟩ (below_alloc hB _) (below_alloc (Below.refl _ _) _))
set_option maxRecDepth 100000 in
theorem ms86has.ev (hgd : o.guard = none) {m k : Operand} (ho : o.op = .lookup 86 m k false) (g : Nat) (C : List (Int × Int)) (x y : Int) (t : Bool) (C' : List (Int × Int)) (w0 W : World) (hm : a.eval m = .map (some g)) (hk : a.eval k = .agg #[.int .i64 x, .int .i64 y])
 (hI : IsS86 w0 W g C) (hB : Below w0.heap.size w0 W) (h : ms86has.f C x y = some (t, C'))
 (hc : ∀ w' : World, IsS86 w0 w' g C' → Below w0.heap.size w0 w' → KeepBut W w' g none → wpList Try.prog ops Q rest (a.put o.dst (.bool t)) w') : wpList Try.prog ops Q (o :: rest) a W := by
 unfold ms86has.f at h
 split at h
 ·rename_i hw
  have h1 := Option.some.inj h
  injection h1 with e1 e2
  subst e1; subst e2
  obtain ⟨⟨D, n, hown, hn, hs⟩, hg⟩ := hI
  have hz : (zeroValue 4).run Try.prog W = .ok (.bool false) W := by kernel_rfl
  obtain ⟨v, ps, hrun, hR⟩ := hown.lookup (e := 4) ms86_keyed Try.underlying86 (z := .bool false) hz (zd := .lit (.bool false)) (zp := []) (by simp [plainElem, Try.underlying4]) (key := .agg #[.int .i64 x, .int .i64 y]) (kl := ms86.keyL (x, y)) (ms86.keyL_eq hw)
  rw [hs.at_ _ hw] at hR
  have hv : v = .bool (decide ((x, y) ∈ C)) := by
   unfold plainElem at hR
   rw [Try.underlying4] at hR
   cases v <;> simp at hR
   rw [hR.1]
  subst hv
  have hrun2 : (execOp a.eval o).run Try.prog W = .ok (.value (.bool (decide ((x, y) ∈ C)))) W := by
   unfold execOp
   simp only [ho, hm, hk]
   go_simp
   first | done | rfl
  exact Kd.event_run hgd hrun2 (hc _ ⟨⟨D, n, hown, hn, hs⟩, hg⟩ hB (KeepBut.refl _ _ _))
 ·exact absurd h (by simp)
set_option maxRecDepth 100000 in
theorem ms86put.ev (hgd : o.guard = none) {m k v : Operand} (ho : o.op = .mapUpdate 86 m k v) (hN : o.dst = none) (g : Nat) (C : List (Int × Int)) (x y : Int) (C' : List (Int × Int)) (w0 W : World) (hm : a.eval m = .map (some g)) (hk : a.eval k = .agg #[.int .i64 x, .int .i64 y]) (hv : a.eval v = .bool true)
 (hI : IsS86 w0 W g C) (hB : Below w0.heap.size w0 W) (h : ms86put.f C x y = some C')
 (hc : ∀ w' : World, IsS86 w0 w' g C' → Below w0.heap.size w0 w' → KeepBut W w' g none → wpList Try.prog ops Q rest a w') : wpList Try.prog ops Q (o :: rest) a W := by
 unfold ms86put.f at h
 split at h
 ·rename_i hw
  obtain rfl := Option.some.inj h
  have hlt := hI.lt
  obtain ⟨⟨D, n, hown, hn, hs⟩, hg⟩ := hI
  obtain ⟨w', hrun, hown', hgr⟩ := hown.update (e := 4) ms86_keyed Try.underlying86 (Nat.lt_of_le_of_lt hn (Nat.lt_trans hw.2 (by decide))) (key := .agg #[.int .i64 x, .int .i64 y]) (val := .bool true) (kl := ms86.keyL (x, y)) (d := .lit (.bool true)) (ps := []) (ms86.keyL_eq hw.1) (by simp [plainElem, Try.underlying4])
  have hfin := hc w' ⟨⟨_, n + 1, hown', by simp; omega, hs.add _ hw.1⟩, hg⟩ (hB.grown hgr (Nat.le_of_lt (Nat.lt_of_le_of_lt hg hlt)) (fun k hk => by injection hk with hk; subst hk; exact hg)) ⟨hgr.size, fun i hi hne hr => hgr.block i hi (fun e => hne (by injection e))⟩
  have hrun2 : (execOp a.eval o).run Try.prog W = .ok .skip w' := by
   unfold execOp
   simp only [ho, hm, hk, hv]
   go_simp
   first | done | rfl
  refine wpList_plain hgd fun K hK => ?_
  unfold Oper.wp
  rw [hrun2]
  show K (a.put o.dst undef) w'
  rw [hN]
  exact hK _ _ hfin
 ·exact absurd h (by simp)
end
end

end Go.Proofs.Ytbcaaocogphdeaa.PCap
