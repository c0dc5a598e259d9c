-- Printed by this session's wip/myprint.py.
import Derived.Test.YtghnbiknghelpaaPStpx0
namespace Go.Proofs.Ytghnbiknghelpaa.PStp
open Go.RowKit Go.Proofs.YtghnbiknghelpaaW.PrintWords Go.Proofs.YtghnbiknghelpaaW.PrintLast Go.Proofs.YtghnbiknghelpaaW.PrintMore
attribute [local go_sem] max2_int min2_int max_two min_two max_three min_three max_four min_four   -- for this text's walks alone
set_option linter.unusedVariables false
set_option linter.unusedSimpArgs false

/-! ### maplit41: function 88000041 -/
section
open Go.Maps
/-- Two integers as a key; what such a key reads as. -/
def maplit41.keyV (k : Int × Int) : Value := .agg #[.int .i64 k.1, .int .i64 k.2]
def maplit41.i64 (a : Int) : Bool := decide (-9223372036854775808 ≤ a ∧ a ≤ 9223372036854775807)
def maplit41.wfK (k : Int × Int) : Bool := maplit41.i64 k.1 && maplit41.i64 k.2
theorem maplit41.i64_wf {a : Int} (h : maplit41.i64 a = true) : (Lit.int .i64 a).wf = true := by
  have := of_decide_eq_true h
  simpa [Lit.wf, IntKind.min, IntKind.max, IntKind.signed, IntKind.bits] using this
theorem maplit41.laidOut : laidOutB Try.prog = true := by kernel_rfl
theorem maplit41.row : (91 : TypeId) < Try.prog.types.size := of_decide_eq_true (by kernel_rfl)
theorem maplit41.wide : (match Try.prog.underlying 91 with | some (.array _ _) | some (.struct _) => true | _ => false) = true := by rw [Try.underlying91]
theorem maplit41.kt : Try.prog.keyTypeAt 3 91 = true := by kernel_rfl
set_option maxRecDepth 100000 in
theorem maplit41.law : Go.WideMaps.KeyLaw Try.prog 91 := deep_law_laid (P := Try.prog) maplit41.laidOut (m := 3) (Nat.le_of_ble_eq_true rfl) maplit41.row maplit41.kt maplit41.wide
set_option maxRecDepth 100000 in
theorem maplit41.keyed : Go.Maps.Keyed Try.prog 91 := Go.Maps.Keyed.of_law maplit41.law
theorem maplit41.key : Try.prog.keyType 91 = true := by kernel_rfl
theorem maplit41.keyOf_ex {a b : Int} (wa : maplit41.i64 a = true) (wb : maplit41.i64 b = true) : ∃ l, keyOf Try.prog 91 (.agg #[.int .i64 a, .int .i64 b]) = some l := by
  replace wa := maplit41.i64_wf wa
  replace wb := maplit41.i64_wf wb
  have hsz : ∃ m, Try.prog.types.size = m + 1 := ⟨Try.prog.types.size - 1, by kernel_rfl⟩
  obtain ⟨m, hm⟩ := hsz
  have hc : Try.prog.cellsOf 91 = 2 := by kernel_rfl
  have hc3 : Try.prog.cellsOf 3 = 1 := by kernel_rfl
  have hf : (Value.agg #[.int .i64 a, .int .i64 b]).formed Try.prog 91 = true := by simp [Value.formed, Try.underlying91, hc]
  unfold keyOf
  rw [Try.underlying91]
  simp only [maplit41.key, hf, Bool.and_self, if_true]
  rw [hm]
  simp [Program.keyLits, Try.underlying91, Try.underlying3, Value.cells, hc3, wa, wb, List.range_succ]
  exact hc.symm

theorem maplit41.lit_ne : Nonempty Lit := ⟨.bool false⟩
noncomputable def maplit41.keyL (k : Int × Int) : Lit := @Classical.epsilon Lit maplit41.lit_ne (fun l => keyOf Try.prog 91 (maplit41.keyV k) = some l)
theorem maplit41.keyL_eq {k : Int × Int} (h : maplit41.wfK k = true) : keyOf Try.prog 91 (maplit41.keyV k) = some (maplit41.keyL k) := by
  unfold maplit41.wfK at h
  rw [Bool.and_eq_true] at h
  obtain ⟨l, hl⟩ := maplit41.keyOf_ex h.1 h.2
  exact @Classical.epsilon_spec Lit (fun l => keyOf Try.prog 91 (maplit41.keyV k) = some l) ⟨l, hl⟩
theorem maplit41.keyL_inj {k k' : Int × Int} (h : maplit41.wfK k = true) (h' : maplit41.wfK k' = true) (e : maplit41.keyL k = maplit41.keyL k') : k = k' := by
  have h1 := maplit41.keyL_eq h
  have h2 := maplit41.keyL_eq h'
  rw [← e] at h2
  have := maplit41.keyed.inj (a := maplit41.keyV k) (b := maplit41.keyV k') (l := maplit41.keyL k) h1 h2
  unfold maplit41.keyV at this
  simp at this
  exact Prod.ext this.1 this.2
theorem maplit41.zero3 (w : World) : (zeroValue 3).run Try.prog w = .ok (.int .i64 0) w := by kernel_rfl
/-- Block b is a map that holds M. -/
def maplit41.OM (W : World) (b n : Nat) (M : Int × Int → Int) : Prop := ∃ D : DataW Unit, W.ownsMap Try.prog 91 (plainElem Try.prog 3) b n D ∧ IsMap D ∧ ∀ k, maplit41.wfK k = true → D.atKey (maplit41.keyL k) (.lit (.int .i64 0)) = .lit (.int .i64 (M k))
def maplit41.upd (M : Int × Int → Int) (k : Int × Int) (v : Int) : Int × Int → Int := fun j => if j = k then v else M j
/-- Since W block b was made, a map that holds M. -/
def maplit41.St (W w : World) (b n : Nat) (M : Int × Int → Int) : Prop := maplit41.OM w b n M ∧ Below W.heap.size W w ∧ W.heap.size ≤ b
theorem maplit41.St.cell {W w : World} {b n : Nat} {M : Int × Int → Int} (h : maplit41.St W w b n M) {p : Addr} {v : Value} (hp : W.cell? p = some v) : w.cell? p = some v := (h.2.1.cell (World.block_lt_of_cell? _ _ hp)).trans hp
theorem maplit41.St.celld {W w : World} {b n : Nat} {M : Int × Int → Int} (h : maplit41.St W w b n M) {p : Addr} {v : Value} (hp : W.drew.cell? p = some v) : w.cell? p = some v := h.cell hp
theorem maplit41.elem {v : Int} (hv : maplit41.i64 v = true) : plainElem (H := Unit) Try.prog 3 (.int .i64 v) = some (.lit (.int .i64 v), []) := by
  have := maplit41.i64_wf hv
  simp [plainElem, Try.underlying3, this]
theorem maplit41.mk {W : World} {ops : Array Oper} {o : Oper} {a : Act} {Q : Exit → Act → World → Prop} {K : Act → World → Prop} {N : Option Tmp} (hw : Region.wanted o (yielded ops a.tmps) = true) (hN : o.dst = N) (hop : o.op = Op.makeMap 96 none)
    (h : ∀ b w', maplit41.St W w' b 0 (fun _ => 0) → K (a.put N (.map (some b))) w') : if Region.wanted o (yielded ops a.tmps) = true then Oper.wp Try.prog o a W.drew K Q else K (a.put N undef) W.drew := by
  refine value_ (w1 := W.drew.alloc (.map #[] 0)) (v := .map (some W.drew.heap.size)) hw hN ?_ (h _ _ ⟨⟨.map [], World.ownsMap_made (H := Unit) W.drew Try.prog 91 (plainElem Try.prog 3), ⟨[], rfl⟩, fun k _ => rfl⟩, below_alloc (below_drew1 (Below.refl _ _)) _, Nat.le_refl _⟩)
  simp [execOp, hop, run_makeMap, Result.andThen]
theorem maplit41.ins {W w : World} {ops : Array Oper} {o : Oper} {a : Act} {Q : Exit → Act → World → Prop} {K : Act → World → Prop} {b n : Nat} {M : Int × Int → Int} (hS : maplit41.St W w b n M) (k0 k1 v : Int) {N N1 : Tmp} (hw : Region.wanted o (yielded ops a.tmps) = true) (hN : o.dst = none) (hop : o.op = Op.insert 96 (.tmp N) (.tmp N1) (.const (.int .i64 v)))
    (hm : a.eval (.tmp N) = .map (some b)) (hx : a.eval (.tmp N1) = .agg #[.int .i64 k0, .int .i64 k1]) (hk : maplit41.wfK (k0, k1) = true) (hv : maplit41.i64 v = true) (hn : n < 1000)
    (h : ∀ w', maplit41.St W w' b (n + 1) (maplit41.upd M (k0, k1) v) → K a w') : if Region.wanted o (yielded ops a.tmps) = true then Oper.wp Try.prog o a w K Q else K (a.put o.dst undef) w := by
  rw [hN]
  obtain ⟨⟨D, ho, h1, h2⟩, hB, hb⟩ := hS
  have hx' : a.eval (.tmp N1) = maplit41.keyV (k0, k1) := hx
  have hv' : a.eval (.const (.int .i64 v)) = .int .i64 v := rfl
  obtain ⟨w', hrun, r1, r2⟩ := ho.update maplit41.keyed Try.underlying96 (by unfold maxLen; omega) (maplit41.keyL_eq hk) (maplit41.elem hv)
  refine skip_ (w1 := w') hw hN ?_ (h w' ⟨⟨_, r1, h1.put _ _, fun j hj => ?_⟩, hB.grown r2 ?_ ?_, hb⟩)
  · simp [execOp, hop, hm, hx', hv', hrun, Result.andThen]
  · unfold maplit41.upd
    by_cases e : j = (k0, k1)
    · subst e; rw [if_pos rfl, atKey_put_same h1 (maplit41.keyed.key (maplit41.keyL_eq hk))]
    · rw [if_neg e, atKey_put_other (fun z => e (maplit41.keyL_inj hj hk z)), h2 j hj]
  · exact Nat.le_of_lt (Nat.lt_of_le_of_lt hb ho.lt)
  · intro k hk; injection hk with hk; subst hk; exact hb
theorem maplit41.run_look {w : World} {b n : Nat} {M : Int × Int → Int} (hO : maplit41.OM w b n M) {k : Int × Int} (hk : maplit41.wfK k = true) : (Instr.lookup 96 (.map (some b)) (maplit41.keyV k) false).run Try.prog w = .ok (.int .i64 (M k)) w := by
  obtain ⟨D, ho, h1, h2⟩ := hO
  obtain ⟨c, hrun, hat, _⟩ := ho.lookup_int maplit41.keyed Try.underlying96 Try.underlying3 (maplit41.zero3 w) (maplit41.keyL_eq hk)
  rw [h2 _ hk] at hat
  have : M k = c := by injection hat with e; injection e
  rw [this]; exact hrun
end
/-- The map's content. -/
def maplit41.M : Int × Int → Int := (maplit41.upd (maplit41.upd (maplit41.upd (maplit41.upd (maplit41.upd (maplit41.upd (maplit41.upd (maplit41.upd (maplit41.upd (maplit41.upd (maplit41.upd (fun _ => 0) (1, 0) 1) (2, 1) 2) (2, 5) 2) (2, 6) 2) (3, 2) 3) (4, 3) 5) (5, 4) 6) (6, 1) 7) (6, 2) 7) (6, 5) 7) (6, 6) 7)
def maplit41.f (a0 a1 : Int) : Option Int := if maplit41.wfK (a0, a1) = true then some (maplit41.M (a0, a1)) else none
/-- A region of a function's code, by its number. -/
def maplit41.reg (n : Nat) : Code → Option (Array Oper)
  | .region k ops _ => if k = n then some ops else none
  | .seq a b => match maplit41.reg n a with
    | some o => some o
    | none => maplit41.reg n b
  | .cond _ a b => match maplit41.reg n a with
    | some o => some o
    | none => maplit41.reg n b
  | .block _ b => maplit41.reg n b
  | .loop b => maplit41.reg n b
  | .scope b => maplit41.reg n b
  | _ => none
noncomputable def maplit41.ops : Array Oper := ((Try.f41.body.bind (maplit41.reg 13)).getD #[])
theorem maplit41.gate {ops : Array Oper} {P : Program} {Q : Exit → Act → World → Prop} {a : Act} {w : World} (h : (Code.region 13 ops true).wp P Q a w) : (Code.region 13 ops true).wp P Q a w := h
theorem maplit41.ready_of {ops : Array Oper} {l : Array Bool} {i : Nat} {o : Oper} {ns : List Nat} (ho : ops[i]? = some o) (hn : needsOf .any o = ns) (h0 : l.getD i true = false) (h : ∀ k ∈ ns, l.getD k false = true) : i ∈ Region.ready .any ops l :=
  mem_ready.2 ⟨h0, o, ho, fun e he hb => h e.on (by rw [← hn]; unfold needsOf; exact List.mem_map.2 ⟨e, List.mem_filter.2 ⟨by simpa using he, hb⟩, rfl⟩)⟩
theorem maplit41.of_ready {ops : Array Oper} {l : Array Bool} {i : Nat} (h : i ∈ Region.ready .any ops l) : ∃ o, ops[i]? = some o ∧ l.getD i true = false ∧ ∀ k ∈ needsOf .any o, l.getD k false = true := by
  obtain ⟨h0, o, ho, hall⟩ := mem_ready.1 h
  refine ⟨o, ho, h0, fun k hk => ?_⟩
  unfold needsOf at hk
  obtain ⟨e, he, rfl⟩ := List.mem_map.1 hk
  obtain ⟨h1, h2⟩ := List.mem_filter.1 he
  exact hall e (by simpa using h1) h2
theorem maplit41.f_some {a0 a1 t : Int} (h : maplit41.f a0 a1 = some t) : maplit41.wfK (a0, a1) = true ∧ maplit41.M (a0, a1) = t := by
  unfold maplit41.f at h
  split at h
  · rename_i h1
    exact ⟨h1, Option.some.inj h⟩
  · exact absurd h (by simp)
theorem maplit41.look {W w : World} {ops : Array Oper} {o : Oper} {a : Act} {Q : Exit → Act → World → Prop} {K : Act → World → Prop} {b n : Nat} (hS : maplit41.St W w b n maplit41.M) {k0 k1 t : Int} (hf : maplit41.f k0 k1 = some t) {N : Option Tmp} (hw : Region.wanted o (yielded ops a.tmps) = true) (hN : o.dst = N) (m x : Operand) (hop : o.op = Op.lookup 96 m x false)
    (hm : a.eval m = .map (some b)) (hx : a.eval x = .agg #[.int .i64 k0, .int .i64 k1]) (h : K (a.put N (.int .i64 t)) w) : if Region.wanted o (yielded ops a.tmps) = true then Oper.wp Try.prog o a w K Q else K (a.put N undef) w := by
  obtain ⟨hk, rfl⟩ := maplit41.f_some hf
  have hx' : a.eval x = maplit41.keyV (k0, k1) := hx
  refine value_ (w1 := w) (v := .int .i64 (maplit41.M (k0, k1))) hw hN ?_ h
  simp [execOp, hop, hm, hx', maplit41.run_look hS.1 hk, Result.andThen]
theorem maplit41.op2 : ∃ o, maplit41.ops[2]? = some o ∧ o.op = Op.insert 96 (.tmp 95) (.tmp 96) (.const (.int .i64 1)) ∧ o.dst = none ∧ o.guard = none ∧ needsOf .any o = [0, 1] := ⟨_, rfl, rfl, rfl, rfl, by kernel_rfl⟩
theorem maplit41.op4 : ∃ o, maplit41.ops[4]? = some o ∧ o.op = Op.insert 96 (.tmp 95) (.tmp 97) (.const (.int .i64 2)) ∧ o.dst = none ∧ o.guard = none ∧ needsOf .any o = [0, 3] := ⟨_, rfl, rfl, rfl, rfl, by kernel_rfl⟩
theorem maplit41.op6 : ∃ o, maplit41.ops[6]? = some o ∧ o.op = Op.insert 96 (.tmp 95) (.tmp 98) (.const (.int .i64 2)) ∧ o.dst = none ∧ o.guard = none ∧ needsOf .any o = [0, 5] := ⟨_, rfl, rfl, rfl, rfl, by kernel_rfl⟩
theorem maplit41.op8 : ∃ o, maplit41.ops[8]? = some o ∧ o.op = Op.insert 96 (.tmp 95) (.tmp 99) (.const (.int .i64 2)) ∧ o.dst = none ∧ o.guard = none ∧ needsOf .any o = [0, 7] := ⟨_, rfl, rfl, rfl, rfl, by kernel_rfl⟩
theorem maplit41.op10 : ∃ o, maplit41.ops[10]? = some o ∧ o.op = Op.insert 96 (.tmp 95) (.tmp 100) (.const (.int .i64 3)) ∧ o.dst = none ∧ o.guard = none ∧ needsOf .any o = [0, 9] := ⟨_, rfl, rfl, rfl, rfl, by kernel_rfl⟩
theorem maplit41.op12 : ∃ o, maplit41.ops[12]? = some o ∧ o.op = Op.insert 96 (.tmp 95) (.tmp 101) (.const (.int .i64 5)) ∧ o.dst = none ∧ o.guard = none ∧ needsOf .any o = [0, 11] := ⟨_, rfl, rfl, rfl, rfl, by kernel_rfl⟩
theorem maplit41.op14 : ∃ o, maplit41.ops[14]? = some o ∧ o.op = Op.insert 96 (.tmp 95) (.tmp 102) (.const (.int .i64 6)) ∧ o.dst = none ∧ o.guard = none ∧ needsOf .any o = [0, 13] := ⟨_, rfl, rfl, rfl, rfl, by kernel_rfl⟩
theorem maplit41.op16 : ∃ o, maplit41.ops[16]? = some o ∧ o.op = Op.insert 96 (.tmp 95) (.tmp 103) (.const (.int .i64 7)) ∧ o.dst = none ∧ o.guard = none ∧ needsOf .any o = [0, 15] := ⟨_, rfl, rfl, rfl, rfl, by kernel_rfl⟩
theorem maplit41.op18 : ∃ o, maplit41.ops[18]? = some o ∧ o.op = Op.insert 96 (.tmp 95) (.tmp 104) (.const (.int .i64 7)) ∧ o.dst = none ∧ o.guard = none ∧ needsOf .any o = [0, 17] := ⟨_, rfl, rfl, rfl, rfl, by kernel_rfl⟩
theorem maplit41.op20 : ∃ o, maplit41.ops[20]? = some o ∧ o.op = Op.insert 96 (.tmp 95) (.tmp 105) (.const (.int .i64 7)) ∧ o.dst = none ∧ o.guard = none ∧ needsOf .any o = [0, 19] := ⟨_, rfl, rfl, rfl, rfl, by kernel_rfl⟩
theorem maplit41.op22 : ∃ o, maplit41.ops[22]? = some o ∧ o.op = Op.insert 96 (.tmp 95) (.tmp 106) (.const (.int .i64 7)) ∧ o.dst = none ∧ o.guard = none ∧ needsOf .any o = [0, 21] := ⟨_, rfl, rfl, rfl, rfl, by kernel_rfl⟩
theorem maplit41.op23 : ∃ o, maplit41.ops[23]? = some o ∧ needsOf .any o = [0, 1, 2, 3, 4, 5, 6, 7, 8, 9, 10, 11, 12, 13, 14, 15, 16, 17, 18, 19, 20, 21, 22] := ⟨_, rfl, by kernel_rfl⟩
theorem maplit41.op28 : ∃ o, maplit41.ops[28]? = some o ∧ needsOf .any o = [23, 27] := ⟨_, rfl, by kernel_rfl⟩
theorem maplit41.op29 : ∃ o, maplit41.ops[29]? = some o ∧ needsOf .any o = [28, 0, 1, 2, 3, 4, 5, 6, 7, 8, 9, 10, 11, 12, 13, 14, 15, 16, 17, 18, 19, 20, 21, 22, 23, 24, 25, 26, 27, 28] := ⟨_, rfl, by kernel_rfl⟩
theorem maplit41.size : maplit41.ops.size = 30 := by kernel_rfl
/-- The map's content, where some of the entries have come up. -/
def maplit41.Mb (b0 b1 b2 b3 b4 b5 b6 b7 b8 b9 b10 : Bool) (k : Int × Int) : Int := if b0 = true ∧ k = (1, 0) then 1 else if b1 = true ∧ k = (2, 1) then 2 else if b2 = true ∧ k = (2, 5) then 2 else if b3 = true ∧ k = (2, 6) then 2 else if b4 = true ∧ k = (3, 2) then 3 else if b5 = true ∧ k = (4, 3) then 5 else if b6 = true ∧ k = (5, 4) then 6 else if b7 = true ∧ k = (6, 1) then 7 else if b8 = true ∧ k = (6, 2) then 7 else if b9 = true ∧ k = (6, 5) then 7 else if b10 = true ∧ k = (6, 6) then 7 else 0
def maplit41.cnt (b0 b1 b2 b3 b4 b5 b6 b7 b8 b9 b10 : Bool) : Nat := (if b0 = true then 0 else 1) + (if b1 = true then 0 else 1) + (if b2 = true then 0 else 1) + (if b3 = true then 0 else 1) + (if b4 = true then 0 else 1) + (if b5 = true then 0 else 1) + (if b6 = true then 0 else 1) + (if b7 = true then 0 else 1) + (if b8 = true then 0 else 1) + (if b9 = true then 0 else 1) + (if b10 = true then 0 else 1)
theorem maplit41.Mb_none : maplit41.Mb false false false false false false false false false false false = fun _ => 0 := by funext k; simp [maplit41.Mb]
theorem maplit41.Mb_0 (b1 b2 b3 b4 b5 b6 b7 b8 b9 b10 : Bool) : maplit41.upd (maplit41.Mb false b1 b2 b3 b4 b5 b6 b7 b8 b9 b10) (1, 0) 1 = maplit41.Mb true b1 b2 b3 b4 b5 b6 b7 b8 b9 b10 := by
  funext k
  unfold maplit41.upd
  by_cases e : k = (1, 0)
  · subst e; rw [if_pos rfl]; simp [maplit41.Mb]
  · rw [if_neg e]; simp [maplit41.Mb, e]
theorem maplit41.Mb_1 (b0 b2 b3 b4 b5 b6 b7 b8 b9 b10 : Bool) : maplit41.upd (maplit41.Mb b0 false b2 b3 b4 b5 b6 b7 b8 b9 b10) (2, 1) 2 = maplit41.Mb b0 true b2 b3 b4 b5 b6 b7 b8 b9 b10 := by
  funext k
  unfold maplit41.upd
  by_cases e : k = (2, 1)
  · subst e; rw [if_pos rfl]; simp [maplit41.Mb]
  · rw [if_neg e]; simp [maplit41.Mb, e]
theorem maplit41.Mb_2 (b0 b1 b3 b4 b5 b6 b7 b8 b9 b10 : Bool) : maplit41.upd (maplit41.Mb b0 b1 false b3 b4 b5 b6 b7 b8 b9 b10) (2, 5) 2 = maplit41.Mb b0 b1 true b3 b4 b5 b6 b7 b8 b9 b10 := by
  funext k
  unfold maplit41.upd
  by_cases e : k = (2, 5)
  · subst e; rw [if_pos rfl]; simp [maplit41.Mb]
  · rw [if_neg e]; simp [maplit41.Mb, e]
theorem maplit41.Mb_3 (b0 b1 b2 b4 b5 b6 b7 b8 b9 b10 : Bool) : maplit41.upd (maplit41.Mb b0 b1 b2 false b4 b5 b6 b7 b8 b9 b10) (2, 6) 2 = maplit41.Mb b0 b1 b2 true b4 b5 b6 b7 b8 b9 b10 := by
  funext k
  unfold maplit41.upd
  by_cases e : k = (2, 6)
  · subst e; rw [if_pos rfl]; simp [maplit41.Mb]
  · rw [if_neg e]; simp [maplit41.Mb, e]
theorem maplit41.Mb_4 (b0 b1 b2 b3 b5 b6 b7 b8 b9 b10 : Bool) : maplit41.upd (maplit41.Mb b0 b1 b2 b3 false b5 b6 b7 b8 b9 b10) (3, 2) 3 = maplit41.Mb b0 b1 b2 b3 true b5 b6 b7 b8 b9 b10 := by
  funext k
  unfold maplit41.upd
  by_cases e : k = (3, 2)
  · subst e; rw [if_pos rfl]; simp [maplit41.Mb]
  · rw [if_neg e]; simp [maplit41.Mb, e]
theorem maplit41.Mb_5 (b0 b1 b2 b3 b4 b6 b7 b8 b9 b10 : Bool) : maplit41.upd (maplit41.Mb b0 b1 b2 b3 b4 false b6 b7 b8 b9 b10) (4, 3) 5 = maplit41.Mb b0 b1 b2 b3 b4 true b6 b7 b8 b9 b10 := by
  funext k
  unfold maplit41.upd
  by_cases e : k = (4, 3)
  · subst e; rw [if_pos rfl]; simp [maplit41.Mb]
  · rw [if_neg e]; simp [maplit41.Mb, e]
theorem maplit41.Mb_6 (b0 b1 b2 b3 b4 b5 b7 b8 b9 b10 : Bool) : maplit41.upd (maplit41.Mb b0 b1 b2 b3 b4 b5 false b7 b8 b9 b10) (5, 4) 6 = maplit41.Mb b0 b1 b2 b3 b4 b5 true b7 b8 b9 b10 := by
  funext k
  unfold maplit41.upd
  by_cases e : k = (5, 4)
  · subst e; rw [if_pos rfl]; simp [maplit41.Mb]
  · rw [if_neg e]; simp [maplit41.Mb, e]
theorem maplit41.Mb_7 (b0 b1 b2 b3 b4 b5 b6 b8 b9 b10 : Bool) : maplit41.upd (maplit41.Mb b0 b1 b2 b3 b4 b5 b6 false b8 b9 b10) (6, 1) 7 = maplit41.Mb b0 b1 b2 b3 b4 b5 b6 true b8 b9 b10 := by
  funext k
  unfold maplit41.upd
  by_cases e : k = (6, 1)
  · subst e; rw [if_pos rfl]; simp [maplit41.Mb]
  · rw [if_neg e]; simp [maplit41.Mb, e]
theorem maplit41.Mb_8 (b0 b1 b2 b3 b4 b5 b6 b7 b9 b10 : Bool) : maplit41.upd (maplit41.Mb b0 b1 b2 b3 b4 b5 b6 b7 false b9 b10) (6, 2) 7 = maplit41.Mb b0 b1 b2 b3 b4 b5 b6 b7 true b9 b10 := by
  funext k
  unfold maplit41.upd
  by_cases e : k = (6, 2)
  · subst e; rw [if_pos rfl]; simp [maplit41.Mb]
  · rw [if_neg e]; simp [maplit41.Mb, e]
theorem maplit41.Mb_9 (b0 b1 b2 b3 b4 b5 b6 b7 b8 b10 : Bool) : maplit41.upd (maplit41.Mb b0 b1 b2 b3 b4 b5 b6 b7 b8 false b10) (6, 5) 7 = maplit41.Mb b0 b1 b2 b3 b4 b5 b6 b7 b8 true b10 := by
  funext k
  unfold maplit41.upd
  by_cases e : k = (6, 5)
  · subst e; rw [if_pos rfl]; simp [maplit41.Mb]
  · rw [if_neg e]; simp [maplit41.Mb, e]
theorem maplit41.Mb_10 (b0 b1 b2 b3 b4 b5 b6 b7 b8 b9 : Bool) : maplit41.upd (maplit41.Mb b0 b1 b2 b3 b4 b5 b6 b7 b8 b9 false) (6, 6) 7 = maplit41.Mb b0 b1 b2 b3 b4 b5 b6 b7 b8 b9 true := by
  funext k
  unfold maplit41.upd
  by_cases e : k = (6, 6)
  · subst e; rw [if_pos rfl]; simp [maplit41.Mb]
  · rw [if_neg e]; simp [maplit41.Mb, e]
theorem maplit41.M_eq : maplit41.Mb true true true true true true true true true true true = maplit41.M := by unfold maplit41.M; rw [← maplit41.Mb_none, maplit41.Mb_0, maplit41.Mb_1, maplit41.Mb_2, maplit41.Mb_3, maplit41.Mb_4, maplit41.Mb_5, maplit41.Mb_6, maplit41.Mb_7, maplit41.Mb_8, maplit41.Mb_9, maplit41.Mb_10]
/-- The entries come up in whatever order: behind all of them the map holds what it is to hold. -/
theorem maplit41.fill {ops : Array Oper} (hops : ops = maplit41.ops) {Q : Exit → Act → World → Prop} {S : World → Prop} {W : World} {bk : Nat} {a : Act} (hm : a.eval (.tmp 95) = .map (some bk)) (hx0 : a.eval (.tmp 96) = .agg #[.int .i64 1, .int .i64 0]) (hx1 : a.eval (.tmp 97) = .agg #[.int .i64 2, .int .i64 1]) (hx2 : a.eval (.tmp 98) = .agg #[.int .i64 2, .int .i64 5]) (hx3 : a.eval (.tmp 99) = .agg #[.int .i64 2, .int .i64 6]) (hx4 : a.eval (.tmp 100) = .agg #[.int .i64 3, .int .i64 2]) (hx5 : a.eval (.tmp 101) = .agg #[.int .i64 4, .int .i64 3]) (hx6 : a.eval (.tmp 102) = .agg #[.int .i64 5, .int .i64 4]) (hx7 : a.eval (.tmp 103) = .agg #[.int .i64 6, .int .i64 1]) (hx8 : a.eval (.tmp 104) = .agg #[.int .i64 6, .int .i64 2]) (hx9 : a.eval (.tmp 105) = .agg #[.int .i64 6, .int .i64 5]) (hx10 : a.eval (.tmp 106) = .agg #[.int .i64 6, .int .i64 6]) (hS : ∀ w n M, maplit41.St W w bk n M → S w) (fuel : Nat)
    (hEnd : ∀ w', maplit41.St W w' bk 11 (maplit41.Mb true true true true true true true true true true true) → wpAnyLast Try.prog .any ops Q S [] fuel #[true, true, true, true, true, true, true, true, true, true, true, true, true, true, true, true, true, true, true, true, true, true, true, false, true, true, true, true, false, false] a w') :
    ∀ (m : Nat) (b0 b1 b2 b3 b4 b5 b6 b7 b8 b9 b10 : Bool), maplit41.cnt b0 b1 b2 b3 b4 b5 b6 b7 b8 b9 b10 = m → ∀ w, maplit41.St W w bk (11 - m) (maplit41.Mb b0 b1 b2 b3 b4 b5 b6 b7 b8 b9 b10) → wpAnyLast Try.prog .any ops Q S [] (fuel + m) #[true, true, b0, true, b1, true, b2, true, b3, true, b4, true, b5, true, b6, true, b7, true, b8, true, b9, true, b10, false, true, true, true, true, false, false] a w := by
  subst hops
  intro m
  induction m with
  | zero =>
    intro b0 b1 b2 b3 b4 b5 b6 b7 b8 b9 b10 hc w st
    obtain rfl : b0 = true := by cases b0 with
      | true => rfl
      | false => simp only [maplit41.cnt, Bool.false_eq_true, if_false] at hc; omega
    obtain rfl : b1 = true := by cases b1 with
      | true => rfl
      | false => simp only [maplit41.cnt, Bool.false_eq_true, if_false] at hc; omega
    obtain rfl : b2 = true := by cases b2 with
      | true => rfl
      | false => simp only [maplit41.cnt, Bool.false_eq_true, if_false] at hc; omega
    obtain rfl : b3 = true := by cases b3 with
      | true => rfl
      | false => simp only [maplit41.cnt, Bool.false_eq_true, if_false] at hc; omega
    obtain rfl : b4 = true := by cases b4 with
      | true => rfl
      | false => simp only [maplit41.cnt, Bool.false_eq_true, if_false] at hc; omega
    obtain rfl : b5 = true := by cases b5 with
      | true => rfl
      | false => simp only [maplit41.cnt, Bool.false_eq_true, if_false] at hc; omega
    obtain rfl : b6 = true := by cases b6 with
      | true => rfl
      | false => simp only [maplit41.cnt, Bool.false_eq_true, if_false] at hc; omega
    obtain rfl : b7 = true := by cases b7 with
      | true => rfl
      | false => simp only [maplit41.cnt, Bool.false_eq_true, if_false] at hc; omega
    obtain rfl : b8 = true := by cases b8 with
      | true => rfl
      | false => simp only [maplit41.cnt, Bool.false_eq_true, if_false] at hc; omega
    obtain rfl : b9 = true := by cases b9 with
      | true => rfl
      | false => simp only [maplit41.cnt, Bool.false_eq_true, if_false] at hc; omega
    obtain rfl : b10 = true := by cases b10 with
      | true => rfl
      | false => simp only [maplit41.cnt, Bool.false_eq_true, if_false] at hc; omega
    exact hEnd w st
  | succ m ih =>
    intro b0 b1 b2 b3 b4 b5 b6 b7 b8 b9 b10 hc w st
    refine wpAnyLast_ready (rs := Region.ready .any maplit41.ops #[true, true, b0, true, b1, true, b2, true, b3, true, b4, true, b5, true, b6, true, b7, true, b8, true, b9, true, b10, false, true, true, true, true, false, false]) rfl ?_ ?_
    · intro hr
      cases b0 with
      | false =>
        obtain ⟨o, ho, _, _, _, hn⟩ := maplit41.op2
        have hm_ := maplit41.ready_of (l := #[true, true, false, true, b1, true, b2, true, b3, true, b4, true, b5, true, b6, true, b7, true, b8, true, b9, true, b10, false, true, true, true, true, false, false]) ho hn rfl (by intro k hk; simp only [List.mem_cons, List.not_mem_nil, or_false] at hk; rcases hk with rfl | rfl <;> rfl)
        rw [hr] at hm_; exact absurd hm_ (by simp)
      | true =>
        cases b1 with
        | false =>
          obtain ⟨o, ho, _, _, _, hn⟩ := maplit41.op4
          have hm_ := maplit41.ready_of (l := #[true, true, true, true, false, true, b2, true, b3, true, b4, true, b5, true, b6, true, b7, true, b8, true, b9, true, b10, false, true, true, true, true, false, false]) ho hn rfl (by intro k hk; simp only [List.mem_cons, List.not_mem_nil, or_false] at hk; rcases hk with rfl | rfl <;> rfl)
          rw [hr] at hm_; exact absurd hm_ (by simp)
        | true =>
          cases b2 with
          | false =>
            obtain ⟨o, ho, _, _, _, hn⟩ := maplit41.op6
            have hm_ := maplit41.ready_of (l := #[true, true, true, true, true, true, false, true, b3, true, b4, true, b5, true, b6, true, b7, true, b8, true, b9, true, b10, false, true, true, true, true, false, false]) ho hn rfl (by intro k hk; simp only [List.mem_cons, List.not_mem_nil, or_false] at hk; rcases hk with rfl | rfl <;> rfl)
            rw [hr] at hm_; exact absurd hm_ (by simp)
          | true =>
            cases b3 with
            | false =>
              obtain ⟨o, ho, _, _, _, hn⟩ := maplit41.op8
              have hm_ := maplit41.ready_of (l := #[true, true, true, true, true, true, true, true, false, true, b4, true, b5, true, b6, true, b7, true, b8, true, b9, true, b10, false, true, true, true, true, false, false]) ho hn rfl (by intro k hk; simp only [List.mem_cons, List.not_mem_nil, or_false] at hk; rcases hk with rfl | rfl <;> rfl)
              rw [hr] at hm_; exact absurd hm_ (by simp)
            | true =>
              cases b4 with
              | false =>
                obtain ⟨o, ho, _, _, _, hn⟩ := maplit41.op10
                have hm_ := maplit41.ready_of (l := #[true, true, true, true, true, true, true, true, true, true, false, true, b5, true, b6, true, b7, true, b8, true, b9, true, b10, false, true, true, true, true, false, false]) ho hn rfl (by intro k hk; simp only [List.mem_cons, List.not_mem_nil, or_false] at hk; rcases hk with rfl | rfl <;> rfl)
                rw [hr] at hm_; exact absurd hm_ (by simp)
              | true =>
                cases b5 with
                | false =>
                  obtain ⟨o, ho, _, _, _, hn⟩ := maplit41.op12
                  have hm_ := maplit41.ready_of (l := #[true, true, true, true, true, true, true, true, true, true, true, true, false, true, b6, true, b7, true, b8, true, b9, true, b10, false, true, true, true, true, false, false]) ho hn rfl (by intro k hk; simp only [List.mem_cons, List.not_mem_nil, or_false] at hk; rcases hk with rfl | rfl <;> rfl)
                  rw [hr] at hm_; exact absurd hm_ (by simp)
                | true =>
                  cases b6 with
                  | false =>
                    obtain ⟨o, ho, _, _, _, hn⟩ := maplit41.op14
                    have hm_ := maplit41.ready_of (l := #[true, true, true, true, true, true, true, true, true, true, true, true, true, true, false, true, b7, true, b8, true, b9, true, b10, false, true, true, true, true, false, false]) ho hn rfl (by intro k hk; simp only [List.mem_cons, List.not_mem_nil, or_false] at hk; rcases hk with rfl | rfl <;> rfl)
                    rw [hr] at hm_; exact absurd hm_ (by simp)
                  | true =>
                    cases b7 with
                    | false =>
                      obtain ⟨o, ho, _, _, _, hn⟩ := maplit41.op16
                      have hm_ := maplit41.ready_of (l := #[true, true, true, true, true, true, true, true, true, true, true, true, true, true, true, true, false, true, b8, true, b9, true, b10, false, true, true, true, true, false, false]) ho hn rfl (by intro k hk; simp only [List.mem_cons, List.not_mem_nil, or_false] at hk; rcases hk with rfl | rfl <;> rfl)
                      rw [hr] at hm_; exact absurd hm_ (by simp)
                    | true =>
                      cases b8 with
                      | false =>
                        obtain ⟨o, ho, _, _, _, hn⟩ := maplit41.op18
                        have hm_ := maplit41.ready_of (l := #[true, true, true, true, true, true, true, true, true, true, true, true, true, true, true, true, true, true, false, true, b9, true, b10, false, true, true, true, true, false, false]) ho hn rfl (by intro k hk; simp only [List.mem_cons, List.not_mem_nil, or_false] at hk; rcases hk with rfl | rfl <;> rfl)
                        rw [hr] at hm_; exact absurd hm_ (by simp)
                      | true =>
                        cases b9 with
                        | false =>
                          obtain ⟨o, ho, _, _, _, hn⟩ := maplit41.op20
                          have hm_ := maplit41.ready_of (l := #[true, true, true, true, true, true, true, true, true, true, true, true, true, true, true, true, true, true, true, true, false, true, b10, false, true, true, true, true, false, false]) ho hn rfl (by intro k hk; simp only [List.mem_cons, List.not_mem_nil, or_false] at hk; rcases hk with rfl | rfl <;> rfl)
                          rw [hr] at hm_; exact absurd hm_ (by simp)
                        | true =>
                          cases b10 with
                          | false =>
                            obtain ⟨o, ho, _, _, _, hn⟩ := maplit41.op22
                            have hm_ := maplit41.ready_of (l := #[true, true, true, true, true, true, true, true, true, true, true, true, true, true, true, true, true, true, true, true, true, true, false, false, true, true, true, true, false, false]) ho hn rfl (by intro k hk; simp only [List.mem_cons, List.not_mem_nil, or_false] at hk; rcases hk with rfl | rfl <;> rfl)
                            rw [hr] at hm_; exact absurd hm_ (by simp)
                          | true =>
                            simp [maplit41.cnt] at hc
    · intro i hi
      obtain ⟨o, ho, h0, hall⟩ := maplit41.of_ready hi
      have hlt : i < 30 := by have := (Array.getElem?_eq_some_iff.1 ho).1; rw [maplit41.size] at this; exact this
      match i, hlt, ho, h0 with
      | 0, _, ho, h0 => exact absurd (show (true : Bool) = false from h0) (by decide)
      | 1, _, ho, h0 => exact absurd (show (true : Bool) = false from h0) (by decide)
      | 2, _, ho, h0 =>
        obtain rfl : b0 = false := h0
        obtain ⟨o', ho', hop, hd, hg, _⟩ := maplit41.op2
        rw [ho'] at ho; obtain rfl := Option.some.inj ho
        refine wpOp_step ho' (fun K' hK => ?_)
        refine maplit41.ins st 1 0 1 (N := 95) (N1 := 96) (by simp [Region.wanted, hg]) hd hop hm hx0 (by decide) (by decide) (by omega) (fun w' st' => ?_)
        refine hK _ _ ⟨fun _ _ => hS _ _ _ st', ?_⟩
        rw [maplit41.Mb_0] at st'
        have hc2 : maplit41.cnt true b1 b2 b3 b4 b5 b6 b7 b8 b9 b10 = m := by simp only [maplit41.cnt, Bool.false_eq_true, if_false, if_true] at hc ⊢; omega
        have hle : m < 11 := by
          have q1 : (if b1 = true then 0 else 1) ≤ 1 := by split <;> omega
          have q2 : (if b2 = true then 0 else 1) ≤ 1 := by split <;> omega
          have q3 : (if b3 = true then 0 else 1) ≤ 1 := by split <;> omega
          have q4 : (if b4 = true then 0 else 1) ≤ 1 := by split <;> omega
          have q5 : (if b5 = true then 0 else 1) ≤ 1 := by split <;> omega
          have q6 : (if b6 = true then 0 else 1) ≤ 1 := by split <;> omega
          have q7 : (if b7 = true then 0 else 1) ≤ 1 := by split <;> omega
          have q8 : (if b8 = true then 0 else 1) ≤ 1 := by split <;> omega
          have q9 : (if b9 = true then 0 else 1) ≤ 1 := by split <;> omega
          have q10 : (if b10 = true then 0 else 1) ≤ 1 := by split <;> omega
          simp only [maplit41.cnt, if_true] at hc2
          omega
        have := ih true b1 b2 b3 b4 b5 b6 b7 b8 b9 b10 hc2 w' (by rw [show 11 - m = 11 - (m + 1) + 1 by omega]; exact st')
        exact this
      | 3, _, ho, h0 => exact absurd (show (true : Bool) = false from h0) (by decide)
      | 4, _, ho, h0 =>
        obtain rfl : b1 = false := h0
        obtain ⟨o', ho', hop, hd, hg, _⟩ := maplit41.op4
        rw [ho'] at ho; obtain rfl := Option.some.inj ho
        refine wpOp_step ho' (fun K' hK => ?_)
        refine maplit41.ins st 2 1 2 (N := 95) (N1 := 97) (by simp [Region.wanted, hg]) hd hop hm hx1 (by decide) (by decide) (by omega) (fun w' st' => ?_)
        refine hK _ _ ⟨fun _ _ => hS _ _ _ st', ?_⟩
        rw [maplit41.Mb_1] at st'
        have hc2 : maplit41.cnt b0 true b2 b3 b4 b5 b6 b7 b8 b9 b10 = m := by simp only [maplit41.cnt, Bool.false_eq_true, if_false, if_true] at hc ⊢; omega
        have hle : m < 11 := by
          have q0 : (if b0 = true then 0 else 1) ≤ 1 := by split <;> omega
          have q2 : (if b2 = true then 0 else 1) ≤ 1 := by split <;> omega
          have q3 : (if b3 = true then 0 else 1) ≤ 1 := by split <;> omega
          have q4 : (if b4 = true then 0 else 1) ≤ 1 := by split <;> omega
          have q5 : (if b5 = true then 0 else 1) ≤ 1 := by split <;> omega
          have q6 : (if b6 = true then 0 else 1) ≤ 1 := by split <;> omega
          have q7 : (if b7 = true then 0 else 1) ≤ 1 := by split <;> omega
          have q8 : (if b8 = true then 0 else 1) ≤ 1 := by split <;> omega
          have q9 : (if b9 = true then 0 else 1) ≤ 1 := by split <;> omega
          have q10 : (if b10 = true then 0 else 1) ≤ 1 := by split <;> omega
          simp only [maplit41.cnt, if_true] at hc2
          omega
        have := ih b0 true b2 b3 b4 b5 b6 b7 b8 b9 b10 hc2 w' (by rw [show 11 - m = 11 - (m + 1) + 1 by omega]; exact st')
        exact this
      | 5, _, ho, h0 => exact absurd (show (true : Bool) = false from h0) (by decide)
      | 6, _, ho, h0 =>
        obtain rfl : b2 = false := h0
        obtain ⟨o', ho', hop, hd, hg, _⟩ := maplit41.op6
        rw [ho'] at ho; obtain rfl := Option.some.inj ho
        refine wpOp_step ho' (fun K' hK => ?_)
        refine maplit41.ins st 2 5 2 (N := 95) (N1 := 98) (by simp [Region.wanted, hg]) hd hop hm hx2 (by decide) (by decide) (by omega) (fun w' st' => ?_)
        refine hK _ _ ⟨fun _ _ => hS _ _ _ st', ?_⟩
        rw [maplit41.Mb_2] at st'
        have hc2 : maplit41.cnt b0 b1 true b3 b4 b5 b6 b7 b8 b9 b10 = m := by simp only [maplit41.cnt, Bool.false_eq_true, if_false, if_true] at hc ⊢; omega
        have hle : m < 11 := by
          have q0 : (if b0 = true then 0 else 1) ≤ 1 := by split <;> omega
          have q1 : (if b1 = true then 0 else 1) ≤ 1 := by split <;> omega
          have q3 : (if b3 = true then 0 else 1) ≤ 1 := by split <;> omega
          have q4 : (if b4 = true then 0 else 1) ≤ 1 := by split <;> omega
          have q5 : (if b5 = true then 0 else 1) ≤ 1 := by split <;> omega
          have q6 : (if b6 = true then 0 else 1) ≤ 1 := by split <;> omega
          have q7 : (if b7 = true then 0 else 1) ≤ 1 := by split <;> omega
          have q8 : (if b8 = true then 0 else 1) ≤ 1 := by split <;> omega
          have q9 : (if b9 = true then 0 else 1) ≤ 1 := by split <;> omega
          have q10 : (if b10 = true then 0 else 1) ≤ 1 := by split <;> omega
          simp only [maplit41.cnt, if_true] at hc2
          omega
        have := ih b0 b1 true b3 b4 b5 b6 b7 b8 b9 b10 hc2 w' (by rw [show 11 - m = 11 - (m + 1) + 1 by omega]; exact st')
        exact this
      | 7, _, ho, h0 => exact absurd (show (true : Bool) = false from h0) (by decide)
      | 8, _, ho, h0 =>
        obtain rfl : b3 = false := h0
        obtain ⟨o', ho', hop, hd, hg, _⟩ := maplit41.op8
        rw [ho'] at ho; obtain rfl := Option.some.inj ho
        refine wpOp_step ho' (fun K' hK => ?_)
        refine maplit41.ins st 2 6 2 (N := 95) (N1 := 99) (by simp [Region.wanted, hg]) hd hop hm hx3 (by decide) (by decide) (by omega) (fun w' st' => ?_)
        refine hK _ _ ⟨fun _ _ => hS _ _ _ st', ?_⟩
        rw [maplit41.Mb_3] at st'
        have hc2 : maplit41.cnt b0 b1 b2 true b4 b5 b6 b7 b8 b9 b10 = m := by simp only [maplit41.cnt, Bool.false_eq_true, if_false, if_true] at hc ⊢; omega
        have hle : m < 11 := by
          have q0 : (if b0 = true then 0 else 1) ≤ 1 := by split <;> omega
          have q1 : (if b1 = true then 0 else 1) ≤ 1 := by split <;> omega
          have q2 : (if b2 = true then 0 else 1) ≤ 1 := by split <;> omega
          have q4 : (if b4 = true then 0 else 1) ≤ 1 := by split <;> omega
          have q5 : (if b5 = true then 0 else 1) ≤ 1 := by split <;> omega
          have q6 : (if b6 = true then 0 else 1) ≤ 1 := by split <;> omega
          have q7 : (if b7 = true then 0 else 1) ≤ 1 := by split <;> omega
          have q8 : (if b8 = true then 0 else 1) ≤ 1 := by split <;> omega
          have q9 : (if b9 = true then 0 else 1) ≤ 1 := by split <;> omega
          have q10 : (if b10 = true then 0 else 1) ≤ 1 := by split <;> omega
          simp only [maplit41.cnt, if_true] at hc2
          omega
        have := ih b0 b1 b2 true b4 b5 b6 b7 b8 b9 b10 hc2 w' (by rw [show 11 - m = 11 - (m + 1) + 1 by omega]; exact st')
        exact this
      | 9, _, ho, h0 => exact absurd (show (true : Bool) = false from h0) (by decide)
      | 10, _, ho, h0 =>
        obtain rfl : b4 = false := h0
        obtain ⟨o', ho', hop, hd, hg, _⟩ := maplit41.op10
        rw [ho'] at ho; obtain rfl := Option.some.inj ho
        refine wpOp_step ho' (fun K' hK => ?_)
        refine maplit41.ins st 3 2 3 (N := 95) (N1 := 100) (by simp [Region.wanted, hg]) hd hop hm hx4 (by decide) (by decide) (by omega) (fun w' st' => ?_)
        refine hK _ _ ⟨fun _ _ => hS _ _ _ st', ?_⟩
        rw [maplit41.Mb_4] at st'
        have hc2 : maplit41.cnt b0 b1 b2 b3 true b5 b6 b7 b8 b9 b10 = m := by simp only [maplit41.cnt, Bool.false_eq_true, if_false, if_true] at hc ⊢; omega
        have hle : m < 11 := by
          have q0 : (if b0 = true then 0 else 1) ≤ 1 := by split <;> omega
          have q1 : (if b1 = true then 0 else 1) ≤ 1 := by split <;> omega
          have q2 : (if b2 = true then 0 else 1) ≤ 1 := by split <;> omega
          have q3 : (if b3 = true then 0 else 1) ≤ 1 := by split <;> omega
          have q5 : (if b5 = true then 0 else 1) ≤ 1 := by split <;> omega
          have q6 : (if b6 = true then 0 else 1) ≤ 1 := by split <;> omega
          have q7 : (if b7 = true then 0 else 1) ≤ 1 := by split <;> omega
          have q8 : (if b8 = true then 0 else 1) ≤ 1 := by split <;> omega
          have q9 : (if b9 = true then 0 else 1) ≤ 1 := by split <;> omega
          have q10 : (if b10 = true then 0 else 1) ≤ 1 := by split <;> omega
          simp only [maplit41.cnt, if_true] at hc2
          omega
        have := ih b0 b1 b2 b3 true b5 b6 b7 b8 b9 b10 hc2 w' (by rw [show 11 - m = 11 - (m + 1) + 1 by omega]; exact st')
        exact this
      | 11, _, ho, h0 => exact absurd (show (true : Bool) = false from h0) (by decide)
      | 12, _, ho, h0 =>
        obtain rfl : b5 = false := h0
        obtain ⟨o', ho', hop, hd, hg, _⟩ := maplit41.op12
        rw [ho'] at ho; obtain rfl := Option.some.inj ho
        refine wpOp_step ho' (fun K' hK => ?_)
        refine maplit41.ins st 4 3 5 (N := 95) (N1 := 101) (by simp [Region.wanted, hg]) hd hop hm hx5 (by decide) (by decide) (by omega) (fun w' st' => ?_)
        refine hK _ _ ⟨fun _ _ => hS _ _ _ st', ?_⟩
        rw [maplit41.Mb_5] at st'
        have hc2 : maplit41.cnt b0 b1 b2 b3 b4 true b6 b7 b8 b9 b10 = m := by simp only [maplit41.cnt, Bool.false_eq_true, if_false, if_true] at hc ⊢; omega
        have hle : m < 11 := by
          have q0 : (if b0 = true then 0 else 1) ≤ 1 := by split <;> omega
          have q1 : (if b1 = true then 0 else 1) ≤ 1 := by split <;> omega
          have q2 : (if b2 = true then 0 else 1) ≤ 1 := by split <;> omega
          have q3 : (if b3 = true then 0 else 1) ≤ 1 := by split <;> omega
          have q4 : (if b4 = true then 0 else 1) ≤ 1 := by split <;> omega
          have q6 : (if b6 = true then 0 else 1) ≤ 1 := by split <;> omega
          have q7 : (if b7 = true then 0 else 1) ≤ 1 := by split <;> omega
          have q8 : (if b8 = true then 0 else 1) ≤ 1 := by split <;> omega
          have q9 : (if b9 = true then 0 else 1) ≤ 1 := by split <;> omega
          have q10 : (if b10 = true then 0 else 1) ≤ 1 := by split <;> omega
          simp only [maplit41.cnt, if_true] at hc2
          omega
        have := ih b0 b1 b2 b3 b4 true b6 b7 b8 b9 b10 hc2 w' (by rw [show 11 - m = 11 - (m + 1) + 1 by omega]; exact st')
        exact this
      | 13, _, ho, h0 => exact absurd (show (true : Bool) = false from h0) (by decide)
      | 14, _, ho, h0 =>
        obtain rfl : b6 = false := h0
        obtain ⟨o', ho', hop, hd, hg, _⟩ := maplit41.op14
        rw [ho'] at ho; obtain rfl := Option.some.inj ho
        refine wpOp_step ho' (fun K' hK => ?_)
        refine maplit41.ins st 5 4 6 (N := 95) (N1 := 102) (by simp [Region.wanted, hg]) hd hop hm hx6 (by decide) (by decide) (by omega) (fun w' st' => ?_)
        refine hK _ _ ⟨fun _ _ => hS _ _ _ st', ?_⟩
        rw [maplit41.Mb_6] at st'
        have hc2 : maplit41.cnt b0 b1 b2 b3 b4 b5 true b7 b8 b9 b10 = m := by simp only [maplit41.cnt, Bool.false_eq_true, if_false, if_true] at hc ⊢; omega
        have hle : m < 11 := by
          have q0 : (if b0 = true then 0 else 1) ≤ 1 := by split <;> omega
          have q1 : (if b1 = true then 0 else 1) ≤ 1 := by split <;> omega
          have q2 : (if b2 = true then 0 else 1) ≤ 1 := by split <;> omega
          have q3 : (if b3 = true then 0 else 1) ≤ 1 := by split <;> omega
          have q4 : (if b4 = true then 0 else 1) ≤ 1 := by split <;> omega
          have q5 : (if b5 = true then 0 else 1) ≤ 1 := by split <;> omega
          have q7 : (if b7 = true then 0 else 1) ≤ 1 := by split <;> omega
          have q8 : (if b8 = true then 0 else 1) ≤ 1 := by split <;> omega
          have q9 : (if b9 = true then 0 else 1) ≤ 1 := by split <;> omega
          have q10 : (if b10 = true then 0 else 1) ≤ 1 := by split <;> omega
          simp only [maplit41.cnt, if_true] at hc2
          omega
        have := ih b0 b1 b2 b3 b4 b5 true b7 b8 b9 b10 hc2 w' (by rw [show 11 - m = 11 - (m + 1) + 1 by omega]; exact st')
        exact this
      | 15, _, ho, h0 => exact absurd (show (true : Bool) = false from h0) (by decide)
      | 16, _, ho, h0 =>
        obtain rfl : b7 = false := h0
        obtain ⟨o', ho', hop, hd, hg, _⟩ := maplit41.op16
        rw [ho'] at ho; obtain rfl := Option.some.inj ho
        refine wpOp_step ho' (fun K' hK => ?_)
        refine maplit41.ins st 6 1 7 (N := 95) (N1 := 103) (by simp [Region.wanted, hg]) hd hop hm hx7 (by decide) (by decide) (by omega) (fun w' st' => ?_)
        refine hK _ _ ⟨fun _ _ => hS _ _ _ st', ?_⟩
        rw [maplit41.Mb_7] at st'
        have hc2 : maplit41.cnt b0 b1 b2 b3 b4 b5 b6 true b8 b9 b10 = m := by simp only [maplit41.cnt, Bool.false_eq_true, if_false, if_true] at hc ⊢; omega
        have hle : m < 11 := by
          have q0 : (if b0 = true then 0 else 1) ≤ 1 := by split <;> omega
          have q1 : (if b1 = true then 0 else 1) ≤ 1 := by split <;> omega
          have q2 : (if b2 = true then 0 else 1) ≤ 1 := by split <;> omega
          have q3 : (if b3 = true then 0 else 1) ≤ 1 := by split <;> omega
          have q4 : (if b4 = true then 0 else 1) ≤ 1 := by split <;> omega
          have q5 : (if b5 = true then 0 else 1) ≤ 1 := by split <;> omega
          have q6 : (if b6 = true then 0 else 1) ≤ 1 := by split <;> omega
          have q8 : (if b8 = true then 0 else 1) ≤ 1 := by split <;> omega
          have q9 : (if b9 = true then 0 else 1) ≤ 1 := by split <;> omega
          have q10 : (if b10 = true then 0 else 1) ≤ 1 := by split <;> omega
          simp only [maplit41.cnt, if_true] at hc2
          omega
        have := ih b0 b1 b2 b3 b4 b5 b6 true b8 b9 b10 hc2 w' (by rw [show 11 - m = 11 - (m + 1) + 1 by omega]; exact st')
        exact this
      | 17, _, ho, h0 => exact absurd (show (true : Bool) = false from h0) (by decide)
      | 18, _, ho, h0 =>
        obtain rfl : b8 = false := h0
        obtain ⟨o', ho', hop, hd, hg, _⟩ := maplit41.op18
        rw [ho'] at ho; obtain rfl := Option.some.inj ho
        refine wpOp_step ho' (fun K' hK => ?_)
        refine maplit41.ins st 6 2 7 (N := 95) (N1 := 104) (by simp [Region.wanted, hg]) hd hop hm hx8 (by decide) (by decide) (by omega) (fun w' st' => ?_)
        refine hK _ _ ⟨fun _ _ => hS _ _ _ st', ?_⟩
        rw [maplit41.Mb_8] at st'
        have hc2 : maplit41.cnt b0 b1 b2 b3 b4 b5 b6 b7 true b9 b10 = m := by simp only [maplit41.cnt, Bool.false_eq_true, if_false, if_true] at hc ⊢; omega
        have hle : m < 11 := by
          have q0 : (if b0 = true then 0 else 1) ≤ 1 := by split <;> omega
          have q1 : (if b1 = true then 0 else 1) ≤ 1 := by split <;> omega
          have q2 : (if b2 = true then 0 else 1) ≤ 1 := by split <;> omega
          have q3 : (if b3 = true then 0 else 1) ≤ 1 := by split <;> omega
          have q4 : (if b4 = true then 0 else 1) ≤ 1 := by split <;> omega
          have q5 : (if b5 = true then 0 else 1) ≤ 1 := by split <;> omega
          have q6 : (if b6 = true then 0 else 1) ≤ 1 := by split <;> omega
          have q7 : (if b7 = true then 0 else 1) ≤ 1 := by split <;> omega
          have q9 : (if b9 = true then 0 else 1) ≤ 1 := by split <;> omega
          have q10 : (if b10 = true then 0 else 1) ≤ 1 := by split <;> omega
          simp only [maplit41.cnt, if_true] at hc2
          omega
        have := ih b0 b1 b2 b3 b4 b5 b6 b7 true b9 b10 hc2 w' (by rw [show 11 - m = 11 - (m + 1) + 1 by omega]; exact st')
        exact this
      | 19, _, ho, h0 => exact absurd (show (true : Bool) = false from h0) (by decide)
      | 20, _, ho, h0 =>
        obtain rfl : b9 = false := h0
        obtain ⟨o', ho', hop, hd, hg, _⟩ := maplit41.op20
        rw [ho'] at ho; obtain rfl := Option.some.inj ho
        refine wpOp_step ho' (fun K' hK => ?_)
        refine maplit41.ins st 6 5 7 (N := 95) (N1 := 105) (by simp [Region.wanted, hg]) hd hop hm hx9 (by decide) (by decide) (by omega) (fun w' st' => ?_)
        refine hK _ _ ⟨fun _ _ => hS _ _ _ st', ?_⟩
        rw [maplit41.Mb_9] at st'
        have hc2 : maplit41.cnt b0 b1 b2 b3 b4 b5 b6 b7 b8 true b10 = m := by simp only [maplit41.cnt, Bool.false_eq_true, if_false, if_true] at hc ⊢; omega
        have hle : m < 11 := by
          have q0 : (if b0 = true then 0 else 1) ≤ 1 := by split <;> omega
          have q1 : (if b1 = true then 0 else 1) ≤ 1 := by split <;> omega
          have q2 : (if b2 = true then 0 else 1) ≤ 1 := by split <;> omega
          have q3 : (if b3 = true then 0 else 1) ≤ 1 := by split <;> omega
          have q4 : (if b4 = true then 0 else 1) ≤ 1 := by split <;> omega
          have q5 : (if b5 = true then 0 else 1) ≤ 1 := by split <;> omega
          have q6 : (if b6 = true then 0 else 1) ≤ 1 := by split <;> omega
          have q7 : (if b7 = true then 0 else 1) ≤ 1 := by split <;> omega
          have q8 : (if b8 = true then 0 else 1) ≤ 1 := by split <;> omega
          have q10 : (if b10 = true then 0 else 1) ≤ 1 := by split <;> omega
          simp only [maplit41.cnt, if_true] at hc2
          omega
        have := ih b0 b1 b2 b3 b4 b5 b6 b7 b8 true b10 hc2 w' (by rw [show 11 - m = 11 - (m + 1) + 1 by omega]; exact st')
        exact this
      | 21, _, ho, h0 => exact absurd (show (true : Bool) = false from h0) (by decide)
      | 22, _, ho, h0 =>
        obtain rfl : b10 = false := h0
        obtain ⟨o', ho', hop, hd, hg, _⟩ := maplit41.op22
        rw [ho'] at ho; obtain rfl := Option.some.inj ho
        refine wpOp_step ho' (fun K' hK => ?_)
        refine maplit41.ins st 6 6 7 (N := 95) (N1 := 106) (by simp [Region.wanted, hg]) hd hop hm hx10 (by decide) (by decide) (by omega) (fun w' st' => ?_)
        refine hK _ _ ⟨fun _ _ => hS _ _ _ st', ?_⟩
        rw [maplit41.Mb_10] at st'
        have hc2 : maplit41.cnt b0 b1 b2 b3 b4 b5 b6 b7 b8 b9 true = m := by simp only [maplit41.cnt, Bool.false_eq_true, if_false, if_true] at hc ⊢; omega
        have hle : m < 11 := by
          have q0 : (if b0 = true then 0 else 1) ≤ 1 := by split <;> omega
          have q1 : (if b1 = true then 0 else 1) ≤ 1 := by split <;> omega
          have q2 : (if b2 = true then 0 else 1) ≤ 1 := by split <;> omega
          have q3 : (if b3 = true then 0 else 1) ≤ 1 := by split <;> omega
          have q4 : (if b4 = true then 0 else 1) ≤ 1 := by split <;> omega
          have q5 : (if b5 = true then 0 else 1) ≤ 1 := by split <;> omega
          have q6 : (if b6 = true then 0 else 1) ≤ 1 := by split <;> omega
          have q7 : (if b7 = true then 0 else 1) ≤ 1 := by split <;> omega
          have q8 : (if b8 = true then 0 else 1) ≤ 1 := by split <;> omega
          have q9 : (if b9 = true then 0 else 1) ≤ 1 := by split <;> omega
          simp only [maplit41.cnt, if_true] at hc2
          omega
        have := ih b0 b1 b2 b3 b4 b5 b6 b7 b8 b9 true hc2 w' (by rw [show 11 - m = 11 - (m + 1) + 1 by omega]; exact st')
        exact this
      | 23, _, ho, h0 =>
        obtain ⟨o', ho', hn⟩ := maplit41.op23
        rw [ho'] at ho; obtain rfl := Option.some.inj ho
        rw [hn] at hall
        obtain rfl : b0 = true := hall 2 (by decide)
        obtain rfl : b1 = true := hall 4 (by decide)
        obtain rfl : b2 = true := hall 6 (by decide)
        obtain rfl : b3 = true := hall 8 (by decide)
        obtain rfl : b4 = true := hall 10 (by decide)
        obtain rfl : b5 = true := hall 12 (by decide)
        obtain rfl : b6 = true := hall 14 (by decide)
        obtain rfl : b7 = true := hall 16 (by decide)
        obtain rfl : b8 = true := hall 18 (by decide)
        obtain rfl : b9 = true := hall 20 (by decide)
        obtain rfl : b10 = true := hall 22 (by decide)
        simp [maplit41.cnt] at hc
      | 24, _, ho, h0 => exact absurd (show (true : Bool) = false from h0) (by decide)
      | 25, _, ho, h0 => exact absurd (show (true : Bool) = false from h0) (by decide)
      | 26, _, ho, h0 => exact absurd (show (true : Bool) = false from h0) (by decide)
      | 27, _, ho, h0 => exact absurd (show (true : Bool) = false from h0) (by decide)
      | 28, _, ho, h0 =>
        obtain ⟨o', ho', hn⟩ := maplit41.op28
        rw [ho'] at ho; obtain rfl := Option.some.inj ho
        rw [hn] at hall
        exact absurd (show (false : Bool) = true from hall 23 (by decide)) (by decide)
      | 29, _, ho, h0 =>
        obtain ⟨o', ho', hn⟩ := maplit41.op29
        rw [ho'] at ho; obtain rfl := Option.some.inj ho
        rw [hn] at hall
        obtain rfl : b0 = true := hall 2 (by decide)
        obtain rfl : b1 = true := hall 4 (by decide)
        obtain rfl : b2 = true := hall 6 (by decide)
        obtain rfl : b3 = true := hall 8 (by decide)
        obtain rfl : b4 = true := hall 10 (by decide)
        obtain rfl : b5 = true := hall 12 (by decide)
        obtain rfl : b6 = true := hall 14 (by decide)
        obtain rfl : b7 = true := hall 16 (by decide)
        obtain rfl : b8 = true := hall 18 (by decide)
        obtain rfl : b9 = true := hall 20 (by decide)
        obtain rfl : b10 = true := hall 22 (by decide)
        simp [maplit41.cnt] at hc

end Go.Proofs.Ytghnbiknghelpaa.PStp
