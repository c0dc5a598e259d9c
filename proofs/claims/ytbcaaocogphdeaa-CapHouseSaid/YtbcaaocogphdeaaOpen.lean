/- What an argument that can be read as data holds, kind by kind: numbers, bools, strings, structs of these, and slices of them. -/
import Derived.Test.YtbcaaocogphdeaaCapW
import Derived.Test.YtbcaaocogphdeaaWKept
import Derived.Deep.Slices
import Derived.Deep.Fields
import Derived.ChangeSame
import Derived.OpenShut
import Derived.SizedLaws
import Derived.Laws.IdiomCopy
import Derived.Sort.Grow
namespace Go.Proofs.Ytbcaaocogphdeaa.Open
open Go.ChangeShapes Go.WideShapes Go.Deep Go.RowKit Go.Proofs.YtbcaaocogphdeaaW.PrintWords Go.Proofs.YtbcaaocogphdeaaW.PrintLast
set_option linter.unusedVariables false
set_option linter.unusedSimpArgs false

def Opens (P : Program) (T : TypeId) {α : Type} (d : Kd α) (Wf : α → Prop) : Prop :=
  P.cellsOf T = d.sz ∧ ∀ (H : Type) (enc : TypeId × Value → H) (w : World) (base : Nat) (spare : Nat → Bool) (held : Bool) (fuel : Nat) (cs : List Value) (x : DataW H × List MemPlace),
    DataW.trod enc P w base spare held fuel T cs = some x → ∃ z, d.K w z cs ∧ Wf z
section
variable {P : Program}
theorem opens_int {T : TypeId} {k : IntKind} (ht : P.underlying T = some (.int k)) (hc : P.cellsOf T = 1) : Opens P T (Kd.int k) (fun n => (Lit.int k n).wf = true) :=
  ⟨hc, fun H enc w base spare held fuel cs x h => by
    obtain ⟨n, rfl, _, hw⟩ := DataW.trod_int ht h
    exact ⟨n, rfl, hw⟩⟩
theorem opens_bool {T : TypeId} (ht : P.underlying T = some .bool) (hc : P.cellsOf T = 1) : Opens P T Kd.bool (fun _ => True) :=
  ⟨hc, fun H enc w base spare held fuel cs x h => by
    obtain ⟨n, rfl, _⟩ := DataW.trod_bool ht h
    exact ⟨n, rfl, trivial⟩⟩
theorem opens_string {T : TypeId} (ht : P.underlying T = some .string) (hc : P.cellsOf T = 1) : Opens P T Kd.string (fun s => s.size ≤ maxLen) :=
  ⟨hc, fun H enc w base spare held fuel cs x h => by
    obtain ⟨n, rfl, _, hw⟩ := DataW.trod_string ht h
    exact ⟨n, rfl, hw⟩⟩
/-- The fields from j on, which begin at cell off. -/
def OpensF (P : Program) (fs : Array Field) (j off : Nat) {α : Type} (d : Kd α) (Wf : α → Prop) : Prop :=
  ∀ (H : Type) (enc : TypeId × Value → H) (w : World) (base : Nat) (spare : Nat → Bool) (held : Bool) (n : Nat) (cs : List Value), cs.length = off + d.sz →
    (∀ (i : Nat) (f : Field), fs[i]? = some f → ∃ y, DataW.trod enc P w base spare held n f.type ((cs.drop f.offset).take (P.cellsOf f.type)) = some y) → ∃ z, d.K w z (cs.drop off) ∧ Wf z
theorem opensF_last {fs : Array Field} {j off : Nat} {f : Field} {α : Type} {d : Kd α} {Wf : α → Prop} (hf : fs[j]? = some f) (ho : f.offset = off) (h : Opens P f.type d Wf) : OpensF P fs j off d Wf := by
  intro H enc w base spare held n cs hl hg
  obtain ⟨y, hy⟩ := hg j f hf
  rw [ho, h.1, List.take_of_length_le (by rw [List.length_drop]; omega)] at hy
  exact h.2 H enc w base spare held n _ y hy
theorem opensF_cons {fs : Array Field} {j off : Nat} {f : Field} {α β : Type} {d : Kd α} {e : Kd β} {Wf : α → Prop} {Wg : β → Prop} (hf : fs[j]? = some f) (ho : f.offset = off) (h : Opens P f.type d Wf) (hr : OpensF P fs (j + 1) (off + d.sz) e Wg) :
    OpensF P fs j off (Kd.pair d e) (fun z => Wf z.1 ∧ Wg z.2) := by
  intro H enc w base spare held n cs hl hg
  have hl' : cs.length = off + (d.sz + e.sz) := hl
  obtain ⟨y, hy⟩ := hg j f hf
  rw [ho, h.1] at hy
  obtain ⟨z1, k1, w1⟩ := h.2 H enc w base spare held n _ y hy
  obtain ⟨z2, k2, w2⟩ := hr H enc w base spare held n cs (by omega) hg
  refine ⟨(z1, z2), ⟨(cs.drop off).take d.sz, cs.drop (off + d.sz), ?_, k1, k2⟩, w1, w2⟩
  rw [← List.drop_drop, List.take_append_drop]
theorem opens_struct {T : TypeId} {fs : Array Field} {α β : Type} {d : Kd α} {Wf : α → Prop} {f : β → α} (ht : P.underlying T = some (.struct fs)) (hc : P.cellsOf T = d.sz) (h : OpensF P fs 0 0 d Wf) (hs : ∀ z, ∃ x, f x = z) : Opens P T (Kd.iso d f) (fun x => Wf (f x)) :=
  ⟨hc, fun H enc w base spare held fuel cs x hx => by
    obtain ⟨xs, n, _, _, hlen, hxl, hg⟩ := DataW.trod_struct ht hx
    obtain ⟨z, hk, hw⟩ := h H enc w base spare held n cs (by omega) (fun i g hi => by
      have hi2 := (Array.getElem?_eq_some_iff.1 hi).1
      exact ⟨xs[i]'(by omega), (hg i g hi).trans (List.getElem?_eq_getElem (by omega))⟩)
    obtain ⟨u, rfl⟩ := hs z
    exact ⟨u, hk, hw⟩⟩
/-- A field that stands for an array's element. -/
def afld (e off : Nat) : Field := { name := "", type := e, offset := off, embedded := false, tag := "", pkgPath := "", byteOffset := 0 }
theorem opens_array {T e : TypeId} {n : Nat} {fs : Array Field} {α β : Type} {d : Kd α} {Wf : α → Prop} {f : β → α} (hce : P.cellsOf e = 1) (hfs : ∀ (i : Nat) (g : Field), fs[i]? = some g → i < n ∧ g.type = e ∧ g.offset = i * 1) (ht : P.underlying T = some (.array n e)) (hc : P.cellsOf T = d.sz) (h : OpensF P fs 0 0 d Wf) (hs : ∀ z, ∃ x, f x = z) : Opens P T (Kd.iso d f) (fun x => Wf (f x)) :=
  ⟨hc, fun H enc w base spare held fuel cs x hx => by
    obtain ⟨xs, m, _, _, hlen, hxl, hg⟩ := DataW.trod_array ht hx
    obtain ⟨z, hk, hw⟩ := h H enc w base spare held m cs (by omega) (fun i g hi => by
      obtain ⟨h1, h2, h3⟩ := hfs i g hi
      rw [h2, h3, ← hce]
      exact ⟨xs[i]'(by omega), (hg i h1).trans (List.getElem?_eq_getElem (by omega))⟩)
    obtain ⟨u, rfl⟩ := hs z
    exact ⟨u, hk, hw⟩⟩
theorem opens_slice {T e : TypeId} {α : Type} {d : Kd α} {Wf : α → Prop} (ht : P.underlying T = some (.slice e)) (hc : P.cellsOf T = 1) (h : Opens P e d Wf) (hd : 0 < d.sz) : Opens P T (Kd.slice e d) (fun l => l.length ≤ maxLen ∧ ∀ x ∈ l, Wf x) :=
  ⟨hc, fun H enc w base spare held fuel cs x hx => by
    rcases open_slice ht hx with ⟨rfl, _⟩ | ⟨a, len, cap, m, n, D, Pl, rfl, hb, hl, hm, hmm, _, hi⟩
    · exact ⟨[], ⟨none, 0, rfl, Nat.le_refl _, rfl, Nat.zero_le _, fun h => absurd h (Nat.lt_irrefl _)⟩, by simp, fun x hx => by simp at hx⟩
    · have hle : len ≤ m := by rw [hmm]; split <;> omega
      have hz : ∀ i : Fin len, ∃ z : α, (∃ c : List Value, c.length = d.sz ∧ d.K w z c ∧ ∀ j u, c[j]? = some u → w.cell? (a.add (i.1 * d.sz + j)) = some u) ∧ Wf z := by
        intro i
        obtain ⟨c, hcell, htr⟩ := hi i.1 (by have := i.2; omega)
        rw [h.1] at hcell
        obtain ⟨z, hk, hw⟩ := h.2 H enc w base spare held n c _ htr
        obtain ⟨_, hcl, hat⟩ := World.cells?_some hcell
        refine ⟨z, ⟨c, hcl, hk, fun j u hu => ?_⟩, hw⟩
        have hj : j < d.sz := by
          rw [← hcl]; exact (List.getElem?_eq_some_iff.1 hu).1
        rw [← Go.Deep.add_add, hat j hj]
        exact hu
      obtain ⟨f, hf⟩ := Classical.skolem.1 hz
      have hlen : (List.ofFn f).length = len := List.length_ofFn
      refine ⟨List.ofFn f, ⟨some a, cap, by rw [hlen], by rw [hlen]; exact hl, ?_⟩, by rw [hlen]; omega, ?_⟩
      · refine ⟨rfl, by rw [hlen]; unfold maxLen at hm; omega, fun _ => ⟨a, rfl, fun j p hp => ?_⟩⟩
        have hj : j < len := by rw [← hlen]; exact (List.getElem?_eq_some_iff.1 hp).1
        rw [List.getElem?_ofFn, dif_pos hj] at hp
        obtain ⟨c, h1, h2, h3⟩ := (hf ⟨j, hj⟩).1
        obtain rfl := Option.some.inj hp
        exact ⟨c, h1, h2, h3⟩
      · intro x hx
        obtain ⟨i, hi2, rfl⟩ := List.getElem_of_mem hx
        rw [List.getElem_ofFn]
        exact (hf _).2⟩
/-- A slice that came in, out of its kind. -/
theorem slice_K {α : Type} {d : Kd α} {e : Nat} {w : World} {z : List α} {a : Option Addr} {len cap : Nat} (h : (Kd.slice e d).K w z [.slice a len cap]) : len = z.length ∧ z.length ≤ cap ∧ d.C w a z.length z := by
  obtain ⟨A, c, he, hl, hC⟩ := h
  simp only [List.cons.injEq, and_true] at he
  injection he with h1 h2 h3
  subst h1 h2 h3
  exact ⟨rfl, hl, hC⟩
/-- A row's slice is no longer than its weight allows. -/
theorem sized_rows {H : Type} {enc : TypeId × Value → H} {W : World} {base : Nat} {spare : Nat → Bool} {held : Bool} {t e : TypeId} {a : Option Addr} {len cap : Nat} {d : DataW H} {ps : List MemPlace} {ts : List TypeId} {ds : List (DataW H)} {j : Nat}
    (hsz : (DataW.weightsEach P ts ds).all (· ≤ reachBytes) = true) (ht : ts[j]? = some t) (hd : ds[j]? = some d) (hu : P.underlying t = some (.slice e)) {B : Nat} (hB : P.bytesOf e = B)
    (h : DataW.Trod enc P W base spare held t (.slice a len cap) d ps) : len * B ≤ 140737488351232 := by
  obtain ⟨fuel, hf⟩ := h
  rcases open_slice hu hf with ⟨hcs, _⟩ | ⟨x, l, c, m, n, D, Pl, hcs, hb, hl, hm, hmm, hx, _⟩
  · simp [Value.cells] at hcs
    obtain ⟨rfl, rfl, rfl⟩ := hcs
    simp
  · simp [Value.cells] at hcs
    obtain ⟨rfl, rfl, rfl⟩ := hcs
    obtain ⟨hx, _⟩ := Prod.mk.inj hx
    subst hx
    have z := sized_slice hsz ht hd hu
    rw [hB] at z
    refine Nat.le_trans (Nat.mul_le_mul_right _ ?_) z
    simp
end
/-- A call of a function value that captures nothing, in a region that draws. -/
theorem goesV_ {P : Program} {ops : Array Oper} {Q : Exit → Act → World → Prop} {oi : Oper} {N : Option Tmp} {a : Act} {w : World} {K : Act → World → Prop} {f : FuncId} {fn : Func} {x : Operand} {as : Array Operand} {ts : Array TypeId} (hf : P.funcs[f]? = some fn) (hname : (fn.name == "runtime.NumGoroutine") = false) (hb : fn.body.isSome = true) (args : Array Value)
    (hw : Region.wanted oi (yielded ops a.tmps) = true) (hN : oi.dst = N) (hop : oi.op = .call { callee := .value x, args := as, argTypes := ts }) (hx : a.eval x = .func (.func f) #[] #[]) (hargs : as.map a.eval = args)
    (h : Calls P f args w fun e w' => ∃ v, e = .returned v ∧ K (a.put N v) w') : if Region.wanted oi (yielded ops a.tmps) = true then Oper.wp P oi a w K Q else K (a.put N undef) w := by
  refine call_ f args hw hN ?_ h
  have he := enters_ hf hname hb args w
  unfold execOp
  simp [hop, resolve, Deferred.ofValue, invoke, hx, hargs, he]
/-- A call of a function value with captured variables, in a region that draws. -/
theorem goesW_ {P : Program} {ops : Array Oper} {Q : Exit → Act → World → Prop} {oi : Oper} {N : Option Tmp} {a : Act} {w : World} {K : Act → World → Prop} {f : FuncId} {fn : Func} {x : Operand} {as : Array Operand} {ts : Array TypeId} (hf : P.funcs[f]? = some fn) (hname : (fn.name == "runtime.NumGoroutine") = false) (hb : fn.body.isSome = true) (args caps all : Array Value)
    (hw : Region.wanted oi (yielded ops a.tmps) = true) (hN : oi.dst = N) (hop : oi.op = .call { callee := .value x, args := as, argTypes := ts }) (hx : a.eval x = .func (.func f) #[] caps) (hargs : as.map a.eval = args) (hall : args ++ caps = all)
    (h : Calls P f all w fun e w' => ∃ v, e = .returned v ∧ K (a.put N v) w') : if Region.wanted oi (yielded ops a.tmps) = true then Oper.wp P oi a w K Q else K (a.put N undef) w := by
  refine call_ f all hw hN ?_ h
  have he := enters_ hf hname hb all w
  unfold execOp
  simp [hop, resolve, Deferred.ofValue, invoke, hx, hargs, hall, he]
/-- A captured variable that holds a slice of uint64 (l), read. -/
def Clo (T : TypeId) (W : World) (A : Option Addr) (l : List Int) : Prop := ∃ (g : Nat) (A' : Option Addr) (c : Nat), A = some ⟨g, 0, none⟩ ∧ W.heap[g]? = some (.cells #[.slice A' l.length c] T (0, 0)) ∧ Kd.C (Kd.int .u64) W A' l.length l
theorem Clo.kept_call {T : TypeId} {w W : World} {A : Option Addr} {l : List Int} {S S2 : Nat → Prop} (h : ∀ W', Kept w W' S → Clo T W' A l) (hk : Kept w W S) (hs : ∀ k, S2 k → S k ∨ w.heap.size ≤ k) : ∀ W', Kept W W' S2 → Clo T W' A l := fun W' hk' => h W' (hk.then_ hk' hs)
theorem Clo.below {T : TypeId} {w W : World} {A : Option Addr} {l : List Int} (h : Clo T w A l) (hb : Below w.heap.size w W) : Clo T W A l := by
  obtain ⟨g, A', c, rfl, h1, h2⟩ := h
  exact ⟨g, A', c, rfl, blk_below h1 hb, Kd.C_below h2 hb⟩
theorem Clo.of_box {T : TypeId} {W : World} {S : Nat → Prop} {g : Nat} {A' : Option Addr} {c : Nat} {l : List Int} (hb : W.heap[g]? = some (.cells #[.slice A' l.length c] T (0, 0))) (hne : ¬ S g) (h : ∀ W', Kept W W' S → Kd.C (Kd.int .u64) W' A' l.length l) : ∀ W', Kept W W' S → Clo T W' (some ⟨g, 0, none⟩) l := fun W' hk => ⟨g, A', c, rfl, blk_kept hb hk hne, h W' hk⟩
theorem ownBlock_len (A : Option Addr) (n m c d : Nat) : (Value.slice A n c).ownBlock = (Value.slice A m d).ownBlock := by cases A <;> rfl
/-- What a cell may be written does not change with its content. -/
theorem frozen_cells {W : World} {g o : Nat} {vs : List Value} {x : Addr} {b : Bool} (h : (W.setCells g o vs).frozen? x = b) : W.frozen? x = b := (World.frozen?_setCells g vs o W x).symm.trans h
/-- A cell behind stores of several cells: what it holds behind the first of them, where the others lie elsewhere. -/
theorem cells_first (g o' : Nat) (x : Value) : ∀ (vs : List Value) (o i : Nat) (W : World), (W.setCells g o vs).cell? ⟨g, o', none⟩ = some x → (∀ k, i < k → k < vs.length → o + k ≠ o') → (W.setCells g o (vs.take (i + 1))).cell? ⟨g, o', none⟩ = some x
  | [], _, _, _, h, _ => by simpa using h
  | v :: r, o, 0, W, h, hk => by
    rw [World.setCells, World.cell?_setCells_out g r (o + 1) _ ⟨g, o', none⟩ (fun _ _ => by
      rcases Nat.lt_or_ge o' (o + 1) with h1 | h1
      · exact Or.inl h1
      · refine Or.inr (Nat.le_of_not_lt fun h2 => ?_)
        have h2' : o' < o + 1 + r.length := h2
        exact hk (o' - o) (by omega) (by simp; omega) (by omega))] at h
    simpa [World.setCells] using h
  | v :: r, o, i + 1, W, h, hk => by
    rw [World.setCells] at h
    have := cells_first g o' x r (o + 1) i _ h (fun k h1 h2 => by have := hk (k + 1) (by omega) (by simp; omega); omega)
    simpa [World.setCells] using this
/-- Nothing but draws and new blocks. -/
def Up (w w' : World) : Prop := ∃ q os, w' = Go.Sort.grow (w.drewN q) os
theorem Up.refl (w : World) : Up w w := ⟨0, #[], by simp [World.drewN]⟩
theorem Up.trans {a b c : World} (h : Up a b) (k : Up b c) : Up a c := by
  obtain ⟨q, os, rfl⟩ := h
  obtain ⟨q', os', rfl⟩ := k
  exact ⟨q + q', os ++ os', by simp [Go.Sort.grow, World.drewN, Array.append_assoc, Nat.add_assoc]⟩
theorem Up.alloc {a b : World} (h : Up a b) (o : Obj) : Up a (b.alloc o) := h.trans ⟨0, #[o], by rw [Go.Sort.alloc_eq_grow]; rfl⟩
theorem Up.drewN {a b : World} (h : Up a b) (n : Nat) : Up a (b.drewN n) := h.trans ⟨n, #[], by simp⟩
theorem Up.drew {a b : World} (h : Up a b) : Up a b.drew := h.trans ⟨1, #[], by rw [Go.Sort.grow_empty]; rfl⟩
theorem box_up {P : Program} {ops : Array Oper} {rest : List Oper} {o : Oper} {a : Act} {Q : Exit → Act → World → Prop} {W : World} (hgd : o.guard = none) {N : Tmp} (hd : o.dst = some N) {cs : Array Value} {t : TypeId}
    (hrun : (execOp a.eval o).run P W = .ok (.value (.pointer (some ⟨W.heap.size, 0, none⟩))) (W.alloc (.cells cs t (0, 0))))
    (h : ∀ g, g = W.heap.size → ∀ w1, w1.heap[g]? = some (.cells cs t (0, 0)) → Below W.heap.size W w1 → Up W w1 → wpList P ops Q rest (a.put o.dst (.pointer (some ⟨g, 0, none⟩))) w1) : wpList P ops Q (o :: rest) a W :=
  Kd.event_run hgd hrun (h _ rfl _ (blk_new W _) (below_alloc (Below.refl _ _) _) ((Up.refl W).alloc _))
theorem R_lit_up {α : Type} (d : Kd α) {P : Program} {ops : Array Oper} {o : Oper} {a : Act} {Q : Exit → Act → World → Prop} {Kc : Act → World → Prop} {w0 W : World} (base e : Nat) (hw : Region.wanted o (yielded ops a.tmps) = true) {N : Tmp} (hd : o.dst = some N) {xs : List α} {inner : List Value} {ok okp : Nat → Prop}
    (hrun : (execOp a.eval o).run P W = .ok (.value (.slice (some ⟨W.heap.size, 0, none⟩) xs.length xs.length)) (W.alloc (.cells inner.toArray e)))
    (hrep : Reps (d.M W base okp) d.sz xs inner) (hok : ∀ k, okp k → ok k) (hfresh : ok W.heap.size) (HB : Below base w0 W) (hbase : base ≤ W.heap.size) (hm : xs.length ≤ 9223372036854775807)
    (h : ∀ v1 w1, d.R e w1 base ok v1 xs → Below base w0 w1 → W.grownBy w1 none → (∃ b, v1.ownBlock = some b ∧ W.heap.size ≤ b) → Up W w1 → Kc (a.put o.dst v1) w1) : if Region.wanted o (yielded ops a.tmps) = true then Oper.wp P o a W Kc Q else Kc (a.put o.dst undef) W := by
  have hw2 := hw
  have key : d.R e (W.alloc (.cells inner.toArray e)) base ok (.slice (some ⟨W.heap.size, 0, none⟩) xs.length xs.length) xs := by
    refine ⟨fun k hk => ?_, inner, ?_, ?_⟩
    · have : W.heap.size = k := by simpa [Value.ownBlock] using hk
      subst this
      exact hfresh
    · have h2 := World.ownsRow_lit (base := base) (e := e) (size := d.sz) W inner.toArray xs.length hbase (by simpa [maxLen] using hm) (by simpa using hrep.1)
      simpa using h2
    · refine hrep.imp_ (fun p c hp => d.M_mono (fun k hk => ⟨hok k hk.1, fun he => ?_⟩) (Kd.M_below (d.M_bound hp) (below_alloc (Below.refl _ _) _)))
      have h3 : k = W.heap.size := by simpa [Value.ownBlock] using he
      have := hk.2.2.1
      omega
  rw [if_pos hw]
  unfold Oper.wp
  rw [hrun]
  exact h _ _ key (HB.alloc hbase _) (World.grownBy_alloc W _ none) ⟨W.heap.size, by simp [Value.ownBlock], Nat.le_refl _⟩ ((Up.refl W).alloc _)
end Go.Proofs.Ytbcaaocogphdeaa.Open
