-- Printed by this session's wip/myprint.py.
import Derived.Test.YtenhnlclnjnboaaPAllx0
namespace Go.Proofs.Ytenhnlclnjnboaa.PAll
open Go.RowKit Go.Proofs.YtenhnlclnjnboaaW.PrintWords Go.Proofs.YtenhnlclnjnboaaW.PrintLast Go.Proofs.YtenhnlclnjnboaaW.PrintMore
attribute [local go_sem] max2_int min2_int max_two min_two max_three min_three max_four min_four   -- for this text's walks alone
set_option linter.unusedVariables false
set_option linter.unusedSimpArgs false

/-! ### ledger_Entry_28: function 28 -/
theorem ledger_Entry_28.wp_copy (w : World) {o : Oper} {a : Act} {K : Act → World → Prop} {Q : Exit → Act → World → Prop} (d s : Operand) (t t' : TypeId)
  (ho : o.op = .call { callee := .builtin .copy, args := #[d, s], argTypes := #[t, t'] }) (v u : Value) (hd : a.eval d = v) (hs : a.eval s = u) {v' : Value} {w' : World}
  (hr : (Builtin.copy_ #[t, t'] o.type #[v, u]).run Try.prog w = .ok v' w') (h : K (a.put o.dst v') w') : o.wp Try.prog a w K Q := by
 unfold Oper.wp execOp
 simp only [ho, resolve, invoke, builtin, Sem.run_bind, Sem.run_pure, Result.andThen_ok, List.map_toArray, List.map_cons, List.map_nil, hd, hs, hr]
 exact h
theorem ledger_Entry_28.list_copy (w : World) {ops : Array Oper} {rest : List Oper} {o : Oper} {a : Act} {Q : Exit → Act → World → Prop} (hgd : o.guard = none) (d s : Operand) (t t' : TypeId)
  (ho : o.op = .call { callee := .builtin .copy, args := #[d, s], argTypes := #[t, t'] }) (v u : Value) (hd : a.eval d = v) (hs : a.eval s = u) {v' : Value} {w' : World}
  (hr : (Builtin.copy_ #[t, t'] o.type #[v, u]).run Try.prog w = .ok v' w') (h : wpList Try.prog ops Q rest (a.put o.dst v') w') : wpList Try.prog ops Q (o :: rest) a w :=
 wpList_plain hgd fun _ hK => ledger_Entry_28.wp_copy w d s t t' ho v u hd hs hr (hK _ _ h)
theorem ledger_Entry_28.step_copy {ops : Array Oper} {o : Oper} {a : Act} {w : World} {K : Act → World → Prop} {Q : Exit → Act → World → Prop} {E : Prop}
  (hg : o.guard = none) (d x : Operand) (dT sT : TypeId) (hop : o.op = Op.call { callee := Callee.builtin Builtin.copy, args := #[d, x], argTypes := #[dT, sT] })
  (v u : Value) (hd : a.eval d = v) (hx : a.eval x = u) {v' : Value} {w' : World} (hr : (Builtin.copy_ #[dT, sT] o.type #[v, u]).run Try.prog w = .ok v' w') (hK : K (a.put o.dst v') w') :
  if Region.wanted o (yielded ops a.tmps) = true then Oper.wp Try.prog o a w K Q else E := by
 have hw : Region.wanted o (yielded ops a.tmps) = true := by simp [Region.wanted, hg]
 rw [if_pos hw]
 unfold Oper.wp
 simp [execOp, hop, resolve, invoke, builtin, hd, hx, hr, Result.andThen]
 exact hK
def ledger_Entry_28.enc (x : S35) : List Value := [.int .i64 x.f0, .int .i64 x.f1, .int .i64 x.f2, .int .i64 x.f3]
theorem ledger_Entry_28.flat {R : S35 → List Value → Prop} (hR : ∀ x c, R x c → c = ledger_Entry_28.enc x) : ∀ (xs : List S35) (cs : List Value), Reps R 4 xs cs → cs = xs.flatMap ledger_Entry_28.enc
 | [], cs, h => by
  have := h.1
  simp only [List.length_nil, Nat.zero_mul] at this
  rw [List.eq_nil_of_length_eq_zero this]; rfl
 | x :: r, cs, h => by
  have h0 := hR _ _ (h.2 0 x rfl)
  simp only [Nat.zero_mul, List.drop_zero] at h0
  have ih := ledger_Entry_28.flat hR r (cs.drop 4) ⟨by rw [List.length_drop, h.1, List.length_cons]; omega, fun j p hp => by
   have := h.2 (j + 1) p (by simpa using hp)
   rw [List.drop_drop, show 4 + j * 4 = (j + 1) * 4 by omega]; exact this⟩
  rw [List.flatMap_cons, ← ih, ← h0, List.take_append_drop]
theorem ledger_Entry_28.reps {R : S35 → List Value → Prop} (hR : ∀ x, R x (ledger_Entry_28.enc x)) : ∀ xs : List S35, Reps R 4 xs (xs.flatMap ledger_Entry_28.enc)
 | [] => Reps.none _ _
 | x :: r => Reps.front (hR x) rfl (ledger_Entry_28.reps hR r) rfl
theorem ledger_Entry_28.flat_len (xs : List S35) : (xs.flatMap ledger_Entry_28.enc).length = xs.length * 4 := by
 induction xs with
 | nil => rfl
 | cons x r ih => rw [List.flatMap_cons, List.length_append, ih, List.length_cons]; show 4 + _ = _; omega
theorem ledger_Entry_28.form {W : World} {base : Nat} {ok : Nat → Prop} {v : Value} {xs : List S35} (h : Kd.R k35 35 W base ok v xs) (hn : 0 < xs.length) :
  ∃ g cap cur, v = .slice (some ⟨g, 0, none⟩) xs.length cap ∧ base ≤ g ∧ W.heap[g]? = some (.cells cur 35 (0, 0)) ∧ xs.length ≤ cap ∧ cap ≤ maxLen ∧ cur.size = cap * 4 ∧ cur.toList.take (xs.length * 4) = xs.flatMap ledger_Entry_28.enc ∧ ok g := by
 obtain ⟨hok, inner, ⟨hin, hor⟩, hr⟩ := h
 rcases hor with ⟨_, hz⟩ | ⟨g, c, cur, hv, hb, hh, hnc, hcm, hcs, htake⟩
 ·omega
 ·exact ⟨g, c, cur, hv, hb, hh, hnc, hcm, hcs, htake.trans (ledger_Entry_28.flat (fun x c h => k35_openM h) xs inner hr), hok g (by rw [hv]; rfl)⟩
theorem ledger_Entry_28.mk {W : World} {base g cap : Nat} {ok : Nat → Prop} {cur : Array Value} {xs : List S35} (hb : base ≤ g) (hh : W.heap[g]? = some (.cells cur 35 (0, 0))) (hnc : xs.length ≤ cap) (hcm : cap ≤ maxLen) (hcs : cur.size = cap * 4) (ht : cur.toList.take (xs.length * 4) = xs.flatMap ledger_Entry_28.enc) (hok : ok g) :
  Kd.R k35 35 W base ok (.slice (some ⟨g, 0, none⟩) xs.length cap) xs :=
 ⟨fun k hk => by
  have : g = k := by simpa [Value.ownBlock] using hk
  exact this ▸ hok, xs.flatMap ledger_Entry_28.enc, ⟨ledger_Entry_28.flat_len xs, .inr ⟨g, cap, cur, rfl, hb, hh, hnc, hcm, hcs, ht⟩⟩, ledger_Entry_28.reps (fun x => k35_mkM _ _ _ x) xs⟩
theorem ledger_Entry_28.cut_take (xs : List S35) : ∀ i : Nat, (xs.flatMap ledger_Entry_28.enc).take (i * 4) = (xs.take i).flatMap ledger_Entry_28.enc ∧ (xs.flatMap ledger_Entry_28.enc).drop (i * 4) = (xs.drop i).flatMap ledger_Entry_28.enc := by
 induction xs with
 | nil => intro i; simp
 | cons x r ih =>
  intro i
  cases i with
  | zero => simp
  | succ i =>
   obtain ⟨h1, h2⟩ := ih i
   have hl : (ledger_Entry_28.enc x).length = 4 := rfl
   rw [List.flatMap_cons, List.take_succ_cons, List.flatMap_cons, List.drop_succ_cons, ← h1, ← h2]
   refine ⟨?_, ?_⟩
   ·rw [List.take_append, List.take_of_length_le (by rw [hl]; omega), hl, show (i + 1) * 4 - 4 = i * 4 by omega]
   ·rw [List.drop_append, List.drop_of_length_le (by rw [hl]; omega), hl, show (i + 1) * 4 - 4 = i * 4 by omega]; rfl
open Go.Lib in
theorem ledger_Entry_28.copy (w : World) (dT sT ty elem : TypeId) (b o dLen dCap : Nat) (a : Addr) (sLen sCap m : Nat) (cs : List Value)
  (hu : Try.prog.underlying dT = some (.slice elem)) (hs : (Try.prog.info? elem).map (·.size) = some 4) (hm : m = Nat.min sLen dLen) (hn : cs.length = 4 * m)
  (hsrc : ∀ j v, cs[j]? = some v → w.cell? (a.add j) = some v) (hc : ∀ j, j < cs.length → (w.cell? ⟨b, o + j, none⟩).isSome = true) (hf : ∀ j, j < cs.length → w.frozen? ⟨b, o + j, none⟩ = false) (h1 : ∀ v ∈ cs, v.oneCell' = true) :
  (Builtin.copy_ #[dT, sT] ty #[.slice (some ⟨b, o, none⟩) dLen dCap, .slice (some a) sLen sCap]).run Try.prog w = .ok (goInt m) (w.setCells b o cs) := by
 have hl := run_loadCells_list (P := Try.prog) w a cs hsrc
 have hst := run_storeCells_cells (P := Try.prog) b o cs 0 w (by simpa using hc) (by simpa using hf) h1
 cases hq : Try.prog.info? elem with
 | none => simp [hq] at hs
 | some i =>
  have hi : i.size = 4 := by simpa [hq] using hs
  rw [hn, Nat.mul_comm] at hl
  simp [Builtin.copy_, run_underlying hu, Builtin.lenOf, Builtin.firstCells, sizeOf, typeInfo, hq, hi, ← hm, hl, hst]
theorem ledger_Entry_28.cell_row {W : World} {g : Nat} {cur : Array Value} (hh : W.heap[g]? = some (.cells cur 35 (0, 0))) (q : Nat) (hq : q < cur.size) : (W.cell? ⟨g, q, none⟩).isSome = true ∧ W.frozen? ⟨g, q, none⟩ = false :=
 ⟨by rw [cell_of_row W g _ cur 35 (0, 0) hh]; simp; exact hq, blk_frozen hh _⟩
theorem ledger_Entry_28.cell_of {W : World} {g : Nat} {cur : Array Value} {xs : List Value} {m : Nat} (hh : W.heap[g]? = some (.cells cur 35 (0, 0))) (ht : cur.toList.take m = xs) (q : Nat) (v : Value) (hq : xs[q]? = some v) : W.cell? ⟨g, q, none⟩ = some v := by
 rw [cell_of_row W g _ cur 35 (0, 0) hh]
 subst ht
 rw [List.getElem?_take] at hq
 split at hq
 ·rw [← Array.getElem?_toList]; exact hq
 ·cases hq
theorem ledger_Entry_28.one_cells (xs : List S35) : ∀ v ∈ xs.flatMap ledger_Entry_28.enc, v.oneCell' = true := by
 intro v hv
 obtain ⟨x, _, hx⟩ := List.mem_flatMap.1 hv
 simp only [ledger_Entry_28.enc, List.mem_cons, List.not_mem_nil, or_false] at hx
 rcases hx with rfl | rfl | rfl | rfl <;> rfl
theorem ledger_Entry_28.ovl (w : World) (vb b o lb cb m vc : Nat) (hne : vb ≠ b) (cv cb' : Array Value) (hv : w.heap[vb]? = some (.cells cv 35 (0, 0))) (hb : w.heap[b]? = some (.cells cb' 35 (0, 0))) (hk : cb'.size ≠ 0) :
  (callFunc 48 #[.slice (some ⟨vb, 0, none⟩) m vc, .slice (some ⟨b, o, none⟩) lb cb]).run Try.prog w = .ok (.value (.bool false)) w := by
 have hsa : w.shape? vb = some (35, cv.size) := by simp [World.shape?, hv]
 have hsb : w.shape? b = some (35, cb'.size) := by simp [World.shape?, hb]
 rw [run_callFunc_extern Try.func48 (by kernel_rfl) (by kernel_rfl) (by kernel_rfl) (e := Extern.SlicesOverlaps.overlaps #[24, 24] #[4]) (by kernel_rfl),
  Lib.run_overlaps_apart w 24 4 35 Try.underlying24 4 Try.sizeOf35 ⟨vb, 0, none⟩ ⟨b, o, none⟩ m vc lb cb hne 35 35 cv.size cb'.size hsa hsb hk (blk_frozen hv _) (blk_frozen hv _)]
 rfl
-- PART2
theorem ledger_Entry_28.ins (xs : List S35) (i : Nat) (y : S35) (hi : i ≤ xs.length) : (xs.take i ++ y :: xs.drop i).flatMap ledger_Entry_28.enc = (xs.flatMap ledger_Entry_28.enc).take (i * 4) ++ ledger_Entry_28.enc y ++ (xs.flatMap ledger_Entry_28.enc).drop (i * 4) := by
 obtain ⟨h1, h2⟩ := ledger_Entry_28.cut_take xs i
 rw [List.flatMap_append, List.flatMap_cons, h1, h2, List.append_assoc]
set_option maxHeartbeats 4000000 in
set_option maxRecDepth 100000 in
theorem ledger_Entry_28.fits (P0_ : Nat → Prop) (l0 : List S35) (i : Nat) (y : S35) (w0 W : World) (g cap vb : Nat) (cur : Array Value) (hi : i < l0.length) (hroom : l0.length + 1 ≤ cap) (hge : w0.heap.size ≤ g) (hh : W.heap[g]? = some (.cells cur 35 (0, 0))) (hcm : cap ≤ maxLen) (hcs : cur.size = cap * 4) (ht : cur.toList.take (l0.length * 4) = l0.flatMap ledger_Entry_28.enc) (hP : P0_ g) (hvb : vb ≠ g) (hv : W.heap[vb]? = some (.cells (ledger_Entry_28.enc y).toArray 35 (0, 0))) (hB : Below w0.heap.size w0 W) :
  Calls Try.prog 28 #[.slice (some ⟨g, 0, none⟩) l0.length cap, .int .i64 (i : Int), .slice (some ⟨vb, 0, none⟩) 1 1] W fun e w' => ∃ v0_ : Value, e = .returned v0_ ∧ Kd.R k35 35 w' w0.heap.size (fun k_ => (P0_ k_ ∨ W.heap.size ≤ k_)) v0_ (l0.take i ++ y :: l0.drop i) ∧ Below w0.heap.size w0 w' ∧ Kept W w' (fun k_ => P0_ k_) := by
 have hm : cap ≤ 9223372036854775807 := Nat.le_trans hcm (by decide)
 obtain ⟨cs, hcsd⟩ : ∃ cs, cs = l0.flatMap ledger_Entry_28.enc := ⟨_, rfl⟩
 have hcl : cs.length = l0.length * 4 := by rw [hcsd]; exact ledger_Entry_28.flat_len l0
 have h1c : ∀ v ∈ cs, v.oneCell' = true := by rw [hcsd]; exact ledger_Entry_28.one_cells l0
 rw [← hcsd] at ht
 generalize hn : l0.length = n at *
 have hdl : (cs.drop (i * 4)).length = 4 * (n - i) := by rw [List.length_drop, hcl]; omega
 have hsz : (Try.prog.info? 35).map (·.size) = some 4 := by kernel_rfl
 have hov : ∀ lb cb, (callFunc 48 #[.slice (some ⟨vb, 0, none⟩) 1 1, .slice (some ⟨g, (i + 1) * 4, none⟩) lb cb]).run Try.prog W = .ok (.value (.bool false)) W := fun lb cb => ledger_Entry_28.ovl W vb g _ lb cb 1 1 hvb _ _ hv hh (by omega)
 obtain ⟨cur1, hh1, hs1, hl1⟩ := setCells_row (cs.drop (i * 4)) ((i + 1) * 4) W.drew cur hh (by rw [hdl, hcs]; omega)
 obtain ⟨W1, hW1⟩ : ∃ W1, W1 = W.drew.setCells g ((i + 1) * 4) (cs.drop (i * 4)) := ⟨_, rfl⟩
 rw [← hW1] at hh1
 have hv1 : W1.heap[vb]? = some (.cells (ledger_Entry_28.enc y).toArray 35 (0, 0)) := by rw [hW1, setCells_far _ _ _ hvb]; exact hv
 have hcp1 : ∀ ty dc sc, (Builtin.copy_ #[24, 24] ty #[.slice (some ⟨g, (i + 1) * 4, none⟩) (n - i) dc, .slice (some ⟨g, i * 4, none⟩) (n + 1 - i) sc]).run Try.prog W.drew = .ok (goInt (n - i : Nat)) W1 := fun ty dc sc => by
  rw [hW1]
  exact ledger_Entry_28.copy W.drew 24 24 ty 35 g ((i + 1) * 4) (n - i) dc ⟨g, i * 4, none⟩ (n + 1 - i) sc (n - i) (cs.drop (i * 4)) Try.underlying24 hsz (by simp only [Nat.min_def]; split <;> omega) hdl
   (fun j v hj => by rw [Addr.add_lit]; exact ledger_Entry_28.cell_of (W := W) hh ht (i * 4 + j) v (by rwa [List.getElem?_drop] at hj))
   (fun j hj => (ledger_Entry_28.cell_row (W := W) hh _ (by rw [hdl] at hj; omega)).1) (fun j hj => (ledger_Entry_28.cell_row (W := W) hh _ (by rw [hdl] at hj; omega)).2) (fun v hv => h1c v (List.mem_of_mem_drop hv))
 obtain ⟨cur2, hh2, hs2, hl2⟩ := setCells_row (ledger_Entry_28.enc y) (i * 4) W1 cur1 hh1 (by rw [hs1, hcs]; show i * 4 + 4 ≤ _; omega)
 obtain ⟨W2, hW2⟩ : ∃ W2, W2 = W1.setCells g (i * 4) (ledger_Entry_28.enc y) := ⟨_, rfl⟩
 rw [← hW2] at hh2
 have hcp2 : ∀ ty dc, (Builtin.copy_ #[24, 24] ty #[.slice (some ⟨g, i * 4, none⟩) (n + 1 - i) dc, .slice (some ⟨vb, 0, none⟩) 1 1]).run Try.prog W1 = .ok (goInt (1 : Nat)) W2 := fun ty dc => by
  rw [hW2]
  exact ledger_Entry_28.copy W1 24 24 ty 35 g (i * 4) (n + 1 - i) dc ⟨vb, 0, none⟩ 1 1 1 (ledger_Entry_28.enc y) Try.underlying24 hsz (by simp only [Nat.min_def]; split <;> omega) rfl
   (fun j v hj => by
    rw [Addr.add_lit]
    exact ledger_Entry_28.cell_of (m := 4) hv1 (xs := ledger_Entry_28.enc y) rfl _ v (by rw [Nat.zero_add]; exact hj))
   (fun j hj => (ledger_Entry_28.cell_row hh1 _ (by have : j < 4 := hj; rw [hs1, hcs]; omega)).1) (fun j hj => (ledger_Entry_28.cell_row hh1 _ (by have : j < 4 := hj; rw [hs1, hcs]; omega)).2) (fun v hv => ledger_Entry_28.one_cells [y] v (by simpa using hv))
 have hrow : cur2.toList.take ((n + 1) * 4) = (l0.take i ++ y :: l0.drop i).flatMap ledger_Entry_28.enc := by
  have he : (ledger_Entry_28.enc y).length = 4 := rfl
  rw [ledger_Entry_28.ins l0 i y (by omega), ← hcsd, hl2, hl1, hdl]
  have hc0 : cur.toList.take (i * 4) = cs.take (i * 4) := by rw [← ht, List.take_take, Nat.min_eq_left (by omega)]
  have hlen : cur.toList.length = cap * 4 := by rw [Array.length_toList, hcs]
  have a1 : (cur.toList.take ((i + 1) * 4) ++ cs.drop (i * 4) ++ cur.toList.drop ((i + 1) * 4 + 4 * (n - i))).take (i * 4) = cs.take (i * 4) := by
   rw [List.append_assoc, List.take_append_of_le_length (by rw [List.length_take, hlen]; omega), List.take_take, Nat.min_eq_left (by omega), hc0]
  have a2 : (cur.toList.take ((i + 1) * 4) ++ cs.drop (i * 4) ++ cur.toList.drop ((i + 1) * 4 + 4 * (n - i))).drop (i * 4 + (ledger_Entry_28.enc y).length) = cs.drop (i * 4) ++ cur.toList.drop ((i + 1) * 4 + 4 * (n - i)) := by
   rw [he, show i * 4 + 4 = (cur.toList.take ((i + 1) * 4)).length by rw [List.length_take, hlen]; omega, List.append_assoc, List.drop_left]
  rw [a1, a2, ← List.append_assoc, List.take_append_of_le_length (by rw [List.length_append, List.length_append, List.length_take, hdl, hcl, he]; omega), List.take_of_length_le (by rw [List.length_append, List.length_append, List.length_take, hdl, hcl, he]; omega)]
 have hylen : (l0.take i ++ y :: l0.drop i).length = n + 1 := by rw [List.length_append, List.length_cons, List.length_take, List.length_drop, hn]; omega
 have X1 := Aside0.mk (show Kd.R k35 35 W2 w0.heap.size (fun k_ => (P0_ k_ ∨ W.heap.size ≤ k_)) (.slice (some ⟨g, 0, none⟩) (n + 1) cap) (l0.take i ++ y :: l0.drop i) from by
  rw [← hylen]
  exact ledger_Entry_28.mk hge hh2 (by rw [hylen]; exact hroom) hcm (by rw [hs2, hs1, hcs]) (by rw [hylen]; exact hrow) (.inl hP))
 have hg2 : W.drew.grownBy W2 (some g) := by
  obtain ⟨s1, s2, s3, s4⟩ := setCells_same g (cs.drop (i * 4)) ((i + 1) * 4) W.drew
  obtain ⟨t1, t2, t3, t4⟩ := setCells_same g (ledger_Entry_28.enc y) (i * 4) W1
  rw [hW2]
  exact ⟨by rw [t1, hW1, s1], by rw [t2, hW1, s2], by rw [t3, hW1, s3], by rw [t4, hW1, s4]; exact Nat.le_refl _, fun k' _ hk' => by rw [setCells_far _ _ k' (fun he => hk' (by rw [he])), hW1, setCells_far _ _ k' (fun he => hk' (by rw [he]))]⟩
 have hgW : g < W.heap.size := blk_lt hh
 have X2 := Aside0.mk ((pw_below_drewN hB 1).grown hg2 (by have := hB.size; show w0.heap.size ≤ W.heap.size; omega) (fun k hk => by injection hk with hk; subst hk; exact hge))
 have X3 := Aside0.mk (Kept.of_grown (S := fun k_ => P0_ k_) hg2 (Kept.drew (Kept.refl W _)) (fun k hk => .inl (by injection hk with hk; subst hk; exact hP)))
 have mixed : Try.prog.follows Departure.mixedOrders = true := by kernel_rfl
 have t24 := Try.underlying24
 have t35 := Try.underlying35
 have hw1 : IntKind.i64.wrap ((n : Int) + 1) = (n : Int) + 1 := by rw [i64_w]; unfold wrap64; omega
 have hw2 : IntKind.i64.wrap ((i : Int) + 1) = (i : Int) + 1 := by rw [i64_w]; unfold wrap64; omega
 have hz2 : ¬ ((i : Int) = (n : Int)) := by omega
 have hb4 : ¬ (cap = i) := by omega
 have hb5 : ¬ (cap = i + 1) := by omega
 have hin : i ≤ n := by omega
 have hic : i ≤ cap := by omega
 have hnc : n ≤ cap := by omega
 have hb3 : (i : Int) ≤ (n : Int) + 1 := by omega
 have hb6 : ¬ ((cap : Int) < (n : Int) + 1) := by omega
 have hb7 : (0 : Int) ≤ (i : Int) + 1 := by omega
 have hb8 : (n : Int) + 1 ≤ (cap : Int) := by omega
 have hb9 : (i : Int) + 1 ≤ (n : Int) + 1 := by omega
 have htn : ((i : Int) + 1).toNat = i + 1 := by omega
 have htm : ((n : Int) + 1).toNat = n + 1 := by omega
 clear hcsd hcl h1c hdl hsz hcs hl1 hs1 hh1 hl2 hs2 hh2 hv1 hrow hylen hg2 hW1 hW2 hn ht hh hv hB hi hroom hm hcm hgW hge hP
 go_enter Try.func28, Try.ntmps28
 go_wp2_with (simp only [hov])
 go_region_law_o (refine ledger_Entry_28.step_copy rfl _ _ 24 24 rfl _ _ (by simp [Act.eval, Act.put]) (by simp [Act.eval, Act.put]) (hcp1 _ _ _) ?_)
 go_wp2_with (at_builtin; refine ledger_Entry_28.list_copy _ rfl _ _ 24 24 rfl _ _ rfl rfl (hcp2 _ _) ?_)
 go_ret
 exact ⟨_, rfl, X1.out, X2.out, X3.out⟩
-- PART3
set_option maxHeartbeats 4000000 in
set_option maxRecDepth 100000 in
theorem ledger_Entry_28.grows (P0_ : Nat → Prop) (l0 : List S35) (i : Nat) (y : S35) (w0 W : World) (g vb : Nat) (cur : Array Value) (hi : i < l0.length) (hbig : (l0.length + 1) * 32 ≤ 140737488355328) (hge : w0.heap.size ≤ g) (hh : W.heap[g]? = some (.cells cur 35 (0, 0))) (ht : cur.toList.take (l0.length * 4) = l0.flatMap ledger_Entry_28.enc) (hvb : vb ≠ g) (hv : W.heap[vb]? = some (.cells (ledger_Entry_28.enc y).toArray 35 (0, 0))) (hB : Below w0.heap.size w0 W) :
  Calls Try.prog 28 #[.slice (some ⟨g, 0, none⟩) l0.length l0.length, .int .i64 (i : Int), .slice (some ⟨vb, 0, none⟩) 1 1] W fun e w' => ∃ v0_ : Value, e = .returned v0_ ∧ Kd.R k35 35 w' w0.heap.size (fun k_ => (P0_ k_ ∨ W.heap.size ≤ k_)) v0_ (l0.take i ++ y :: l0.drop i) ∧ Below w0.heap.size w0 w' ∧ Kept W w' (fun k_ => P0_ k_) := by
 obtain ⟨cs, hcsd⟩ : ∃ cs, cs = l0.flatMap ledger_Entry_28.enc := ⟨_, rfl⟩
 have hcl : cs.length = l0.length * 4 := by rw [hcsd]; exact ledger_Entry_28.flat_len l0
 have h1c : ∀ v ∈ cs, v.oneCell' = true := by rw [hcsd]; exact ledger_Entry_28.one_cells l0
 rw [← hcsd] at ht
 generalize hn : l0.length = n at *
 have hdl : (cs.drop (i * 4)).length = 4 * (n - i) := by rw [List.length_drop, hcl]; omega
 have hsz : (Try.prog.info? 35).map (·.size) = some 4 := by kernel_rfl
 obtain ⟨i0, hi0, hz0, hzs, hzb⟩ := info_parts info35
 have hold : (Builtin.firstCells i0.size i (.slice (some ⟨g, 0, none⟩) i n)).run Try.prog W.drew = .ok (cs.take (i * 4)).toArray W.drew := by
  rw [hzs]
  exact run_firstCells_some W.drew 4 i ⟨g, 0, none⟩ i n (cs.take (i * 4)) (by rw [List.length_take]; omega) (fun j v hj => by
   rw [Addr.add_lit, Nat.zero_add]
   rw [List.getElem?_take] at hj
   split at hj
   ·exact ledger_Entry_28.cell_of (W := W) hh ht j v hj
   ·cases hj)
 obtain ⟨G, hG⟩ : ∃ G, G = grownCap W (n + 1) n 35 := ⟨_, rfl⟩
 obtain ⟨ROW, hROW⟩ : ∃ ROW : Array Value, ROW = (cs.take (i * 4)).toArray ++ Builtin.zeroCells (Value.agg #[.int .i64 0, .int .i64 0, .int .i64 0, .int .i64 0]).cells (n + 1 - i) ++ Builtin.zeroCells (Value.agg #[.int .i64 0, .int .i64 0, .int .i64 0, .int .i64 0]).cells (G - (n + 1)) := ⟨_, rfl⟩
 have hGn : n + 1 ≤ G := by rw [hG]; exact grownCap_ge W _ _ _
 have hGm : G ≤ maxLen := by rw [hG]; exact grownCap_le_maxLen W (n + 1) n 35 (by unfold maxLen; omega)
 have hG63 : G ≤ 9223372036854775807 := Nat.le_trans hGm (by decide)
 have hz4 : ∀ m, (Builtin.zeroCells (Value.agg #[.int .i64 0, .int .i64 0, .int .i64 0, .int .i64 0]).cells m).size = m * 4 := fun m => by
  rw [size_zeroCells]
  rfl
 have hRs : ROW.size = G * 4 := by
  rw [hROW, Array.size_append, Array.size_append, hz4, hz4, List.size_toArray, List.length_take, hcl]; omega
 obtain ⟨W1, hW1⟩ : ∃ W1, W1 = W.drew.alloc (.cells ROW 35) := ⟨_, rfl⟩
 have hrz : ∀ ty, (Builtin.append_ #[24, 3] ty #[.slice (some ⟨g, 0, none⟩) i n, .int .i64 ((n : Int) + 1 - (i : Int))]).run Try.prog W = .ok (.slice (some ⟨W.heap.size, 0, none⟩) (n + 1) G) W1 := fun ty => by
  have h := Lib.run_append_grow_zeros W 24 3 ty 35 i0 _ .i64 .i64 Try.underlying24 Try.underlying3 hi0 hz0 (some ⟨g, 0, none⟩) i n (cs.take (i * 4)) hold (n + 1 - i) (by omega) (by omega) (by omega) (by omega) (by rw [hzb]; omega) (by rw [hzb, show i + (n + 1 - i) = n + 1 by omega]; exact growslice_fits (by omega) hbig)
  rw [show i + (n + 1 - i) = n + 1 by omega, ← hG, ← hROW, ← hW1] at h
  rw [show (n : Int) + 1 - (i : Int) = ((n + 1 - i : Nat) : Int) by omega]
  exact h
 have hgW : g < W.heap.size := blk_lt hh
 have hvW : vb < W.heap.size := blk_lt hv
 have hN1 : W1.heap[W.heap.size]? = some (.cells ROW 35 (0, 0)) := by rw [hW1]; exact blk_new W.drew _
 have hOld : ∀ k, k < W.heap.size → W1.heap[k]? = W.heap[k]? := fun k hk => by rw [hW1]; exact (below_alloc (Below.refl W.drew.heap.size W.drew) _).block k hk
 have hcpA : ∀ ty dc, (Builtin.copy_ #[24, 24] ty #[.slice (some ⟨W.heap.size, i * 4, none⟩) (n + 1 - i) dc, .slice (some ⟨vb, 0, none⟩) 1 1]).run Try.prog W1 = .ok (goInt (1 : Nat)) (W1.setCells W.heap.size (i * 4) (ledger_Entry_28.enc y)) := fun ty dc =>
  ledger_Entry_28.copy W1 24 24 ty 35 W.heap.size (i * 4) (n + 1 - i) dc ⟨vb, 0, none⟩ 1 1 1 (ledger_Entry_28.enc y) Try.underlying24 hsz (by simp only [Nat.min_def]; split <;> omega) rfl
   (fun j v hj => by
    rw [Addr.add_lit]
    exact ledger_Entry_28.cell_of (m := 4) ((hOld vb hvW).trans hv) (xs := ledger_Entry_28.enc y) rfl _ v (by rw [Nat.zero_add]; exact hj))
   (fun j hj => (ledger_Entry_28.cell_row hN1 _ (by have : j < 4 := hj; rw [hRs]; omega)).1) (fun j hj => (ledger_Entry_28.cell_row hN1 _ (by have : j < 4 := hj; rw [hRs]; omega)).2) (fun v hv => ledger_Entry_28.one_cells [y] v (by simpa using hv))
 obtain ⟨cur2, hh2, hs2, hl2⟩ := setCells_row (ledger_Entry_28.enc y) (i * 4) W1 ROW hN1 (by rw [hRs]; show i * 4 + 4 ≤ _; omega)
 obtain ⟨W2, hW2⟩ : ∃ W2, W2 = W1.setCells W.heap.size (i * 4) (ledger_Entry_28.enc y) := ⟨_, rfl⟩
 rw [← hW2] at hh2 hcpA
 have hne : g ≠ W.heap.size := by omega
 have hg2 : W2.heap[g]? = some (.cells cur 35 (0, 0)) := by rw [hW2, setCells_far _ _ _ hne, hOld g hgW]; exact hh
 obtain ⟨cur3, hh3, hs3, hl3⟩ := setCells_row (cs.drop (i * 4)) ((i + 1) * 4) W2.drew cur2 hh2 (by rw [hs2, hRs, hdl]; omega)
 obtain ⟨W3, hW3⟩ : ∃ W3, W3 = W2.drew.setCells W.heap.size ((i + 1) * 4) (cs.drop (i * 4)) := ⟨_, rfl⟩
 rw [← hW3] at hh3
 have hcpB : ∀ ty dc sc, (Builtin.copy_ #[24, 24] ty #[.slice (some ⟨W.heap.size, (i + 1) * 4, none⟩) (n - i) dc, .slice (some ⟨g, i * 4, none⟩) (n - i) sc]).run Try.prog W2.drew = .ok (goInt (n - i : Nat)) W3 := fun ty dc sc => by
  rw [hW3]
  exact ledger_Entry_28.copy W2.drew 24 24 ty 35 W.heap.size ((i + 1) * 4) (n - i) dc ⟨g, i * 4, none⟩ (n - i) sc (n - i) (cs.drop (i * 4)) Try.underlying24 hsz (by simp only [Nat.min_def]; split <;> omega) hdl
   (fun j v hj => by rw [Addr.add_lit]; exact ledger_Entry_28.cell_of (W := W2) hg2 ht (i * 4 + j) v (by rwa [List.getElem?_drop] at hj))
   (fun j hj => (ledger_Entry_28.cell_row (W := W2) hh2 _ (by rw [hdl] at hj; rw [hs2, hRs]; omega)).1) (fun j hj => (ledger_Entry_28.cell_row (W := W2) hh2 _ (by rw [hdl] at hj; rw [hs2, hRs]; omega)).2) (fun v hv => h1c v (List.mem_of_mem_drop hv))
 have hrow : cur3.toList.take ((n + 1) * 4) = (l0.take i ++ y :: l0.drop i).flatMap ledger_Entry_28.enc := by
  have he : (ledger_Entry_28.enc y).length = 4 := rfl
  rw [ledger_Entry_28.ins l0 i y (by omega), ← hcsd, hl3, hl2, hdl]
  have hc0 : ROW.toList.take (i * 4) = cs.take (i * 4) := by
   rw [hROW, Array.toList_append, Array.toList_append, List.append_assoc, List.take_append_of_le_length (by simp only [List.length_take, hcl]; omega), List.take_of_length_le (by simp only [List.length_take, hcl]; omega)]
  have hlen : ROW.toList.length = G * 4 := by rw [Array.length_toList, hRs]
  have a1 : (ROW.toList.take (i * 4) ++ ledger_Entry_28.enc y ++ ROW.toList.drop (i * 4 + (ledger_Entry_28.enc y).length)).take ((i + 1) * 4) = cs.take (i * 4) ++ ledger_Entry_28.enc y := by
   rw [hc0, List.take_append_of_le_length (by rw [List.length_append, List.length_take, hcl, he]; omega), List.take_of_length_le (by rw [List.length_append, List.length_take, hcl, he]; omega)]
  rw [a1, List.take_append_of_le_length (by rw [List.length_append, List.length_append, List.length_take, hdl, hcl, he]; omega), List.take_of_length_le (by rw [List.length_append, List.length_append, List.length_take, hdl, hcl, he]; omega)]
 have hylen : (l0.take i ++ y :: l0.drop i).length = n + 1 := by rw [List.length_append, List.length_cons, List.length_take, List.length_drop, hn]; omega
 have hbw : w0.heap.size ≤ W.heap.size := hB.size
 have X1 := Aside0.mk (show Kd.R k35 35 W3 w0.heap.size (fun k_ => (P0_ k_ ∨ W.heap.size ≤ k_)) (.slice (some ⟨W.heap.size, 0, none⟩) (n + 1) G) (l0.take i ++ y :: l0.drop i) from by
  rw [← hylen]
  exact ledger_Entry_28.mk hbw hh3 (by rw [hylen]; exact hGn) hGm (by rw [hs3, hs2, hRs]) (by rw [hylen]; exact hrow) (.inr (Nat.le_refl _)))
 have hbl : Below W.heap.size W W3 := by
  obtain ⟨s1, s2, s3, s4⟩ := setCells_same W.heap.size (ledger_Entry_28.enc y) (i * 4) W1
  obtain ⟨t1, t2, t3, t4⟩ := setCells_same W.heap.size (cs.drop (i * 4)) ((i + 1) * 4) W2.drew
  have hb1 : Below W.heap.size W W1 := by rw [hW1]; exact below_alloc (pw_below_drewN (Below.refl _ _) 1) _
  have hb2 : W1.grownBy W2 (some W.heap.size) := by rw [hW2]; exact ⟨s1, s2, s3, by rw [s4]; exact Nat.le_refl _, fun k' _ hk' => setCells_far _ _ k' (fun he => hk' (by rw [he]))⟩
  have hb3 : W2.drew.grownBy W3 (some W.heap.size) := by rw [hW3]; exact ⟨t1, t2, t3, by rw [t4]; exact Nat.le_refl _, fun k' _ hk' => setCells_far _ _ k' (fun he => hk' (by rw [he]))⟩
  have hz1 := hb1.size
  have hz2 := hb2.size
  exact (pw_below_drewN (hb1.grown hb2 (by omega) (fun k hk => by injection hk with hk; omega)) 1).grown hb3 (by show W.heap.size ≤ W2.heap.size; omega) (fun k hk => by injection hk with hk; omega)
 have X2 := Aside0.mk (hB.trans (hbl.mono hbw))
 have X3 := Aside0.mk (Kept.of_below hbl (fun k_ => P0_ k_))
 have mixed : Try.prog.follows Departure.mixedOrders = true := by kernel_rfl
 have t24 := Try.underlying24
 have t35 := Try.underlying35
 have hw1 : IntKind.i64.wrap ((n : Int) + 1) = (n : Int) + 1 := by rw [i64_w]; unfold wrap64; omega
 have hw2 : IntKind.i64.wrap ((i : Int) + 1) = (i : Int) + 1 := by rw [i64_w]; unfold wrap64; omega
 have hw3 : IntKind.i64.wrap ((n : Int) + 1 - (i : Int)) = (n : Int) + 1 - (i : Int) := by rw [i64_w]; unfold wrap64; omega
 have hz2 : ¬ ((i : Int) = (n : Int)) := by omega
 have hb4 : ¬ (n = i) := by omega
 have hGi : ¬ (G = i) := by omega
 have hGi1 : ¬ (G = i + 1) := by omega
 have hin : i ≤ n := by omega
 have hb6 : (n : Int) < (n : Int) + 1 := by omega
 have hb7 : (0 : Int) ≤ (i : Int) + 1 := by omega
 have hb9 : (i : Int) + 1 ≤ (n : Int) + 1 := by omega
 have hb3 : (i : Int) ≤ (n : Int) + 1 := by omega
 have htn : ((i : Int) + 1).toNat = i + 1 := by omega
 clear hcsd hcl h1c hdl hsz hl2 hs2 hh2 hrow hylen hW1 hW2 hW3 hn ht hh hv hB hi hGm hgW hvW hge hl3 hs3 hh3 hold hz4 hRs hROW hG hN1 hOld hne hg2 hbw hbl hbig hi0 hz0 hzs hzb
 go_enter Try.func28, Try.ntmps28
 go_wp2_with (first
  | (at_builtin; refine Lib.wpList_append_run _ rfl _ _ _ _ rfl _ _ rfl rfl _ _ (hrz _) ?_)
  | (at_builtin; refine ledger_Entry_28.list_copy _ rfl _ _ 24 24 rfl _ _ rfl rfl (hcpA _ _) ?_))
 go_region_law_o (refine ledger_Entry_28.step_copy rfl _ _ 24 24 rfl _ _ (by simp [Act.eval, Act.put]) (by simp [Act.eval, Act.put]) (hcpB _ _ _) ?_)
 go_wp2
 go_ret
 exact ⟨_, rfl, X1.out, X2.out, X3.out⟩
-- PART4
theorem ledger_Entry_28.reads {W : World} {vb : Nat} (y : S35) (hv : W.heap[vb]? = some (.cells (ledger_Entry_28.enc y).toArray 35 (0, 0))) : Kd.C k35 W (some ⟨vb, 0, none⟩) 1 [y] := by
 refine ⟨rfl, by decide, fun _ => ⟨_, rfl, fun j p hp => ?_⟩⟩
 cases j with
 | zero =>
  obtain rfl := Option.some.inj hp
  refine ⟨ledger_Entry_28.enc y, rfl, k35_mk _ y, fun q u hu => ?_⟩
  rw [Addr.add_lit]
  exact ledger_Entry_28.cell_of (m := 4) hv (xs := ledger_Entry_28.enc y) rfl _ u (by simpa using hu)
 | succ j => simp at hp
set_option maxHeartbeats 1000000 in
set_option maxRecDepth 100000 in
theorem ledger_Entry_28.ends (P0_ : Nat → Prop) (l0 : List S35) (y : S35) (w0 W : World) (v : Value) (vb : Nat) (ho : Kd.R k35 35 W w0.heap.size P0_ v l0) (hbig : (l0.length + 1) * 32 ≤ 140737488355328) (hv : W.heap[vb]? = some (.cells (ledger_Entry_28.enc y).toArray 35 (0, 0))) (hB : Below w0.heap.size w0 W) :
  Calls Try.prog 28 #[v, .int .i64 (l0.length : Int), .slice (some ⟨vb, 0, none⟩) 1 1] W fun e w' => ∃ v0_ : Value, e = .returned v0_ ∧ Kd.R k35 35 w' w0.heap.size (fun k_ => (P0_ k_ ∨ W.heap.size ≤ k_)) v0_ (l0 ++ [y]) ∧ Below w0.heap.size w0 w' ∧ Kept W w' (fun k_ => P0_ k_) := by
 have HO := Aside0.mk (Kd.R_mono (ok' := fun k_ => (P0_ k_ ∨ W.heap.size ≤ k_)) ho (fun _ h => .inl h))
 have HV := Aside0.mk (ledger_Entry_28.reads y hv)
 have HBB := Aside0.mk hB
 have HL := Aside0.mk hbig
 have HZ := Aside0.mk hB.size
 have HP := Aside0.mk ho.1
 have hor := ho.2
 obtain ⟨inner, ⟨hin, hor⟩, hr⟩ := hor
 clear hin hr ho hv hB hbig
 rcases hor with ⟨rfl, hz⟩ | ⟨g, cap, cur, rfl, hb, hh, hnc, hcm, hcs, htake⟩
 ·obtain rfl := List.eq_nil_of_length_eq_zero hz
  clear hz
  rw [show ((([] : List S35).length : Nat) : Int) = 0 from rfl]
  go_enter Try.func28, Try.ntmps28
  go_wp2_with ((with_reducible refine gate_builtin (b := .append) (xs := #[.tmp 23, .tmp 24]) rfl ?_); at_builtin; refine Kd.R_append_rows k35 (w0 := w0) w0.heap.size rfl (.tmp 23) (.tmp 24) 24 35 (.agg #[(.int .i64 0), (.int .i64 0), (.int .i64 0), (.int .i64 0)]) 32 rfl Try.underlying24 info35 rfl (by decide) (by omega) (.slice none 0 0) [] [y] (some ⟨vb, 0, none⟩) 1 1 (fun k_ => (P0_ k_ ∨ W.heap.size ≤ k_)) (fun _ => False) rfl rfl HO.out HV.out (fun x cs hc => ?aM) (fun _ h => h.elim) (fun _ h => .inr h) HBB.out HZ.out (by have := HL.out; omega) ?_; (case aM => obtain rfl := k35_open hc; exact k35_mkM _ _ _ _); intro v1 w1 ho1 hb1 hgr hat)
  have X2 := Aside0.mk (Kept.of_grown (S := fun k_ => P0_ k_) hgr (Kept.refl W _) (fun k hk => .inl (HP.out k hk)))
  go_ret
  exact ⟨_, rfl, ho1, hb1, X2.out⟩
 ·have hm : cap ≤ 9223372036854775807 := Nat.le_trans hcm (by decide)
  have hn : l0.length ≤ 9223372036854775807 := Nat.le_trans hnc hm
  clear hb hh hcs htake hcm cur
  go_enter Try.func28, Try.ntmps28
  go_wp2_with ((with_reducible refine gate_builtin (b := .append) (xs := #[.tmp 23, .tmp 24]) rfl ?_); at_builtin; refine Kd.R_append_rows k35 (w0 := w0) w0.heap.size rfl (.tmp 23) (.tmp 24) 24 35 (.agg #[(.int .i64 0), (.int .i64 0), (.int .i64 0), (.int .i64 0)]) 32 rfl Try.underlying24 info35 rfl (by decide) (by omega) (.slice (some ⟨g, 0, none⟩) l0.length cap) l0 [y] (some ⟨vb, 0, none⟩) 1 1 (fun k_ => (P0_ k_ ∨ W.heap.size ≤ k_)) (fun _ => False) rfl rfl HO.out HV.out (fun x cs hc => ?aM) (fun _ h => h.elim) (fun _ h => .inr h) HBB.out HZ.out (by have := HL.out; omega) ?_; (case aM => obtain rfl := k35_open hc; exact k35_mkM _ _ _ _); intro v1 w1 ho1 hb1 hgr hat)
  all_goals
   have X2 := Aside0.mk (Kept.of_grown (S := fun k_ => P0_ k_) hgr (Kept.refl W _) (fun k hk => .inl (HP.out k hk)))
   go_ret
   exact ⟨_, rfl, ho1, hb1, X2.out⟩
def ledger_Entry_28.one.f (l0 : List S35) (a1 : Int) (y0 y1 y2 y3 : Int) : Option (List S35) := if 0 ≤ a1 then (if a1 ≤ (l0.length : Int) then (if l0.length < 4398046511103 then some (l0.take a1.toNat ++ (⟨y0, y1, y2, y3⟩ : S35) :: l0.drop a1.toNat) else none) else none) else none
theorem ledger_Entry_28.one.calls (P0_ : Nat → Prop) (u9000_ : Value) (l0 : List S35) (a1 : Int) (y0 y1 y2 y3 : Int) (r : List S35) (w0 w : World) (hB : Below w0.heap.size w0 w) (ho0 : Kd.R k35 35 w w0.heap.size P0_ u9000_ l0) (h : ledger_Entry_28.one.f l0 a1 y0 y1 y2 y3 = some r) {n_ : Nat} (hn_ : w.heap.size = n_ := by first | rfl | simp) :
  Calls Try.prog 28 #[u9000_, .int .i64 a1, .slice (some ⟨n_, 0, none⟩) 1 1] (w.alloc (.cells #[.int .i64 y0, .int .i64 y1, .int .i64 y2, .int .i64 y3] 35 (0, 0))) fun e w' => ∃ v0_ : Value, e = .returned (v0_) ∧ Kd.R k35 35 w' w0.heap.size (fun k_ => (P0_ k_ ∨ w.heap.size ≤ k_)) v0_ r ∧ Below w0.heap.size w0 w' ∧ Kept w w' (fun k_ => P0_ k_) := by
 subst hn_
 unfold ledger_Entry_28.one.f at h
 split at h
 ·split at h
  ·split at h
   ·rename_i h0 h1 h2
    obtain rfl := Option.some.inj h
    obtain ⟨i, rfl⟩ := Int.eq_ofNat_of_zero_le h0
    have hi : i ≤ l0.length := by omega
    have hB2 : Below w0.heap.size w0 (w.alloc (.cells #[.int .i64 y0, .int .i64 y1, .int .i64 y2, .int .i64 y3] 35 (0, 0))) := below_alloc hB _
    have hR2 := Kd.R_alloc ho0 (.cells #[.int .i64 y0, .int .i64 y1, .int .i64 y2, .int .i64 y3] 35 (0, 0))
    have hv := blk_new w (.cells #[.int .i64 y0, .int .i64 y1, .int .i64 y2, .int .i64 y3] 35 (0, 0))
    have hks : Kept w (w.alloc (.cells #[.int .i64 y0, .int .i64 y1, .int .i64 y2, .int .i64 y3] 35 (0, 0))) (fun k_ => P0_ k_) := Kept.alloc (Kept.refl w _) _
    have hsz : (w.alloc (.cells #[.int .i64 y0, .int .i64 y1, .int .i64 y2, .int .i64 y3] 35 (0, 0))).heap.size = w.heap.size + 1 := World.size_alloc _ _
    generalize w.alloc (.cells #[.int .i64 y0, .int .i64 y1, .int .i64 y2, .int .i64 y3] 35 (0, 0)) = W at *
    have fin : ∀ (e : Ending) (w' : World), (∃ v0_ : Value, e = .returned v0_ ∧ Kd.R k35 35 w' w0.heap.size (fun k_ => (P0_ k_ ∨ W.heap.size ≤ k_)) v0_ (l0.take i ++ (⟨y0, y1, y2, y3⟩ : S35) :: l0.drop i) ∧ Below w0.heap.size w0 w' ∧ Kept W w' (fun k_ => P0_ k_)) →
      ∃ v0_ : Value, e = .returned v0_ ∧ Kd.R k35 35 w' w0.heap.size (fun k_ => (P0_ k_ ∨ w.heap.size ≤ k_)) v0_ (l0.take (i : Int).toNat ++ (⟨y0, y1, y2, y3⟩ : S35) :: l0.drop (i : Int).toNat) ∧ Below w0.heap.size w0 w' ∧ Kept w w' (fun k_ => P0_ k_) := by
     rintro e w' ⟨v1, he, a, b, c⟩
     exact ⟨v1, he, Kd.R_mono a (fun k hk => hk.imp id (fun h => by omega)), b, hks.then_ c (fun _ h => .inl h)⟩
    rcases Nat.lt_or_ge i l0.length with hlt | hge
    ·obtain ⟨g, cap, cur, rfl, hb, hh, hnc, hcm, hcs, ht, hP⟩ := ledger_Entry_28.form hR2 (by omega)
     have hg0 : w.heap.size ≠ g := by
      obtain ⟨g', cap', cur', he, hb', hh', _⟩ := ledger_Entry_28.form ho0 (by omega)
      have e : g = g' := by injection he with he; injection he with he; injection he
      have := blk_lt hh'
      omega
     rcases Nat.lt_or_ge l0.length cap with hc | hc
     ·exact (ledger_Entry_28.fits P0_ l0 i ⟨y0, y1, y2, y3⟩ w0 W g cap w.heap.size cur hlt hc hb hh hcm hcs ht hP hg0 hv hB2).mono fin
     ·obtain rfl : cap = l0.length := by omega
      exact (ledger_Entry_28.grows P0_ l0 i ⟨y0, y1, y2, y3⟩ w0 W g w.heap.size cur hlt (by omega) hb hh ht hg0 hv hB2).mono fin
    ·obtain rfl : i = l0.length := by omega
     refine (ledger_Entry_28.ends P0_ l0 ⟨y0, y1, y2, y3⟩ w0 W u9000_ w.heap.size hR2 (by omega) hv hB2).mono fun e w' hz => fin e w' ?_
     rw [List.take_length, List.drop_length]
     exact hz
   ·exact absurd h (by simp)
  ·exact absurd h (by simp)
 ·exact absurd h (by simp)

end Go.Proofs.Ytenhnlclnjnboaa.PAll
