-- Printed by this session's wip/myprint.py.
import Derived.Test.YtghnbiknghelpaaRows
import Derived.Test.YtghnbiknghelpaaPBtlx16
import Derived.Test.YtghnbiknghelpaaPureBurdenTells
import Derived.WalkKit
import Derived.ProofKit
import Derived.OpenShut
import Derived.ShutString
import Derived.ChangeOld
import Derived.Below
import Derived.SizedLaws
import Derived.Test.YtghnbiknghelpaaWSized
namespace Go.Proofs.Ytghnbiknghelpaa.burdenTells
open Go.ChangeShapes Go.WideShapes Go.ChangeAt Go.RowKit
open Go.ChangeMaps (open_string shut_string)
open Go.Proofs.Ytghnbiknghelpaa.PBtl Go.Proofs.Ytghnbiknghelpaa.Open Go.Proofs.YtghnbiknghelpaaW.PrintWords
set_option linter.unusedVariables false
theorem own : ownKnob Try.prog.godebug = none := by kernel_rfl
theorem laidOut : laidOutB Try.prog = true := by kernel_rfl
def IsRow (k : IntKind) (w : World) (a : Option Addr) (len cap : Nat) (zs : List Int) : Prop :=
  (a = none ∧ len = 0 ∧ cap = 0 ∧ zs = []) ∨
  ∃ x, a = some x ∧ len ≤ cap ∧ cap ≤ maxLen ∧ zs.length = cap ∧ (∀ i, i < zs.length → w.cell? (x.add i) = some (.int k (zs.getD i 0))) ∧ ∀ n ∈ zs, (Lit.int k n).wf = true
set_option maxRecDepth 100000 in
theorem lifted (os : Os) (started : os.Started) (H : Type) (enc : TypeId × Value → H) :
    ReturnsInHanded {} Try.checked os 6 .any (Rows.burdenTellsSpec.pre6 enc Try.prog Try.f6 Rows.burdenTellsRow.domain false) (Rows.burdenTellsSpec.post enc Try.prog Try.f6 false true false false) := by
  refine returnsInHanded_of_change_sized (C := Try.checked) own started (by kernel_rfl) Try.func6
    (ChangeSpec.witness6 (enc := enc) (C := Try.checked) false ⟨#[], #[.agg #[.int .i64 0, .int .i64 0, .int .i64 0], .slice none 0 0, .agg #[.int .i64 0, .string ByteArray.empty, .int .i64 0, .int .i64 0, .int .i64 0, .int .i64 0, .int .i64 0]], []⟩ 8 (by kernel_rfl) (by kernel_rfl) (by kernel_rfl) (by kernel_rfl)) ?_
  intro W base args ds gs before hval0 hW hcnd hsz0 _
  have hsz : (DataW.weightsEach Try.prog (Try.f6.params.toList ++ Rows.burdenTellsSpec.plain.varTypes Try.prog) (ds ++ gs)).all (· ≤ reachBytes) = true := hsz0
  have hval : ∀ (j : Nat) t v, Try.f6.params[j]? = some t → args[j]? = some v → Value.okWide Try.prog W .any base t v := hval0
  have hW' := hW
  obtain ⟨p, q, hA0, hV, rfl, hfz, hnd⟩ := hW
  have hA : DataW.TrodAll enc Try.prog W 0 (fun _ => true) true Try.f6.params.toList args.toList ds p := hA0
  rw [Try.params6] at hA hval hsz
  obtain ⟨v0, vs0, d0, ds0, p0, q0, hargs, rfl, rfl, h0, r0⟩ := trodAll_cons hA
  obtain ⟨v1, vs1, d1, ds1, p1, q1, rfl, rfl, rfl, h1, r1⟩ := trodAll_cons r0
  obtain ⟨v2, vs2, d2, ds2, p2, q2, rfl, rfl, rfl, h2, r2⟩ := trodAll_cons r1
  obtain ⟨rfl, rfl, rfl⟩ := trodAll_nil r2
  obtain rfl : args = #[v0, v1, v2] := by cases args; simp_all
  obtain ⟨rfl, rfl⟩ := trodVars_none hV
  obtain ⟨⟨c0⟩, rfl, hl0⟩ := okWide_struct Try.underlying25 (hval 0 25 v0 rfl rfl)
  have k0 := h0
  have lt0 : ∀ x ∈ p0, x.block < W.heap.size := by obtain ⟨m, hm⟩ := k0; exact DataW.trod_lt m _ _ _ hm
  obtain ⟨z0, kk0, wz0⟩ : ∃ z, k25.K W z c0 ∧ wf_S25 z := by
    obtain ⟨fuel, hf⟩ := h0
    exact opens_t25.2 _ _ _ _ _ _ _ _ _ hf
  obtain rfl := k25_open kk0
  obtain ⟨a1, len1, cap1, rfl⟩ := okWide_slice Try.underlying26 (hval 1 26 v1 rfl rfl)
  have k1 := h1
  have lt1 : ∀ x ∈ p1, x.block < W.heap.size := by obtain ⟨m, hm⟩ := k1; exact DataW.trod_lt m _ _ _ hm
  obtain ⟨z1, kk1, wz1⟩ : ∃ z, (Kd.slice 34 k34).K W z [.slice a1 len1 cap1] ∧ (z.length ≤ maxLen ∧ ∀ x ∈ z, wf_S34 x) := by
    obtain ⟨fuel, hf⟩ := h1
    exact opens_t26.2 _ _ _ _ _ _ _ _ _ hf
  have w1 := slice_K kk1
  have y1 : len1 * 24 ≤ 140737488351232 := sized_rows hsz (j := 1) (t := 26) rfl rfl Try.underlying26 (by kernel_rfl) h1
  obtain ⟨⟨c2⟩, rfl, hl2⟩ := okWide_struct Try.underlying45 (hval 2 45 v2 rfl rfl)
  have k2 := h2
  have lt2 : ∀ x ∈ p2, x.block < W.heap.size := by obtain ⟨m, hm⟩ := k2; exact DataW.trod_lt m _ _ _ hm
  obtain ⟨z2, kk2, wz2⟩ : ∃ z, k45.K W z c2 ∧ wf_S45 z := by
    obtain ⟨fuel, hf⟩ := h2
    exact opens_t45.2 _ _ _ _ _ _ _ _ _ hf
  obtain rfl := k45_open kk2
  clear hA0 hval0 hsz0 hsz
  refine (PBtl.mootlaw4_BurdenTells.walk Pure.BurdenTells z0.f0 z0.f1 z0.f2 a1 len1 cap1 z1 z2.f0 z2.f1 z2.f2.f0 z2.f2.f1 z2.f3 z2.f4 z2.f5 W wz0.1 wz0.2.1 wz0.2.2 w1 wz1 y1 wz2.1 wz2.2.1 wz2.2.2.1.1 wz2.2.2.1.2 wz2.2.2.2.1 wz2.2.2.2.2.1 wz2.2.2.2.2.2).mono fun e W' ⟨he, bel⟩ => ?_
  subst he
  exact ⟨_, rfl, _, _, _, [], _, [], hW', trodAll_mk1 (shut_bool Try.underlying4 _), (trodAll_cons_mk (Below.trod laidOut (by kernel_rfl) (of_decide_eq_true (by kernel_rfl)) k0 bel lt0) (trodAll_cons_mk (Below.trod laidOut (by kernel_rfl) (of_decide_eq_true (by kernel_rfl)) k1 bel lt1) (trodAll_cons_mk (Below.trod laidOut (by kernel_rfl) (of_decide_eq_true (by kernel_rfl)) k2 bel lt2) trodAll_mk0))), rfl, bel.frame _, fun h => by cases h⟩
theorem over : Rows.burdenTellsRow.holds Try.pinned (OpenSpec.ofChange Rows.burdenTellsSpec) :=
  OpenClaim.holds_of_wide 6 Try.f6 rfl rfl rfl rfl rfl rfl rfl ⟨rfl, rfl, rfl, rfl, rfl⟩ rfl rfl rfl rfl rfl (by kernel_rfl) Try.func6 (by kernel_rfl)
    (of_decide_eq_true (by kernel_rfl)) (by unfold Func.isWrapper; first | (rw [if_pos (by decide +kernel)]; kernel_rfl) | (rw [if_neg (by decide +kernel)]; exact ⟨rfl, rfl⟩))
    (fun os started H enc _ => lifted os started H enc)
theorem proved : Rows.BurdenTellsSaid := over
#print axioms proved
end Go.Proofs.Ytghnbiknghelpaa.burdenTells
namespace Go.Proofs.Ytghnbiknghelpaa
/-- The row, under a short name, for the claim. -/
theorem burdenTells_holds : Rows.BurdenTellsSaid := burdenTells.proved
end Go.Proofs.Ytghnbiknghelpaa
