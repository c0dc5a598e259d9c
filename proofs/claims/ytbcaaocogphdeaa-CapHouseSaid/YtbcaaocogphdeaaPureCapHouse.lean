/- For every list of raw numbers and every raw limit, in cap.Ceiling's distribution over the claims that are drawn each household gets for each year the limit, or all that it claims; no condition but the given statement's own. -/
import Derived.Test.YtbcaaocogphdeaaPCapx0
import Derived.Test.YtbcaaocogphdeaaPCapx48
import Derived.Test.YtbcaaocogphdeaaPCapx50
import Derived.Test.YtbcaaocogphdeaaCapF
namespace Go.Proofs.Ytbcaaocogphdeaa.Pure
open Go.RowKit Go.Proofs.Ytbcaaocogphdeaa.PCap Go.Proofs.YtbcaaocogphdeaaW.PrintWords Go.Proofs.YtbcaaocogphdeaaW.PrintLast
set_option linter.unusedVariables false
set_option linter.unusedSimpArgs false
theorem house_l2 {x : List S59} (hx : ClOk x) {L : Int} {O : List Int} (hO : O.length = x.length) (hb : ∀ i : Int, 0 ≤ rd O i ∧ rd O i ≤ 1099511627776) (h y : Int) (hend : ((ats x (h, y)).map (rd O)).sum = min L ((grp x (h, y)).map (·.f4)).sum)
    (hout : Ev (fun k => mootkeep4_CapHouse.l1 k L x O h (wrap64 (y + 1))) true) : ∀ (x2 x1 : List S59), x = x1 ++ x2 →
    Ev (fun k => mootkeep4_CapHouse.l2 k L x O h y ((atsTo x (h, y) x1.length).map (rd O)).sum ((grp x1 (h, y)).map (·.f4)).sum x (x.length : Int) (x1.length : Int)) true := by
  intro x2
  induction x2 with
  | nil =>
    intro x1 e
    rw [List.append_nil] at e
    subst e
    apply Ev.step
    · intro k; rw [mootkeep4_CapHouse.l2]
    · refine Ev.ite_neg (by omega) (Ev.ite_pos ?_ hout)
      rw [mn_eq]
      exact hend
  | cons c x2 ih =>
    intro x1 e
    have hl := hx.1
    have hl2 : x.length = x1.length + (x2.length + 1) := by rw [e]; simp
    have hrd : rd_T59 x (x1.length : Int) = c := by rw [e]; exact rdS_at rfl
    have hc := hx.2 c (by rw [e]; simp)
    have hbi := hb (x1.length : Int)
    have hg := grp_len x1 (h, y)
    have ha := (ats_grp_to x (h, y) (c :: x2) x1 e).1
    have s1 := sum_bd (l := (atsTo x (h, y) x1.length).map (rd O)) (B := 1099511627776) (fun w hw => by obtain ⟨i, _, rfl⟩ := List.mem_map.1 hw; exact hb i)
    have s2 := sum_bd (l := (grp x1 (h, y)).map (·.f4)) (B := 1099511627776) (fun w hw => by
      obtain ⟨d, hd, rfl⟩ := List.mem_map.1 hw
      exact hx.2 d (by rw [e]; exact List.mem_append_left _ (List.mem_filter.1 hd).1))
    rw [List.length_map] at s1 s2
    have := ih (x1 ++ [c]) (by rw [e]; simp)
    rw [show ((x1 ++ [c]).length : Int) = x1.length + 1 by rw [List.length_append, List.length_singleton]; omega, List.length_append, List.length_singleton, atsTo_succ, grp_snoc, hrd] at this
    apply Ev.step
    · intro k; rw [mootkeep4_CapHouse.l2]
    · rw [hrd]
      refine Ev.ite_pos (by omega) (Ev.ite_pos (by omega) (Ev.ite_pos (by omega) ?_))
      rw [w64 (a := (x1.length : Int) + 1) (by omega) (by omega)]
      by_cases c1 : c.f1 = h
      · refine Ev.ite_pos c1 ?_
        by_cases c2 : c.f2 = y
        · have hk : kS c = (h, y) := by unfold kS; rw [c1, c2]
          rw [if_pos hk, if_pos hk, List.map_append, List.map_append, sum_app, sum_app] at this
          rw [w64 (a := ((atsTo x (h, y) x1.length).map (rd O)).sum + rd O (x1.length : Int)) (by omega) (by omega), w64 (a := ((grp x1 (h, y)).map (·.f4)).sum + c.f4) (by omega) (by omega)]
          refine Ev.ite_pos c2 (Ev.ite_pos (by omega) ?_)
          simpa using this
        · have hk : ¬ kS c = (h, y) := fun z => c2 (congrArg Prod.snd z)
          rw [if_neg hk, if_neg hk, List.append_nil, List.append_nil] at this
          exact Ev.ite_neg c2 this
      · have hk : ¬ kS c = (h, y) := fun z => c1 (congrArg Prod.fst z)
        rw [if_neg hk, if_neg hk, List.append_nil, List.append_nil] at this
        exact Ev.ite_neg c1 this
theorem CapHouse : mootkeep4_CapHouse.Pure := by
  intro l a _ _ hw ha
  refine Ev.rounds (r := true) ?_
  obtain ⟨x, hxe, hxl, hxc⟩ := claims_ok l hw
  have hx : ClOk x := ⟨by omega, fun c hc => by have := hxc c hc; omega⟩
  obtain ⟨L, ht, t0, t1⟩ := below_ok a 2000 (wf_bd ha).1 (wf_bd ha).2 (by omega) (by omega)
  obtain ⟨O, hOe, hOl, hOs⟩ := ceiling_ok hx (L := L) ⟨t0, by omega⟩ (div_of (by omega) (fun c hc => by have := hxc c hc; omega)) (fun c hc => by
    have := hxc c hc
    unfold ms86.wfK ms86.isI64
    simp only [Bool.and_eq_true, decide_eq_true_eq]
    omega)
  have hb : ∀ i : Int, 0 ≤ rd O i ∧ rd O i ≤ 1099511627776 := by
    have key : ∀ m : Nat, 0 ≤ rd O (m : Int) ∧ rd O (m : Int) ≤ 1099511627776 := fun m => by
      by_cases hm : m < x.length
      · obtain ⟨P, T, e1, _, e3⟩ := hOs _ (rdS_mem (l := x) (i := (m : Int)) (by omega) (by omega))
        have hmem : rd O (m : Int) ∈ P := by
          rw [← e1]
          exact List.mem_map.2 ⟨(m : Int), mem_ats.2 ⟨⟨by omega, by omega⟩, rfl⟩, rfl⟩
        obtain ⟨q, hq, e⟩ := List.getElem_of_mem hmem
        have hql : q < (grp x (kS (rd_T59 x (m : Int)))).length := by rw [← e3.len]; exact hq
        have b := e3.bd (q : Int) (by omega) (by omega)
        have c := (grp_ok hx (kS (rd_T59 x (m : Int)))).2 _ (rdS_mem (l := grp x (kS (rd_T59 x (m : Int)))) (i := (q : Int)) (by omega) (by omega))
        rw [rd_get hq, e] at b
        omega
      · unfold rd
        rw [List.getD_eq_getElem?_getD, List.getElem?_eq_none (by omega)]
        simp
    intro i
    have := key i.toNat
    unfold rd at this ⊢
    rwa [Int.toNat_natCast] at this
  have hsum : ∀ h y : Int, ((ats x (h, y)).map (rd O)).sum = min L ((grp x (h, y)).map (·.f4)).sum := fun h y => by
    by_cases hg : grp x (h, y) = []
    · have hal := (ats_grp x (h, y)).1
      rw [hg] at hal ⊢
      rw [List.eq_nil_of_length_eq_zero hal]
      simp
      omega
    · obtain ⟨c, hc⟩ := List.exists_mem_of_ne_nil _ hg
      have hm := List.mem_filter.1 hc
      have hk : kS c = (h, y) := by simpa using hm.2
      obtain ⟨P, T, e1, _, e3⟩ := hOs c hm.1
      rw [hk] at e1 e3
      rw [e1]
      exact e3.exact
  have l2 : ∀ h y : Int, Ev (fun k => mootkeep4_CapHouse.l1 k L x O h (wrap64 (y + 1))) true → Ev (fun k => mootkeep4_CapHouse.l2 k L x O h y 0 0 x (x.length : Int) 0) true := fun h y hout => by
    have := house_l2 hx hOl hb h y (hsum h y) hout x [] rfl
    simpa [atsTo, idx, grp] using this
  have l1end : ∀ h : Int, Ev (fun k => mootkeep4_CapHouse.l0 k L x O (wrap64 (h + 1))) true → Ev (fun k => mootkeep4_CapHouse.l1 k L x O h 2000) true := fun h hout => by
    have e2 : Ev (fun k => mootkeep4_CapHouse.l1 k L x O h 2002) true := by
      apply Ev.step
      · intro k; rw [mootkeep4_CapHouse.l1]
      · exact Ev.ite_neg (by omega) hout
    have e1 : Ev (fun k => mootkeep4_CapHouse.l1 k L x O h 2001) true := by
      apply Ev.step
      · intro k; rw [mootkeep4_CapHouse.l1]
      · refine Ev.ite_pos (by omega) (l2 h 2001 ?_)
        rw [w64 (by omega) (by omega)]; exact e2
    apply Ev.step
    · intro k; rw [mootkeep4_CapHouse.l1]
    · refine Ev.ite_pos (by omega) (l2 h 2000 ?_)
      rw [w64 (by omega) (by omega)]; exact e1
  have l0 : ∀ h : Int, h ≤ 3 → Ev (fun k => mootkeep4_CapHouse.l0 k L x O (wrap64 (h + 1))) true → Ev (fun k => mootkeep4_CapHouse.l0 k L x O h) true := fun h h3 hout => by
    apply Ev.step
    · intro k; rw [mootkeep4_CapHouse.l0]
    · exact Ev.ite_pos h3 (l1end h hout)
  have h4 : Ev (fun k => mootkeep4_CapHouse.l0 k L x O 4) true := by
    apply Ev.step
    · intro k; rw [mootkeep4_CapHouse.l0]
    · exact Ev.ite_neg (by omega) (Ev.now _)
  have h3 := l0 3 (by omega) (by rw [w64 (by omega) (by omega)]; exact h4)
  have h2 := l0 2 (by omega) (by rw [w64 (by omega) (by omega)]; exact h3)
  have h1 := l0 1 (by omega) (by rw [w64 (by omega) (by omega)]; exact h2)
  unfold mootkeep4_CapHouse.f
  refine Ev.bind capped_ok (Ev.ite_pos rfl (Ev.bind hxe ?_))
  rw [ht]
  refine Ev.bind (Ev.now _) (Ev.bind hOe (Ev.ite_pos rfl ?_))
  have e : ((O.length : Int) != (x.length : Int)) = false := by rw [hOl]; simp
  simp only [e]
  apply Ev.step
  · intro k; rw [mootkeep4_CapHouse.j0]
  · exact Ev.ite_neg (by simp) h1
end Go.Proofs.Ytbcaaocogphdeaa.Pure
