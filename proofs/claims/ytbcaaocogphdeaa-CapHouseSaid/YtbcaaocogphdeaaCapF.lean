import Derived.Test.YtbcaaocogphdeaaPCapx0
import Derived.Test.YtbcaaocogphdeaaPCapx40
import Derived.Test.YtbcaaocogphdeaaPCapx48
import Derived.Test.YtbcaaocogphdeaaPCapx49
import Derived.Test.YtbcaaocogphdeaaCapE
/- Plain lemmas: what cap.Ceiling comes to: the claims of each household and year, by cap.Budget, laid back where they stood. -/
section
namespace Go.Proofs.Ytbcaaocogphdeaa.Pure
open Go.RowKit Go.Proofs.Ytbcaaocogphdeaa.PCap Go.Proofs.YtbcaaocogphdeaaW.PrintWords Go.Proofs.YtbcaaocogphdeaaW.PrintLast
set_option linter.unusedVariables false
set_option linter.unusedSimpArgs false

def kS (c : S59) : Int × Int := (c.f1, c.f2)
/-- The claims of a household and year; where they stand. -/
def grp (x : List S59) (k : Int × Int) : List S59 := x.filter (fun c => decide (kS c = k))
def atsTo (x : List S59) (k : Int × Int) (n : Nat) : List Int := (idx n).filter (fun i => decide (kS (rd_T59 x i) = k))
def ats (x : List S59) (k : Int × Int) : List Int := atsTo x k x.length
theorem atsTo_succ (x : List S59) (k : Int × Int) (n : Nat) : atsTo x k (n + 1) = atsTo x k n ++ (if kS (rd_T59 x (n : Int)) = k then [(n : Int)] else []) := by
  unfold atsTo
  rw [idx_succ, List.filter_append]
  congr 1
  by_cases h : kS (rd_T59 x (n : Int)) = k
  · rw [if_pos h]; simp [h]
  · rw [if_neg h]; simp [h]
theorem grp_snoc (x1 : List S59) (c : S59) (k : Int × Int) : grp (x1 ++ [c]) k = grp x1 k ++ (if kS c = k then [c] else []) := by
  unfold grp
  rw [List.filter_append]
  congr 1
  by_cases h : kS c = k
  · rw [if_pos h]; simp [h]
  · rw [if_neg h]; simp [h]
theorem mem_ats {x : List S59} {k : Int × Int} {i : Int} : i ∈ ats x k ↔ (0 ≤ i ∧ i < (x.length : Int)) ∧ kS (rd_T59 x i) = k := by
  unfold ats atsTo
  rw [List.mem_filter, mem_idx]
  simp
theorem grp_len (x : List S59) (k : Int × Int) : (grp x k).length ≤ x.length := List.length_filter_le _ _
theorem grp_ok {x : List S59} (h : ClOk x) (k : Int × Int) : ClOk (grp x k) := ⟨Nat.le_trans (grp_len x k) h.1, fun c hc => h.2 c (List.mem_filter.1 hc).1⟩
theorem ats_grp_to (x : List S59) (k : Int × Int) : ∀ (x2 x1 : List S59), x = x1 ++ x2 → (atsTo x k x1.length).length = (grp x1 k).length ∧ (atsTo x k x1.length).map (rd_T59 x) = grp x1 k := by
  have go : ∀ (n : Nat) (x1 x2 : List S59), x1.length = n → x = x1 ++ x2 → (atsTo x k n).length = (grp x1 k).length ∧ (atsTo x k n).map (rd_T59 x) = grp x1 k := by
    intro n
    induction n with
    | zero => intro x1 x2 hl _; rw [List.eq_nil_of_length_eq_zero hl]; exact ⟨rfl, rfl⟩
    | succ n ih =>
      intro x1 x2 hl hx
      obtain ⟨y, c, rfl⟩ : ∃ y c, x1 = y ++ [c] := ⟨x1.dropLast, x1.getLast (by intro h; rw [h] at hl; simp at hl), (List.dropLast_concat_getLast _).symm⟩
      have hy : y.length = n := by simpa using hl
      have h := ih y ([c] ++ x2) hy (by rw [hx]; simp)
      have hc : rd_T59 x (n : Int) = c := by
        rw [hx, show y ++ [c] ++ x2 = y ++ c :: x2 by simp]
        exact rdS_at (by rw [hy])
      rw [atsTo_succ, grp_snoc, hc]
      by_cases e : kS c = k
      · rw [if_pos e, if_pos e, List.length_append, List.length_append, List.map_append, h.1, h.2]
        exact ⟨rfl, by simp [hc]⟩
      · rw [if_neg e, if_neg e, List.append_nil, List.append_nil]; exact h
  exact fun x2 x1 hx => go _ x1 x2 rfl hx
theorem ats_grp (x : List S59) (k : Int × Int) : (ats x k).length = (grp x k).length ∧ (ats x k).map (rd_T59 x) = grp x k := ats_grp_to x k [] x (by simp)
theorem ats_nodup (x : List S59) (k : Int × Int) : (ats x k).Nodup := (idx_nodup _).sublist List.filter_sublist
/-- Values laid at places. -/
def scat (O : List Int) : List Int → List Int → List Int
  | a :: A, p :: P => scat (O.set a.toNat p) A P
  | _, _ => O
theorem scat_len : ∀ (A P O : List Int), (scat O A P).length = O.length
  | [], P, O => by cases P <;> rfl
  | a :: A, [], O => rfl
  | a :: A, p :: P, O => by rw [scat, scat_len A P, List.length_set]
theorem scat_other : ∀ (A P O : List Int) (i : Int), 0 ≤ i → i ∉ A → (∀ a ∈ A, 0 ≤ a ∧ a < (O.length : Int)) → rd (scat O A P) i = rd O i
  | [], P, O, i, _, _, _ => by cases P <;> rfl
  | a :: A, [], O, i, _, _, _ => rfl
  | a :: A, p :: P, O, i, h0, hn, hA => by
    have ha := hA a List.mem_cons_self
    rw [scat, scat_other A P _ i h0 (fun h => hn (List.mem_cons_of_mem _ h)) (fun b hb => by rw [List.length_set]; exact hA b (List.mem_cons_of_mem _ hb)), rd_set ha.1 ha.2 h0, if_neg (fun e => hn (by rw [e]; exact List.mem_cons_self))]
theorem scat_at : ∀ (A P O : List Int), A.length = P.length → A.Nodup → (∀ a ∈ A, 0 ≤ a ∧ a < (O.length : Int)) → A.map (rd (scat O A P)) = P
  | [], [], O, _, _, _ => rfl
  | a :: A, p :: P, O, hl, hn, hA => by
    have ha := hA a List.mem_cons_self
    have hnd := List.nodup_cons.1 hn
    have hA' : ∀ b ∈ A, 0 ≤ b ∧ b < ((O.set a.toNat p).length : Int) := fun b hb => by rw [List.length_set]; exact hA b (List.mem_cons_of_mem _ hb)
    rw [List.map_cons, scat, scat_at A P _ (by simpa using hl) hnd.2 hA', scat_other A P _ a ha.1 hnd.1 hA', rd_set ha.1 ha.2 ha.1, if_pos rfl]
theorem ceil_l2 (x : List S59) (L : Int) (j : Int) (C : List (Int × Int)) (res : List Int × Int) (A P : List Int) (hl : A.length = P.length) (hP : P.length ≤ 200) : ∀ (A2 A1 P2 P1 O : List Int), A = A1 ++ A2 → P = P1 ++ P2 → A2.length = P2.length → (∀ a ∈ A2, 0 ≤ a ∧ a < (O.length : Int)) →
    Ev (fun k => cap_Ceiling.l0 k x L (scat O A2 P2) x (x.length : Int) (wrap64 (j + 1)) C) res →
    Ev (fun k => cap_Ceiling.l2 k x L O A x (x.length : Int) j P (P.length : Int) (P1.length : Int) C) res := by
  intro A2
  induction A2 with
  | nil =>
    intro A1 P2 P1 O hA hPe h2 _ hf
    obtain rfl : P2 = [] := List.eq_nil_of_length_eq_zero h2.symm
    rw [List.append_nil] at hPe
    apply Ev.step
    · intro k; rw [cap_Ceiling.l2]
    · exact Ev.ite_neg (by rw [hPe]; omega) hf
  | cons a A2 ih =>
    intro A1 P2 P1 O hA hPe h2 hb hf
    cases P2 with
    | nil => simp at h2
    | cons p P2 =>
      have hPl : P.length = P1.length + (P2.length + 1) := by rw [hPe]; simp
      have hAl : A.length = A1.length + (A2.length + 1) := by rw [hA]; simp
      simp only [List.length_cons] at h2
      have ha := hb a List.mem_cons_self
      have hra : rd A (P1.length : Int) = a := by rw [hA]; exact rd_at (by omega)
      have hrp : rd P (P1.length : Int) = p := by rw [hPe]; exact rd_at rfl
      have := ih (A1 ++ [a]) P2 (P1 ++ [p]) (O.set a.toNat p) (by rw [hA]; simp) (by rw [hPe]; simp) (by omega) (fun b h => by rw [List.length_set]; exact hb b (List.mem_cons_of_mem _ h)) hf
      rw [show ((P1 ++ [p]).length : Int) = P1.length + 1 by rw [List.length_append, List.length_singleton]; omega] at this
      apply Ev.step
      · intro k; rw [cap_Ceiling.l2]
      · rw [hra, hrp]
        refine Ev.ite_pos (by omega) (Ev.ite_pos (by omega) (Ev.ite_pos (by omega) (Ev.ite_pos (by omega) (Ev.ite_pos ha.1 (Ev.ite_pos ha.2 ?_)))))
        rw [w64 (a := (P1.length : Int) + 1) (by omega) (by omega)]
        exact this
/-- What follows the gathering of a household's claims. -/
def afterG (x : List S59) (L : Int) (O : List Int) (j : Int) (C : List (Int × Int)) (k : Int × Int) (n : Nat) : Option (List Int × Int) :=
  (cap_Budget.f n (grp x k) L).bind fun bt402 => (if bt402.2 = 0 then (cap_Ceiling.l2 n x L O (ats x k) x (x.length : Int) j bt402.1 (bt402.1.length : Int) 0 C) else (some (([] : List Int), bt402.2)))
theorem ceil_l1 (x : List S59) (hx : x.length ≤ 200) (L : Int) (O : List Int) (j : Int) (C : List (Int × Int)) (c0 : S59) (res : List Int × Int) (hf : Ev (afterG x L O j C (kS c0)) res) : ∀ (x2 x1 : List S59), x = x1 ++ x2 →
    Ev (fun k => cap_Ceiling.l1 k x L O (grp x1 (kS c0)) (atsTo x (kS c0) x1.length) x (x.length : Int) j x (x.length : Int) (x1.length : Int) C c0.f0 c0.f1 c0.f2 c0.f3 c0.f4) res := by
  intro x2
  induction x2 with
  | nil =>
    intro x1 e
    rw [List.append_nil] at e
    subst e
    apply Ev.step
    · intro k; rw [cap_Ceiling.l1]
    · exact Ev.ite_neg (by omega) hf
  | cons c x2 ih =>
    intro x1 e
    have hl : x.length = x1.length + (x2.length + 1) := by rw [e]; simp
    have hrd : rd_T59 x (x1.length : Int) = c := by rw [e]; exact rdS_at rfl
    have hg := grp_len x1 (kS c0)
    have ha := (ats_grp_to x (kS c0) (c :: x2) x1 e).1
    have := ih (x1 ++ [c]) (by rw [e]; simp)
    rw [show ((x1 ++ [c]).length : Int) = x1.length + 1 by rw [List.length_append, List.length_singleton]; omega, List.length_append, List.length_singleton, atsTo_succ, grp_snoc, hrd] at this
    apply Ev.step
    · intro k; rw [cap_Ceiling.l1]
    · rw [hrd]
      refine Ev.ite_pos (by omega) (Ev.ite_pos (by omega) (Ev.ite_pos (by omega) ?_))
      rw [w64 (a := (x1.length : Int) + 1) (by omega) (by omega)]
      by_cases c1 : c.f1 = c0.f1
      · refine Ev.ite_pos c1 ?_
        by_cases c2 : c.f2 = c0.f2
        · have hk : kS c = kS c0 := by unfold kS; rw [c1, c2]
          rw [if_pos hk, if_pos hk] at this
          exact Ev.ite_pos c2 (Ev.ite_pos (by omega) (Ev.ite_pos (by omega) this))
        · have hk : ¬ kS c = kS c0 := fun h => c2 (congrArg Prod.snd h)
          rw [if_neg hk, if_neg hk, List.append_nil, List.append_nil] at this
          exact Ev.ite_neg c2 this
      · have hk : ¬ kS c = kS c0 := fun h => c1 (congrArg Prod.fst h)
        rw [if_neg hk, if_neg hk, List.append_nil, List.append_nil] at this
        exact Ev.ite_neg c1 this
/-- A household's claims are served. -/
def Served (x : List S59) (L : Int) (O : List Int) (k : Int × Int) : Prop := ∃ P T, (ats x k).map (rd O) = P ∧ Ev (fun n => cap_Budget.f n (grp x k) L) (P, 0) ∧ Inv (grp x k) L (rnk (grp x k)) P T
theorem ceil_l0 {x : List S59} (hx : ClOk x) {L : Int} (hL : 0 ≤ L ∧ L ≤ 4611686018427387904) (hD : DivOk x L) (hw : ∀ c ∈ x, ms86.wfK (c.f1, c.f2) = true) : ∀ (n i : Nat) (O : List Int) (C : List (Int × Int)), i + n = x.length → O.length = x.length → C.length ≤ i → (∀ j : Nat, j < i → kS (rd_T59 x (j : Int)) ∈ C) → (∀ k ∈ C, Served x L O k) →
    ∃ O', Ev (fun k => cap_Ceiling.l0 k x L O x (x.length : Int) (i : Int) C) (O', 0) ∧ O'.length = x.length ∧ ∀ c ∈ x, Served x L O' (kS c) := by
  intro n
  induction n with
  | zero =>
    intro i O C hi hO hC hcov hs
    refine ⟨O, ?_, hO, fun c hc => ?_⟩
    · apply Ev.step
      · intro k; rw [cap_Ceiling.l0]
      · exact Ev.ite_neg (by omega) (Ev.now _)
    · obtain ⟨j, hj, e⟩ := List.getElem_of_mem hc
      have := hcov j (by omega)
      rw [rdS_get hj, e] at this
      exact hs _ this
  | succ n ih =>
    intro i O C hi hO hC hcov hs
    have hl := hx.1
    have hm := rdS_mem (l := x) (i := (i : Int)) (by omega) (by omega)
    have hwk := hw _ hm
    have hnext : wrap64 ((i : Int) + 1) = ((i + 1 : Nat) : Int) := by rw [w64 (by omega) (by omega)]; omega
    by_cases c : kS (rd_T59 x (i : Int)) ∈ C
    · obtain ⟨O', he, hl', hs'⟩ := ih (i + 1) O C (by omega) hO (by omega) (fun j hj => by
        by_cases e : j = i
        · subst e; exact c
        · exact hcov j (by omega)) hs
      refine ⟨O', ?_, hl', hs'⟩
      apply Ev.step
      · intro k; rw [cap_Ceiling.l0]
      · refine Ev.ite_pos (by omega) (Ev.ite_pos (by omega) (Ev.ite_pos (by omega) ?_))
        refine Ev.bind (a := (true, C)) (by unfold ms86has.f; rw [if_pos hwk]; exact Ev.some_ (by rw [decide_eq_true (show ((rd_T59 x (i : Int)).f1, (rd_T59 x (i : Int)).f2) ∈ C from c)])) ?_
        refine Ev.ite_pos rfl ?_
        rw [hnext]
        exact he
    · have hgo := grp_ok hx (kS (rd_T59 x (i : Int)))
      obtain ⟨P, T, hPe, hPi⟩ := budget_ok hgo hL.1 hL.2 (fun n s w a1 a2 a3 a4 a5 a6 => hD n s w a1 a2 a3 a4 a5 (a6.imp id (fun ⟨c, hc, e⟩ => ⟨c, (List.mem_filter.1 hc).1, e⟩)))
      have hag := ats_grp x (kS (rd_T59 x (i : Int)))
      have hPl := hPi.len
      have hab : ∀ a ∈ ats x (kS (rd_T59 x (i : Int))), 0 ≤ a ∧ a < (O.length : Int) := fun a ha => by rw [hO]; exact (mem_ats.1 ha).1
      have hgl := grp_len x (kS (rd_T59 x (i : Int)))
      obtain ⟨O', he, hl', hs'⟩ := ih (i + 1) (scat O (ats x (kS (rd_T59 x (i : Int)))) P) (kS (rd_T59 x (i : Int)) :: C) (by omega) (by rw [scat_len, hO]) (by rw [List.length_cons]; omega) (fun j hj => by
        by_cases e : j = i
        · subst e; exact List.mem_cons_self
        · exact List.mem_cons_of_mem _ (hcov j (by omega))) (fun k hk => by
        by_cases e : k = kS (rd_T59 x (i : Int))
        · subst e
          exact ⟨P, T, scat_at _ _ _ (by rw [hag.1, hPl]) (ats_nodup _ _) hab, hPe, hPi⟩
        · have hkC : k ∈ C := by
            rcases List.mem_cons.1 hk with h | h
            · exact absurd h e
            · exact h
          obtain ⟨P', T', e1, e2, e3⟩ := hs k hkC
          refine ⟨P', T', ?_, e2, e3⟩
          rw [← e1]
          apply List.map_congr_left
          intro a ha
          have hma := mem_ats.1 ha
          exact scat_other _ _ _ a hma.1.1 (fun hm2 => e (hma.2.symm.trans (mem_ats.1 hm2).2)) hab)
      refine ⟨O', ?_, hl', hs'⟩
      apply Ev.step
      · intro k; rw [cap_Ceiling.l0]
      · refine Ev.ite_pos (by omega) (Ev.ite_pos (by omega) (Ev.ite_pos (by omega) ?_))
        refine Ev.bind (a := (false, C)) (by unfold ms86has.f; rw [if_pos hwk]; exact Ev.some_ (by rw [decide_eq_false (show ¬ ((rd_T59 x (i : Int)).f1, (rd_T59 x (i : Int)).f2) ∈ C from c)])) ?_
        refine Ev.ite_neg (by simp) ?_
        refine Ev.bind (a := kS (rd_T59 x (i : Int)) :: C) (by unfold ms86put.f; rw [if_pos ⟨hwk, by simp only; omega⟩]; exact Ev.now _) ?_
        have hl1 := ceil_l1 x hl L O (i : Int) (kS (rd_T59 x (i : Int)) :: C) (rd_T59 x (i : Int)) (O', 0) (by
          unfold afterG
          refine Ev.bind hPe (Ev.ite_pos rfl ?_)
          have := ceil_l2 x L (i : Int) (kS (rd_T59 x (i : Int)) :: C) (O', 0) (ats x (kS (rd_T59 x (i : Int)))) P (by rw [hag.1, hPl]) (by omega) (ats x (kS (rd_T59 x (i : Int)))) [] P [] O rfl rfl (by rw [hag.1, hPl]) hab (by rw [hnext]; exact he)
          simpa using this) x [] rfl
        exact hl1
theorem ceiling_ok {x : List S59} (hx : ClOk x) {L : Int} (hL : 0 ≤ L ∧ L ≤ 4611686018427387904) (hD : DivOk x L) (hw : ∀ c ∈ x, ms86.wfK (c.f1, c.f2) = true) : ∃ O, Ev (fun k => cap_Ceiling.f k x L) (O, 0) ∧ O.length = x.length ∧ ∀ c ∈ x, Served x L O (kS c) := by
  obtain ⟨O, he, h⟩ := ceil_l0 hx hL hD hw x.length 0 (List.replicate x.length 0) [] (by omega) (by simp) (by simp) (fun j hj => by omega) (fun k hk => by cases hk)
  refine ⟨O, ?_, h⟩
  have hl := hx.1
  unfold cap_Ceiling.f
  refine Ev.bind (check_ok hx) (Ev.ite_pos rfl (Ev.ite_neg (by omega) (Ev.ite_pos (by omega) (Ev.ite_pos (by omega) ?_))))
  refine Ev.bind (a := []) (Ev.some_ rfl) ?_
  have e0 : ((x.length : Int) : Int).toNat = x.length := Int.toNat_natCast _
  rw [e0]
  exact he
end Go.Proofs.Ytbcaaocogphdeaa.Pure
end
