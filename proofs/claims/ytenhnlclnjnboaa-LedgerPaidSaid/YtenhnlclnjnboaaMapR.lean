/- A map of the call's own: 'm[k] op= v' as a lookup, an entry and a store into it, in either order. -/
import Derived.Test.YtenhnlclnjnboaaOpen
import Derived.Maps.OwnOps
import Derived.Maps.Views
import Derived.Maps.RangeWalk
import Derived.WideKeyEntry
import Derived.DeepKeys4
namespace Go.Proofs.Ytenhnlclnjnboaa.Open
open Go.RowKit Go.ChangeMaps Go.WideElems Go.MapKept Go.Proofs.YtenhnlclnjnboaaW.PrintWords Go.Proofs.YtenhnlclnjnboaaW.PrintLast
open Go.WideMaps (KeyLaw)
set_option linter.unusedVariables false
set_option linter.unusedSimpArgs false

theorem setBlock_twice (w : World) (b : Nat) (o o' : Obj) : setBlock (setBlock w b o) b o' = setBlock w b o' := by
  unfold setBlock
  congr 1
  apply Array.ext_getElem?
  intro i
  simp only [Array.getElem?_setIfInBounds, Array.size_setIfInBounds]
  split <;> rfl

theorem map_opassign {H : Type} {P : Program} {t k e : TypeId} {w : World} {b n : Nat} {D : DataW H} {R : Value → Option (DataW H × List MemPlace)} (K : KeyLaw P k) (ht : P.underlying t = some (.map k e)) {z : Value} (hz : ∀ u : World, (zeroValue e).run P u = .ok z u)
    {zd : DataW H} {zp : List MemPlace} (hzd : R z = some (zd, zp)) (h : w.ownsMap P k R b n D) (hn : n < maxLen) {key : Value} {kl : Lit} (hkey : keyOf P k key = some kl) :
    ∃ (v0 : Value) (ps : List MemPlace) (st : Nat) (es1 : Array MapEntry) (clock1 : Nat), R v0 = some (D.atKey kl zd, ps) ∧
      (Instr.lookup t (.map (some b)) key false).run P w = .ok v0 w ∧
      (Instr.mapEntry t (.map (some b)) key).run P w = .ok (.tuple #[v0, goInt st]) (setBlock w b (.map es1 clock1)) ∧
      (Instr.lookup t (.map (some b)) key false).run P (setBlock w b (.map es1 clock1)) = .ok v0 (setBlock w b (.map es1 clock1)) ∧
      w.grownBy (setBlock w b (.map es1 clock1)) (some b) ∧
      ∀ (val : Value) (d : DataW H) (ps' : List MemPlace), R val = some (d, ps') → ∃ w', (Instr.entryStore t (.map (some b)) (goInt st) val).run P (setBlock w b (.map es1 clock1)) = .ok () w' ∧ w'.ownsMap P k R b (n + 1) (D.put kl d) ∧ w.grownBy w' (some b) := by
  have KD := Go.Maps.Keyed.of_law K
  have hupd := fun (val : Value) (d : DataW H) (ps' : List MemPlace) (hv : R val = some (d, ps')) => h.update KD ht hn hkey hv
  obtain ⟨v, ps, hlook, hRv⟩ := h.lookup KD ht (hz w) hzd hkey
  obtain ⟨es, clock, hb, F, hs, hD⟩ := h
  have hgrow : ∀ o : Obj, w.grownBy (setBlock w b o) (some b) := fun o => ⟨rfl, rfl, rfl, by simp [setBlock], fun i _ hi => heap_setBlock_other hb _ (fun e => hi (by rw [e]))⟩
  have key2 : ∃ (v0 : Value) (st : Nat) (es1 : Array MapEntry) (clock1 : Nat), (Instr.lookup t (.map (some b)) key false).run P w = .ok v0 w ∧ (Instr.mapEntry t (.map (some b)) key).run P w = .ok (.tuple #[v0, goInt st]) (setBlock w b (.map es1 clock1)) ∧
      (Instr.lookup t (.map (some b)) key false).run P (setBlock w b (.map es1 clock1)) = .ok v0 (setBlock w b (.map es1 clock1)) ∧
      ∀ (val : Value), ∃ es' clock', (Instr.entryStore t (.map (some b)) (goInt st) val).run P (setBlock w b (.map es1 clock1)) = .ok () (setBlock w b (.map es' clock')) ∧ (Instr.mapUpdate t (.map (some b)) key val).run P w = .ok () (setBlock w b (.map es' clock')) := by
    have hb1 : ∀ (es1 : Array MapEntry) (clock1 : Nat), (setBlock w b (.map es1 clock1)).heap[b]? = some (.map es1 clock1) := fun es1 clock1 => heap_setBlock_same hb _
    obtain ⟨s1, s2, _⟩ := F.stamped
    rcases K.find w hkey es.toList F.keys with ⟨h1, h2⟩ | ⟨j, e0, h1, h2, h3⟩
    · refine ⟨z, clock, es.push ⟨key, z, clock⟩, clock + 1, ?_, ?_, ?_, fun val => ⟨es.push ⟨key, val, clock⟩, clock + 1, ?_, ?_⟩⟩
      · simp [Instr.lookup, run_underlying ht, MapKept.run_getObj_map hb, K.check w _ hkey, h1, hz, Result.andThen]
      · simp [Instr.mapEntry, run_underlying ht, MapKept.run_getObj_map hb, K.check w false hkey, h1, hz, MapKept.run_setObj_map _ hb, Result.andThen, setBlock]
      · have hkeys : ∀ e ∈ (es.push ⟨key, z, clock⟩).toList, ∃ l, keyOf P k e.key = some l := by
          intro e he
          rw [Array.toList_push] at he
          rcases List.mem_append.1 he with he | he
          · exact F.keys e he
          · rw [List.mem_singleton.1 he]; exact ⟨kl, hkey⟩
        rcases K.find (setBlock w b (.map (es.push ⟨key, z, clock⟩) (clock + 1))) hkey _ hkeys with ⟨g1, g2⟩ | ⟨j, e0, g1, g2, g3⟩
        · exact absurd rfl (g2 ⟨key, z, clock⟩ (by rw [Array.toList_push]; simp))
        · have he0 : e0.val = z := by
            have hm := List.mem_of_getElem? g2
            rw [Array.toList_push] at hm
            rcases List.mem_append.1 hm with hm | hm
            · exact absurd g3 (h2 e0 hm)
            · rw [List.mem_singleton.1 hm]
          rw [he0] at g1
          simp only [Array.toList_push] at g1
          simp [Instr.lookup, run_underlying ht, MapKept.run_getObj_map (hb1 _ _), K.check (setBlock w b (.map (es.push ⟨key, z, clock⟩) (clock + 1))) _ hkey, g1, Result.andThen]
      · have hidx : (es.push ⟨key, z, clock⟩).findIdx? (fun e => ((e.born : Nat) : Int) == ((clock : Nat) : Int)) = some es.size := by
          rw [findIdx_arr]
          have := findIdx_born (l := (es.push ⟨key, z, clock⟩).toList) (j := es.size) (e0 := ⟨key, z, clock⟩) (by
            simp only [Array.toList_push, List.map_append, List.map_cons, List.map_nil]
            refine List.nodup_append.2 ⟨s2, by simp, fun a ha c hc e1 => ?_⟩
            simp only [List.mem_singleton] at hc
            obtain ⟨x, hx, rfl⟩ := List.mem_map.1 ha
            have := s1 x hx
            omega) (by simp)
          exact this
        have hmod : (es.push ⟨key, z, clock⟩).modify es.size (fun e => { e with val := val }) = es.push ⟨key, val, clock⟩ := by
          apply Array.ext'
          rw [Array.toList_modify, Array.toList_push, Array.toList_push, ← Array.length_toList, modify_last]
        simp [Instr.entryStore, MapKept.run_getObj_map (hb1 _ _), asInt, asIntOf, goInt, hidx, hmod, MapKept.run_setObj_map _ (hb1 _ _), Result.andThen]
        exact setBlock_twice _ _ _ _
      · simp [Instr.mapUpdate, run_underlying ht, MapKept.run_getObj_map hb, K.check w false hkey, h1, MapKept.run_setObj_map _ hb, Result.andThen, setBlock]
    · have hj : es[j]? = some e0 := by simpa using h2
      have hsame : es.modify j (fun e => { e with key := key }) = es := by
        apply Array.ext'
        rw [Array.toList_modify, modify_eq_set _ _ _ _ h2]
        have : ({ e0 with key := key } : MapEntry) = e0 := by rw [← h3]
        rw [this]
        exact set_self _ _ _ h2
      refine ⟨e0.val, e0.born, es, clock, ?_, ?_, ?_, fun val => ⟨es.modify j (fun e' => { e' with key := key, val := val }), clock, ?_, ?_⟩⟩
      · simp [Instr.lookup, run_underlying ht, MapKept.run_getObj_map hb, K.check w _ hkey, h1, Result.andThen]
      · simp [Instr.mapEntry, run_underlying ht, MapKept.run_getObj_map hb, K.check w false hkey, h1, hj, h3, K.stays w hkey, hsame, MapKept.run_setObj_map _ hb, Result.andThen, setBlock]
      · rcases K.find (setBlock w b (.map es clock)) hkey es.toList F.keys with ⟨g1, g2⟩ | ⟨j', e1, g1, g2, g3⟩
        · exact absurd h3 (g2 e0 (List.mem_of_getElem? h2))
        · have he : e1 = e0 := by
            have hn := ((stamped_iff es clock).1 F.stamped).2.2
            have m1 := (List.getElem?_eq_some_iff.1 g2)
            have m2 := (List.getElem?_eq_some_iff.1 h2)
            obtain ⟨l1, e1'⟩ := m1
            obtain ⟨l2, e2'⟩ := m2
            by_cases q : j' = j
            · subst q; rw [← e1', ← e2']
            · rw [List.pairwise_iff_getElem] at hn
              rcases Nat.lt_or_ge j' j with q' | q'
              · exact absurd (by rw [e1', e2', g3, h3]) (hn j' j l1 l2 q')
              · exact absurd (by rw [e1', e2', g3, h3]) (hn j j' l2 l1 (by omega))
          subst he
          simp [Instr.lookup, run_underlying ht, MapKept.run_getObj_map (hb1 _ _), K.check (setBlock w b (.map es clock)) _ hkey, g1, Result.andThen]
      · have hidx : es.findIdx? (fun e => ((e.born : Nat) : Int) == ((e0.born : Nat) : Int)) = some j := by
          rw [findIdx_arr]
          exact findIdx_born s2 h2
        have hmod : es.modify j (fun e => { e with val := val }) = es.modify j (fun e' => { e' with key := key, val := val }) := by
          apply Array.ext'
          rw [Array.toList_modify, Array.toList_modify, modify_eq_set _ _ _ _ h2, modify_eq_set _ _ _ _ h2, ← h3]
        simp [Instr.entryStore, MapKept.run_getObj_map (hb1 _ _), asInt, asIntOf, goInt, hidx, hmod, MapKept.run_setObj_map _ (hb1 _ _), Result.andThen]
        exact setBlock_twice _ _ _ _
      · simp [Instr.mapUpdate, run_underlying ht, MapKept.run_getObj_map hb, K.check w false hkey, h1, hj, h3, K.stays w hkey, MapKept.run_setObj_map _ hb, Result.andThen, setBlock]
  obtain ⟨v0, st, es1, clock1, q1, q2, q3, q4⟩ := key2
  have hv : v0 = v := by
    rw [q1] at hlook
    injection hlook
  subst hv
  refine ⟨v0, ps, st, es1, clock1, hRv, q1, q2, q3, hgrow _, fun val d ps' hval => ?_⟩
  obtain ⟨es', clock', q5, q6⟩ := q4 val
  obtain ⟨w', u1, u2, u3⟩ := hupd val d ps' hval
  rw [q6] at u1
  injection u1 with _ u1
  subst u1
  exact ⟨_, q5, u2, u3⟩
end Go.Proofs.Ytenhnlclnjnboaa.Open
