/-
  MEMORY: 'm[k] = v' in two steps (an entry, what is stored there), at keys of any kind. No condition.
-/
import Derived.Test.YtgbdbeaflilmlaaMapV
import Derived.WideKeyEntry
set_option linter.unusedVariables false
set_option linter.unusedSimpArgs false
namespace Go.Proofs.Ytgbdbeaflilmlaa
open Go Go.RowKit Go.Maps Go.WideShapes Go.WideElems

theorem chg_setBlock {w : World} {b : Nat} {o : Obj} : Chg [b] w (ChangeMaps.setBlock w b o) :=
  ⟨rfl, rfl, rfl, by simp [ChangeMaps.setBlock], fun k _ hk => by
    simp [ChangeMaps.setBlock]
    rw [Array.getElem?_setIfInBounds, if_neg (by simp at hk; exact fun e => hk e.symm)]⟩
theorem run_store_entry {P : Program} {w1 : World} {b : Nat} {es : Array MapEntry} {clock st i : Nat} (t : TypeId) (v : Value) (hb : w1.heap[b]? = some (.map es clock)) (hi : es.findIdx? (fun y => ((y.born : Nat) : Int) == ((st : Nat) : Int)) = some i) :
    (Instr.entryStore t (.map (some b)) (.int .i64 st) v).run P w1 = .ok () (ChangeMaps.setBlock w1 b (.map (es.modify i (fun y => { y with val := v })) clock)) := by
  simp [Instr.entryStore, MapKept.run_getObj_map hb, asInt, asIntOf, hi, MapKept.run_setObj_map _ hb, Result.andThen, ChangeMaps.setBlock]
theorem setBlock_twice (w : World) (b : Nat) (o o' : Obj) : ChangeMaps.setBlock (ChangeMaps.setBlock w b o) b o' = ChangeMaps.setBlock w b o' := by simp [ChangeMaps.setBlock]
section
variable {P : Program} {k e t : TypeId} {κ : Type} [DecidableEq κ] {K : KV P k κ} {w : World} {b n s : Nat} {M : κ → Option Value}
theorem OM.entry (h : OM K w b n M s) (ht : P.underlying t = some (.map k e)) (hn : n < maxLen) {z : Value} (hz : ∀ u : World, (zeroValue e).run P u = .ok z u) {x : κ} (hx : K.ok x) (v : Value) :
    ∃ (v0 : Value) (st : Int) (w1 w2 : World), (Instr.mapEntry t (.map (some b)) (K.val x)).run P w = .ok (.tuple #[v0, .int .i64 st]) w1 ∧ (Instr.entryStore t (.map (some b)) (.int .i64 st) v).run P w1 = .ok () w2 ∧
      OM K w2 b (n + 1) (fun y => if y = x then some v else M y) (if (M x).isSome then s else s + 1) ∧ Chg [b] w w2 ∧ Chg [b] w w1 := by
  have L := K.law
  have hkey := K.isk x hx
  obtain ⟨w', hu, ho, hc⟩ := h.put ht hn hx v
  obtain ⟨D, h1, _⟩ := h
  obtain ⟨es, clock, hb, F, _, _⟩ := h1
  obtain ⟨s1, s2, _⟩ := F.stamped
  rcases L.find w hkey es.toList F.keys with ⟨q1, _⟩ | ⟨j, e0, q1, q2, q3⟩
  · refine ⟨z, clock, ChangeMaps.setBlock w b (.map (es.push ⟨K.val x, z, clock⟩) (clock + 1)), w', ?_, ?_, ho, hc, chg_setBlock⟩
    · simp [Instr.mapEntry, run_underlying ht, MapKept.run_getObj_map hb, L.check w false hkey, q1, hz, MapKept.run_setObj_map _ hb, Result.andThen, ChangeMaps.setBlock, goInt]
    · have hw : w' = ChangeMaps.setBlock w b (.map (es.push ⟨K.val x, v, clock⟩) (clock + 1)) := by
        have : (Instr.mapUpdate t (.map (some b)) (K.val x) v).run P w = .ok () (ChangeMaps.setBlock w b (.map (es.push ⟨K.val x, v, clock⟩) (clock + 1))) := by
          simp [Instr.mapUpdate, run_underlying ht, MapKept.run_getObj_map hb, L.check w false hkey, q1, MapKept.run_setObj_map _ hb, Result.andThen, ChangeMaps.setBlock]
        rw [hu] at this
        injection this
      have hb1 : (ChangeMaps.setBlock w b (.map (es.push ⟨K.val x, z, clock⟩) (clock + 1))).heap[b]? = some (.map (es.push ⟨K.val x, z, clock⟩) (clock + 1)) := ChangeMaps.heap_setBlock_same hb _
      have hi : (es.push ⟨K.val x, z, clock⟩).findIdx? (fun y => ((y.born : Nat) : Int) == ((clock : Nat) : Int)) = some es.size := by
        rw [findIdx_arr]
        refine findIdx_born (e0 := ⟨K.val x, z, clock⟩) ?_ (by simp)
        rw [Array.toList_push, List.map_append]
        refine List.nodup_append.2 ⟨s2, by simp, fun a ha c hc' hac => ?_⟩
        simp at hc'
        obtain ⟨y, hy, rfl⟩ := List.mem_map.1 ha
        have := s1 y hy
        omega
      have hmd : (es.push ⟨K.val x, z, clock⟩).modify es.size (fun y => { y with val := v }) = es.push ⟨K.val x, v, clock⟩ := by
        apply Array.ext'
        rw [Array.toList_modify, Array.toList_push, Array.toList_push, ← Array.length_toList, modify_last]
      rw [hw, run_store_entry t v hb1 hi, setBlock_twice, hmd]
  · have hj : es[j]? = some e0 := by simpa using q2
    have hself : es.modify j (fun y => { y with key := K.val x }) = es := by
      apply Array.ext'
      rw [Array.toList_modify, ChangeMaps.modify_eq_set _ _ _ _ q2, show ({ e0 with key := K.val x } : MapEntry) = e0 by rw [← q3]]
      exact set_self _ _ _ q2
    refine ⟨e0.val, e0.born, ChangeMaps.setBlock w b (.map es clock), w', ?_, ?_, ho, hc, chg_setBlock⟩
    · simp [Instr.mapEntry, run_underlying ht, MapKept.run_getObj_map hb, L.check w false hkey, q1, hj, q3, L.stays w hkey, hself, MapKept.run_setObj_map _ hb, Result.andThen, ChangeMaps.setBlock, goInt]
    · have hw : w' = ChangeMaps.setBlock w b (.map (es.modify j (fun y => { y with key := K.val x, val := v })) clock) := by
        have : (Instr.mapUpdate t (.map (some b)) (K.val x) v).run P w = .ok () (ChangeMaps.setBlock w b (.map (es.modify j (fun y => { y with key := K.val x, val := v })) clock)) := by
          simp [Instr.mapUpdate, run_underlying ht, MapKept.run_getObj_map hb, L.check w false hkey, q1, hj, q3, L.stays w hkey, MapKept.run_setObj_map _ hb, Result.andThen, ChangeMaps.setBlock]
        rw [hu] at this
        injection this
      have hb1 : (ChangeMaps.setBlock w b (.map es clock)).heap[b]? = some (.map es clock) := ChangeMaps.heap_setBlock_same hb _
      have hi : es.findIdx? (fun y => ((y.born : Nat) : Int) == ((e0.born : Nat) : Int)) = some j := by
        rw [findIdx_arr]
        exact findIdx_born s2 q2
      have hmd : es.modify j (fun y => { y with val := v }) = es.modify j (fun y => { y with key := K.val x, val := v }) := by
        apply Array.ext'
        rw [Array.toList_modify, Array.toList_modify, ChangeMaps.modify_eq_set _ _ _ _ q2, ChangeMaps.modify_eq_set _ _ _ _ q2, ← q3]
      rw [hw, run_store_entry t v hb1 hi, setBlock_twice, hmd]
end
end Go.Proofs.Ytgbdbeaflilmlaa
