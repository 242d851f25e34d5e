/-
  MEMORY: a row of records that the library has sorted. No condition.
-/
import Derived.Test.YtldgdpekhjignaaGreatMem
import Derived.Shelf.SlSortCmp.WholeK
import Derived.Shelf.SlSortFuncK.ComposeK
set_option linter.unusedVariables false
set_option linter.unusedSimpArgs false
namespace Go.Proofs.YtldgdpekhjignaaGreat
open Go.RowKit Go.Sort Go.Proofs Go.Lib

section
variable {α : Type} [Inhabited α] {enc : α → List Value} {s : Nat}
theorem holdsK_own (he : ∀ x, (enc x).length = s) (hs : 0 < s) {w : World} {g : Nat} {cur : Array Value} {e : TypeId} {d : List α} (hb : w.heap[g]? = some (.cells cur e (0, 0)))
    (ht : cur.toList.take (d.length * s) = d.flatMap enc) : HoldsK enc s w g 0 d.toArray := by
  intro j hj
  rw [size_flatK, List.size_toArray] at hj
  have hq : j / s * s + j % s = j := by rw [Nat.mul_comm]; exact Nat.div_add_mod j s
  have hm : j % s < s := Nat.mod_lt _ hs
  have hi : j / s < d.length := Nat.div_lt_of_lt_mul (by rw [Nat.mul_comm]; exact hj)
  refine ⟨?_, by simp [World.frozen?, hb]⟩
  rw [get_flatK _ _ _ _ (by simpa using hj)]
  have h1 : (cur.toList.take (d.length * s))[j]? = (d.flatMap enc)[j]? := by rw [ht]
  rw [List.getElem?_take_of_lt hj] at h1
  rw [← hq, flat_at he d _ _ hm, hq, List.getElem?_eq_getElem hi] at h1
  have h2 : j % s < (enc d[j / s]).length := by rw [he]; exact hm
  simp only [Option.bind_some, List.getElem?_eq_getElem h2] at h1
  simp only [World.cell?, hb, Nat.zero_add, Option.isSome_none, Bool.false_eq_true, if_false]
  rw [← Array.getElem?_toList, h1]
  have e1 : d.toArray[j / s]! = d[j / s] := by simp [hi]
  rw [e1]
  simp [h2]
theorem sl_of_holdsK (he : ∀ x, (enc x).length = s) (hs : 0 < s) {w : World} {B g cap : Nat} {d : Array α} (h : HoldsK enc s w g 0 d) (hB : B ≤ g) (hc : d.size ≤ cap) :
    Sl w B s (.slice (some ⟨g, 0, none⟩) d.size cap) d.size (d.toList.flatMap enc) := by
  have := Sl.of_cells (enc := enc) (size := s) he (w := w) (B := B) (b := g) (o := 0) (c := cap) (l := d.toList) hs hB (by simpa using hc) (fun i x hx j u hu => by
    have hi : i < d.size := by have := (List.getElem?_eq_some_iff.1 hx).1; simpa using this
    have hj : j < s := by have := (List.getElem?_eq_some_iff.1 hu).1; rwa [he] at this
    have h1 := (h.cell hi hj).1
    rw [Nat.add_assoc] at h1
    rw [h1]
    have e1 : d[i]! = x := by
      have : d[i]? = some x := by rw [← Array.getElem?_toList]; exact hx
      obtain ⟨hi', hx'⟩ := Array.getElem?_eq_some_iff.1 this
      rw [getElem!_pos d i hi', hx']
    rw [e1]
    congr 1
    obtain ⟨hj', hu'⟩ := List.getElem?_eq_some_iff.1 hu
    rw [getElem!_pos (enc x) j hj', hu'])
  simpa using this
theorem chg_sortK {w : World} {g off n k : Nat} (d : Array α) (os : Array Obj) : Chg [g] w (sortWorldK enc k w g off n d os) := by
  refine ⟨rfl, rfl, rfl, ?_, fun i hi hne => ?_⟩
  · simp [sortWorldK, grow, putRowK, putRow, mapBlock, Sort.ahead]
  · unfold sortWorldK
    have hg : g ≠ i := fun e => hne (by simp [e])
    rw [heap_grow_old _ _ (by simpa [putRowK, putRow, mapBlock, Sort.ahead] using hi)]
    simp [putRowK, putRow, mapBlock, Sort.ahead, Array.getElem?_modify, hg]
theorem sorted_of {lt : α → α → Bool} {d d' : Array α} (hp : PermIn 0 d.size d d') (hs : SortedIn lt 0 d.size d') : d'.size = d.size ∧ d'.toList.Perm d.toList ∧ d'.toList.Pairwise (fun a b => lt b a = false) := by
  obtain ⟨h1, _, h3⟩ := hp
  refine ⟨h1, ?_, ?_⟩
  · have e1 : d'.extract 0 d.size = d' := by rw [← h1]; simp
    have e2 : d.extract 0 d.size = d := by simp
    rwa [e1, e2] at h3
  · rw [List.pairwise_iff_getElem]
    intro i j hi hj hij
    have hi' : i < d'.size := by simpa using hi
    have hj' : j < d'.size := by simpa using hj
    have := hs i j (Nat.zero_le _) hij (by omega)
    rw [getElem!_pos d' i hi', getElem!_pos d' j hj'] at this
    simpa using this
end
end Go.Proofs.YtldgdpekhjignaaGreat
