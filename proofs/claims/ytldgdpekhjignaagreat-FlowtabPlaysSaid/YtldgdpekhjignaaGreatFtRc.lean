/-
  SMALL LAWS: chapter 26: a call in a slice of calls, an entry in a row of entries. No condition.
-/
import Derived.Test.YtldgdpekhjignaaGreatFtR
set_option linter.unusedVariables false
set_option linter.unusedSimpArgs false
namespace Go.Proofs.YtldgdpekhjignaaGreat.Ft
open Go.RowKit Go.Maps

theorem sl_rec {w : World} {v : Value} {l : List Op6} (h : SlO6 w 0 v l) {i : Nat} {o : Op6} (hi : l[i]? = some o) : ∃ b off c, v = .slice (some ⟨b, off, none⟩) l.length c ∧ l.length ≤ c ∧ w.rangeAt b (off + i * 36) (arrO o).toList := by
  obtain ⟨b, off, c, hv, _, hc, hx⟩ := Sl.rec encO6_len (by omega) h hi
  refine ⟨b, off, c, hv, hc, fun j u hu => ?_⟩
  have hj : j < 36 := (List.getElem?_eq_some_iff.1 hu).1
  rw [Nat.add_assoc, hx j hj, ← arrO_list]
  exact hu
theorem field_ev (c : Cn) (w : World) : (Instr.field 31 (.agg (arrC' c)) 3).run Tryz.prog w = .ok (.int .i64 c.evicted) w := by kernel_rfl
theorem arrC_eq (c : Cn) : arrC c = arrC' c := rfl
/-- The flow of entry i of a row. -/
theorem row_fl {w : World} {B : Nat} {v : Value} {L : List En} (h : Sl w B 37 v L.length (L.flatMap encE)) {i : Nat} {e : En} (hi : L[i]? = some e) : ∃ b o c, v = .slice (some ⟨b, o, none⟩) L.length c ∧ w.rangeAt b (o + i * 37) (arrE e).toList ∧ w.rangeAt b (o + i * 37) (arrF e.fl).toList := by
  obtain ⟨b, o, c, hv, _, _, hx⟩ := Sl.rec encE_len (by omega) h hi
  refine ⟨b, o, c, hv, fun j u hu => ?_, fun j u hu => ?_⟩
  · have hj : j < 37 := (List.getElem?_eq_some_iff.1 hu).1
    rw [Nat.add_assoc, hx j hj, ← arrE_list]
    exact hu
  · have hj : j < 34 := (List.getElem?_eq_some_iff.1 hu).1
    rw [Nat.add_assoc, hx j (by omega), encE, List.getElem?_append_left (by show j < 34; exact hj)]
    exact hu
theorem rgE_fl {w : World} {b o : Nat} {e : En} (h : w.rangeAt b o (arrE e).toList) : w.rangeAt b o (arrF e.fl).toList := fun j u hu => by
  have hj : j < 34 := (List.getElem?_eq_some_iff.1 hu).1
  refine h j u ?_
  rw [arrE_list, encE, List.getElem?_append_left (by show j < 34; exact hj)]
  exact hu
end Go.Proofs.YtldgdpekhjignaaGreat.Ft
