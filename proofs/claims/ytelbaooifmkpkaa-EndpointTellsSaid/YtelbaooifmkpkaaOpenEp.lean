/-
  A connection, a segment and two numbers opened. Condition: they read as data.
-/
import Derived.Test.YtelbaooifmkpkaaFrame3
import Derived.Test.YtelbaooifmkpkaaTells
set_option linter.unusedVariables false
set_option linter.unusedSimpArgs false
namespace Go.Proofs.Ytelbaooifmkpkaa
open Go.ChangeShapes Go.WideShapes Go.ChangeAt Go.RowKit Go.Deep

theorem conn_of {H : Type} {enc : TypeId × Value → H} {w : World} {v : Value} {d : DataW H} {ps : List MemPlace} (hr : Value.okWide Try.prog w .any 0 46 v)
    (h : DataW.Trod enc Try.prog w 0 (fun _ => true) true 46 v d ps) : ∃ c : CN, v = .agg (enC c) := by
  obtain ⟨cs, rfl, hlen, hc⟩ := open_struct1 Try.underlying46 (by kernel_rfl) (by kernel_rfl) hr h
  match cs, hlen with
  | [u0, u1, u2, u3, u4, u5, u6], _ =>
    obtain ⟨y0, n0, t0⟩ := hc 0 _ rfl
    obtain ⟨y1, n1, t1⟩ := hc 1 _ rfl
    obtain ⟨y2, n2, t2⟩ := hc 2 _ rfl
    obtain ⟨y3, n3, t3⟩ := hc 3 _ rfl
    obtain ⟨y4, n4, t4⟩ := hc 4 _ rfl
    obtain ⟨y5, n5, t5⟩ := hc 5 _ rfl
    obtain ⟨y6, n6, t6⟩ := hc 6 _ rfl
    obtain ⟨x0, e0, _⟩ := DataW.trod_int Try.underlying3 t0
    obtain ⟨x1, e1, _⟩ := DataW.trod_int Try.underlying42 t1
    obtain ⟨x2, e2, _⟩ := DataW.trod_int Try.underlying42 t2
    obtain ⟨x3, e3, _⟩ := DataW.trod_int Try.underlying42 t3
    obtain ⟨x4, e4, _⟩ := DataW.trod_int Try.underlying42 t4
    obtain ⟨x5, e5, _⟩ := DataW.trod_int Try.underlying3 t5
    obtain ⟨x6, e6, _⟩ := DataW.trod_int Try.underlying42 t6
    simp at e0 e1 e2 e3 e4 e5 e6
    subst e0 e1 e2 e3 e4 e5 e6
    exact ⟨⟨x0, x1, x2, x3, x4, x5, x6⟩, rfl⟩
theorem seg_of {H : Type} {enc : TypeId × Value → H} {w : World} {v : Value} {d : DataW H} {ps : List MemPlace} (hr : Value.okWide Try.prog w .any 0 52 v)
    (h : DataW.Trod enc Try.prog w 0 (fun _ => true) true 52 v d ps) : ∃ (t : TC) (o pv : Value) (l : List Int), v = .agg (enT t o pv) ∧ SlB w 0 pv l ∧ l.length ≤ maxLen ∧ ∀ x ∈ l, 0 ≤ x ∧ x ≤ 255 := by
  obtain ⟨cs, rfl, hlen, hc⟩ := open_struct1 Try.underlying52 (by kernel_rfl) (by kernel_rfl) hr h
  match cs, hlen with
  | [u0, u1, u2, u3, u4, u5, u6, u7, u8, u9], _ =>
    obtain ⟨y0, n0, t0⟩ := hc 0 _ rfl
    obtain ⟨y1, n1, t1⟩ := hc 1 _ rfl
    obtain ⟨y2, n2, t2⟩ := hc 2 _ rfl
    obtain ⟨y3, n3, t3⟩ := hc 3 _ rfl
    obtain ⟨y4, n4, t4⟩ := hc 4 _ rfl
    obtain ⟨y5, n5, t5⟩ := hc 5 _ rfl
    obtain ⟨y6, n6, t6⟩ := hc 6 _ rfl
    obtain ⟨y7, n7, t7⟩ := hc 7 _ rfl
    obtain ⟨y9, n9, t9⟩ := hc 9 _ rfl
    obtain ⟨x0, e0, _⟩ := DataW.trod_int Try.underlying3 t0
    obtain ⟨x1, e1, _⟩ := DataW.trod_int Try.underlying3 t1
    obtain ⟨x2, e2, _⟩ := DataW.trod_int Try.underlying42 t2
    obtain ⟨x3, e3, _⟩ := DataW.trod_int Try.underlying42 t3
    obtain ⟨x4, e4, _⟩ := DataW.trod_int Try.underlying3 t4
    obtain ⟨x5, e5, _⟩ := DataW.trod_int Try.underlying3 t5
    obtain ⟨x6, e6, _⟩ := DataW.trod_int Try.underlying3 t6
    obtain ⟨x7, e7, _⟩ := DataW.trod_int Try.underlying3 t7
    have t9' : DataW.trod enc Try.prog w 0 (fun _ => true) true n9 43 [u9] = some y9 := t9
    obtain ⟨A, cap, l, hv, hs, hm, hw⟩ := open_ints_cell Try.underlying43 Try.underlying5 (by kernel_rfl) t9'
    simp at e0 e1 e2 e3 e4 e5 e6 e7
    subst e0 e1 e2 e3 e4 e5 e6 e7
    exact ⟨⟨x0, x1, x2, x3, x4, x5, x6, x7⟩, u8, u9, l, rfl, hs, hm, fun x hx => bounds_u8 (hw x hx)⟩
theorem two_of {H : Type} {enc : TypeId × Value → H} {w : World} {v : Value} {d : DataW H} {ps : List MemPlace} (hr : Value.okWide Try.prog w .any 0 64 v)
    (h : DataW.Trod enc Try.prog w 0 (fun _ => true) true 64 v d ps) : ∃ a b : Int, v = .agg #[.int .u32 a, .int .u32 b] := by
  obtain ⟨cs, rfl, hlen, hc⟩ := open_array1 Try.underlying64 Try.underlying42 (by kernel_rfl) (by kernel_rfl) hr h
  match cs, hlen with
  | [u0, u1], _ =>
    obtain ⟨x0, e0, _⟩ := hc 0 (by omega)
    obtain ⟨x1, e1, _⟩ := hc 1 (by omega)
    simp at e0 e1
    subst e0 e1
    exact ⟨x0, x1, rfl⟩
end Go.Proofs.Ytelbaooifmkpkaa
