/-
  PLAIN: addresses of sixteen bytes, what they read as as keys, and '==' of two (XVAddr without its services). No condition.
-/
import Derived.Test.YtldgdpekhjignaaGreatMapV
import Derived.DeepKeys4
import Derived.DeepKeys
import Derived.MapViews
set_option linter.unusedVariables false
set_option linter.unusedSimpArgs false
namespace Go.Proofs.YtldgdpekhjignaaGreat
open Go.RowKit Go.Maps Go.WideMaps Go.WideShapes

/-- An address. -/
structure Ad where
  (a0 a1 a2 a3 a4 a5 a6 a7 a8 a9 a10 a11 a12 a13 a14 a15 : Int)
deriving DecidableEq, Inhabited
def Ad.l (A : Ad) : List Int := [A.a0, A.a1, A.a2, A.a3, A.a4, A.a5, A.a6, A.a7, A.a8, A.a9, A.a10, A.a11, A.a12, A.a13, A.a14, A.a15]
/-- Its value. -/
@[reducible] def Ad.v (A : Ad) : Value := .agg #[.int .u8 A.a0, .int .u8 A.a1, .int .u8 A.a2, .int .u8 A.a3, .int .u8 A.a4, .int .u8 A.a5, .int .u8 A.a6, .int .u8 A.a7, .int .u8 A.a8, .int .u8 A.a9, .int .u8 A.a10, .int .u8 A.a11, .int .u8 A.a12, .int .u8 A.a13, .int .u8 A.a14, .int .u8 A.a15]
@[reducible] def arrA (A : Ad) : Array Value := #[.int .u8 A.a0, .int .u8 A.a1, .int .u8 A.a2, .int .u8 A.a3, .int .u8 A.a4, .int .u8 A.a5, .int .u8 A.a6, .int .u8 A.a7, .int .u8 A.a8, .int .u8 A.a9, .int .u8 A.a10, .int .u8 A.a11, .int .u8 A.a12, .int .u8 A.a13, .int .u8 A.a14, .int .u8 A.a15]
def okA (A : Ad) : Prop := ∀ x ∈ A.l, (Lit.int .u8 x).wf = true
def encA (A : Ad) : List Value := A.l.map (Value.int .u8)
theorem Ad.v_eq (A : Ad) : A.v = .agg (encA A).toArray := rfl
theorem Ad.l_len (A : Ad) : A.l.length = 16 := rfl
theorem encA_len (A : Ad) : (encA A).length = 16 := rfl
theorem Ad.ext_l {A B : Ad} (h : A.l = B.l) : A = B := by
  cases A; cases B
  simpa [Ad.l] using h
theorem okA.at {A : Ad} (h : okA A) (i : Nat) (hi : i < 16) : 0 ≤ A.l[i]?.getD 0 ∧ A.l[i]?.getD 0 ≤ 255 := by
  have h1 : A.l[i]? = some (A.l[i]'(by rw [A.l_len]; exact hi)) := List.getElem?_eq_getElem _
  rw [h1]
  have h2 := h _ (List.getElem_mem (l := A.l) (n := i) (by rw [A.l_len]; exact hi))
  simp [Lit.wf, IntKind.min, IntKind.max, IntKind.signed, IntKind.bits] at h2
  simpa using h2
theorem Ad.v_inj {A B : Ad} (h : A.v = B.v) : A = B := by
  cases A; cases B
  simpa [Ad.v] using h
def litsA (A : Ad) : List Lit := A.l.map (Lit.int .u8)
theorem mapM_some {α β : Type} {f : α → Option β} {g : α → β} : ∀ (l : List α), (∀ x ∈ l, f x = some (g x)) → l.mapM f = some (l.map g)
  | [], _ => rfl
  | a :: l, h => by
    rw [List.mapM_cons, h a (by simp), mapM_some l (fun x hx => h x (by simp [hx]))]
    rfl
theorem keyLits_u8 {d : Nat} {x : Int} (h : (Lit.int .u8 x).wf = true) : Tryz.prog.keyLits (d + 1) 5 [.int .u8 x] = some [.int .u8 x] := by
  simp [Program.keyLits, Tryz.underlying5, h]
theorem keyLits_int {d : Nat} {x : Int} (h : (Lit.int .i64 x).wf = true) : Tryz.prog.keyLits (d + 1) 3 [.int .i64 x] = some [.int .i64 x] := by
  simp [Program.keyLits, Tryz.underlying3, h]
theorem keyLits_ad {d : Nat} {A : Ad} (h : okA A) : Tryz.prog.keyLits (d + 2) 36 (encA A) = some (litsA A) := by
  have hc : Tryz.prog.cellsOf 36 = 16 := by kernel_rfl
  have hc1 : Tryz.prog.cellsOf 5 = 1 := by kernel_rfl
  unfold Program.keyLits
  simp only [Tryz.underlying36]
  rw [if_pos (by rw [hc]; rfl), hc1]
  rw [mapM_some (g := fun i : Nat => [Lit.int .u8 (A.l[i]?.getD 0)])]
  · rfl
  · intro i hi
    have hi16 : i < 16 := by simpa using hi
    have h1 : ((encA A).drop (i * 1)).take 1 = [Value.int .u8 (A.l[i]?.getD 0)] := by
      have : i = 0 ∨ i = 1 ∨ i = 2 ∨ i = 3 ∨ i = 4 ∨ i = 5 ∨ i = 6 ∨ i = 7 ∨ i = 8 ∨ i = 9 ∨ i = 10 ∨ i = 11 ∨ i = 12 ∨ i = 13 ∨ i = 14 ∨ i = 15 := by omega
      rcases this with rfl | rfl | rfl | rfl | rfl | rfl | rfl | rfl | rfl | rfl | rfl | rfl | rfl | rfl | rfl | rfl <;> rfl
    rw [h1]
    refine keyLits_u8 ?_
    have h2 : A.l[i]? = some (A.l[i]'(by rw [A.l_len]; exact hi16)) := List.getElem?_eq_getElem _
    rw [h2]
    exact h _ (List.getElem_mem _)
theorem typesTwo : ∃ d, Tryz.prog.types.size + 1 = d + 3 := ⟨Tryz.prog.types.size - 2, by have : 2 ≤ Tryz.prog.types.size := of_decide_eq_true (by kernel_rfl); omega⟩
def keyA (A : Ad) : Lit := .string (keyBytes (litsA A))
theorem key_ad {A : Ad} (h : okA A) : keyOf Tryz.prog 36 A.v = some (keyA A) := by
  have hk : Tryz.prog.keyType 36 = true := by kernel_rfl
  have hc : Tryz.prog.cellsOf 36 = 16 := by kernel_rfl
  obtain ⟨d, hd⟩ := typesTwo
  unfold keyOf
  simp only [Tryz.underlying36]
  rw [if_pos (by simp [hk, Value.formed, Tryz.underlying36, hc]), hd]
  have := keyLits_ad (d := d + 1) h
  have e : A.v.cells.toList = encA A := rfl
  rw [e, this]; rfl
theorem laidOutV : laidOutB Tryz.prog = true := by kernel_rfl
theorem lawAd : KeyLaw Tryz.prog 36 := deep_law_laid laidOutV (m := 4) (by omega) (of_decide_eq_true (by kernel_rfl)) (by kernel_rfl) (by kernel_rfl)
theorem keyA_inj {A B : Ad} (hA : okA A) (hB : okA B) (h : keyA A = keyA B) : A = B :=
  Ad.v_inj (lawAd.inj (key_ad hA) (h ▸ key_ad hB))
/-- '==' of two addresses; of two services. -/
theorem eq_ad (w : World) {A B : Ad} (hA : okA A) (hB : okA B) : (Op.equalIn 10000 36 A.v B.v).run Tryz.prog w = .ok (decide (A = B)) w := by
  obtain ⟨r, hr, hi⟩ := run_equal_deep w (m := 4) (by omega) (k := 36) (by kernel_rfl) (by kernel_rfl) (key_ad hA) (key_ad hB)
  have e : r = decide (A = B) := by
    by_cases h : A = B
    · rw [decide_eq_true h]; exact hi.2 (by rw [h])
    · rw [decide_eq_false h]
      cases r with
      | false => rfl
      | true => exact absurd (keyA_inj hA hB (hi.1 rfl)) h
  rw [← e]; exact hr
theorem mapM_inv {α β : Type} {f : α → Option β} : ∀ {l : List α} {r : List β}, l.mapM f = some r → ∀ x ∈ l, ∃ y, f x = some y
  | [], r, _, x, hx => by simp at hx
  | a :: l, r, h, x, hx => by
    rw [List.mapM_cons] at h
    cases ha : f a with
    | none => rw [ha] at h; simp at h
    | some y =>
      rw [ha] at h
      cases hl : l.mapM f with
      | none => rw [hl] at h; simp at h
      | some r' =>
        rcases List.mem_cons.1 hx with rfl | hx
        · exact ⟨y, ha⟩
        · exact mapM_inv hl x hx
theorem keyLits_int_inv {d : Nat} {t : TypeId} {k : IntKind} (hu : Tryz.prog.underlying t = some (.int k)) {c : Value} {ls : List Lit} (h : Tryz.prog.keyLits (d + 1) t [c] = some ls) : ∃ x, c = .int k x ∧ (Lit.int k x).wf = true := by
  unfold Program.keyLits at h
  rw [hu] at h
  cases c <;> simp at h
  obtain ⟨⟨rfl, hw⟩, _⟩ := h
  exact ⟨_, rfl, hw⟩
set_option maxRecDepth 100000 in
theorem keyLits_ad_inv {d : Nat} {cs : List Value} {ls : List Lit} (h : Tryz.prog.keyLits (d + 2) 36 cs = some ls) (hl : cs.length = 16) : ∃ A : Ad, cs = encA A ∧ okA A := by
  have hc : Tryz.prog.cellsOf 36 = 16 := by kernel_rfl
  have hc1 : Tryz.prog.cellsOf 5 = 1 := by kernel_rfl
  unfold Program.keyLits at h
  simp only [Tryz.underlying36] at h
  rw [if_pos (by rw [hc, hl]), hc1] at h
  have key : ∀ i, i < 16 → ∃ x, cs[i]? = some (.int .u8 x) ∧ (Lit.int .u8 x).wf = true := by
    intro i hi
    have hj : ∃ r, ((List.range 16).mapM fun i => Tryz.prog.keyLits (d + 1) 5 ((cs.drop (i * 1)).take 1)) = some r := by
      cases e : ((List.range 16).mapM fun i => Tryz.prog.keyLits (d + 1) 5 ((cs.drop (i * 1)).take 1)) with
      | none => rw [e] at h; simp at h
      | some r => exact ⟨r, rfl⟩
    obtain ⟨r, hr⟩ := hj
    obtain ⟨y, hy⟩ := mapM_inv hr i (List.mem_range.2 hi)
    have h1 : (cs.drop (i * 1)).take 1 = [cs[i]'(by omega)] := by
      rw [Nat.mul_one, List.drop_eq_getElem_cons (by omega)]; rfl
    rw [h1] at hy
    obtain ⟨x, hx, hw⟩ := keyLits_int_inv Tryz.underlying5 hy
    exact ⟨x, by rw [List.getElem?_eq_getElem (by omega), hx], hw⟩
  clear h
  match cs, hl, key with
  | [c0, c1, c2, c3, c4, c5, c6, c7, c8, c9, c10, c11, c12, c13, c14, c15], _, key =>
    obtain ⟨x0, e0, w0⟩ := key 0 (by omega)
    obtain ⟨x1, e1, w1⟩ := key 1 (by omega)
    obtain ⟨x2, e2, w2⟩ := key 2 (by omega)
    obtain ⟨x3, e3, w3⟩ := key 3 (by omega)
    obtain ⟨x4, e4, w4⟩ := key 4 (by omega)
    obtain ⟨x5, e5, w5⟩ := key 5 (by omega)
    obtain ⟨x6, e6, w6⟩ := key 6 (by omega)
    obtain ⟨x7, e7, w7⟩ := key 7 (by omega)
    obtain ⟨x8, e8, w8⟩ := key 8 (by omega)
    obtain ⟨x9, e9, w9⟩ := key 9 (by omega)
    obtain ⟨x10, e10, w10⟩ := key 10 (by omega)
    obtain ⟨x11, e11, w11⟩ := key 11 (by omega)
    obtain ⟨x12, e12, w12⟩ := key 12 (by omega)
    obtain ⟨x13, e13, w13⟩ := key 13 (by omega)
    obtain ⟨x14, e14, w14⟩ := key 14 (by omega)
    obtain ⟨x15, e15, w15⟩ := key 15 (by omega)
    obtain rfl : c0 = .int .u8 x0 := Option.some.inj e0
    obtain rfl : c1 = .int .u8 x1 := Option.some.inj e1
    obtain rfl : c2 = .int .u8 x2 := Option.some.inj e2
    obtain rfl : c3 = .int .u8 x3 := Option.some.inj e3
    obtain rfl : c4 = .int .u8 x4 := Option.some.inj e4
    obtain rfl : c5 = .int .u8 x5 := Option.some.inj e5
    obtain rfl : c6 = .int .u8 x6 := Option.some.inj e6
    obtain rfl : c7 = .int .u8 x7 := Option.some.inj e7
    obtain rfl : c8 = .int .u8 x8 := Option.some.inj e8
    obtain rfl : c9 = .int .u8 x9 := Option.some.inj e9
    obtain rfl : c10 = .int .u8 x10 := Option.some.inj e10
    obtain rfl : c11 = .int .u8 x11 := Option.some.inj e11
    obtain rfl : c12 = .int .u8 x12 := Option.some.inj e12
    obtain rfl : c13 = .int .u8 x13 := Option.some.inj e13
    obtain rfl : c14 = .int .u8 x14 := Option.some.inj e14
    obtain rfl : c15 = .int .u8 x15 := Option.some.inj e15
    refine ⟨⟨x0, x1, x2, x3, x4, x5, x6, x7, x8, x9, x10, x11, x12, x13, x14, x15⟩, rfl, fun x hx => ?_⟩
    simp [Ad.l] at hx
    rcases hx with rfl | rfl | rfl | rfl | rfl | rfl | rfl | rfl | rfl | rfl | rfl | rfl | rfl | rfl | rfl | rfl <;> assumption
/-- The cells of an address in its block; of a service. -/
theorem cellsA {w : World} {g : Nat} {t : TypeId} {A : Ad} (h : Blk w g t (arrA A)) : w.cell? ⟨g, 0, none⟩ = some (.int .u8 A.a0) ∧ w.cell? ⟨g, 1, none⟩ = some (.int .u8 A.a1) ∧ w.cell? ⟨g, 2, none⟩ = some (.int .u8 A.a2) ∧ w.cell? ⟨g, 3, none⟩ = some (.int .u8 A.a3) ∧ w.cell? ⟨g, 4, none⟩ = some (.int .u8 A.a4) ∧ w.cell? ⟨g, 5, none⟩ = some (.int .u8 A.a5) ∧ w.cell? ⟨g, 6, none⟩ = some (.int .u8 A.a6) ∧ w.cell? ⟨g, 7, none⟩ = some (.int .u8 A.a7) ∧ w.cell? ⟨g, 8, none⟩ = some (.int .u8 A.a8) ∧ w.cell? ⟨g, 9, none⟩ = some (.int .u8 A.a9) ∧ w.cell? ⟨g, 10, none⟩ = some (.int .u8 A.a10) ∧ w.cell? ⟨g, 11, none⟩ = some (.int .u8 A.a11) ∧ w.cell? ⟨g, 12, none⟩ = some (.int .u8 A.a12) ∧ w.cell? ⟨g, 13, none⟩ = some (.int .u8 A.a13) ∧ w.cell? ⟨g, 14, none⟩ = some (.int .u8 A.a14) ∧ w.cell? ⟨g, 15, none⟩ = some (.int .u8 A.a15) :=
  ⟨h.cell 0, h.cell 1, h.cell 2, h.cell 3, h.cell 4, h.cell 5, h.cell 6, h.cell 7, h.cell 8, h.cell 9, h.cell 10, h.cell 11, h.cell 12, h.cell 13, h.cell 14, h.cell 15⟩
end Go.Proofs.YtldgdpekhjignaaGreat
