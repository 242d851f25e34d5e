/-
  PLAIN: addresses of sixteen bytes, services, what they read as as keys, and '==' of two. No condition.
-/
import Derived.Test.YtojkbljpjpifoaaMapO
import Derived.Test.YtojkbljpjpifoaaMapG
import Derived.DeepKeys4
import Derived.DeepKeys
import Derived.MapViews
set_option linter.unusedVariables false
set_option linter.unusedSimpArgs false
namespace Go.Proofs.Ytojkbljpjpifoaa
open Go.RowKit Go.Maps Go.WideMaps Go.WideShapes

/-- An address. -/
structure Ad where
  (a0 a1 a2 a3 a4 a5 a6 a7 a8 a9 a10 a11 a12 a13 a14 a15 : Int)
deriving DecidableEq, Inhabited
def Ad.l (A : Ad) : List Int := [A.a0, A.a1, A.a2, A.a3, A.a4, A.a5, A.a6, A.a7, A.a8, A.a9, A.a10, A.a11, A.a12, A.a13, A.a14, A.a15]
/-- Its value. -/
@[reducible] def Ad.v (A : Ad) : Value := .agg #[.int .u8 A.a0, .int .u8 A.a1, .int .u8 A.a2, .int .u8 A.a3, .int .u8 A.a4, .int .u8 A.a5, .int .u8 A.a6, .int .u8 A.a7, .int .u8 A.a8, .int .u8 A.a9, .int .u8 A.a10, .int .u8 A.a11, .int .u8 A.a12, .int .u8 A.a13, .int .u8 A.a14, .int .u8 A.a15]
@[reducible] def arrA (A : Ad) : Array Value := #[.int .u8 A.a0, .int .u8 A.a1, .int .u8 A.a2, .int .u8 A.a3, .int .u8 A.a4, .int .u8 A.a5, .int .u8 A.a6, .int .u8 A.a7, .int .u8 A.a8, .int .u8 A.a9, .int .u8 A.a10, .int .u8 A.a11, .int .u8 A.a12, .int .u8 A.a13, .int .u8 A.a14, .int .u8 A.a15]
def okA (A : Ad) : Prop := ∀ x ∈ A.l, (Lit.int .u8 x).wf = true
def encA (A : Ad) : List Value := A.l.map (Value.int .u8)
theorem Ad.v_eq (A : Ad) : A.v = .agg (encA A).toArray := rfl
theorem Ad.l_len (A : Ad) : A.l.length = 16 := rfl
theorem encA_len (A : Ad) : (encA A).length = 16 := rfl
theorem Ad.ext_l {A B : Ad} (h : A.l = B.l) : A = B := by
  cases A; cases B
  simpa [Ad.l] using h
theorem okA.at {A : Ad} (h : okA A) (i : Nat) (hi : i < 16) : 0 ≤ A.l[i]?.getD 0 ∧ A.l[i]?.getD 0 ≤ 255 := by
  have h1 : A.l[i]? = some (A.l[i]'(by rw [A.l_len]; exact hi)) := List.getElem?_eq_getElem _
  rw [h1]
  have h2 := h _ (List.getElem_mem (l := A.l) (n := i) (by rw [A.l_len]; exact hi))
  simp [Lit.wf, IntKind.min, IntKind.max, IntKind.signed, IntKind.bits] at h2
  simpa using h2
/-- A service. -/
structure Sv where
  ad : Ad
  port : Int
deriving DecidableEq, Inhabited
@[reducible] def Sv.v (S : Sv) : Value := .agg #[.int .u8 S.ad.a0, .int .u8 S.ad.a1, .int .u8 S.ad.a2, .int .u8 S.ad.a3, .int .u8 S.ad.a4, .int .u8 S.ad.a5, .int .u8 S.ad.a6, .int .u8 S.ad.a7, .int .u8 S.ad.a8, .int .u8 S.ad.a9, .int .u8 S.ad.a10, .int .u8 S.ad.a11, .int .u8 S.ad.a12, .int .u8 S.ad.a13, .int .u8 S.ad.a14, .int .u8 S.ad.a15, .int .i64 S.port]
@[reducible] def arrS (S : Sv) : Array Value := #[.int .u8 S.ad.a0, .int .u8 S.ad.a1, .int .u8 S.ad.a2, .int .u8 S.ad.a3, .int .u8 S.ad.a4, .int .u8 S.ad.a5, .int .u8 S.ad.a6, .int .u8 S.ad.a7, .int .u8 S.ad.a8, .int .u8 S.ad.a9, .int .u8 S.ad.a10, .int .u8 S.ad.a11, .int .u8 S.ad.a12, .int .u8 S.ad.a13, .int .u8 S.ad.a14, .int .u8 S.ad.a15, .int .i64 S.port]
def okS (S : Sv) : Prop := okA S.ad ∧ (Lit.int .i64 S.port).wf = true
def encS (S : Sv) : List Value := encA S.ad ++ [.int .i64 S.port]
theorem encS_len (S : Sv) : (encS S).length = 17 := rfl
theorem Sv.v_eq (S : Sv) : S.v = .agg (encS S).toArray := rfl
theorem Ad.v_inj {A B : Ad} (h : A.v = B.v) : A = B := by
  cases A; cases B
  simpa [Ad.v] using h
theorem Sv.v_inj {S T : Sv} (h : S.v = T.v) : S = T := by
  obtain ⟨A, p⟩ := S
  obtain ⟨B, q⟩ := T
  cases A; cases B
  simpa [Sv.v, and_assoc] using h

def litsA (A : Ad) : List Lit := A.l.map (Lit.int .u8)
theorem mapM_some {α β : Type} {f : α → Option β} {g : α → β} : ∀ (l : List α), (∀ x ∈ l, f x = some (g x)) → l.mapM f = some (l.map g)
  | [], _ => rfl
  | a :: l, h => by
    rw [List.mapM_cons, h a (by simp), mapM_some l (fun x hx => h x (by simp [hx]))]
    rfl
theorem keyLits_u8 {d : Nat} {x : Int} (h : (Lit.int .u8 x).wf = true) : Try.prog.keyLits (d + 1) 5 [.int .u8 x] = some [.int .u8 x] := by
  simp [Program.keyLits, Try.underlying5, h]
theorem keyLits_int {d : Nat} {x : Int} (h : (Lit.int .i64 x).wf = true) : Try.prog.keyLits (d + 1) 3 [.int .i64 x] = some [.int .i64 x] := by
  simp [Program.keyLits, Try.underlying3, h]
theorem keyLits_ad {d : Nat} {A : Ad} (h : okA A) : Try.prog.keyLits (d + 2) 55 (encA A) = some (litsA A) := by
  have hc : Try.prog.cellsOf 55 = 16 := by kernel_rfl
  have hc1 : Try.prog.cellsOf 5 = 1 := by kernel_rfl
  unfold Program.keyLits
  simp only [Try.underlying55]
  rw [if_pos (by rw [hc]; rfl), hc1]
  rw [mapM_some (g := fun i : Nat => [Lit.int .u8 (A.l[i]?.getD 0)])]
  · rfl
  · intro i hi
    have hi16 : i < 16 := by simpa using hi
    have h1 : ((encA A).drop (i * 1)).take 1 = [Value.int .u8 (A.l[i]?.getD 0)] := by
      have : i = 0 ∨ i = 1 ∨ i = 2 ∨ i = 3 ∨ i = 4 ∨ i = 5 ∨ i = 6 ∨ i = 7 ∨ i = 8 ∨ i = 9 ∨ i = 10 ∨ i = 11 ∨ i = 12 ∨ i = 13 ∨ i = 14 ∨ i = 15 := by omega
      rcases this with rfl | rfl | rfl | rfl | rfl | rfl | rfl | rfl | rfl | rfl | rfl | rfl | rfl | rfl | rfl | rfl <;> rfl
    rw [h1]
    refine keyLits_u8 ?_
    have h2 : A.l[i]? = some (A.l[i]'(by rw [A.l_len]; exact hi16)) := List.getElem?_eq_getElem _
    rw [h2]
    exact h _ (List.getElem_mem _)
theorem typesTwo : ∃ d, Try.prog.types.size + 1 = d + 3 := ⟨Try.prog.types.size - 2, by have : 2 ≤ Try.prog.types.size := of_decide_eq_true (by kernel_rfl); omega⟩
def keyA (A : Ad) : Lit := .string (keyBytes (litsA A))
theorem key_ad {A : Ad} (h : okA A) : keyOf Try.prog 55 A.v = some (keyA A) := by
  have hk : Try.prog.keyType 55 = true := by kernel_rfl
  have hc : Try.prog.cellsOf 55 = 16 := by kernel_rfl
  obtain ⟨d, hd⟩ := typesTwo
  unfold keyOf
  simp only [Try.underlying55]
  rw [if_pos (by simp [hk, Value.formed, Try.underlying55, hc]), hd]
  have := keyLits_ad (d := d + 1) h
  have e : A.v.cells.toList = encA A := rfl
  rw [e, this]; rfl
def keyS (S : Sv) : Lit := .string (keyBytes (litsA S.ad ++ [.int .i64 S.port]))
def svTy (t : TypeId) : Prop := ∃ f0 f1 : Field, Try.prog.underlying t = some (.struct #[f0, f1]) ∧ f0.type = 55 ∧ f0.offset = 0 ∧ f1.type = 3 ∧ f1.offset = 16 ∧ f0.name ≠ "_" ∧ f1.name ≠ "_" ∧ Try.prog.keyType t = true ∧ Try.prog.cellsOf t = 17
theorem svTy1 : svTy 72 := ⟨_, _, Try.underlying72, rfl, rfl, rfl, rfl, by decide, by decide, by kernel_rfl, by kernel_rfl⟩
theorem svTy2 : svTy 59 := ⟨_, _, Try.underlying59, rfl, rfl, rfl, rfl, by decide, by decide, by kernel_rfl, by kernel_rfl⟩
theorem key_sv {t : TypeId} (ht : svTy t) {S : Sv} (h : okS S) : keyOf Try.prog t S.v = some (keyS S) := by
  obtain ⟨f0, f1, hu, e0, o0, e1, o1, n0, n1, hk, hc⟩ := ht
  have hcA : Try.prog.cellsOf 55 = 16 := by kernel_rfl
  have hcI : Try.prog.cellsOf 3 = 1 := by kernel_rfl
  obtain ⟨d, hd⟩ := typesTwo
  unfold keyOf
  simp only [hu]
  rw [if_pos (by simp [hk, Value.formed, hu, hc]), hd]
  have e : S.v.cells.toList = encS S := rfl
  rw [e]
  unfold Program.keyLits
  simp only [hu]
  rw [if_pos ⟨by rw [hc]; rfl, by simp [n0, n1]⟩]
  have g0 : ((encS S).drop 0).take 16 = encA S.ad := rfl
  have g1 : ((encS S).drop 16).take 1 = [.int .i64 S.port] := rfl
  have k0 := keyLits_ad (d := d) h.1
  have k1 := keyLits_int (d := d + 1) h.2
  simp only [List.mapM_cons, List.mapM_nil, e0, e1, o0, o1, hcA, hcI, g0, g1]
  rw [show d + 2 = d + 1 + 1 from rfl] at *
  rw [k0, k1]
  simp [keyS]

theorem laidOutV : laidOutB Try.prog = true := by kernel_rfl
theorem lawAd : KeyLaw Try.prog 55 := deep_law_laid laidOutV (m := 4) (by omega) (of_decide_eq_true (by kernel_rfl)) (by kernel_rfl) (by kernel_rfl)
theorem lawSv : KeyLaw Try.prog 72 := deep_law_laid laidOutV (m := 4) (by omega) (of_decide_eq_true (by kernel_rfl)) (by kernel_rfl) (by kernel_rfl)
theorem lawSv2 : KeyLaw Try.prog 59 := deep_law_laid laidOutV (m := 4) (by omega) (of_decide_eq_true (by kernel_rfl)) (by kernel_rfl) (by kernel_rfl)
theorem lawS : Keyed Try.prog 72 := Keyed.of_law lawSv
theorem keyS_inj {S T : Sv} (hS : okS S) (hT : okS T) (h : keyS S = keyS T) : S = T :=
  Sv.v_inj (lawSv.inj (key_sv svTy1 hS) (h ▸ key_sv svTy1 hT))
theorem keyA_inj {A B : Ad} (hA : okA A) (hB : okA B) (h : keyA A = keyA B) : A = B :=
  Ad.v_inj (lawAd.inj (key_ad hA) (h ▸ key_ad hB))
/-- '==' of two addresses; of two services. -/
theorem eq_ad (w : World) {A B : Ad} (hA : okA A) (hB : okA B) : (Op.equalIn 10000 55 A.v B.v).run Try.prog w = .ok (decide (A = B)) w := by
  obtain ⟨r, hr, hi⟩ := run_equal_deep w (m := 4) (by omega) (k := 55) (by kernel_rfl) (by kernel_rfl) (key_ad hA) (key_ad hB)
  have e : r = decide (A = B) := by
    by_cases h : A = B
    · rw [decide_eq_true h]; exact hi.2 (by rw [h])
    · rw [decide_eq_false h]
      cases r with
      | false => rfl
      | true => exact absurd (keyA_inj hA hB (hi.1 rfl)) h
  rw [← e]; exact hr
theorem eq_sv (w : World) {S T : Sv} (hS : okS S) (hT : okS T) : (Op.equalIn 10000 72 S.v T.v).run Try.prog w = .ok (decide (S = T)) w := by
  obtain ⟨r, hr, hi⟩ := run_equal_deep w (m := 4) (by omega) (k := 72) (by kernel_rfl) (by kernel_rfl) (key_sv svTy1 hS) (key_sv svTy1 hT)
  have e : r = decide (S = T) := by
    by_cases h : S = T
    · rw [decide_eq_true h]; exact hi.2 (by rw [h])
    · rw [decide_eq_false h]
      cases r with
      | false => rfl
      | true => exact absurd (keyS_inj hS hT (hi.1 rfl)) h
  rw [← e]; exact hr
theorem eq_sv2 (w : World) {S T : Sv} (hS : okS S) (hT : okS T) : (Op.equalIn 10000 59 S.v T.v).run Try.prog w = .ok (decide (S = T)) w := by
  obtain ⟨r, hr, hi⟩ := run_equal_deep w (m := 4) (by omega) (k := 59) (by kernel_rfl) (by kernel_rfl) (key_sv svTy2 hS) (key_sv svTy2 hT)
  have e : r = decide (S = T) := by
    by_cases h : S = T
    · rw [decide_eq_true h]; exact hi.2 (by rw [h])
    · rw [decide_eq_false h]
      cases r with
      | false => rfl
      | true => exact absurd (keyS_inj hS hT (hi.1 rfl)) h
  rw [← e]; exact hr
/-- The cells of an address in its block; of a service. -/
theorem cellsA {w : World} {g : Nat} {t : TypeId} {A : Ad} (h : Blk w g t (arrA A)) : w.cell? ⟨g, 0, none⟩ = some (.int .u8 A.a0) ∧ w.cell? ⟨g, 1, none⟩ = some (.int .u8 A.a1) ∧ w.cell? ⟨g, 2, none⟩ = some (.int .u8 A.a2) ∧ w.cell? ⟨g, 3, none⟩ = some (.int .u8 A.a3) ∧ w.cell? ⟨g, 4, none⟩ = some (.int .u8 A.a4) ∧ w.cell? ⟨g, 5, none⟩ = some (.int .u8 A.a5) ∧ w.cell? ⟨g, 6, none⟩ = some (.int .u8 A.a6) ∧ w.cell? ⟨g, 7, none⟩ = some (.int .u8 A.a7) ∧ w.cell? ⟨g, 8, none⟩ = some (.int .u8 A.a8) ∧ w.cell? ⟨g, 9, none⟩ = some (.int .u8 A.a9) ∧ w.cell? ⟨g, 10, none⟩ = some (.int .u8 A.a10) ∧ w.cell? ⟨g, 11, none⟩ = some (.int .u8 A.a11) ∧ w.cell? ⟨g, 12, none⟩ = some (.int .u8 A.a12) ∧ w.cell? ⟨g, 13, none⟩ = some (.int .u8 A.a13) ∧ w.cell? ⟨g, 14, none⟩ = some (.int .u8 A.a14) ∧ w.cell? ⟨g, 15, none⟩ = some (.int .u8 A.a15) :=
  ⟨h.cell 0, h.cell 1, h.cell 2, h.cell 3, h.cell 4, h.cell 5, h.cell 6, h.cell 7, h.cell 8, h.cell 9, h.cell 10, h.cell 11, h.cell 12, h.cell 13, h.cell 14, h.cell 15⟩
theorem cellsS {w : World} {g : Nat} {t : TypeId} {S : Sv} (h : Blk w g t (arrS S)) : w.cell? ⟨g, 0, none⟩ = some (.int .u8 S.ad.a0) ∧ w.cell? ⟨g, 1, none⟩ = some (.int .u8 S.ad.a1) ∧ w.cell? ⟨g, 2, none⟩ = some (.int .u8 S.ad.a2) ∧ w.cell? ⟨g, 3, none⟩ = some (.int .u8 S.ad.a3) ∧ w.cell? ⟨g, 4, none⟩ = some (.int .u8 S.ad.a4) ∧ w.cell? ⟨g, 5, none⟩ = some (.int .u8 S.ad.a5) ∧ w.cell? ⟨g, 6, none⟩ = some (.int .u8 S.ad.a6) ∧ w.cell? ⟨g, 7, none⟩ = some (.int .u8 S.ad.a7) ∧ w.cell? ⟨g, 8, none⟩ = some (.int .u8 S.ad.a8) ∧ w.cell? ⟨g, 9, none⟩ = some (.int .u8 S.ad.a9) ∧ w.cell? ⟨g, 10, none⟩ = some (.int .u8 S.ad.a10) ∧ w.cell? ⟨g, 11, none⟩ = some (.int .u8 S.ad.a11) ∧ w.cell? ⟨g, 12, none⟩ = some (.int .u8 S.ad.a12) ∧ w.cell? ⟨g, 13, none⟩ = some (.int .u8 S.ad.a13) ∧ w.cell? ⟨g, 14, none⟩ = some (.int .u8 S.ad.a14) ∧ w.cell? ⟨g, 15, none⟩ = some (.int .u8 S.ad.a15) ∧ w.cell? ⟨g, 16, none⟩ = some (.int .i64 S.port) :=
  ⟨h.cell 0, h.cell 1, h.cell 2, h.cell 3, h.cell 4, h.cell 5, h.cell 6, h.cell 7, h.cell 8, h.cell 9, h.cell 10, h.cell 11, h.cell 12, h.cell 13, h.cell 14, h.cell 15, h.cell 16⟩
end Go.Proofs.Ytojkbljpjpifoaa
