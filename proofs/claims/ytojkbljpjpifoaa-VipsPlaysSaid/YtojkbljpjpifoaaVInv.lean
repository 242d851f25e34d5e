/-
  PLAIN: what reads as a service's key is a service. No condition.
-/
import Derived.Test.YtojkbljpjpifoaaVPlain
set_option linter.unusedVariables false
set_option linter.unusedSimpArgs false
namespace Go.Proofs.Ytojkbljpjpifoaa
open Go.RowKit Go.Maps Go.WideShapes

theorem mapM_inv {α β : Type} {f : α → Option β} : ∀ {l : List α} {r : List β}, l.mapM f = some r → ∀ x ∈ l, ∃ y, f x = some y
  | [], r, _, x, hx => by simp at hx
  | a :: l, r, h, x, hx => by
    rw [List.mapM_cons] at h
    cases ha : f a with
    | none => rw [ha] at h; simp at h
    | some y =>
      rw [ha] at h
      cases hl : l.mapM f with
      | none => rw [hl] at h; simp at h
      | some r' =>
        rcases List.mem_cons.1 hx with rfl | hx
        · exact ⟨y, ha⟩
        · exact mapM_inv hl x hx
theorem keyLits_int_inv {d : Nat} {t : TypeId} {k : IntKind} (hu : Try.prog.underlying t = some (.int k)) {c : Value} {ls : List Lit} (h : Try.prog.keyLits (d + 1) t [c] = some ls) : ∃ x, c = .int k x ∧ (Lit.int k x).wf = true := by
  unfold Program.keyLits at h
  rw [hu] at h
  cases c <;> simp at h
  obtain ⟨⟨rfl, hw⟩, _⟩ := h
  exact ⟨_, rfl, hw⟩
set_option maxRecDepth 100000 in
theorem keyLits_ad_inv {d : Nat} {cs : List Value} {ls : List Lit} (h : Try.prog.keyLits (d + 2) 55 cs = some ls) (hl : cs.length = 16) : ∃ A : Ad, cs = encA A ∧ okA A := by
  have hc : Try.prog.cellsOf 55 = 16 := by kernel_rfl
  have hc1 : Try.prog.cellsOf 5 = 1 := by kernel_rfl
  unfold Program.keyLits at h
  simp only [Try.underlying55] at h
  rw [if_pos (by rw [hc, hl]), hc1] at h
  have key : ∀ i, i < 16 → ∃ x, cs[i]? = some (.int .u8 x) ∧ (Lit.int .u8 x).wf = true := by
    intro i hi
    have hj : ∃ r, ((List.range 16).mapM fun i => Try.prog.keyLits (d + 1) 5 ((cs.drop (i * 1)).take 1)) = some r := by
      cases e : ((List.range 16).mapM fun i => Try.prog.keyLits (d + 1) 5 ((cs.drop (i * 1)).take 1)) with
      | none => rw [e] at h; simp at h
      | some r => exact ⟨r, rfl⟩
    obtain ⟨r, hr⟩ := hj
    obtain ⟨y, hy⟩ := mapM_inv hr i (List.mem_range.2 hi)
    have h1 : (cs.drop (i * 1)).take 1 = [cs[i]'(by omega)] := by
      rw [Nat.mul_one, List.drop_eq_getElem_cons (by omega)]; rfl
    rw [h1] at hy
    obtain ⟨x, hx, hw⟩ := keyLits_int_inv Try.underlying5 hy
    exact ⟨x, by rw [List.getElem?_eq_getElem (by omega), hx], hw⟩
  clear h
  match cs, hl, key with
  | [c0, c1, c2, c3, c4, c5, c6, c7, c8, c9, c10, c11, c12, c13, c14, c15], _, key =>
    obtain ⟨x0, e0, w0⟩ := key 0 (by omega)
    obtain ⟨x1, e1, w1⟩ := key 1 (by omega)
    obtain ⟨x2, e2, w2⟩ := key 2 (by omega)
    obtain ⟨x3, e3, w3⟩ := key 3 (by omega)
    obtain ⟨x4, e4, w4⟩ := key 4 (by omega)
    obtain ⟨x5, e5, w5⟩ := key 5 (by omega)
    obtain ⟨x6, e6, w6⟩ := key 6 (by omega)
    obtain ⟨x7, e7, w7⟩ := key 7 (by omega)
    obtain ⟨x8, e8, w8⟩ := key 8 (by omega)
    obtain ⟨x9, e9, w9⟩ := key 9 (by omega)
    obtain ⟨x10, e10, w10⟩ := key 10 (by omega)
    obtain ⟨x11, e11, w11⟩ := key 11 (by omega)
    obtain ⟨x12, e12, w12⟩ := key 12 (by omega)
    obtain ⟨x13, e13, w13⟩ := key 13 (by omega)
    obtain ⟨x14, e14, w14⟩ := key 14 (by omega)
    obtain ⟨x15, e15, w15⟩ := key 15 (by omega)
    obtain rfl : c0 = .int .u8 x0 := Option.some.inj e0
    obtain rfl : c1 = .int .u8 x1 := Option.some.inj e1
    obtain rfl : c2 = .int .u8 x2 := Option.some.inj e2
    obtain rfl : c3 = .int .u8 x3 := Option.some.inj e3
    obtain rfl : c4 = .int .u8 x4 := Option.some.inj e4
    obtain rfl : c5 = .int .u8 x5 := Option.some.inj e5
    obtain rfl : c6 = .int .u8 x6 := Option.some.inj e6
    obtain rfl : c7 = .int .u8 x7 := Option.some.inj e7
    obtain rfl : c8 = .int .u8 x8 := Option.some.inj e8
    obtain rfl : c9 = .int .u8 x9 := Option.some.inj e9
    obtain rfl : c10 = .int .u8 x10 := Option.some.inj e10
    obtain rfl : c11 = .int .u8 x11 := Option.some.inj e11
    obtain rfl : c12 = .int .u8 x12 := Option.some.inj e12
    obtain rfl : c13 = .int .u8 x13 := Option.some.inj e13
    obtain rfl : c14 = .int .u8 x14 := Option.some.inj e14
    obtain rfl : c15 = .int .u8 x15 := Option.some.inj e15
    refine ⟨⟨x0, x1, x2, x3, x4, x5, x6, x7, x8, x9, x10, x11, x12, x13, x14, x15⟩, rfl, fun x hx => ?_⟩
    simp [Ad.l] at hx
    rcases hx with rfl | rfl | rfl | rfl | rfl | rfl | rfl | rfl | rfl | rfl | rfl | rfl | rfl | rfl | rfl | rfl <;> assumption
set_option maxRecDepth 100000 in
theorem key_sv_inv {t : TypeId} (ht : svTy t) {key : Value} {kl : Lit} (h : keyOf Try.prog t key = some kl) : ∃ S : Sv, key = S.v ∧ okS S ∧ kl = keyS S := by
  obtain ⟨f0, f1, hu, e0, o0, e1, o1, n0, n1, hk, hc⟩ := ht
  have hcA : Try.prog.cellsOf 55 = 16 := by kernel_rfl
  have hcI : Try.prog.cellsOf 3 = 1 := by kernel_rfl
  obtain ⟨d, hd⟩ := typesTwo
  have h0 := h
  unfold keyOf at h
  simp only [hu] at h
  split at h
  · next hf =>
    have hform : ∃ cs : Array Value, key = .agg cs ∧ cs.size = 17 := by
      rw [Bool.and_eq_true] at hf
      have := hf.2
      cases key <;> simp [Value.formed, hu, hc] at this
      exact ⟨_, rfl, this⟩
    obtain ⟨cs, rfl, hsz⟩ := hform
    have hcs : (Value.agg cs).cells.toList = cs.toList := rfl
    rw [hcs, hd] at h
    have hl : cs.toList.length = 17 := by simpa using hsz
    unfold Program.keyLits at h
    simp only [hu] at h
    rw [if_pos ⟨by rw [hc, hl], by simp [n0, n1]⟩] at h
    simp only [List.mapM_cons, List.mapM_nil, e0, e1, o0, o1, hcA, hcI] at h
    cases k0 : Try.prog.keyLits (d + 2) 55 ((cs.toList.drop 0).take 16) with
    | none => rw [k0] at h; simp at h
    | some l0 =>
      cases k1 : Try.prog.keyLits (d + 2) 3 ((cs.toList.drop 16).take 1) with
      | none => rw [k0, k1] at h; simp at h
      | some l1 =>
        obtain ⟨A, hA, okA'⟩ := keyLits_ad_inv k0 (by simp [hl])
        have h1 : (cs.toList.drop 16).take 1 = [cs.toList[16]'(by omega)] := by
          rw [List.drop_eq_getElem_cons (by omega)]; rfl
        rw [h1] at k1
        obtain ⟨p, hp, hw⟩ := keyLits_int_inv Try.underlying3 k1
        have hkey : Value.agg cs = (⟨A, p⟩ : Sv).v := by
          rw [Sv.v_eq]
          congr 1
          apply Array.ext'
          show cs.toList = encA A ++ [.int .i64 p]
          rw [← hA, ← hp, List.drop_zero, ← h1]
          rw [List.take_of_length_le (l := cs.toList.drop 16) (by simp [hl]), List.take_append_drop]
        refine ⟨⟨A, p⟩, hkey, ⟨okA', hw⟩, ?_⟩
        have h2 := key_sv (t := t) ⟨f0, f1, hu, e0, o0, e1, o1, n0, n1, hk, hc⟩ (S := ⟨A, p⟩) ⟨okA', hw⟩
        rw [← hkey, h0] at h2
        injection h2
  · cases h
end Go.Proofs.Ytojkbljpjpifoaa
