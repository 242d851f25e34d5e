/-
  WALKS: the document's answer of chapter 36: its backends in memory, one looked for, one more, one less. Condition: at most 300 calls were made.
-/
import Derived.Test.YtgbdbeaflilmlaaHealthS
import Derived.Test.YtgbdbeaflilmlaaCut
set_option linter.unusedVariables false
set_option linter.unusedSimpArgs false
namespace Go.Proofs.Ytgbdbeaflilmlaa
open Go.RowKit Go.Maps

def encR (b : BK) : List Value := [.int .i64 b.node, .bool b.up, .bool b.opn, .int .i64 b.seq, .int .i64 b.due, .int .i64 b.failed, .int .i64 b.risen]
@[reducible] def arrR (b : BK) : Array Value := #[.int .i64 b.node, .bool b.up, .bool b.opn, .int .i64 b.seq, .int .i64 b.due, .int .i64 b.failed, .int .i64 b.risen]
theorem encR_len (x : BK) : (encR x).length = 7 := rfl
theorem encR_one (x : BK) : ∀ u ∈ encR x, u.oneCell' = true := by intro u hu; simp [encR] at hu; rcases hu with rfl | rfl | rfl | rfl | rfl | rfl | rfl <;> rfl
theorem elR : El Try.prog 39 46 (.agg #[.int .i64 0, .bool false, .bool false, .int .i64 0, .int .i64 0, .int .i64 0, .int .i64 0]) 7 48 := ⟨Try.underlying39, by kernel_rfl, rfl, by omega⟩
theorem infR {x : BK} : (Try.prog.info? 46).map (·.size) = some (arrR x).size := by
  show _ = some 7
  kernel_rfl
theorem infRC {now : Int} {v : Value} : (Try.prog.info? 41).map (·.size) = some (#[Value.int .i64 now, v] : Array Value).size := by
  show _ = some 2
  kernel_rfl
def SlR (w : World) (v : Value) (l : List BK) : Prop := Sl w 0 7 v l.length (l.flatMap encR)
def OwR (w : World) (v : Value) (l : List BK) : Prop := w.ownsRow 0 46 7 v l.length (l.flatMap encR)
theorem OwR.sl {w : World} {v : Value} {l : List BK} (h : OwR w v l) : SlR w v l := Sl.of_own h
theorem SlR.chg0 {w w' : World} {v : Value} {l : List BK} (h : SlR w v l) (hc : Chg [] w w') : SlR w' v l := Sl.chg0 h hc
theorem SlR.one {w : World} {A : Option Addr} {n c : Nat} {l : List BK} (h : SlR w (.slice A n c) l) (hn : l.length = n) {i : Nat} {x : BK} (hx : l[i]? = some x) :
    ∃ b o, A = some ⟨b, o, none⟩ ∧ w.rangeAt b (o + i * 7) (arrR x).toList := by
  obtain ⟨b, o, c', hv, _, _, hc⟩ := Sl.rec encR_len (by omega) h hx
  simp only [Value.slice.injEq] at hv
  obtain ⟨rfl, _, _⟩ := hv
  refine ⟨b, o, rfl, fun j u hu => ?_⟩
  have hj : j < 7 := by have := (List.getElem?_eq_some_iff.1 hu).1; exact this
  rw [Nat.add_assoc, hc j hj]
  exact hu
/-- Behind a call of the document's answer. -/
structure RefTo (w : World) (v : Value) (l' : List BK) (v' : Value) (w' : World) : Prop where
  row : OwR w' v' l'
  chg : Chg [] w w'
  new : ∀ x ∈ v'.ownBlock.toList, x ∈ v.ownBlock.toList ∨ w.heap.size ≤ x
theorem RefTo.same {w w' : World} {v : Value} {l : List BK} (h : OwR w v l) (hc : Chg [] w w') : RefTo w v l v w' := ⟨own_chg h hc (by simp), hc, fun x hx => .inl hx⟩

set_option maxRecDepth 100000 in
set_option maxHeartbeats 1000000 in
/-- Looked for: at i, where all before it are others. -/
theorem rfind_any {w : World} {v : Value} {l : List BK} (now n : Int) (h : SlR w v l) (hl : l.length ≤ 300) {r : Int} (hr : (r = -1 ∧ ∀ x ∈ l, x.node ≠ n) ∨ (∃ (i : Nat) (x : BK), r = (i : Int) ∧ l[i]? = some x ∧ x.node = n ∧ ∀ (j : Nat) (y : BK), j < i → l[j]? = some y → y.node ≠ n)) :
    Calls Try.prog 17 #[.agg #[.int .i64 now, v], .int .i64 n] w fun e w' => e = .returned (.int .i64 r) ∧ Chg [] w w' := by
  obtain ⟨A, c, rfl⟩ := Sl.form h
  have hA := (Chg.refl [] w).alloc (.cells #[.int .i64 now, .slice A l.length c] 41)
  have hB : Blk (w.alloc (.cells #[.int .i64 now, .slice A l.length c] 41)) w.heap.size 41 #[.int .i64 now, .slice A l.length c] := Blk.new _ _ _
  have HB := Lib.hid (fun W (hc : Chg [] (w.alloc (.cells #[.int .i64 now, .slice A l.length c] 41)) W) => (show W.cell? ⟨w.heap.size, 1, none⟩ = some (.slice A l.length c) from (hB.chg hc (by simp)).cell 1))
  have HO := Lib.hid (fun W (hc : Chg [] (w.alloc (.cells #[.int .i64 now, .slice A l.length c] 41)) W) i x hx => SlR.one (h.chg0 (hA.trans hc)) rfl (i := i) (x := x) hx)
  have HX : Hid (∀ i, i < l.length → ∃ x, l[i]? = some x) := Lib.hid fun i hi => ⟨_, List.getElem?_eq_getElem hi⟩
  have HR := Lib.hid hr
  have HM : Hid (∀ i x, l[i]? = some x → x ∈ l ∧ i < l.length) := Lib.hid fun i x hx => ⟨List.mem_of_getElem? hx, (List.getElem?_eq_some_iff.1 hx).1⟩
  have HA := Lib.hid hA
  clear h hr hA hB
  generalize hN : l.length = N at *
  go_enter Try.func17, Try.ntmps17
  go_wp2_with fail
  generalize w.alloc (.cells #[.int .i64 now, .slice A N c] 41) = w1 at *
  go_loopw [5] (fun iv wr => ∃ k : Nat, k ≤ N ∧ iv = .int .i64 k ∧ Hid (∀ (j : Nat) (y : BK), j < k → l[j]? = some y → y.node ≠ n) ∧ Chg [] w1 wr) (fun iv _ => N - (intOf iv).toNat)
  case atStart => exact ⟨0, by omega, rfl, Lib.hid (fun j y hj => by omega), Chg.refl _ _⟩
  case round =>
    obtain ⟨k, hk, rfl, HE, hcw⟩ := hrel
    have cB := HB.out wr hcw
    by_cases hlt : k < N
    · obtain ⟨x, hx⟩ := HX.out k hlt
      obtain ⟨b, o, rfl, hrg⟩ := HO.out wr hcw k x hx
      have g0 := hrg 0 (.int .i64 x.node) rfl
      rw [Nat.add_zero] at g0
      clear hrg
      by_cases hxn : x.node = n
      · have hb : (x.node == n) = true := by simp [hxn]
        have hrk : r = (k : Int) := by
          rcases HR.out with ⟨rfl, h2⟩ | ⟨i, y, rfl, hi, hy, hj⟩
          · exact absurd hxn (h2 x (HM.out k x hx).1)
          · rcases Nat.lt_trichotomy i k with h3 | h3 | h3
            · exact absurd hy (HE.out i y h3 hi)
            · rw [h3]
            · exact absurd hxn (hj k x h3 hx)
        clear hx hxn HR
        go_wp2_with fail
        go_ret
        exact ⟨by rw [hrk]; rfl, HA.out.trans hcw⟩
      · have hb : (x.node == n) = false := by simp [hxn]
        have HE1 : Hid (∀ (j : Nat) (y : BK), j < k + 1 → l[j]? = some y → y.node ≠ n) := Lib.hid fun j y hj hy => by
          by_cases e : j = k
          · subst e; rw [hx] at hy; cases hy; exact hxn
          · exact HE.out j y (by omega) hy
        clear hx hxn HR
        go_wp2_with fail
        go_roundw
        case rel => exact ⟨k + 1, by omega, by go_num, HE1, hcw⟩
        case measure => simp [intOf]; omega
    · obtain rfl : k = N := by omega
      have hrk : r = -1 := by
        rcases HR.out with ⟨rfl, _⟩ | ⟨i, y, rfl, hi, hy, hj⟩
        · rfl
        · exact absurd hy (HE.out i y (by have := (HM.out i y hi).2; omega) hi)
      clear HR
      go_wp2_with fail
      go_ret
      exact ⟨by rw [hrk]; rfl, HA.out.trans hcw⟩
end Go.Proofs.Ytgbdbeaflilmlaa
