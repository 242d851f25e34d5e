/-
  WALKS: chapter 19's example; ShiftMoves; ShiftRows. Condition: the tables read as integers.
-/
import Derived.Test.YtimnkcjpgglpdaaShiftTurned
set_option linter.unusedVariables false
set_option linter.unusedSimpArgs false
namespace Go.Proofs.Ytimnkcjpgglpdaa
open Go.RowKit

def t112 : List Int := [1, 1, 2]
def t122 : List Int := [1, 2, 2]
theorem rowsLit : IsRows (Mk t112 t122 3) [⟨1, 2, 1, 1⟩, ⟨2, 1, 2, 1⟩] := by
  have h := IsRows.of_nodes (was := t112) (is_ := t122) (k := 3) (ns := [1, 2]) (by decide) (fun n => by
    constructor
    · intro hn
      simp at hn
      rcases hn with rfl | rfl
      · exact ⟨by decide, .inl ((hadK_mem (by decide) (by decide)).2 (by decide))⟩
      · exact ⟨by decide, .inl ((hadK_mem (by decide) (by decide)).2 (by decide))⟩
    · rintro ⟨h0, h1 | h1⟩
      · have := (hadK_mem h0 (by decide)).1 h1
        simp [t112] at this; simp; omega
      · have := (hadK_mem h0 (by decide)).1 h1
        simp [t122] at this; simp; omega)
  exact h
theorem nats_of_u64 {l : List Int} (h : ∀ x ∈ l, (Lit.int .u64 x).wf = true) : ∃ hs : List Nat, hs.length = l.length ∧ l.map (Value.int .u64) = hs.map (fun h : Nat => Value.int .u64 (h : Int)) ∧ ∀ u ∈ hs, u < 18446744073709551616 := by
  refine ⟨l.map Int.toNat, by simp, ?_, fun u hu => ?_⟩
  · rw [List.map_map]
    refine List.map_congr_left fun x hx => ?_
    obtain ⟨u, e, _⟩ := nat_of_u64 (h x hx)
    subst e; simp
  · obtain ⟨x, hx, rfl⟩ := List.mem_map.1 hu
    obtain ⟨u, e, h2⟩ := nat_of_u64 (h x hx)
    subst e; simpa using h2
theorem rows_len {l l' : List Int} {L : List R4} {K : Nat} (h : IsRows (Mk l l' K) L) (h1 : l.length ≤ K) (h2 : l'.length ≤ K) : L.length ≤ l.length + l'.length := by
  have hn : (L.map R4.node).Nodup := h.1.imp (fun h => by omega)
  have := hn.length_le_of_subset (l₂ := l ++ l') fun x hx => by
    obtain ⟨r, hr, rfl⟩ := List.mem_map.1 hx
    have hm := (h.2 r).1 hr
    unfold Mk at hm
    split at hm
    · next hc =>
      rcases hc.2 with h3 | h3
      · exact List.mem_append.2 (.inl ((hadK_mem hc.1 h1).1 h3))
      · exact List.mem_append.2 (.inr ((hadK_mem hc.1 h2).1 h3))
    · cases hm
  simpa using this
theorem movedLit : movedF t112 t122 = 1 := by decide +kernel
theorem turnLit : turnK [1] [2] [0] [0].length = 1 := by decide +kernel

def mkC (l : List Int) : Obj := .cells (l.map (Value.int .i64)).toArray 3
theorem lit2 (w : World) (l l' : List Int) (hl : l.length ≤ 600) (hl' : l'.length ≤ 600) :
    SlZ ((w.alloc (mkC l)).alloc (mkC l')) w.heap.size (.slice (some ⟨w.heap.size, 0, none⟩) l.length l.length) l ∧
    SlZ ((w.alloc (mkC l)).alloc (mkC l')) (w.heap.size + 1) (.slice (some ⟨w.heap.size + 1, 0, none⟩) l'.length l'.length) l' := by
  refine ⟨(lit_Z (w := w) l hl).chg0 ((Chg.refl _ _).alloc _), ?_⟩
  have := lit_Z (w := w.alloc (mkC l)) l' hl'
  rw [World.size_alloc] at this
  exact this
theorem lit_U (w : World) (hs : List Nat) (hl : hs.length ≤ 600) : SlU (w.alloc (.cells (hs.map fun h : Nat => Value.int .u64 (h : Int)).toArray 23)) w.heap.size (.slice (some ⟨w.heap.size, 0, none⟩) hs.length hs.length) hs := by
  have := own_lit (base := w.heap.size) w 23 1 hs.length (hs.map fun h : Nat => Value.int .u64 (h : Int)).toArray (Nat.le_refl _) (by simp only [maxLen]; omega) (by simp)
  unfold SlU
  exact Sl.of_own (by simpa using this)

set_option maxRecDepth 100000 in
set_option maxHeartbeats 1000000 in
theorem lives19 (w : World) : Calls Try.prog 20 #[] w fun e w' => e = .returned (.bool true) ∧ Chg [] w w' := by
  have K1 := Lib.hid (show ∀ w : World, Calls Try.prog 21 #[.slice (some ⟨w.heap.size, 0, none⟩) 3 3, .slice (some ⟨w.heap.size + 1, 0, none⟩) 3 3] ((w.alloc (.cells #[.int .i64 1, .int .i64 1, .int .i64 2] 3)).alloc (.cells #[.int .i64 1, .int .i64 2, .int .i64 2] 3)) _ from
    fun w => rows_any (lit2 w t112 t122 (by decide) (by decide)).1 (lit2 w t112 t122 (by decide) (by decide)).2 (by decide) (by decide) (by decide) (by decide))
  have K2 := Lib.hid (show ∀ w : World, Calls Try.prog 23 #[.slice (some ⟨w.heap.size, 0, none⟩) 3 3, .slice (some ⟨w.heap.size + 1, 0, none⟩) 3 3] ((w.alloc (.cells #[.int .i64 1, .int .i64 1, .int .i64 2] 3)).alloc (.cells #[.int .i64 1, .int .i64 2, .int .i64 2] 3)) _ from
    fun w => moved_any (lit2 w t112 t122 (by decide) (by decide)).1 (lit2 w t112 t122 (by decide) (by decide)).2 (by decide) (by decide))
  have K3 := Lib.hid (show ∀ w : World, Calls Try.prog 25 #[.slice (some ⟨w.heap.size, 0, none⟩) 1 1, .slice (some ⟨w.heap.size + 1, 0, none⟩) 1 1, .slice (some ⟨w.heap.size + 1 + 1, 0, none⟩) 1 1] (((w.alloc (.cells #[.int .i64 1] 3)).alloc (.cells #[.int .i64 2] 3)).alloc (.cells #[.int .u64 0] 23)) _ from
    fun w => by
      have hu := lit_U ((w.alloc (mkC [1])).alloc (mkC [2])) [0] (by decide)
      rw [World.size_alloc, World.size_alloc] at hu
      exact turned_any (SlZ.chg0 (lit2 w [1] [2] (by decide) (by decide)).1 ((Chg.refl _ _).alloc _)) (SlZ.chg0 (lit2 w [1] [2] (by decide) (by decide)).2 ((Chg.refl _ _).alloc _)) hu (by decide) (by decide) (by decide) (by decide))
  rw [movedLit] at K2
  rw [turnLit] at K3
  go_enter Try.func20, Try.ntmps20
  go_wp2_with fail
  with_reducible refine (K1.out w).mono ?_
  rintro e w1 ⟨v2, L, rfl, hL, hS, hB1⟩
  obtain rfl := hL.one rowsLit
  obtain ⟨b, o, c, rfl, _, _, hx⟩ := Sl.rec encR_len (by omega) hS (i := 0) (x := ⟨1, 2, 1, 1⟩) rfl
  have g0 : w1.cell? ⟨b, o, none⟩ = some (.int .i64 1) := hx 0 (by omega)
  have g1 : w1.cell? ⟨b, o + 1, none⟩ = some (.int .i64 2) := hx 1 (by omega)
  have g2 : w1.cell? ⟨b, o + 2, none⟩ = some (.int .i64 1) := hx 2 (by omega)
  have g3 : w1.cell? ⟨b, o + 3, none⟩ = some (.int .i64 1) := hx 3 (by omega)
  have hd1 : Chg [] w w1 := ((Chg.refl [] w).alloc _ |>.alloc _).trans (Chg.of_below hB1)
  clear K1 hL hS hB1 hx
  go_wp2_with fail
  with_reducible refine (K2.out w1).mono ?_
  rintro e w2 ⟨rfl, d, rfl⟩
  have hd2 := ((hd1.alloc (.cells #[.int .i64 1, .int .i64 1, .int .i64 2] 3)).alloc (.cells #[.int .i64 1, .int .i64 2, .int .i64 2] 3)).drewN d
  clear hd1 g0 g1 g2 g3 K2
  generalize ((w1.alloc (.cells #[.int .i64 1, .int .i64 1, .int .i64 2] 3)).alloc (.cells #[.int .i64 1, .int .i64 2, .int .i64 2] 3)).drewN d = w3 at *
  go_wp2_with fail
  with_reducible refine (K3.out w3).mono ?_
  rintro e w4 ⟨rfl, hc4⟩
  have hd4 := (((hd2.alloc _).alloc _).alloc _).trans hc4
  clear K3 hc4 hd2
  go_wp2_with fail
  go_ret
  exact ⟨rfl, hd4⟩

set_option maxRecDepth 100000 in
set_option maxHeartbeats 1000000 in
theorem shiftMoves_any {w : World} {B B' B2 : Nat} {v v' v2 : Value} {l l' : List Int} {hs : List Nat} (h : SlZ w B v l) (h' : SlZ w B' v' l') (h2 : SlU w B2 v2 hs) (hu : ∀ u ∈ hs, u < 18446744073709551616)
    (hm : l.length ≤ maxLen) (hm' : l'.length ≤ maxLen) (hm2 : hs.length ≤ maxLen) :
    Calls Try.prog 7 #[v, v', v2] w fun e w' => e = .returned (.bool true) ∧ Chg [] w w' := by
  have K0 := Lib.hid lives19
  obtain ⟨A1, c1, rfl⟩ := Sl.form h
  obtain ⟨A2, c2, rfl⟩ := Sl.form h'
  obtain ⟨A3, c3, rfl⟩ := Sl.form h2
  by_cases hb : l.length ≤ 200 ∧ l'.length ≤ 200 ∧ hs.length ≤ 50
  · obtain ⟨hl, hl', hh⟩ := hb
    have F1 := Lib.hid (moved_any h h' hl hl')
    have F2 := Lib.hid (fun w1 (hc : Chg [] w w1) => moved19_any (w := w1) (h.chg0 hc) (h'.chg0 hc) hl hl')
    have F3 := Lib.hid (fun w1 (hc : Chg [] w w1) => turned_any (w := w1) (h.chg0 hc) (h'.chg0 hc) (show SlU w1 B2 _ hs from Sl.chg0 h2 hc) hl hl' hh hu)
    have F4 := Lib.hid (fun w1 (hc : Chg [] w w1) => turned19_any (w := w1) (h.chg0 hc) (h'.chg0 hc) (show SlU w1 B2 _ hs from Sl.chg0 h2 hc) hl hl' hh hu)
    clear h h' h2 hm hm' hm2 hu
    generalize turnK l l' hs hs.length = t at *
    generalize movedF l l' = mv at *
    generalize l.length = n at *
    generalize l'.length = m at *
    generalize hs.length = q at *
    have hn1 : ¬ (200 < n) := by omega
    have hn2 : ¬ (200 < m) := by omega
    have hn3 : ¬ (50 < q) := by omega
    go_enter Try.func7, Try.ntmps7
    go_wp2_with fail
    refine F1.out.mono ?_
    rintro e w1 ⟨rfl, d, rfl⟩
    have hd1 : Chg [] w (w.drewN d) := (Chg.refl _ _).drewN d
    have G2 := Lib.hid (F2.out _ hd1)
    clear F1 F2
    generalize w.drewN d = w1 at *
    go_wp2_with fail
    refine G2.out.mono ?_
    rintro e w2 ⟨rfl, d, rfl⟩
    have hd2 := hd1.drewN d
    have G3 := Lib.hid (F3.out _ hd2)
    clear G2 F3 hd1
    generalize w1.drewN d = w2 at *
    go_wp2_with fail
    refine G3.out.mono ?_
    rintro e w3 ⟨rfl, hc3⟩
    have hd3 := hd2.trans hc3
    have G4 := Lib.hid (F4.out _ hd3)
    clear G3 F4 hd2 hc3
    go_wp2_with fail
    refine G4.out.mono ?_
    rintro e w4 ⟨rfl, hc4⟩
    have hd4 := hd3.trans hc4
    clear G4 hd3 hc4
    go_wp2_with fail
    refine (K0.out _).mono ?_
    rintro e w5 ⟨rfl, hc5⟩
    go_wp2_with fail
    go_ret
    exact ⟨rfl, hd4.trans hc5⟩
  · clear h h' h2 hm hm' hm2 hu
    generalize l.length = n at *
    generalize l'.length = m at *
    generalize hs.length = q at *
    rcases (show 200 < n ∨ (¬ 200 < n ∧ 200 < m) ∨ (¬ 200 < n ∧ ¬ 200 < m ∧ 50 < q) by omega) with h1 | ⟨h1, h2⟩ | ⟨h1, h2, h3⟩
    all_goals
      clear hb
      go_enter Try.func7, Try.ntmps7
      go_wp2_with fail
      refine (K0.out _).mono ?_
      rintro e w5 ⟨rfl, hc5⟩
      go_wp2_with fail
      go_ret
      exact ⟨rfl, hc5⟩

set_option maxRecDepth 100000 in
set_option maxHeartbeats 1000000 in
theorem shiftRows_any {w : World} {B B' : Nat} {v v' : Value} {l l' : List Int} (h : SlZ w B v l) (h' : SlZ w B' v' l') (hwz : ∀ x ∈ l, (Lit.int .i64 x).wf = true) (hwz' : ∀ x ∈ l', (Lit.int .i64 x).wf = true) :
    Calls Try.prog 6 #[v, v'] w fun e w' => e = .returned (.bool true) ∧ Chg [] w w' := by
  have K0 := Lib.hid lives19
  obtain ⟨A1, c1, rfl⟩ := Sl.form h
  obtain ⟨A2, c2, rfl⟩ := Sl.form h'
  by_cases hb : l.length ≤ 200 ∧ l'.length ≤ 200
  · obtain ⟨hl, hl'⟩ := hb
    have F1 := Lib.hid (rows_any h h' hl hl' hwz hwz')
    have F2 := Lib.hid (fun w1 (hc : Chg [] w w1) => rows19_any (w := w1) (h.chg0 hc) (h'.chg0 hc) hl hl')
    have HLen := Lib.hid (fun L (hL : IsRows (Mk l l' (max l.length l'.length)) L) => rows_len hL (by omega) (by omega))
    clear h h' hwz hwz'
    generalize max l.length l'.length = K at *
    generalize l.length = n at *
    generalize l'.length = m at *
    have hn1 : ¬ (200 < n) := by omega
    have hn2 : ¬ (200 < m) := by omega
    go_enter Try.func6, Try.ntmps6
    go_wp2_with fail
    refine F1.out.mono ?_
    rintro e w1 ⟨v1, L, rfl, hL, hS1, hB1⟩
    have hd1 : Chg [] w w1 := Chg.of_below hB1
    have G2 := Lib.hid (F2.out _ hd1)
    clear F1 F2
    go_wp2_with fail
    refine G2.out.mono ?_
    rintro e w2 ⟨v2, L', rfl, hL', hS2, hB2⟩
    obtain rfl := hL.one hL'
    have hlen := HLen.out _ hL
    have hc2 : Chg [] w1 w2 := Chg.of_below hB2
    have hS1' : SlR w2 w.heap.size v1 L := Sl.chg0 hS1 hc2
    have hd2 := hd1.trans hc2
    clear hL hL' hS1 hB1 hB2 hd1 hc2 G2
    obtain ⟨A3, c3, rfl⟩ := Sl.form hS1'
    obtain ⟨A4, c4, rfl⟩ := Sl.form hS2
    have H1 := Lib.hid (fun i x (hx : L[i]? = some x) => Sl.rec encR_len (by omega) hS1' hx)
    have H2 := Lib.hid (fun i x (hx : L[i]? = some x) => Sl.rec encR_len (by omega) hS2 hx)
    clear hS1' hS2
    generalize hq : L.length = q at *
    go_wp2_with fail
    go_loopw [7] (fun iv wr => ∃ k : Nat, k ≤ q ∧ iv = .int .i64 k ∧ ∃ d, wr = w2.drewN d) (fun iv _ => q - (intOf iv).toNat)
    case atStart => exact ⟨0, by omega, rfl, 0, rfl⟩
    case round =>
      obtain ⟨k, hk, rfl, d, rfl⟩ := hrel
      by_cases hlt : k < q
      · have hx : L[k]? = some (L[k]'(by omega)) := List.getElem?_eq_getElem _
        generalize L[k]'(by omega) = x at hx
        obtain ⟨b, o, c', hv, _, _, hg⟩ := H1.out k x hx
        obtain ⟨b', o', c'', hv', _, _, hg'⟩ := H2.out k x hx
        simp only [Value.slice.injEq, true_and] at hv hv'
        obtain ⟨rfl, rfl⟩ := hv
        obtain ⟨rfl, rfl⟩ := hv'
        obtain ⟨xn, xh, xs, xk⟩ := x
        have hcd := (Chg.refl [] w2).drewN d
        have a0 := hcd.cell (show w2.cell? ⟨b, o + k * 4, none⟩ = some (.int .i64 xn) from hg 0 (by omega)) (by simp)
        have a1 := hcd.cell (show w2.cell? ⟨b, o + k * 4 + 1, none⟩ = some (.int .i64 xh) from hg 1 (by omega)) (by simp)
        have a2 := hcd.cell (show w2.cell? ⟨b, o + k * 4 + 2, none⟩ = some (.int .i64 xs) from hg 2 (by omega)) (by simp)
        have a3 := hcd.cell (show w2.cell? ⟨b, o + k * 4 + 3, none⟩ = some (.int .i64 xk) from hg 3 (by omega)) (by simp)
        have b0 := hcd.cell (show w2.cell? ⟨b', o' + k * 4, none⟩ = some (.int .i64 xn) from hg' 0 (by omega)) (by simp)
        have b1 := hcd.cell (show w2.cell? ⟨b', o' + k * 4 + 1, none⟩ = some (.int .i64 xh) from hg' 1 (by omega)) (by simp)
        have b2 := hcd.cell (show w2.cell? ⟨b', o' + k * 4 + 2, none⟩ = some (.int .i64 xs) from hg' 2 (by omega)) (by simp)
        have b3 := hcd.cell (show w2.cell? ⟨b', o' + k * 4 + 3, none⟩ = some (.int .i64 xk) from hg' 3 (by omega)) (by simp)
        have hdd : Hid (∀ q, (w2.drewN d).drewN q = w2.drewN (d + q)) := Lib.hid fun q => World.drewN_drewN _ _ _
        have hki : (k : Int) < (q : Int) := by omega
        clear H1 H2 hg hg' hx hcd
        generalize w2.drewN d = wd at *
        go_wp2_with fail
        go_quiet (fail)
        go_wp2_with fail
        go_roundw
        case rel => exact ⟨k + 1, by omega, by go_num, _, hdd.out _⟩
        case measure => simp [intOf]; omega
      · obtain rfl : k = q := by omega
        have hd3 := hd2.drewN d
        clear H1 H2
        generalize w2.drewN d = wd at *
        go_wp2_with fail
        refine (K0.out _).mono ?_
        rintro e w5 ⟨rfl, hc5⟩
        go_wp2_with fail
        go_ret
        exact ⟨rfl, hd3.trans hc5⟩
  · clear h h' hwz hwz'
    generalize l.length = n at *
    generalize l'.length = m at *
    rcases (show 200 < n ∨ (¬ 200 < n ∧ 200 < m) by omega) with h1 | ⟨h1, h2⟩
    all_goals
      clear hb
      go_enter Try.func6, Try.ntmps6
      go_wp2_with fail
      refine (K0.out _).mono ?_
      rintro e w5 ⟨rfl, hc5⟩
      go_wp2_with fail
      go_ret
      exact ⟨rfl, hc5⟩
end Go.Proofs.Ytimnkcjpgglpdaa
