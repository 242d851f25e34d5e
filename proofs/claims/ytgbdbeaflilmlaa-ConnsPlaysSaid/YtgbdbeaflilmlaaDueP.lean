/-
  WALKS: heap.Push, heap.Pop, heap.Init at the queue's items. Condition: a queue is at most 2900 items.
-/
import Derived.Test.YtgbdbeaflilmlaaDueQ
import Derived.Test.YtgbdbeaflilmlaaCut
set_option linter.unusedVariables false
set_option linter.unusedSimpArgs false
namespace Go.Proofs.Ytgbdbeaflilmlaa
open Go.RowKit

/-- The queue changed: it holds l' now, in order. -/
def Turned (w : World) (q : Nat) (vs : Value) (sq : Int) (P : List It → Prop) (w' : World) : Prop :=
  ∃ vs' l', QR w' q vs' sq l' ∧ Heap.OK ltI l' ∧ P l' ∧ Chg (footQ q vs) w w' ∧ ∀ x ∈ footQ q vs', x ∈ footQ q vs ∨ w.heap.size ≤ x

theorem QR.len_le {w : World} {q : Nat} {vs : Value} {sq : Int} {l : List It} (h : QR w q vs sq l) : l.length = l.length := rfl
set_option maxRecDepth 100000 in
set_option maxHeartbeats 1000000 in
theorem hpush_any {w : World} {q : Nat} {vs : Value} {sq : Int} {l : List It} (h : QR w q vs sq l) (hok : Heap.OK ltI l) (hl : l.length ≤ 2900) (x : It) :
    Calls Try.prog 98 #[.iface 160 (.pointer (some ⟨q, 1, none⟩)), .iface 162 x.v] w fun e w' => e = .returned (.tuple #[]) ∧ Turned w q vs sq (fun l' => l'.Perm (x :: l)) w' := by
  have F1 := Lib.hid (ipush_any h (by omega) x)
  have m1 := mPush q w
  have HOK := Lib.hid hok
  clear h hok
  go_enter Try.func98, Try.ntmps98
  go_wp2_with fail
  refine F1.out.mono ?_
  rintro e w1 ⟨rfl, vs1, hq1, hc1, hf1⟩
  have hne : l ++ [x] ≠ [] := by simp
  obtain ⟨g, cap, rfl, hq⟩ := hq1.hq hne
  have hu := Heap.Up.push HOK.out x
  have c1 : w1.cell? ⟨q, 1, none⟩ = some (.slice (some ⟨g, 0, none⟩) (l ++ [x]).length cap) := hq.blk.cell 1
  have m2 := mLen c1
  have F2 := Lib.hid (iLen_any g (l ++ [x]).length cap w1)
  have hlen : (l ++ [x]).length = l.length + 1 := by simp
  have F3 := Lib.hid (up_any hq hu (by omega) (by omega))
  have H1 := Lib.hid hq
  have HF := Lib.hid (And.intro hc1 hf1)
  clear F1 m1 hq1 hc1 hf1 hne hq hu c1 HOK
  rw [hlen] at m2 F2
  have HL := Lib.hid hlen
  clear hlen
  have hw1 : ((l.length + 1 : Nat) : Int) - 1 = (l.length : Int) := by omega
  go_wp2_with fail
  refine F2.out.mono ?_
  rintro e w2 ⟨rfl, rfl⟩
  clear F2 m2
  go_wp2_with fail
  refine F3.out.mono ?_
  rintro e w3 ⟨rfl, l', hq3, hok3, hp3, hc3⟩
  clear F3
  go_wp2_with fail
  go_end0
  have hq4 := hq3.qr
  have hl3 : l'.length = (l ++ [x]).length := hp3.length_eq
  refine ⟨rfl, _, l', hq4, hok3, hp3.trans (List.perm_append_comm.trans (by simp)), HF.out.1.trans' hc3 (fun y hy => by
    simp at hy; subst hy
    exact HF.out.2 _ (by simp [footQ, Value.ownBlock])), fun y hy => HF.out.2 y (by simpa [footQ, Value.ownBlock] using hy)⟩

set_option maxRecDepth 100000 in
set_option maxHeartbeats 1000000 in
theorem ipop_any {w : World} {q g c cap n : Nat} {sq : Int} {l : List It} (h : HQ w q g c cap sq l) (hn : l.length = n + 1) (hl : l.length ≤ 3000) {x : It} (hx : l[n]? = some x) :
    Calls Try.prog 175 #[.pointer (some ⟨q, 1, none⟩)] w fun e w' => e = .returned (.iface 162 x.v) ∧ HQ w' q g c cap sq (l.take n) ∧ Chg [q] w w' := by
  have HFin : Hid (∀ w1 w', Chg [] w w1 → w' = w1.setCell ⟨q, 1, none⟩ (.slice (some ⟨g, 0, none⟩) n cap) → HQ w' q g c cap sq (l.take n) ∧ Chg [q] w w') := Lib.hid fun w1 w' hc e => by
    subst e
    have hlt : (l.take n).length = n := by rw [List.length_take]; omega
    have hc2 : Chg [q] w1 (w1.setCell ⟨q, 1, none⟩ (.slice (some ⟨g, 0, none⟩) n cap)) := (Chg.refl _ _).setCell (.inl (by simp)) _
    have hr : RowI w1 g c (l.take n) := (h.row.chg hc (by simp)).cut encI_len (k := n) [] (by omega) (by have := h.hc; have := h.hl; omega)
    refine ⟨⟨?_, hr.chg hc2 (by simpa using fun e => h.qg e.symm), h.hc, by rw [hlt]; have := h.hl; omega, h.qg, h.hm⟩, (hc.more (by simp)).trans hc2⟩
    have := (h.blk.chg hc (by simp)).set_ 1 (.slice (some ⟨g, 0, none⟩) n cap)
    rw [hlt]
    exact this
  have hown := h.qr.own
  have hsl := Sl.of_own hown
  have hb := h.blk
  have hrow := h.row
  have hrg := hrow.range hx
  rw [hn] at hb hsl
  obtain ⟨ct1, _⟩ := cut_to elI (hi := n) hsl (by omega)
  have c1 : w.cell? ⟨q, 1, none⟩ = some (.slice (some ⟨g, 0, none⟩) (n + 1) cap) := hb.cell 1
  have f1 : w.frozen? ⟨q, 1, none⟩ = false := hb.frozen 1
  have hql := hb.lt
  obtain ⟨y0, y1, y2⟩ := x
  have k0 : w.cell? ⟨g, n * 3, none⟩ = some (.int .i64 y0) := (hrow.at_ encI_len hx (j := 0) rfl).1
  have k1 : w.cell? ⟨g, n * 3 + 1, none⟩ = some (.int .i64 y1) := (hrow.at_ encI_len hx (j := 1) rfl).1
  have k2 : w.cell? ⟨g, n * 3 + 2, none⟩ = some (.int .i64 y2) := (hrow.at_ encI_len hx (j := 2) rfl).1
  have hnb : (n : Int) ≤ 3000 := by omega
  have hnn : n ≤ 3000 := by omega
  have hw0 : (0 : Int) ≤ (n : Int) := by omega
  have hw2 : (n : Int) < (n : Int) + 1 := by omega
  clear h hl hown hsl hb hrow hrg hx hn
  go_enter Try.func175, Try.ntmps175
  go_wp2_with fail
  go_ret
  obtain ⟨a, b⟩ := HFin.out w _ (Chg.refl _ _) rfl
  exact ⟨rfl, a.chg0 ((Chg.refl _ _).alloc _), b.alloc _⟩

set_option maxRecDepth 100000 in
set_option maxHeartbeats 1000000 in
theorem hpop_any {w : World} {q : Nat} {vs : Value} {sq : Int} {l : List It} (h : QR w q vs sq l) (hok : Heap.OK ltI l) (hl : l.length ≤ 2900) {x : It} (hx : l[0]? = some x) :
    Calls Try.prog 83 #[.iface 160 (.pointer (some ⟨q, 1, none⟩))] w fun e w' => e = .returned (.iface 162 x.v) ∧ Turned w q vs sq (fun l' => l.Perm (x :: l')) w' := by
  have hne : l ≠ [] := by intro e; subst e; simp at hx
  have hpos : 0 < l.length := (List.getElem?_eq_some_iff.1 hx).1
  obtain ⟨g, cap, rfl, hq⟩ := h.hq hne
  obtain ⟨n, hn⟩ : ∃ n, l.length = n + 1 := ⟨l.length - 1, by omega⟩
  have hy : l[n]? = some (l[n]'(by omega)) := List.getElem?_eq_getElem _
  generalize l[n]'(by omega) = y at hy
  have c1 : w.cell? ⟨q, 1, none⟩ = some (.slice (some ⟨g, 0, none⟩) l.length cap) := hq.blk.cell 1
  have F1 : Hid (Calls Try.prog 173 #[.slice (some ⟨g, 0, none⟩) (n + 1) cap, .int .i64 0, .int .i64 n] w fun e w' => e = .returned (.tuple #[]) ∧ RowI w' g (cap * 3) (Heap.swap l 0 n x y) ∧ Chg [g] w w') := Lib.hid (iSwap_any (cap := cap) (i := 0) (k := n) hq.row hn (by have := hq.hl; omega) hx hy)
  have HD0 := Lib.hid (hok.pop hn hx hy)
  have H0 := Lib.hid hq
  have HX := Lib.hid hx
  have HY := Lib.hid hy
  have HN := Lib.hid hn
  have hnb : (n : Int) ≤ 3000 := by omega
  have hnn : n ≤ 2900 := by omega
  rw [hn] at c1
  have m1 := mLen c1
  have m2 := mSwap c1
  have m4 := mPop q
  have F0 := Lib.hid (iLen_any g (n + 1) cap w)
  clear h hok hx hy hl hne hpos hq hn
  go_enter Try.func83, Try.ntmps83
  go_wp2_with fail
  refine F0.out.mono ?_
  rintro e w2 ⟨rfl, rfl⟩
  clear F0 m1
  go_wp2_with fail
  refine F1.out.mono ?_
  rintro e w2 ⟨rfl, hr2, hc2⟩
  have hq2 := H0.out.swap hr2 hc2
  have hls : (Heap.swap l 0 n x y).length = n + 1 := (Heap.swap_len l 0 n x y).trans HN.out
  have F2 : Hid (Calls Try.prog 99 #[.iface 160 (.pointer (some ⟨q, 1, none⟩)), .int .i64 0, .int .i64 n] w2 fun e w' => ∃ b, e = .returned (.bool b) ∧ ∃ l', HQ w' q g (cap * 3) cap sq l' ∧ Heap.HeapFrom ltI n 0 l' ∧ l'.Perm (Heap.swap l 0 n x y) ∧ Chg [g] w2 w' ∧ ∀ k, n ≤ k → l'[k]? = (Heap.swap l 0 n x y)[k]?) :=
    Lib.hid (down_any (i0 := 0) hq2 HD0.out (by omega) (Nat.zero_le _) (by omega))
  have HS := Lib.hid hls
  have HC2 := Lib.hid hc2
  clear F1 m2 hr2 hc2 hq2 hls c1
  go_wp2_with fail
  refine F2.out.mono ?_
  rintro e w3 ⟨bb, rfl, l3, hq3, hh3, hp3, hc3, ht3⟩
  have hl3 : l3.length = n + 1 := hp3.length_eq.trans HS.out
  have hx3 : l3[n]? = some x := by rw [ht3 n (Nat.le_refl _), Heap.swap_at HX.out HY.out, if_pos rfl]
  have F3 := Lib.hid (ipop_any hq3 hl3 (by omega) hx3)
  have HK := Lib.hid (hh3.take (by omega))
  have HP := Lib.hid (hp3.trans (Heap.swap_perm HX.out HY.out))
  have HC3 := Lib.hid (HC2.out.trans hc3)
  have HT : Hid (l3 = l3.take n ++ [x]) := Lib.hid (by
    have h1 : l3.take (n + 1) = l3.take n ++ [x] := by rw [List.take_add_one, hx3]; rfl
    rw [← h1, List.take_of_length_le (by omega)])
  clear F2 hq3 hh3 hp3 hc3 ht3 hl3 hx3
  go_wp2_with fail
  refine F3.out.mono ?_
  rintro e w4 ⟨rfl, hq4, hc4⟩
  clear F3 m4
  go_wp2_with fail
  go_ret
  refine ⟨rfl, _, _, hq4.qr, HK.out, ?_, ?_, ?_⟩
  · refine HP.out.symm.trans ?_
    have := HT.out
    generalize l3.take n = z at *
    subst this
    exact List.perm_append_comm.trans (by simp)
  · exact (HC3.out.more (by simp [footQ, Value.ownBlock])).trans (hc4.more (by simp [footQ]))
  · intro z hz
    exact .inl (by simpa [footQ, Value.ownBlock] using hz)

set_option maxRecDepth 100000 in
set_option maxHeartbeats 1000000 in
theorem hinit_any {w : World} {q g c cap : Nat} {sq : Int} {l : List It} (h : HQ w q g c cap sq l) (hl : l.length ≤ 2900) :
    Calls Try.prog 89 #[.iface 160 (.pointer (some ⟨q, 1, none⟩))] w fun e w' => e = .returned (.tuple #[]) ∧ ∃ l', HQ w' q g c cap sq l' ∧ Heap.OK ltI l' ∧ l'.Perm l ∧ Chg [g] w w' := by
  have c1 : w.cell? ⟨q, 1, none⟩ = some (.slice (some ⟨g, 0, none⟩) l.length cap) := h.blk.cell 1
  have m1 := mLen c1
  have H0 := Lib.hid h
  have F0 := Lib.hid (iLen_any g l.length cap w)
  have HH := Lib.hid (Heap.HeapFrom.half (lt := ltI) l)
  generalize hn : l.length = n at *
  have HN := Lib.hid hn
  obtain ⟨m, hm⟩ : ∃ m, m = n / 2 := ⟨_, rfl⟩
  have HM := Lib.hid hm
  have hd : (n : Int) / 2 = (m : Int) := by omega
  have hmn : (m : Int) ≤ 3000 := by omega
  have hm0 : (0 : Int) ≤ (m : Int) := by omega
  clear h hn hm
  go_enter Try.func89, Try.ntmps89
  go_wp2_with fail
  refine F0.out.mono ?_
  rintro e w2 ⟨rfl, rfl⟩
  clear F0 m1 c1
  go_wp2_with fail
  go_loopw [3] (fun iv wr => ∃ (k : Nat) (z : Int) (l' : List It), iv = .int .i64 z ∧ Hid (z = (k : Int) - 1) ∧ Hid (HQ wr q g c cap sq l') ∧ Hid (Heap.HeapFrom ltI n k l') ∧ k ≤ n ∧ l'.length = n ∧ Hid (l'.Perm l) ∧ Hid (Chg [g] w wr)) (fun iv _ => (intOf iv + 1).toNat)
  case atStart => exact ⟨m, _, l, rfl, Lib.hid rfl, H0, by have := HM.out; rw [this]; exact HH, by omega, HN.out, Lib.hid (List.Perm.refl _), Lib.hid (Chg.refl _ _)⟩
  case round =>
    clear H0 HH HN HM hd hmn hm0
    obtain ⟨k, z, l', rfl, HZ, H, HF, hk, hn', HP, HC⟩ := hrel
    have HN := Lib.hid hn'
    clear hn'
    rcases Nat.eq_zero_or_pos k with hk0 | hk0
    · subst hk0
      obtain rfl : z = -1 := by have := HZ.out; omega
      go_wp2_with fail
      go_end0
      exact ⟨rfl, l', H.out, by have := HF.out; unfold Heap.OK; rw [HN.out]; exact this, HP.out, HC.out⟩
    · obtain ⟨j, rfl⟩ : ∃ j, k = j + 1 := ⟨k - 1, by omega⟩
      obtain rfl : z = (j : Int) := by have := HZ.out; omega
      have F1 := Lib.hid (down_any H.out HF.out (by have := HN.out; omega) (by omega) (by have := HN.out; omega))
      have hj0 : (0 : Int) ≤ (j : Int) := by omega
      have hj1 : (j : Int) ≤ 3000 := by omega
      clear H HF HZ hk0
      go_wp2_with fail
      refine F1.out.mono ?_
      rintro e w2 ⟨bb, rfl, l2, hq2, hh2, hp2, hc2, _⟩
      have H2 := Lib.hid hq2
      have HF2 := Lib.hid hh2
      have HP2 := Lib.hid (hp2.trans HP.out)
      have HC2 := Lib.hid (HC.out.trans hc2)
      have HL2 := Lib.hid (hp2.length_eq.trans HN.out)
      clear F1 HP HC HN hq2 hh2 hp2 hc2
      go_wp2_with fail
      go_roundw
      case rel => exact ⟨j, _, l2, rfl, Lib.hid rfl, H2, HF2, by omega, HL2.out, HP2, HC2⟩
      case measure => simp [intOf] <;> omega
end Go.Proofs.Ytgbdbeaflilmlaa
