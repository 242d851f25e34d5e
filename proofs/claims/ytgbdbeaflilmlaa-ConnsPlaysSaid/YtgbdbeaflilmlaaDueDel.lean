/-
  WALKS: the library's DeleteFunc at items, with the closure that package due hands it. Condition: the row is at most 3000 items.
-/
import Derived.Test.YtgbdbeaflilmlaaDue
set_option linter.unusedVariables false
set_option linter.unusedSimpArgs false
namespace Go.Proofs.Ytgbdbeaflilmlaa
open Go.RowKit

set_option maxHeartbeats 400000 in
theorem sameI_any (a b c id : Int) (x : Nat) (w : World) (hx : w.cell? ⟨x, 0, none⟩ = some (.int .i64 id)) :
    Calls Try.prog 88 #[.agg #[.int .i64 a, .int .i64 b, .int .i64 c], .pointer (some ⟨x, 0, none⟩)] w fun e w' => e = .returned (.bool (b == id)) ∧ Chg [] w w' := by
  have hx2 := ((Chg.refl [] w).alloc (.cells #[.int .i64 a, .int .i64 b, .int .i64 c] 162)).cell hx (by simp)
  go_enter Try.func88, Try.ntmps88
  go_wp2
  go_ret
  exact ⟨rfl, (Chg.refl _ _).alloc _⟩

def idxI (o : Option Nat) : Int := match o with | none => -1 | some i => i
def hitI (l : List It) (id : Int) : Option Nat := l.findIdx? (fun t => t.id == id)

set_option maxRecDepth 100000 in
set_option maxHeartbeats 1000000 in
theorem indexI_any {w : World} {g c cap : Nat} {l : List It} (id : Int) (x : Nat) (h : RowI w g c l) (hl : l.length ≤ 3000) (hx : w.cell? ⟨x, 0, none⟩ = some (.int .i64 id)) :
    Calls Try.prog 100 #[.slice (some ⟨g, 0, none⟩) l.length cap, .func (.func 88) #[] #[.pointer (some ⟨x, 0, none⟩)]] w fun e w' =>
      e = .returned (.int .i64 (idxI (hitI l id))) ∧ Chg [] w w' := by
  have HS := Lib.hid (fun a b c w1 (hc : Chg [] w w1) => sameI_any a b c id x w1 (hc.cell hx (by simp)))
  have HR := Lib.hid (fun w1 (hc : Chg [] w w1) => h.chg hc (by simp))
  have HH : Hid (hitI l id = l.findIdx? (fun t => t.id == id)) := Lib.hid rfl
  clear h hx
  generalize hn : l.length = n at *
  go_enter Try.func100, Try.ntmps100
  go_wp2_with fail
  go_loopw [8] (fun iv wr => ∃ k : Nat, k ≤ n ∧ iv = .int .i64 k ∧ Chg [] w wr ∧ Hid (∀ i t, i < k → l[i]? = some t → ¬ t.id = id)) (fun iv _ => n - (intOf iv).toNat)
  case atStart => exact ⟨0, by omega, rfl, Chg.refl _ _, Lib.hid (fun i t hi => by omega)⟩
  case round =>
    obtain ⟨k, hk, rfl, hcw, HN⟩ := hrel
    by_cases hlt : k < n
    · have ht : l[k]? = some (l[k]'(by omega)) := List.getElem?_eq_getElem _
      generalize l[k]'(by omega) = t at ht
      obtain ⟨ta, tb, tc⟩ := t
      have g0 := ((HR.out wr hcw).at_ encI_len ht (j := 0) rfl).1
      have g1 := ((HR.out wr hcw).at_ encI_len ht (j := 1) rfl).1
      have g2 := ((HR.out wr hcw).at_ encI_len ht (j := 2) rfl).1
      simp only [Nat.add_zero] at g0
      have F1 := Lib.hid (HS.out ta tb tc wr hcw)
      have HT := Lib.hid ht
      clear ht
      go_wp2_with fail
      refine F1.out.mono ?_
      rintro e w1 ⟨rfl, hc1⟩
      have hcz := hcw.trans hc1
      clear F1
      by_cases hid : tb = id
      · have hb : (tb == id) = true := by simp [hid]
        have hr : hitI l id = some k := by
          rw [HH.out, List.findIdx?_eq_some_iff_getElem]
          have h1 := HT.out
          obtain ⟨hlk, he⟩ := List.getElem?_eq_some_iff.1 h1
          refine ⟨hlk, by rw [he]; simpa using hid, fun j hj => ?_⟩
          have := HN.out j (l[j]'(by omega)) hj (List.getElem?_eq_getElem _)
          simpa using this
        have HQ := Lib.hid hr
        clear hr
        go_wp2_with fail
        go_ret
        exact ⟨by rw [HQ.out]; rfl, hcz⟩
      · have hb : (tb == id) = false := by simp [hid]
        go_wp2_with fail
        go_roundw
        case rel =>
          refine ⟨k + 1, by omega, by go_num, hcz, Lib.hid fun i t hi ht => ?_⟩
          rcases Nat.lt_or_ge i k with h1 | h1
          · exact HN.out i t h1 ht
          · rw [show i = k by omega, HT.out] at ht
            injection ht with ht; subst ht; exact hid
        case measure => simp [intOf]; omega
    · obtain rfl : k = n := by omega
      have hr : hitI l id = none := by
        rw [HH.out, List.findIdx?_eq_none_iff]
        intro t ht
        obtain ⟨i, hi, rfl⟩ := List.mem_iff_getElem.1 ht
        have := HN.out i _ (by omega) (List.getElem?_eq_getElem hi)
        simpa using this
      have HQ := Lib.hid hr
      clear hr
      go_wp2_with fail
      go_ret
      exact ⟨by rw [HQ.out]; rfl, hcw⟩

theorem set_take {α : Type} {l : List α} {i : Nat} {x : α} (h : i < l.length) : (l.set i x).take (i + 1) = l.take i ++ [x] := by
  apply List.ext_getElem?
  intro q
  rcases Nat.lt_trichotomy q i with h1 | h1 | h1
  · rw [List.getElem?_take_of_lt (by omega), List.getElem?_set_ne (by omega), List.getElem?_append_left (by rw [List.length_take]; omega), List.getElem?_take_of_lt h1]
  · subst h1
    rw [List.getElem?_take_of_lt (by omega), List.getElem?_set_self h, List.getElem?_append_right (by rw [List.length_take]; omega), List.length_take, show q - min q l.length = 0 by omega]
    rfl
  · rw [List.getElem?_take_eq_none (by omega), List.getElem?_eq_none (by simp; omega)]
theorem set_drop {α : Type} {l : List α} {i j : Nat} {x : α} (h : i < j) : (l.set i x).drop j = l.drop j := by
  apply List.ext_getElem?
  intro q
  rw [List.getElem?_drop, List.getElem?_drop, List.getElem?_set_ne (by omega)]
theorem zeroIt (w : World) : (zeroValue 162).run Try.prog w = .ok (.agg #[.int .i64 0, .int .i64 0, .int .i64 0]) w := by kernel_rfl
/-- The timers that stayI. -/
def stayI (id : Int) (l : List It) : List It := l.filter (fun t => !(t.id == id))

set_option maxRecDepth 100000 in
set_option maxHeartbeats 1000000 in
theorem deleteI_any {w : World} {g c cap : Nat} {l : List It} (id : Int) (x : Nat) (h : RowI w g c l) (hl : l.length ≤ 3000) (hcap : l.length ≤ cap) (hc2 : c = cap * 3) (hx : w.cell? ⟨x, 0, none⟩ = some (.int .i64 id)) (hxg : x ≠ g) :
    Calls Try.prog 87 #[.slice (some ⟨g, 0, none⟩) l.length cap, .func (.func 88) #[] #[.pointer (some ⟨x, 0, none⟩)]] w fun e w' =>
      e = .returned (.slice (some ⟨g, 0, none⟩) (stayI id l).length cap) ∧ RowI w' g c (stayI id l) ∧ Chg [g] w w' := by
  have HS := Lib.hid (fun a b c w1 (hc : Chg [g] w w1) => sameI_any a b c id x w1 (hc.cell hx (by simpa using hxg)))
  have F0 := Lib.hid (indexI_any (cap := cap) id x h hl hx)
  have hidx : Hid (∀ o, hitI l id = o → (o = none → stayI id l = l) ∧ (∀ i, o = some i → i < l.length ∧ stayI id (l.take (i + 1)) = l.take i)) := Lib.hid fun o ho => by
    subst ho
    refine ⟨fun hn => ?_, fun i hi => ?_⟩
    · unfold hitI at hn
      rw [List.findIdx?_eq_none_iff] at hn
      unfold stayI
      rw [List.filter_eq_self]
      intro t ht
      simp [hn t ht]
    · unfold hitI at hi
      rw [List.findIdx?_eq_some_iff_getElem] at hi
      obtain ⟨hlt, h1, h2⟩ := hi
      refine ⟨hlt, ?_⟩
      rw [List.take_succ_eq_append_getElem hlt]
      unfold stayI
      rw [List.filter_append]
      have e1 : (l.take i).filter (fun t => !(t.id == id)) = l.take i := by
        rw [List.filter_eq_self]
        intro t ht
        obtain ⟨j, hj, rfl⟩ := List.mem_take_iff_getElem.1 ht
        have := h2 j (by omega)
        simpa using this
      rw [e1]
      simp at h1
      simp [h1]
  have HL : Hid (∀ i, i < l.length → ∃ t, l[i]? = some t) := Lib.hid fun i hi => ⟨_, List.getElem?_eq_getElem hi⟩
  have H0 := Lib.hid h
  clear h hx
  generalize hn : l.length = n at *
  generalize hitI l id = o at *
  cases o with
  | none =>
    have e0 := (hidx.out none rfl).1 rfl
    have E0 := Lib.hid e0
    have e1 : idxI none = -1 := rfl
    rw [e1] at F0
    clear HS hidx HL e0 e1
    go_enter Try.func87, Try.ntmps87
    go_wp2_with fail
    refine F0.out.mono ?_
    rintro e w1 ⟨rfl, hc1⟩
    go_wp2_with fail
    go_ret
    rw [E0.out]
    exact ⟨by rw [hn]; rfl, H0.out.chg hc1 (by simp), hc1.more (by simp)⟩
  | some k0 =>
    obtain ⟨hk0, hst⟩ := (hidx.out _ rfl).2 k0 rfl
    have e1 : idxI (some k0) = (k0 : Int) := rfl
    rw [e1] at F0
    have HST := Lib.hid hst
    have hne1 : ((k0 : Int) == -1) = false := beq_eq_false_iff_ne.2 (by omega)
    clear hidx e1 hst
    go_enter Try.func87, Try.ntmps87
    go_wp2_with fail
    refine F0.out.mono ?_
    rintro e w1 ⟨rfl, hc1⟩
    have hd1 : Chg [g] w w1 := hc1.more (by simp)
    have H1 := Lib.hid (H0.out.chg hc1 (by simp))
    clear F0 hc1 H0
    go_wp2_with fail
    go_loopw [5, 6] (fun iv jv wr => ∃ (i j : Nat) (r : List It), iv = .int .i64 i ∧ jv = .int .i64 j ∧ i < j ∧ j ≤ n ∧ r.length = n ∧ Hid (RowI wr g c r) ∧ Hid (r.take i = stayI id (l.take j)) ∧ Hid (r.drop j = l.drop j) ∧ Chg [g] w wr) (fun _ jv _ => n - (intOf jv).toNat)
    case atStart => exact ⟨k0, k0 + 1, l, rfl, by go_num, by omega, by omega, hn, H1, Lib.hid HST.out.symm, Lib.hid rfl, hd1⟩
    case round =>
      obtain ⟨i, j, r, rfl, rfl, hij, hj, hrl, HR, HT, HD, hcw⟩ := hrel
      by_cases hlt : j < n
      · obtain ⟨t, ht⟩ := HL.out j (by omega)
        have hrj : r[j]? = some t := by
          have h1 : (r.drop j)[0]? = (l.drop j)[0]? := by rw [HD.out]
          rw [List.getElem?_drop, List.getElem?_drop, Nat.add_zero] at h1
          rw [h1, ht]
        have htk : l.take (j + 1) = l.take j ++ [t] := by rw [List.take_add_one, ht]; rfl
        have hsk : stayI id (l.take (j + 1)) = stayI id (l.take j) ++ (if t.id = id then [] else [t]) := by
          rw [htk]; unfold stayI; rw [List.filter_append]
          by_cases h1 : t.id = id <;> simp [h1]
        have HSK := Lib.hid hsk
        have hri : r[i]? = some (r[i]'(by omega)) := List.getElem?_eq_getElem _
        generalize r[i]'(by omega) = t0 at hri
        obtain ⟨ta, tb, tc⟩ := t
        have g0 := (HR.out.at_ encI_len hrj (j := 0) rfl).1
        have g1 := (HR.out.at_ encI_len hrj (j := 1) rfl).1
        have g2 := (HR.out.at_ encI_len hrj (j := 2) rfl).1
        obtain ⟨ua, ub, uc⟩ := t0
        have f0 := HR.out.at_ encI_len hri (j := 0) rfl
        have f1 := HR.out.at_ encI_len hri (j := 1) rfl
        have f2 := HR.out.at_ encI_len hri (j := 2) rfl
        simp only [Nat.add_zero] at g0 f0
        have hal := (Chg.refl [] wr).alloc (.cells #[.int .i64 ta, .int .i64 tb, .int .i64 tc] 162)
        have F1 := Lib.hid (HS.out ta tb tc (wr.alloc (.cells #[.int .i64 ta, .int .i64 tb, .int .i64 tc] 162)) (hcw.alloc _))
        clear ht hrj htk hsk hri
        go_wp2_with fail
        refine F1.out.mono ?_
        rintro e w2 ⟨rfl, hc2⟩
        have hcz := hal.trans hc2
        have hcwz := hcw.trans' (hcz.more (T := [g]) (by simp)) (by simp)
        have b0 := hc2.cell ((Blk.new wr 162 #[.int .i64 ta, .int .i64 tb, .int .i64 tc]).cell 0) (by simp)
        have b1 := hc2.cell ((Blk.new wr 162 #[.int .i64 ta, .int .i64 tb, .int .i64 tc]).cell 1) (by simp)
        have b2 := hc2.cell ((Blk.new wr 162 #[.int .i64 ta, .int .i64 tb, .int .i64 tc]).cell 2) (by simp)
        have HR2 := Lib.hid (HR.out.chg hcz (by simp))
        have q0 := hcz.cell f0.1 (by simp)
        have q1 := hcz.cell f1.1 (by simp)
        have q2 := hcz.cell f2.1 (by simp)
        have r0 := (hcz.frozen f0.1 (by simp)).trans f0.2
        have r1 := (hcz.frozen f1.1 (by simp)).trans f1.2
        have r2 := (hcz.frozen f2.1 (by simp)).trans f2.2
        clear F1 f0 f1 f2 g0 g1 g2 hc2 hal HR
        by_cases hid : tb = id
        · have hb : (tb == id) = true := by simp [hid]
          have hs0 : Hid (stayI id (l.take (j + 1)) = stayI id (l.take j)) := Lib.hid (by rw [HSK.out]; simp [hid])
          go_wp2_with fail
          go_roundw
          case rel => exact ⟨i, j + 1, r, rfl, by go_num, by omega, by omega, hrl, HR2, Lib.hid (by rw [hs0.out]; exact HT.out), Lib.hid (by rw [← List.drop_drop, ← List.drop_drop, HD.out]), hcwz⟩
          case measure => simp [intOf]; omega
        · have hb : (tb == id) = false := by simp [hid]
          have hs0 : Hid (stayI id (l.take (j + 1)) = stayI id (l.take j) ++ [⟨ta, tb, tc⟩]) := Lib.hid (by rw [HSK.out]; simp [hid])
          go_wp2_with fail
          go_roundw
          case rel =>
            refine ⟨i + 1, j + 1, r.set i ⟨ta, tb, tc⟩, by go_num, by go_num, by omega, by omega, by simp [hrl], Lib.hid (HR2.out.put encI_len ⟨ta, tb, tc⟩ (by omega) (by omega)), Lib.hid ?_, Lib.hid ?_, Chg.setCells (encI ⟨ta, tb, tc⟩) (i * 3) |> (fun k => hcwz.trans k)⟩
            · rw [set_take (by omega), HT.out, hs0.out]
            · rw [set_drop (by omega), ← List.drop_drop, ← List.drop_drop, HD.out]
          case measure => simp [intOf]; omega
      · obtain rfl : j = n := by omega
        obtain ⟨cs, hb, hcs, _⟩ := HR.out
        obtain ⟨vs, _, hcl⟩ := run_clear_all (P := Try.prog) hb 156 162 (.agg #[.int .i64 0, .int .i64 0, .int .i64 0]) 3 Try.underlying156 (zeroIt wr) (by intro v hv; simp [Value.cells] at hv; subst hv; rfl) rfl (by omega) (i * 3) (j - i) (cap - i) (by omega)
        have hlt : l.take j = l := by rw [← hn, List.take_length]
        have hfin : Hid (stayI id l = r.take i) := Lib.hid (by rw [HT.out, hlt])
        have hln : (stayI id l).length = i := by rw [hfin.out, List.length_take]; omega
        have HLn := Lib.hid hln
        have HW := Lib.hid (HR.out.cut encI_len (k := i) vs (by omega) (by omega))
        have hcz := hcw.trans (Chg.setCells vs (i * 3))
        clear hb hcs hlt hln HS HL HST H1 HD HT HR
        go_wp2_with fail
        go_ret
        rw [HLn.out, hfin.out]
        exact ⟨rfl, HW.out, hcz⟩
end Go.Proofs.Ytgbdbeaflilmlaa
