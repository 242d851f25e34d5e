/-
  WALKS: the library's DeleteFunc at timers, with the closure that package wheel hands it. Condition: the row is at most 300 timers.
-/
import Derived.Test.YtldgdpekhjignaaGreatClear
set_option linter.unusedVariables false
set_option linter.unusedSimpArgs false
namespace Go.Proofs.YtldgdpekhjignaaGreat
open Go.RowKit

structure TM where
  id : Int
  at_ : Int
def encT (x : TM) : List Value := [.int .i64 x.id, .int .i64 x.at_]
theorem encT_len (x : TM) : (encT x).length = 2 := rfl
theorem encT_one (x : TM) : ∀ u ∈ encT x, u.oneCell' = true := by intro u hu; simp [encT] at hu; rcases hu with rfl | rfl <;> rfl
theorem elT : El Tryz.prog 102 114 (.agg #[.int .i64 0, .int .i64 0]) 2 16 := ⟨Tryz.underlying102, by kernel_rfl, rfl, by omega⟩
abbrev RowT (w : World) (g c : Nat) (l : List TM) : Prop := RowB encT 2 w g 114 c l

set_option maxHeartbeats 400000 in
theorem same_any (a b id : Int) (x : Nat) (w : World) (hx : w.cell? ⟨x, 0, none⟩ = some (.int .i64 id)) :
    Calls Tryz.prog 85 #[.agg #[.int .i64 a, .int .i64 b], .pointer (some ⟨x, 0, none⟩)] w fun e w' => e = .returned (.bool (a == id)) ∧ Chg [] w w' := by
  have hx2 := ((Chg.refl [] w).alloc (.cells #[.int .i64 a, .int .i64 b] 114)).cell hx (by simp)
  go_enter Tryz.func85, Tryz.ntmps85
  go_wp2
  go_ret
  exact ⟨rfl, (Chg.refl _ _).alloc _⟩

def idxT (o : Option Nat) : Int := match o with | none => -1 | some i => i
def hitT (l : List TM) (id : Int) : Option Nat := l.findIdx? (fun t => t.id == id)

set_option maxRecDepth 100000 in
set_option maxHeartbeats 1000000 in
theorem index_any {w : World} {g c cap : Nat} {l : List TM} (id : Int) (x : Nat) (h : RowT w g c l) (hl : l.length ≤ 300) (hx : w.cell? ⟨x, 0, none⟩ = some (.int .i64 id)) :
    Calls Tryz.prog 99 #[.slice (some ⟨g, 0, none⟩) l.length cap, .func (.func 85) #[] #[.pointer (some ⟨x, 0, none⟩)]] w fun e w' =>
      e = .returned (.int .i64 (idxT (hitT l id))) ∧ Chg [] w w' := by
  have HS := Lib.hid (fun a b w1 (hc : Chg [] w w1) => same_any a b id x w1 (hc.cell hx (by simp)))
  have HR := Lib.hid (fun w1 (hc : Chg [] w w1) => h.chg hc (by simp))
  have HH : Hid (hitT l id = l.findIdx? (fun t => t.id == id)) := Lib.hid rfl
  clear h hx
  generalize hn : l.length = n at *
  go_enter Tryz.func99, Tryz.ntmps99
  go_wp2_with fail
  go_loopw [8] (fun iv wr => ∃ k : Nat, k ≤ n ∧ iv = .int .i64 k ∧ Chg [] w wr ∧ Hid (∀ i t, i < k → l[i]? = some t → ¬ t.id = id)) (fun iv _ => n - (intOf iv).toNat)
  case atStart => exact ⟨0, by omega, rfl, Chg.refl _ _, Lib.hid (fun i t hi => by omega)⟩
  case round =>
    obtain ⟨k, hk, rfl, hcw, HN⟩ := hrel
    by_cases hlt : k < n
    · have ht : l[k]? = some (l[k]'(by omega)) := List.getElem?_eq_getElem _
      generalize l[k]'(by omega) = t at ht
      obtain ⟨ta, tb⟩ := t
      have g0 := ((HR.out wr hcw).at_ encT_len ht (j := 0) rfl).1
      have g1 := ((HR.out wr hcw).at_ encT_len ht (j := 1) rfl).1
      simp only [Nat.add_zero] at g0
      have F1 := Lib.hid (HS.out ta tb wr hcw)
      have HT := Lib.hid ht
      clear ht
      go_wp2_with fail
      refine F1.out.mono ?_
      rintro e w1 ⟨rfl, hc1⟩
      have hcz := hcw.trans hc1
      clear F1
      by_cases hid : ta = id
      · have hb : (ta == id) = true := by simp [hid]
        have hr : hitT l id = some k := by
          rw [HH.out, List.findIdx?_eq_some_iff_getElem]
          have h1 := HT.out
          obtain ⟨hlk, he⟩ := List.getElem?_eq_some_iff.1 h1
          refine ⟨hlk, by rw [he]; simpa using hid, fun j hj => ?_⟩
          have := HN.out j (l[j]'(by omega)) hj (List.getElem?_eq_getElem _)
          simpa using this
        have HQ := Lib.hid hr
        clear hr
        go_wp2_with fail
        go_ret
        exact ⟨by rw [HQ.out]; rfl, hcz⟩
      · have hb : (ta == id) = false := by simp [hid]
        go_wp2_with fail
        go_roundw
        case rel =>
          refine ⟨k + 1, by omega, by go_num, hcz, Lib.hid fun i t hi ht => ?_⟩
          rcases Nat.lt_or_ge i k with h1 | h1
          · exact HN.out i t h1 ht
          · rw [show i = k by omega, HT.out] at ht
            injection ht with ht; subst ht; exact hid
        case measure => simp [intOf]; omega
    · obtain rfl : k = n := by omega
      have hr : hitT l id = none := by
        rw [HH.out, List.findIdx?_eq_none_iff]
        intro t ht
        obtain ⟨i, hi, rfl⟩ := List.mem_iff_getElem.1 ht
        have := HN.out i _ (by omega) (List.getElem?_eq_getElem hi)
        simpa using this
      have HQ := Lib.hid hr
      clear hr
      go_wp2_with fail
      go_ret
      exact ⟨by rw [HQ.out]; rfl, hcw⟩

theorem set_take {α : Type} {l : List α} {i : Nat} {x : α} (h : i < l.length) : (l.set i x).take (i + 1) = l.take i ++ [x] := by
  apply List.ext_getElem?
  intro q
  rcases Nat.lt_trichotomy q i with h1 | h1 | h1
  · rw [List.getElem?_take_of_lt (by omega), List.getElem?_set_ne (by omega), List.getElem?_append_left (by rw [List.length_take]; omega), List.getElem?_take_of_lt h1]
  · subst h1
    rw [List.getElem?_take_of_lt (by omega), List.getElem?_set_self h, List.getElem?_append_right (by rw [List.length_take]; omega), List.length_take, show q - min q l.length = 0 by omega]
    rfl
  · rw [List.getElem?_take_eq_none (by omega), List.getElem?_eq_none (by simp; omega)]
theorem set_drop {α : Type} {l : List α} {i j : Nat} {x : α} (h : i < j) : (l.set i x).drop j = l.drop j := by
  apply List.ext_getElem?
  intro q
  rw [List.getElem?_drop, List.getElem?_drop, List.getElem?_set_ne (by omega)]
theorem zeroTm (w : World) : (zeroValue 114).run Tryz.prog w = .ok (.agg #[.int .i64 0, .int .i64 0]) w := by kernel_rfl
/-- The timers that stay. -/
def stay (id : Int) (l : List TM) : List TM := l.filter (fun t => !(t.id == id))

set_option maxRecDepth 100000 in
set_option maxHeartbeats 1000000 in
theorem delete_any {w : World} {g c cap : Nat} {l : List TM} (id : Int) (x : Nat) (h : RowT w g c l) (hl : l.length ≤ 300) (hcap : l.length ≤ cap) (hc2 : c = cap * 2) (hx : w.cell? ⟨x, 0, none⟩ = some (.int .i64 id)) (hxg : x ≠ g) :
    Calls Tryz.prog 84 #[.slice (some ⟨g, 0, none⟩) l.length cap, .func (.func 85) #[] #[.pointer (some ⟨x, 0, none⟩)]] w fun e w' =>
      e = .returned (.slice (some ⟨g, 0, none⟩) (stay id l).length cap) ∧ RowT w' g c (stay id l) ∧ Chg [g] w w' := by
  have HS := Lib.hid (fun a b w1 (hc : Chg [g] w w1) => same_any a b id x w1 (hc.cell hx (by simpa using hxg)))
  have F0 := Lib.hid (index_any (cap := cap) id x h hl hx)
  have hidx : Hid (∀ o, hitT l id = o → (o = none → stay id l = l) ∧ (∀ i, o = some i → i < l.length ∧ stay id (l.take (i + 1)) = l.take i)) := Lib.hid fun o ho => by
    subst ho
    refine ⟨fun hn => ?_, fun i hi => ?_⟩
    · unfold hitT at hn
      rw [List.findIdx?_eq_none_iff] at hn
      unfold stay
      rw [List.filter_eq_self]
      intro t ht
      simp [hn t ht]
    · unfold hitT at hi
      rw [List.findIdx?_eq_some_iff_getElem] at hi
      obtain ⟨hlt, h1, h2⟩ := hi
      refine ⟨hlt, ?_⟩
      rw [List.take_succ_eq_append_getElem hlt]
      unfold stay
      rw [List.filter_append]
      have e1 : (l.take i).filter (fun t => !(t.id == id)) = l.take i := by
        rw [List.filter_eq_self]
        intro t ht
        obtain ⟨j, hj, rfl⟩ := List.mem_take_iff_getElem.1 ht
        have := h2 j (by omega)
        simpa using this
      rw [e1]
      simp at h1
      simp [h1]
  have HL : Hid (∀ i, i < l.length → ∃ t, l[i]? = some t) := Lib.hid fun i hi => ⟨_, List.getElem?_eq_getElem hi⟩
  have H0 := Lib.hid h
  clear h hx
  generalize hn : l.length = n at *
  generalize hitT l id = o at *
  cases o with
  | none =>
    have e0 := (hidx.out none rfl).1 rfl
    have E0 := Lib.hid e0
    have e1 : idxT none = -1 := rfl
    rw [e1] at F0
    clear HS hidx HL e0 e1
    go_enter Tryz.func84, Tryz.ntmps84
    go_wp2_with fail
    refine F0.out.mono ?_
    rintro e w1 ⟨rfl, hc1⟩
    go_wp2_with fail
    go_ret
    rw [E0.out]
    exact ⟨by rw [hn]; rfl, H0.out.chg hc1 (by simp), hc1.more (by simp)⟩
  | some k0 =>
    obtain ⟨hk0, hst⟩ := (hidx.out _ rfl).2 k0 rfl
    have e1 : idxT (some k0) = (k0 : Int) := rfl
    rw [e1] at F0
    have HST := Lib.hid hst
    have hne1 : ((k0 : Int) == -1) = false := beq_eq_false_iff_ne.2 (by omega)
    clear hidx e1 hst
    go_enter Tryz.func84, Tryz.ntmps84
    go_wp2_with fail
    refine F0.out.mono ?_
    rintro e w1 ⟨rfl, hc1⟩
    have hd1 : Chg [g] w w1 := hc1.more (by simp)
    have H1 := Lib.hid (H0.out.chg hc1 (by simp))
    clear F0 hc1 H0
    go_wp2_with fail
    go_loopw [5, 6] (fun iv jv wr => ∃ (i j : Nat) (r : List TM), iv = .int .i64 i ∧ jv = .int .i64 j ∧ i < j ∧ j ≤ n ∧ r.length = n ∧ Hid (RowT wr g c r) ∧ Hid (r.take i = stay id (l.take j)) ∧ Hid (r.drop j = l.drop j) ∧ Chg [g] w wr) (fun _ jv _ => n - (intOf jv).toNat)
    case atStart => exact ⟨k0, k0 + 1, l, rfl, by go_num, by omega, by omega, hn, H1, Lib.hid HST.out.symm, Lib.hid rfl, hd1⟩
    case round =>
      obtain ⟨i, j, r, rfl, rfl, hij, hj, hrl, HR, HT, HD, hcw⟩ := hrel
      by_cases hlt : j < n
      · obtain ⟨t, ht⟩ := HL.out j (by omega)
        have hrj : r[j]? = some t := by
          have h1 : (r.drop j)[0]? = (l.drop j)[0]? := by rw [HD.out]
          rw [List.getElem?_drop, List.getElem?_drop, Nat.add_zero] at h1
          rw [h1, ht]
        have htk : l.take (j + 1) = l.take j ++ [t] := by rw [List.take_add_one, ht]; rfl
        have hsk : stay id (l.take (j + 1)) = stay id (l.take j) ++ (if t.id = id then [] else [t]) := by
          rw [htk]; unfold stay; rw [List.filter_append]
          by_cases h1 : t.id = id <;> simp [h1]
        have HSK := Lib.hid hsk
        have hri : r[i]? = some (r[i]'(by omega)) := List.getElem?_eq_getElem _
        generalize r[i]'(by omega) = t0 at hri
        obtain ⟨ta, tb⟩ := t
        have g0 := (HR.out.at_ encT_len hrj (j := 0) rfl).1
        have g1 := (HR.out.at_ encT_len hrj (j := 1) rfl).1
        obtain ⟨ua, ub⟩ := t0
        have f0 := HR.out.at_ encT_len hri (j := 0) rfl
        have f1 := HR.out.at_ encT_len hri (j := 1) rfl
        simp only [Nat.add_zero] at g0 f0
        have hal := (Chg.refl [] wr).alloc (.cells #[.int .i64 ta, .int .i64 tb] 114)
        have F1 := Lib.hid (HS.out ta tb (wr.alloc (.cells #[.int .i64 ta, .int .i64 tb] 114)) (hcw.alloc _))
        clear ht hrj htk hsk hri
        go_wp2_with fail
        refine F1.out.mono ?_
        rintro e w2 ⟨rfl, hc2⟩
        have hcz := hal.trans hc2
        have hcwz := hcw.trans' (hcz.more (T := [g]) (by simp)) (by simp)
        have b0 := hc2.cell ((Blk.new wr 114 #[.int .i64 ta, .int .i64 tb]).cell 0) (by simp)
        have b1 := hc2.cell ((Blk.new wr 114 #[.int .i64 ta, .int .i64 tb]).cell 1) (by simp)
        have HR2 := Lib.hid (HR.out.chg hcz (by simp))
        have q0 := hcz.cell f0.1 (by simp)
        have q1 := hcz.cell f1.1 (by simp)
        have r0 := (hcz.frozen f0.1 (by simp)).trans f0.2
        have r1 := (hcz.frozen f1.1 (by simp)).trans f1.2
        clear F1 f0 f1 g0 g1 hc2 hal HR
        by_cases hid : ta = id
        · have hb : (ta == id) = true := by simp [hid]
          have hs0 : Hid (stay id (l.take (j + 1)) = stay id (l.take j)) := Lib.hid (by rw [HSK.out]; simp [hid])
          go_wp2_with fail
          go_roundw
          case rel => exact ⟨i, j + 1, r, rfl, by go_num, by omega, by omega, hrl, HR2, Lib.hid (by rw [hs0.out]; exact HT.out), Lib.hid (by rw [← List.drop_drop, ← List.drop_drop, HD.out]), hcwz⟩
          case measure => simp [intOf]; omega
        · have hb : (ta == id) = false := by simp [hid]
          have hs0 : Hid (stay id (l.take (j + 1)) = stay id (l.take j) ++ [⟨ta, tb⟩]) := Lib.hid (by rw [HSK.out]; simp [hid])
          go_wp2_with fail
          go_roundw
          case rel =>
            refine ⟨i + 1, j + 1, r.set i ⟨ta, tb⟩, by go_num, by go_num, by omega, by omega, by simp [hrl], Lib.hid (HR2.out.put encT_len ⟨ta, tb⟩ (by omega) (by omega)), Lib.hid ?_, Lib.hid ?_, Chg.setCells (encT ⟨ta, tb⟩) (i * 2) |> (fun k => hcwz.trans k)⟩
            · rw [set_take (by omega), HT.out, hs0.out]
            · rw [set_drop (by omega), ← List.drop_drop, ← List.drop_drop, HD.out]
          case measure => simp [intOf]; omega
      · obtain rfl : j = n := by omega
        obtain ⟨cs, hb, hcs, _⟩ := HR.out
        obtain ⟨vs, _, hcl⟩ := run_clear_all (P := Tryz.prog) hb 102 114 (.agg #[.int .i64 0, .int .i64 0]) 2 Tryz.underlying102 (zeroTm wr) (by intro v hv; simp [Value.cells] at hv; subst hv; rfl) rfl (by omega) (i * 2) (j - i) (cap - i) (by omega)
        have hlt : l.take j = l := by rw [← hn, List.take_length]
        have hfin : Hid (stay id l = r.take i) := Lib.hid (by rw [HT.out, hlt])
        have hln : (stay id l).length = i := by rw [hfin.out, List.length_take]; omega
        have HLn := Lib.hid hln
        have HW := Lib.hid (HR.out.cut encT_len (k := i) vs (by omega) (by omega))
        have hcz := hcw.trans (Chg.setCells vs (i * 2))
        clear hb hcs hlt hln HS HL HST H1 HD HT HR
        go_wp2_with fail
        go_ret
        rw [HLn.out, hfin.out]
        exact ⟨rfl, HW.out, hcz⟩
end Go.Proofs.YtldgdpekhjignaaGreat
