/-
  CONTRACTS: the program's Show; few steps of few bytes. Conditions: Gl, lengths.
-/
import Derived.Test.YtljgemknccodeaaDoorScT
set_option linter.unusedVariables false
set_option linter.unusedSimpArgs false
namespace Go.Proofs.YtljgemknccodeaaDoor
open Go.RowKit

def showP (L : List St) : Bs := L.flatMap fun s => textP s ++ [10]
theorem showP_snoc (L : List St) (s : St) : showP (L ++ [s]) = showP L ++ textP s ++ [10] := by simp [showP]
theorem text_len {s : St} (h : OkSt s) : (textP s).length ≤ 3300 := by
  have h1 := baseT_len h (j := numW s.kind) (numW_le _)
  have h2 := hexP_len s.b
  have h3 := numW_le s.kind
  have h4 := h.b
  unfold textP
  split
  · simp; omega
  · omega
theorem showP_len : ∀ {L : List St}, (∀ s ∈ L, OkSt s) → (showP L).length ≤ 3301 * L.length
  | [], _ => by simp [showP]
  | s :: L, h => by
    have h1 := showP_len (L := L) (fun x hx => h x (by simp [hx]))
    have h2 := text_len (h s (by simp))
    simp only [showP, List.flatMap_cons, List.length_append, List.length_cons, List.length_nil] at h1 ⊢
    omega
theorem Chg.below2 {w w1 w2 : World} (h : Chg [] w w1) (hb : Below w.heap.size w1 w2) : Chg [] w w2 :=
  h.trans' (T := (List.range w2.heap.size).filter (fun x => decide (w.heap.size ≤ x))) ⟨hb.os, hb.tape, hb.output, hb.size, fun i hi hS => hb.block i (by
    rcases Nat.lt_or_ge i w.heap.size with h1 | h1
    · exact h1
    · exact absurd (by simp; exact ⟨Nat.lt_of_lt_of_le hi hb.size, h1⟩) hS)⟩ (fun x hx => by simp at hx; exact .inr hx.2)
theorem string_any {w : World} {B g : Nat} {p v : Value} {l : Bs} (h : BdR w B g p v l) (hB : B ≤ w.heap.size) :
    Calls Tryd.prog 34 #[.pointer (some ⟨g, 0, none⟩)] w fun e w' => e = .returned (str l) ∧ Below B w w' := by
  have e1 : Lib.byteCells l = l.map yv := rfl
  have hI : Lib.IsBuilderF 69 5 B g (Lib.byteCells l) w := by
    have ho : w.ownsRowF B 5 1 v (Lib.byteCells l).length (Lib.byteCells l) := by
      rw [e1, List.length_map]
      exact World.ownsRowF_of h.own
    have hne : v.ownBlock ≠ some g := fun e => h.ne g (by simp [e]) rfl
    rcases h.ptr with rfl | rfl
    · exact .inl ⟨h.low, v, h.blk, ho, hne⟩
    · exact .inr ⟨h.low, v, h.blk, ho, hne⟩
  exact (Tryd.Builder_String_any_k B g l w hI hB).mono fun e w' ⟨h1, _, h2, _⟩ => ⟨h1, h2⟩
set_option maxRecDepth 100000 in
set_option maxHeartbeats 4000000 in
theorem show_any {w : World} {B : Nat} {v : Value} {es : List SV} (h : SlT w B v es) (hS : StsR w [] es) (hok : ∀ x ∈ es, OkSt x.1) (hl : es.length ≤ 1000) (hg : Gl w) :
    Calls Tryd.prog 16 #[v] w fun e w' => e = .returned (str (showP (es.map (·.1)))) ∧ Chg [] w w' := by
  obtain ⟨A, c, rfl⟩ := Sl.form h
  have h1 := (Chg.refl [] w).alloc (.cells #[.pointer none, .slice none 0 0] 69)
  have hb : Blk (w.alloc (.cells #[.pointer none, .slice none 0 0] 69)) w.heap.size 69 #[.pointer none, .slice none 0 0] := Blk.new _ _ _
  have HI := Lib.hid (And.intro h1 (show BdR (w.alloc (.cells #[.pointer none, .slice none 0 0] 69)) w.heap.size w.heap.size (.pointer none) (.slice none 0 0) [] from ⟨.inl rfl, hb, World.ownsRow_nil .., Nat.le_refl _⟩))
  have HM := Lib.hid (fun W (hW : Chg [] w W) => And.intro (show SlT W B (.slice A es.length c) es from Sl.chg0 h hW) (hS.chg0 hW))
  have HX : Hid (∀ i, i < es.length → ∃ s v, es[i]? = some (s, v) ∧ OkSt s) := Lib.hid fun i hi => ⟨es[i].1, es[i].2, List.getElem?_eq_getElem hi, hok _ (List.getElem_mem hi)⟩
  have HLN : Hid (∀ k, k ≤ es.length → (showP ((es.take k).map (·.1))).length ≤ 3301 * k) := Lib.hid fun k hk => by
    have := showP_len (L := (es.take k).map (·.1)) (fun s hs => by
      obtain ⟨x, hx, rfl⟩ := List.mem_map.1 hs
      exact hok x (List.mem_of_mem_take hx))
    rw [List.length_map, List.length_take] at this
    have h2 : min k es.length = k := by omega
    rw [h2] at this
    exact this
  have HF : Hid (showP (es.map (·.1)) = showP ((es.take es.length).map (·.1))) := Lib.hid (by rw [List.take_length])
  have HG := Lib.hid hg
  clear h hS hok h1 hb hg
  generalize hn : es.length = n at *
  clear hn
  go_enter Tryd.func16, Tryd.ntmps16
  go_wp2_with fail
  generalize w.alloc (.cells #[.pointer none, .slice none 0 0] 69) = w1 at *
  go_loopw [8] (fun iv wr => ∃ k : Nat, k ≤ n ∧ iv = .int .i64 k ∧ Hid (∃ p v, BdR wr w.heap.size w.heap.size p v (showP ((es.take k).map (·.1)))) ∧ Hid (Chg [] w wr)) (fun iv _ => n - (intOf iv).toNat)
  case atStart => exact ⟨0, by omega, rfl, Lib.hid ⟨_, _, HI.out.2⟩, Lib.hid HI.out.1⟩
  case round =>
    obtain ⟨k, hk, rfl, HB, HC⟩ := hrel
    by_cases hlt : k < n
    · have hcn : (k : Int) < (n : Int) := by omega
      obtain ⟨s, vs, hx, hso⟩ := HX.out k hlt
      obtain ⟨m1, m3⟩ := HM.out wr HC.out
      have y1 : SlY wr 0 vs s.b := (m3 _ (List.mem_of_getElem? hx)).1
      obtain ⟨A', c', rfl⟩ := Sl.form y1
      obtain ⟨b, o, rfl, hr1⟩ := SlT.one m1 hx
      have HY := Lib.hid y1
      have hsp := HLN.out k hk
      have htl := text_len hso
      have HT : Hid (showP ((es.take (k + 1)).map (·.1)) = showP ((es.take k).map (·.1)) ++ textP s ++ [10]) := Lib.hid (by
        rw [List.take_add_one, hx]
        show showP ((es.take k ++ [(s, Value.slice A' s.b.length c')]).map (·.1)) = _
        rw [List.map_append]
        exact showP_snoc _ s)
      generalize showP ((es.take k).map (·.1)) = L at *
      have HSO := Lib.hid hso
      clear m1 m3 y1 hx HX HM HLN hso
      go_upto_region 5 with (first
        | (refine wpList_row 32 (.tmp 10) rfl rfl b (o + k * 5) rfl (arrSt s (.slice A' s.b.length c')) _ hr1 Tryd.underlying32 rfl infS ?_)
        | (refine wpList_store_blk (vs := arrSt s (.slice A' s.b.length c')) rfl 32 (.tmp 5) (.tmp 11) rfl rfl (Blk.new _ _ _) rfl rfl rfl (by kernel_rfl) rfl ?_; intro w2 hB2 hc2)
        | fail)
      have hcA : Chg [] wr w2 := ((Chg.refl [] wr).alloc _).trans' hc2 (by intro x hx; simp at hx; subst hx; exact .inr (Nat.le_refl _))
      have HC2 := Lib.hid (HC.out.trans hcA)
      have HBD2 : Hid (∃ p v, BdR w2 w.heap.size w.heap.size p v L) := Lib.hid (by
        obtain ⟨p, v, h⟩ := HB.out
        exact ⟨p, v, h.chg0 hcA⟩)
      have HY2 := Lib.hid (Sl.chg0 HY.out hcA)
      have FT := Lib.hid (text_any HY2.out HSO.out (HG.out.chg HC2.out))
      clear hc2 hcA HC HB HY hr1
      go_wp2_with (first
        | (refine wpList_load_blk rfl 32 (.tmp 5) rfl hB2 rfl _ Tryd.underlying32 rfl (by kernel_rfl) ?_)
        | fail)
      refine FT.out.mono ?_
      rintro e w3 ⟨rfl, hc3⟩
      have HC3 := Lib.hid (HC2.out.trans hc3)
      obtain ⟨p3, v3, hd3⟩ := HBD2.out
      have FW := Lib.hid (write_any (hd3.chg0 hc3) (textP s) (by omega) HC3.out.size)
      have HL3 := Lib.hid (own_lt (hd3.chg0 hc3).own)
      clear hc3 hd3 HBD2 HC2 HY2 FT hB2
      go_wp2_with fail
      refine FW.out.mono ?_
      rintro e w4 ⟨⟨r4, rfl⟩, ⟨p4, v4, hd4⟩, hc4⟩
      have HC4 := Lib.hid (HC3.out.trans' hc4 (by
        intro x hx
        rcases List.mem_cons.1 hx with rfl | hx
        · exact .inr (Nat.le_refl _)
        · exact .inr (HL3.out x hx).1))
      have FW2 := write_any hd4 [10] (by simp; omega) HC4.out.size
      rw [show (str [10]) = .string ({ data := #[10] } : ByteArray) from rfl] at FW2
      have HFW2 := Lib.hid FW2
      have HL4 := Lib.hid (own_lt hd4.own)
      clear hc4 hd4 FW FW2 HC3 HL3
      go_wp2_with fail
      refine HFW2.out.mono ?_
      rintro e w5 ⟨⟨r5, rfl⟩, ⟨p5, v5, hd5⟩, hc5⟩
      have HC5 := Lib.hid (HC4.out.trans' hc5 (by
        intro x hx
        rcases List.mem_cons.1 hx with rfl | hx
        · exact .inr (Nat.le_refl _)
        · exact .inr (HL4.out x hx).1))
      have HBD5 : Hid (∃ p v, BdR w5 w.heap.size w.heap.size p v (showP ((es.take (k + 1)).map (·.1)))) := Lib.hid (by rw [HT.out]; exact ⟨p5, v5, hd5⟩)
      clear hc5 hd5 HFW2 HC4 HL4
      go_wp2_with fail
      go_roundw
      case rel => exact ⟨k + 1, by omega, by go_num, HBD5, HC5⟩
      case measure => simp [intOf] <;> omega
    · obtain rfl : k = n := by omega
      obtain ⟨Q, hQ⟩ : ∃ Q, showP (es.map (·.1)) = Q := ⟨_, rfl⟩
      have hb9 := HB.out
      rw [← HF.out, hQ] at hb9
      have HQ := Lib.hid hQ
      obtain ⟨p, v, hd⟩ := hb9
      have FS := Lib.hid (string_any hd HC.out.size)
      clear HF hQ
      clear hd HB HX HM HLN
      go_wp2_with fail
      refine FS.out.mono ?_
      rintro e w5 ⟨rfl, hb5⟩
      have HC5 := Lib.hid (HC.out.below2 hb5)
      clear hb5 FS
      go_wp2_with fail
      go_ret
      exact ⟨by rw [HQ.out]; rfl, HC5.out⟩
set_option maxRecDepth 100000 in
set_option maxHeartbeats 2000000 in
theorem small_any {w : World} {B : Nat} {v : Value} {es : List SV} (h : SlT w B v es) (hS : StsR w [] es) (hl : es.length ≤ 9223372036854775807) :
    Calls Tryd.prog 13 #[v, .int .i64 40] w fun e w' => ∃ r, e = .returned (.bool r) ∧ (r = true → es.length ≤ 40 ∧ ∀ x ∈ es, x.1.b.length ≤ 1600) ∧ w = w' := by
  obtain ⟨A, c, rfl⟩ := Sl.form h
  have HM := Lib.hid (And.intro h hS)
  have HX : Hid (∀ i, i < es.length → ∃ s v, es[i]? = some (s, v)) := Lib.hid fun i hi => ⟨es[i].1, es[i].2, List.getElem?_eq_getElem hi⟩
  have HFIN : Hid (∀ k, k = es.length → (∀ i x, i < k → es[i]? = some x → x.1.b.length ≤ 1600) → ∀ x ∈ es, x.1.b.length ≤ 1600) := Lib.hid fun k hk hall x hx => by
    obtain ⟨i, hi, rfl⟩ := List.mem_iff_getElem.1 hx
    exact hall i _ (by omega) (List.getElem?_eq_getElem hi)
  clear h hS
  generalize hn : es.length = n at *
  clear hn
  by_cases h40 : 40 < n
  · have hc : (40 : Int) < (n : Int) := by omega
    clear HX HM HFIN
    go_enter Tryd.func13, Tryd.ntmps13
    go_wp2_with fail
    go_ret
    exact ⟨false, rfl, (fun h => by cases h), rfl⟩
  have hc : ¬ (40 : Int) < (n : Int) := by omega
  go_enter Tryd.func13, Tryd.ntmps13
  go_wp2_with fail
  go_loopw [5] (fun iv wr => ∃ k : Nat, k ≤ n ∧ iv = .int .i64 k ∧ Hid (∀ i x, i < k → es[i]? = some x → x.1.b.length ≤ 1600) ∧ w = wr) (fun iv _ => n - (intOf iv).toNat)
  case atStart => exact ⟨0, by omega, rfl, Lib.hid (fun i x hi => by omega), rfl⟩
  case round =>
    obtain ⟨k, hk, rfl, HA, rfl⟩ := hrel
    by_cases hlt : k < n
    · have hcn : (k : Int) < (n : Int) := by omega
      obtain ⟨s, vs, hx⟩ := HX.out k hlt
      have y1 : SlY w 0 vs s.b := (HM.out.2 _ (List.mem_of_getElem? hx)).1
      obtain ⟨A', c', rfl⟩ := Sl.form y1
      obtain ⟨b, o, rfl, hr1⟩ := SlT.one HM.out.1 hx
      have c4 : w.cell? ⟨b, o + k * 5 + 4, none⟩ = some (.slice A' s.b.length c') := hr1 4 _ rfl
      have HX1 := Lib.hid hx
      clear y1 hr1 hx HX HM
      by_cases hbl : 1600 < s.b.length
      · have hc2 : (1600 : Int) < (s.b.length : Int) := by omega
        go_wp2_with fail
        go_ret
        exact ⟨false, rfl, (fun h => by cases h), rfl⟩
      · have hc2 : ¬ (1600 : Int) < (s.b.length : Int) := by omega
        have HA' : Hid (∀ i x, i < k + 1 → es[i]? = some x → x.1.b.length ≤ 1600) := Lib.hid fun i x hi hxi => by
          rcases Nat.lt_or_ge i k with h1 | h1
          · exact HA.out i x h1 hxi
          · obtain rfl : i = k := by omega
            rw [HX1.out] at hxi
            injection hxi with hxi
            subst hxi
            show s.b.length ≤ 1600
            omega
        clear HA HX1
        go_wp2_with fail
        go_roundw
        case rel => exact ⟨k + 1, by omega, by go_num, HA', trivial⟩
        case measure => simp [intOf] <;> omega
    · obtain rfl : k = n := by omega
      have HR := Lib.hid (HFIN.out k rfl HA.out)
      clear HA HFIN HX HM
      go_wp2_with fail
      go_ret
      exact ⟨true, rfl, (fun _ => ⟨by omega, HR.out⟩), rfl⟩
end Go.Proofs.YtljgemknccodeaaDoor
