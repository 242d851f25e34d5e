/-
  CONTRACTS: hexadecimal digits: hex, unhex, the document's hex, bytes. Conditions: lengths.
-/
import Derived.Test.YtljgemknccodeaaDoorScG
import Derived.Test.YtljgemknccodeaaDoorReg
import Derived.Deep.CutBlock
import Derived.StillTailTactics
set_option linter.unusedVariables false
set_option linter.unusedSimpArgs false
namespace Go.Proofs.YtljgemknccodeaaDoor
open Go.RowKit

@[reducible] def yv (b : UInt8) : Value := .int .u8 b.toNat
def SlY (w : World) (B : Nat) (v : Value) (l : Bs) : Prop := Sl w B 1 v l.length (l.map yv)
def OwY (w : World) (B : Nat) (v : Value) (l : Bs) : Prop := w.ownsRow B 5 1 v l.length (l.map yv)
theorem SlY.at_ {w : World} {B : Nat} {v : Value} {L : Bs} (h : SlY w B v L) {k : Nat} {p : UInt8} (hp : L[k]? = some p) :
    ∃ b o c, v = .slice (some ⟨b, o, none⟩) L.length c ∧ L.length ≤ c ∧ w.cell? ⟨b, o + k, none⟩ = some (.int .u8 p.toNat) := by
  have hk : k < L.length := (List.getElem?_eq_some_iff.1 hp).1
  obtain ⟨b, o, c, e, _, hc, hcell⟩ := Sl.at_ h hk (by omega)
  have := hcell 0 (by omega)
  rw [Nat.add_zero, Nat.mul_one] at this
  exact ⟨b, o, c, e, hc, by rw [this, List.getElem?_map, hp]; rfl⟩
/-- Bytes in hexadecimal digits. -/
def hexL (l : Bs) : Bs := l.flatMap fun b => [dgs.getD (b.toNat / 16) 0, dgs.getD (b.toNat % 16) 0]
def hexP (l : Bs) : Bs := if l = [] then [45] else hexL l
theorem hexL_snoc (l : Bs) (b : UInt8) : hexL (l ++ [b]) = hexL l ++ [dgs.getD (b.toNat / 16) 0, dgs.getD (b.toNat % 16) 0] := by simp [hexL]
theorem hexL_len (l : Bs) : (hexL l).length = 2 * l.length := by
  unfold hexL
  induction l with
  | nil => rfl
  | cons b l ih => rw [List.flatMap_cons, List.length_append, ih]; simp; omega
@[reducible] def rv (b : UInt8) : Value := .int .i32 b.toNat
def OwU (w : World) (B : Nat) (v : Value) (l : Bs) : Prop := w.ownsRow B 21 1 v l.length (l.map rv)
theorem enc_dg : ∀ k : Fin 16, Utf8.encode ((dgs.getD k.val 0).toNat : Int) = bsA [dgs.getD k.val 0] := by decide +kernel
theorem runes_dg : ∀ (l : Bs) (r : Bs), (∀ b ∈ l, ∃ k : Fin 16, b = dgs.getD k.val 0) → (l.map fun b => (b.toNat : Int)).foldl (fun r n => r ++ Utf8.encode n) (bsA r) = bsA (r ++ l)
  | [], r, _ => by simp
  | b :: l, r, h => by
    obtain ⟨k, hk⟩ := h b (by simp)
    rw [List.map_cons, List.foldl_cons, hk, enc_dg k, bsA_app, runes_dg l _ (fun x hx => h x (by simp [hx]))]
    simp
theorem elU : El Tryd.prog 83 21 (.int .i32 0) 1 4 := ⟨Tryd.underlying83, by kernel_rfl, rfl, by omega⟩
theorem two_u {W : World} {g : Nat} {t : TypeId} {a b : Value} (h : Blk W g t #[a, b]) : Sl W 0 1 (.slice (some ⟨g, 0, none⟩) 2 2) 2 [a, b] :=
  ⟨rfl, _, 2, rfl, Nat.le_refl _, fun _ => ⟨g, 0, rfl, Nat.zero_le _, fun j u hu => by rw [Nat.zero_add, h.cell]; simpa using hu⟩⟩
theorem two_cu (a b : UInt8) : ∀ u ∈ [rv a, rv b], u.oneCell' = true := by
  intro u hu
  simp at hu
  rcases hu with rfl | rfl <;> rfl
theorem hexL_dg (l : Bs) : ∀ b ∈ hexL l, ∃ k : Fin 16, b = dgs.getD k.val 0 := by
  intro b hb
  unfold hexL at hb
  obtain ⟨x, _, hx⟩ := List.mem_flatMap.1 hb
  have hlt := x.toNat_lt
  rcases List.mem_cons.1 hx with rfl | hx
  · exact ⟨⟨x.toNat / 16, by omega⟩, rfl⟩
  · rw [List.mem_singleton] at hx
    exact ⟨⟨x.toNat % 16, by omega⟩, hx⟩
theorem run_runes {w : World} {B : Nat} {v : Value} {l : Bs} (h : OwU w B v l) (h0 : 0 < l.length) (hd : ∀ b ∈ l, ∃ k : Fin 16, b = dgs.getD k.val 0) :
    (convert 83 9 v).run Tryd.prog w = .ok (str l) w := by
  have hs := Sl.of_own h
  obtain ⟨A, c, rfl⟩ := Sl.form hs
  obtain ⟨b, o, c', e, _, hc, _⟩ := Sl.at_ hs h0 (by omega)
  cases e
  have h2 := run_convert_runes (P := Tryd.prog) w 83 9 21 ⟨b, o, none⟩ l.length c (l.map fun b => (b.toNat : Int)) (by simp) Tryd.underlying83 Tryd.underlying21 Tryd.underlying9 (fun j hj => by
    rw [List.length_map] at hj
    obtain ⟨b', o', c'', e', _, _, hcell⟩ := Sl.at_ hs hj (by omega)
    cases e'
    have h3 := hcell 0 (by omega)
    rw [Nat.add_zero, Nat.mul_one, List.getElem?_map, List.getElem?_eq_getElem hj] at h3
    have e4 : (l.map fun b => (b.toNat : Int)).getD j 0 = (l[j].toNat : Int) := by
      rw [List.getD_eq_getElem?_getD, List.getElem?_map, List.getElem?_eq_getElem hj]; rfl
    rw [e4]
    by_cases h0 : j = 0
    · subst h0; simpa [Addr.add] using h3
    · simpa [Addr.add, h0] using h3)
  rw [h2, List.take_of_length_le (by simp)]
  have h5 := runes_dg l [] hd
  rw [bsA_nil] at h5
  show Result.ok (Value.string (runesBytes _)) w = _
  unfold runesBytes
  rw [h5]
  rfl
def AnyS (w : World) : Prop := True
theorem and15_all : ∀ n : Fin 256, bits .and .u8 ((n.val : Nat) : Int) 15 = ((n.val % 16 : Nat) : Int) := by decide +kernel
theorem and15 (p : UInt8) : bits .and .u8 (p.toNat : Int) 15 = (p.toNat : Int) % 16 := by
  have := and15_all ⟨p.toNat, p.toNat_lt⟩
  simp only at this
  rw [this]
  omega
theorem wrap_i32_u8 (p : UInt8) : IntKind.i32.wrap (p.toNat : Int) = p.toNat := by
  have hp := p.toNat_lt
  simp [IntKind.wrap, IntKind.signed, IntKind.bits, IntKind.min, IntKind.max] <;> omega
set_option maxRecDepth 100000 in
set_option maxHeartbeats 4000000 in
theorem hex_any {w : World} {B : Nat} {v : Value} {l : Bs} (h : SlY w B v l) (hl : l.length ≤ 100000) : Calls Tryd.prog 32 #[v] w fun e w' => e = .returned (str (hexP l)) ∧ Chg [] w w' := by
  obtain ⟨A, c, rfl⟩ := Sl.form h
  by_cases h0 : l = []
  · have hn : (l.length : Int) = 0 := by rw [h0]; rfl
    have HR : Hid (str (hexP l) = .string { data := #[45] }) := Lib.hid (by rw [h0]; rfl)
    rw [h0] at *
    clear h h0
    go_enter Tryd.func32, Tryd.ntmps32
    go_wp2_with fail
    go_ret
    exact ⟨by rw [HR.out]; rfl, Chg.refl _ _⟩
  · have hpos : 0 < l.length := List.length_pos_iff.2 h0
    have HS := Lib.hid (fun W (hW : Chg [] w W) i p hp => SlY.at_ (h.chg0 hW) (k := i) (p := p) hp)
    have HX : Hid (∀ i, i < l.length → ∃ x, l[i]? = some x) := Lib.hid fun i hi => ⟨_, List.getElem?_eq_getElem hi⟩
    have HR : Hid (hexP l = hexL l) := Lib.hid (by unfold hexP; rw [if_neg h0])
    clear h h0
    generalize hn : l.length = n at *
    have HLN := Lib.hid hn
    clear hn
    have hn0 : ((n : Int) == 0) = false := by rw [beq_eq_false_iff_ne]; omega
    go_enter Tryd.func32, Tryd.ntmps32
    go_wp2_with fail
    go_loopw [3, 11] (fun ov iv wr => ∃ k : Nat, k ≤ n ∧ iv = .int .i64 k ∧ Hid (OwU wr w.heap.size ov (hexL (l.take k))) ∧ Hid (Chg [] w wr)) (fun _ iv _ => n - (intOf iv).toNat)
    case atStart => exact ⟨0, by omega, rfl, Lib.hid (World.ownsRow_nil ..), Lib.hid (Chg.refl _ _)⟩
    case round =>
      obtain ⟨k, hk, rfl, HO, HC⟩ := hrel
      by_cases hlt : k < n
      · have hcn : (k : Int) < (n : Int) := by omega
        obtain ⟨p, hp⟩ := HX.out k hlt
        obtain ⟨b, o, c', hv, hcap, c0⟩ := HS.out wr HC.out k p hp
        simp only [Value.slice.injEq] at hv
        obtain ⟨rfl, hnn, rfl⟩ := hv
        clear hnn
        obtain ⟨q, hq⟩ : ∃ q : Nat, (p.toNat : Int) / 16 = q := ⟨p.toNat / 16, by omega⟩
        obtain ⟨r, hr⟩ : ∃ r : Nat, (p.toNat : Int) % 16 = r := ⟨p.toNat % 16, by omega⟩
        have hpl := p.toNat_lt
        have hq16 : q < 16 := by omega
        have hr16 : r < 16 := by omega
        have HL : Hid (∀ k : Nat, k < 16 → ∃ d : UInt8, d = dgs.getD k 0 ∧ ∀ h, ({ data := #[48, 49, 50, 51, 52, 53, 54, 55, 56, 57, 97, 98, 99, 100, 101, 102] } : ByteArray)[k]'h = d) :=
          Lib.hid fun k hk => ⟨_, rfl, fun h => dgs_at k h⟩
        obtain ⟨dq, hdq, hdqa⟩ := HL.out q hq16
        obtain ⟨dr, hdr, hdra⟩ := HL.out r hr16
        have HD : Hid (hexL (l.take (k + 1)) = hexL (l.take k) ++ [dq, dr]) := Lib.hid (by
          rw [List.take_add_one, hp]
          show hexL (l.take k ++ [p]) = _
          rw [hexL_snoc, hdq, hdr, show p.toNat / 16 = q by omega, show p.toNat % 16 = r by omega])
        have hqI : (q : Int) < 16 := by omega
        have hrI : (r : Int) < 16 := by omega
        have ha15 := and15 p
        rw [hr] at ha15
        have hw1 := wrap_i32_u8 dq
        have hw2 := wrap_i32_u8 dr
        have hA := ((Chg.refl [] wr).drew).alloc (.cells #[rv dq, rv dr] 21)
        have hbl : Blk (wr.drew.alloc (.cells #[rv dq, rv dr] 21)) wr.drew.heap.size 21 #[rv dq, rv dr] := Blk.new _ _ _
        have hLl : (hexL (l.take k)).length ≤ 2 * k := by rw [hexL_len, List.length_take]; omega
        generalize hexL (l.take k) = L at *
        have HR1 := Lib.hid (own_chg HO.out hA (by simp))
        have HS1 := Lib.hid (two_u hbl)
        have HLT := Lib.hid (own_lt HO.out)
        have hws : w.heap.size ≤ (wr.drew.alloc (.cells #[rv dq, rv dr] 21)).heap.size := by have := HC.out.size; rw [World.size_alloc]; show _ ≤ wr.heap.size + 1; omega
        have HA := Lib.hid hA
        have HFIN : Hid (∀ v1 w1, w1.ownsRow w.heap.size 21 1 v1 (L.length + 2) (L.map rv ++ [rv dq, rv dr]) → Chg u3.ownBlock.toList (wr.drew.alloc (.cells #[rv dq, rv dr] 21)) w1 → OwU w1 w.heap.size v1 (L ++ [dq, dr]) ∧ Chg [] w w1) := Lib.hid fun v1 w1 h1 h2 =>
          ⟨by unfold OwU; rw [List.length_append, List.map_append]; exact h1, (HC.out.trans HA.out).trans' h2 (fun x hx => .inr (HLT.out x hx).1)⟩
        clear hdq hdr HL hp hA hbl HLT HA
        go_upto_region 7 with fail
        refine wp_region_noPanic ?_
        have hA0 : AnyS wr.drew := trivial
        have hA1 : AnyS (wr.drew.alloc (.cells #[rv dq, rv dr] 21)) := trivial
        refine wp_region_held_drew (S := AnyS) (by kernel_rfl) hA0 (fun _ => ?_)
        generalize wr.drew = wd at *
        refine wpAnyH_take (i := 0) (v := ?_) rfl (by kernel_rfl) (by kernel_rfl) (by kernel_rfl) (fun _ _ _ h => h) (yields_pure (by rfl) (fun w => ?_)) (by with_reducible assumption) ?_
        rotate_left
        · (go_simp <;> with_reducible rfl)
        try simp only [List.getElem_toArray, List.getElem_cons_succ, List.getElem_cons_zero, Act.put, List.setIfInBounds_toArray, List.set_cons_zero, List.set_cons_succ]
        refine wpAnyH_take (i := 1) (v := ?_) rfl (by kernel_rfl) (by kernel_rfl) (by kernel_rfl) (fun _ _ _ h => h) (yields_pure (by rfl) (fun w => ?_)) (by with_reducible assumption) ?_
        rotate_left
        · (go_simp <;> with_reducible rfl)
        try simp only [List.getElem_toArray, List.getElem_cons_succ, List.getElem_cons_zero, Act.put, List.setIfInBounds_toArray, List.set_cons_zero, List.set_cons_succ]
        refine wpAnyH_take (i := 2) (v := ?_) rfl (by kernel_rfl) (by kernel_rfl) (by kernel_rfl) (fun _ _ _ h => h) (yields_pure (by rfl) (fun w => ?_)) (by with_reducible assumption) ?_
        rotate_left
        · (go_simp <;> with_reducible rfl)
        try simp only [List.getElem_toArray, List.getElem_cons_succ, List.getElem_cons_zero, Act.put, List.setIfInBounds_toArray, List.set_cons_zero, List.set_cons_succ]
        refine wpAnyH_take (i := 3) (v := ?_) rfl (by kernel_rfl) (by kernel_rfl) (by kernel_rfl) (fun _ _ _ h => h) (yields_pure (by rfl) (fun w => ?_)) (by with_reducible assumption) ?_
        rotate_left
        · (go_simp <;> with_reducible rfl)
        try simp only [List.getElem_toArray, List.getElem_cons_succ, List.getElem_cons_zero, Act.put, List.setIfInBounds_toArray, List.set_cons_zero, List.set_cons_succ]
        refine wpAnyH_take (i := 4) (v := ?_) rfl (by kernel_rfl) (by kernel_rfl) (by kernel_rfl) (fun _ _ _ h => h) (yields_pure (by rfl) (fun w => ?_)) (by with_reducible assumption) ?_
        rotate_left
        · (go_simp <;> with_reducible rfl)
        try simp only [List.getElem_toArray, List.getElem_cons_succ, List.getElem_cons_zero, Act.put, List.setIfInBounds_toArray, List.set_cons_zero, List.set_cons_succ]
        refine wpAnyH_take (i := 5) (v := ?_) rfl (by kernel_rfl) (by kernel_rfl) (by kernel_rfl) (fun _ _ _ h => h) (yields_pure (by rfl) (fun w => ?_)) (by with_reducible assumption) ?_
        rotate_left
        · (go_simp <;> with_reducible rfl)
        try simp only [List.getElem_toArray, List.getElem_cons_succ, List.getElem_cons_zero, Act.put, List.setIfInBounds_toArray, List.set_cons_zero, List.set_cons_succ]
        refine wpAnyH_take (i := 6) (v := ?_) rfl (by kernel_rfl) (by kernel_rfl) (by kernel_rfl) (fun _ _ _ h => h) (yields_pure (by rfl) (fun w => ?_)) (by with_reducible assumption) ?_
        rotate_left
        · (go_simp <;> with_reducible rfl)
        try simp only [List.getElem_toArray, List.getElem_cons_succ, List.getElem_cons_zero, Act.put, List.setIfInBounds_toArray, List.set_cons_zero, List.set_cons_succ]
        refine wpAnyH_take (i := 7) (v := ?_) rfl (by kernel_rfl) (by kernel_rfl) (by kernel_rfl) (fun _ _ _ h => h) (yields_pure (by rfl) (fun w => ?_)) (by with_reducible assumption) ?_
        rotate_left
        · (go_simp <;> with_reducible rfl)
        try simp only [List.getElem_toArray, List.getElem_cons_succ, List.getElem_cons_zero, Act.put, List.setIfInBounds_toArray, List.set_cons_zero, List.set_cons_succ]
        refine wpAnyH_take (i := 8) (v := ?_) rfl (by kernel_rfl) (by kernel_rfl) (by kernel_rfl) (fun _ _ _ h => h) (yields_pure (by rfl) (fun w => ?_)) (by with_reducible assumption) ?_
        rotate_left
        · (go_simp <;> with_reducible rfl)
        try simp only [List.getElem_toArray, List.getElem_cons_succ, List.getElem_cons_zero, Act.put, List.setIfInBounds_toArray, List.set_cons_zero, List.set_cons_succ]
        refine wpAnyH_ready (rs := [9]) (by kernel_rfl) (by simp) (AllReadyH.cons rfl (fun K hK => ?_) AllReadyH.nil)
        go_simp
        refine hK.out _ _ (by with_reducible assumption) (fun _ => ?_)
        clear hK K
        try simp only [List.getElem_toArray, List.getElem_cons_succ, List.getElem_cons_zero, Act.put, List.setIfInBounds_toArray, List.set_cons_zero, List.set_cons_succ]
        refine wpAnyH_ready (rs := [10]) (by kernel_rfl) (by simp) (AllReadyH.cons rfl (fun K hK => ?_) AllReadyH.nil)
        refine step_app elU rfl (.tmp 15) (.tmp 24) rfl w.heap.size rfl HR1.out rfl HS1.out (two_cu dq dr) (by unfold maxLen; omega) (by omega) hws ?_
        intro v1 w1 hown1 hc1 hb1
        have hA2 : AnyS w1 := trivial
        refine hK.out _ _ (by with_reducible assumption) (fun _ => ?_)
        clear hK K
        try simp only [List.getElem_toArray, List.getElem_cons_succ, List.getElem_cons_zero, Act.put, List.setIfInBounds_toArray, List.set_cons_zero, List.set_cons_succ]
        refine wpAnyH_take (i := 11) (v := ?_) rfl (by kernel_rfl) (by kernel_rfl) (by kernel_rfl) (fun _ _ _ h => h) (yields_pure (by rfl) (fun w => ?_)) (by with_reducible assumption) ?_
        rotate_left
        · (go_simp <;> with_reducible rfl)
        try simp only [List.getElem_toArray, List.getElem_cons_succ, List.getElem_cons_zero, Act.put, List.setIfInBounds_toArray, List.set_cons_zero, List.set_cons_succ]
        refine wpAnyH_done (by kernel_rfl) ?_ _
        refine NoPanic.normal ?_
        go_wp2_with fail
        go_roundw
        case rel => exact ⟨k + 1, by omega, by go_num, Lib.hid (by rw [HD.out]; exact (HFIN.out _ _ hown1 hc1).1), Lib.hid (HFIN.out _ _ hown1 hc1).2⟩
        case measure => simp [intOf] <;> omega
      · obtain rfl : k = n := by omega
        have hO := HO.out
        rw [List.take_of_length_le (by rw [HLN.out]; exact Nat.le_refl _)] at hO
        have hcv := run_runes hO (by rw [hexL_len, HLN.out]; omega) (hexL_dg l)
        have HR2 : Hid (str (hexP l) = str (hexL l)) := Lib.hid (by rw [HR.out])
        clear hO HO HS HX HR HLN
        go_wp2_with fail
        go_ret
        exact ⟨by rw [HR2.out]; rfl, HC.out⟩
end Go.Proofs.YtljgemknccodeaaDoor
