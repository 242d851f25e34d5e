/-
  CONTRACTS: the document's pieces of a text: nibble, Split. And strings as lists of bytes. No condition but on lengths.
-/
import Derived.WalkLawsBesides
import Derived.WalkSpells
import Derived.Test.YtljgemknccodeaaDoorScP
import Derived.Test.YtljgemknccodeaaDoorStruct
import Derived.Test.YtljgemknccodeaaDoorRow
set_option linter.unusedVariables false
set_option linter.unusedSimpArgs false
namespace Go.Proofs.YtljgemknccodeaaDoor
open Go.RowKit

/-! Strings as lists of bytes. -/
def bsA (p : Bs) : ByteArray := ⟨p.toArray⟩
theorem bsA_size (p : Bs) : (bsA p).size = p.length := by simp [bsA, ByteArray.size]
theorem bsA_get (p : Bs) (k : Nat) (h : k < (bsA p).size) : (bsA p)[k]'h = p[k]'(by rw [bsA_size] at h; exact h) := by
  show (bsA p).data[k]'h = _
  simp [bsA]
theorem bsA_at {p : Bs} {k : Nat} {b : UInt8} (hb : p[k]? = some b) (h : k < (bsA p).size) : (bsA p)[k]'h = b := by
  rw [bsA_get]
  obtain ⟨h1, h2⟩ := List.getElem?_eq_some_iff.1 hb
  exact h2
theorem bsA_data (p : Bs) : (bsA p).data.toList = p := by simp [bsA]
theorem bsA_inj {p q : Bs} (h : bsA p = bsA q) : p = q := by rw [← bsA_data p, h, bsA_data]
theorem bsA_ext (p : Bs) (a b : Nat) : (bsA p).extract a b = bsA ((p.drop a).take (b - a)) := by
  have h := Go.Lib.extract_data (bsA p) a b
  rw [bsA_data] at h
  apply ByteArray.ext
  apply Array.ext'
  rw [h]
  simp [bsA]
theorem bsA_app (p q : Bs) : bsA p ++ bsA q = bsA (p ++ q) := by
  apply ByteArray.ext
  apply Array.ext'
  simp [bsA]
theorem bsA_of (s : ByteArray) : s = bsA s.data.toList := by
  apply ByteArray.ext
  simp [bsA]
theorem bsA_nil : bsA [] = ByteArray.empty := rfl
abbrev str (p : Bs) : Value := .string (bsA p)
/-- A slice of strings. -/
def OwS (w : World) (B : Nat) (v : Value) (L : List Bs) : Prop := w.ownsRow B 9 1 v L.length (L.map str)
def SlS (w : World) (B : Nat) (v : Value) (L : List Bs) : Prop := Sl w B 1 v L.length (L.map str)
theorem OwS.sl {w : World} {B : Nat} {v : Value} {L : List Bs} (h : OwS w B v L) : SlS w B v L := Sl.of_own h
theorem OwS.nil (w : World) (B : Nat) : OwS w B (.slice none 0 0) [] := World.ownsRow_nil ..
theorem owS_snoc {w : World} {B : Nat} {v : Value} {L : List Bs} {p : Bs} (h : w.ownsRow B 9 1 v (L.length + 1) (L.map str ++ [str p])) : OwS w B v (L ++ [p]) := by
  unfold OwS
  rw [List.length_append, List.map_append]
  simpa using h
theorem elS : El Tryd.prog 49 9 (.string ByteArray.empty) 1 16 := ⟨Tryd.underlying49, by kernel_rfl, rfl, by omega⟩
theorem one_s {W : World} {g : Nat} {t : TypeId} {a : Value} (h : Blk W g t #[a]) : Sl W 0 1 (.slice (some ⟨g, 0, none⟩) 1 1) 1 [a] :=
  ⟨rfl, _, 1, rfl, Nat.le_refl _, fun _ => ⟨g, 0, rfl, Nat.zero_le _, fun j u hu => by rw [Nat.zero_add, h.cell]; simpa using hu⟩⟩
theorem one_cs (p : Bs) : ∀ u ∈ [str p], u.oneCell' = true := by
  intro u hu
  simp at hu
  subst hu
  rfl
theorem SlS.at_ {w : World} {B : Nat} {v : Value} {L : List Bs} (h : SlS w B v L) {k : Nat} {p : Bs} (hp : L[k]? = some p) :
    ∃ b o c, v = .slice (some ⟨b, o, none⟩) L.length c ∧ L.length ≤ c ∧ w.cell? ⟨b, o + k, none⟩ = some (str p) := by
  have hk : k < L.length := (List.getElem?_eq_some_iff.1 hp).1
  obtain ⟨b, o, c, e, _, hc, hcell⟩ := Sl.at_ h hk (by omega)
  have := hcell 0 (by omega)
  rw [Nat.add_zero, Nat.mul_one] at this
  exact ⟨b, o, c, e, hc, by rw [this, List.getElem?_map, hp]; rfl⟩

/-! The digits. -/
def nibP (c : UInt8) : Int := if 48 ≤ c.toNat ∧ c.toNat ≤ 57 then (c.toNat : Int) - 48 else if 97 ≤ c.toNat ∧ c.toNat ≤ 102 then (c.toNat : Int) - 87 else -1
def dgs : Bs := [48, 49, 50, 51, 52, 53, 54, 55, 56, 57, 97, 98, 99, 100, 101, 102]
theorem nib_hit : ∀ k : Fin 16, nibP (dgs.getD k.val 0) = k.val := by decide
theorem nib_miss' : ∀ n : Fin 256, nibP (UInt8.ofNat n.val) = -1 ∨ ∃ j : Fin 16, dgs.getD j.val 0 = UInt8.ofNat n.val := by decide +kernel
theorem nib_miss {c : UInt8} (h : ∀ j, j < 16 → dgs.getD j 0 ≠ c) : nibP c = -1 := by
  have hc : UInt8.ofNat c.toNat = c := by simp
  rcases nib_miss' ⟨c.toNat, c.toNat_lt⟩ with e | ⟨j, e⟩
  · simpa [hc] using e
  · exact absurd (by simpa [hc] using e) (h j.val j.isLt)
theorem dgs_lit : bsA dgs = ({ data := #[48, 49, 50, 51, 52, 53, 54, 55, 56, 57, 97, 98, 99, 100, 101, 102] } : ByteArray) := rfl
theorem dgs_at (k : Nat) (h : k < (bsA dgs).size) : (bsA dgs)[k]'h = dgs.getD k 0 := by
  rw [bsA_get]
  have h2 : k < dgs.length := by rw [bsA_size] at h; exact h
  rw [List.getD_eq_getElem?_getD, List.getElem?_eq_getElem h2]
  rfl
theorem drop_cons_of {α : Type} {l : List α} {k : Nat} {b : α} (h : l[k]? = some b) : l.drop k = b :: l.drop (k + 1) := by
  obtain ⟨h1, h2⟩ := List.getElem?_eq_some_iff.1 h
  rw [List.drop_eq_getElem_cons h1, h2]
theorem take_snoc_of {α : Type} {l : List α} {k f : Nat} {b : α} (h : l[k]? = some b) (hf : f ≤ k) : (l.drop f).take (k - f) ++ [b] = (l.drop f).take (k + 1 - f) := by
  have e : k + 1 - f = (k - f) + 1 := by omega
  have h2 : (l.drop f)[k - f]? = some b := by rw [List.getElem?_drop, show f + (k - f) = k by omega]; exact h
  rw [e, List.take_add_one, h2]
  rfl
set_option maxRecDepth 100000 in
set_option maxHeartbeats 2000000 in
theorem nibble_any (c : UInt8) (w : World) : Calls Tryd.prog 39 #[.int .u8 c.toNat] w fun e w' => e = .returned (.int .i64 (nibP c)) ∧ w = w' := by
  have HD : Hid (∀ k : Nat, k < 16 → ∃ d : UInt8, d = dgs.getD k 0 ∧ ∀ h, ({ data := #[48, 49, 50, 51, 52, 53, 54, 55, 56, 57, 97, 98, 99, 100, 101, 102] } : ByteArray)[k]'h = d) :=
    Lib.hid fun k hk => ⟨_, rfl, fun h => dgs_at k h⟩
  have HE : Hid (∀ k : Nat, k < 16 → dgs.getD k 0 = c → nibP c = k) := Lib.hid fun k hk e => by rw [← e]; exact nib_hit ⟨k, hk⟩
  have HM : Hid ((∀ j, j < 16 → dgs.getD j 0 ≠ c) → nibP c = -1) := Lib.hid nib_miss
  go_enter Tryd.func39, Tryd.ntmps39
  go_wp2_with fail
  go_loopw [3] (fun iv wr => ∃ k : Nat, k ≤ 16 ∧ iv = .int .i64 k ∧ Hid (∀ j, j < k → dgs.getD j 0 ≠ c) ∧ w = wr) (fun iv _ => 16 - (intOf iv).toNat)
  case atStart => exact ⟨0, by omega, rfl, Lib.hid (fun j hj => by omega), rfl⟩
  case round =>
    obtain ⟨k, hk, rfl, HN, rfl⟩ := hrel
    by_cases h : (k : Int) < 16
    · obtain ⟨d, hd, hda⟩ := HD.out k (by omega)
      by_cases e : d = c
      · have HR : Hid (nibP c = k) := Lib.hid (HE.out k (by omega) (by rw [← hd]; exact e))
        subst e
        have ed : ((d.toNat : Int) == (d.toNat : Int)) = true := by simp
        clear hd HN HD HE HM
        go_wp2_with fail
        go_ret
        exact ⟨by rw [HR.out]; rfl, rfl⟩
      · have ed : ((d.toNat : Int) == (c.toNat : Int)) = false := by
          rw [beq_eq_false_iff_ne]
          intro h2
          exact e (UInt8.toNat_inj.1 (by omega))
        have HN' : Hid (∀ j, j < k + 1 → dgs.getD j 0 ≠ c) := Lib.hid fun j hj => by
          rcases Nat.lt_or_ge j k with h3 | h3
          · exact HN.out j h3
          · obtain rfl : j = k := by omega
            rw [← hd]; exact e
        clear hd HN HD HE HM
        go_wp2_with fail
        go_roundw
        case rel => exact ⟨k + 1, by omega, by go_num, HN', trivial⟩
        case measure => simp [intOf] <;> omega
    · obtain rfl : k = 16 := by omega
      have HR := Lib.hid (HM.out HN.out)
      clear HN HD HE HM
      go_wp2_with fail
      go_ret
      exact ⟨by rw [HR.out]; rfl, rfl⟩

set_option maxRecDepth 100000 in
set_option maxHeartbeats 4000000 in
theorem split_any (l : Bs) (c : UInt8) (w : World) (hl : l.length ≤ 1000000) : Calls Tryd.prog 19 #[str l, .int .u8 c.toNat] w fun e w' => ∃ v, e = .returned v ∧ OwS w' w.heap.size v (spl c l) ∧ Chg [] w w' := by
  have hsz := bsA_size l
  have HB : Hid (∀ k, k < l.length → ∃ b, l[k]? = some b ∧ ∀ h, (bsA l)[k]'h = b) := Lib.hid fun k hk => ⟨_, List.getElem?_eq_getElem hk, fun h => bsA_at (List.getElem?_eq_getElem hk) h⟩
  have HX : Hid (∀ a b, (bsA l).extract a b = bsA ((l.drop a).take (b - a))) := Lib.hid (bsA_ext l)
  generalize hn : l.length = n at *
  have HLN := Lib.hid hn
  clear hn
  go_enter Tryd.func19, Tryd.ntmps19
  go_wp2_with fail
  go_loopw [5, 6, 7] (fun ov fv iv wr => ∃ (k f : Nat) (L : List Bs), k ≤ n ∧ f ≤ k ∧ fv = .int .i64 f ∧ iv = .int .i64 k ∧ Hid (spl c l = L ++ consH ((l.drop f).take (k - f)) (spl c (l.drop k)) ∧ L.length ≤ k) ∧ Hid (OwS wr w.heap.size ov L) ∧ Hid (Chg [] w wr)) (fun _ _ iv _ => n - (intOf iv).toNat)
  case atStart => exact ⟨0, 0, [], by omega, by omega, rfl, rfl, Lib.hid ⟨by simp [consH_nil (spl_ne c l)], by simp⟩, Lib.hid (OwS.nil _ _), Lib.hid (Chg.refl _ _)⟩
  case round =>
    obtain ⟨k, f, L, hk, hf, rfl, rfl, HS, HO, HC⟩ := hrel
    by_cases hlt : k < n
    · have hcn : (k : Int) < (n : Int) := by omega
      obtain ⟨b, hb, hba⟩ := HB.out k hlt
      by_cases e : b = c
      · have ed : ((b.toNat : Int) == (c.toNat : Int)) = true := by rw [e]; simp
        have hx := HX.out f k
        generalize hp : (l.drop f).take (k - f) = p at *
        have hA := (Chg.refl [] wr).alloc (.cells #[str p] 9)
        have hbl : Blk (wr.alloc (.cells #[str p] 9)) wr.heap.size 9 #[str p] := Blk.new _ _ _
        have HR1 := Lib.hid (own_chg HO.out hA (by simp))
        have HS1 := Lib.hid (one_s hbl)
        have HLT := Lib.hid (own_lt HO.out)
        have hws : w.heap.size ≤ (wr.alloc (.cells #[str p] 9)).heap.size := by have := HC.out.size; rw [World.size_alloc]; omega
        have hLl := HS.out.2
        have HA := Lib.hid hA
        have HFIN : Hid (∀ v1 w1, w1.ownsRow w.heap.size 9 1 v1 (L.length + 1) (L.map str ++ [str p]) → Chg u5.ownBlock.toList (wr.alloc (.cells #[str p] 9)) w1 → OwS w1 w.heap.size v1 (L ++ [p]) ∧ Chg [] w w1) := Lib.hid fun v1 w1 h1 h2 =>
          ⟨owS_snoc h1, (HC.out.trans HA.out).trans' h2 (fun x hx => .inr (HLT.out x hx).1)⟩
        have HS' : Hid (spl c l = (L ++ [p]) ++ consH ((l.drop (k + 1)).take (k + 1 - (k + 1))) (spl c (l.drop (k + 1))) ∧ (L ++ [p]).length ≤ k + 1) := Lib.hid ⟨by
          rw [HS.out.1, drop_cons_of hb, e, consH_hit]; simp [consH_nil (spl_ne c _)], by simp; omega⟩
        clear hb e hA hbl HS HX HB hp HA HLT
        go_wp2_with (first
          | (at_builtin; refine wpList_app elS rfl (.tmp 19) (.tmp 24) rfl w.heap.size rfl HR1.out rfl HS1.out (one_cs p) (by unfold maxLen; omega) (by omega) hws ?_; intro v1 w1 hown1 hc1 hb1)
          | fail)
        go_roundw
        case rel => exact ⟨k + 1, k + 1, L ++ [p], by omega, by omega, by go_num, by go_num, HS', Lib.hid (HFIN.out _ _ hown1 hc1).1, Lib.hid (HFIN.out _ _ hown1 hc1).2⟩
        case measure => simp [intOf] <;> omega
      · have ed : ((b.toNat : Int) == (c.toNat : Int)) = false := by
          rw [beq_eq_false_iff_ne]
          intro h2
          exact e (UInt8.toNat_inj.1 (by omega))
        have HS' : Hid (spl c l = L ++ consH ((l.drop f).take (k + 1 - f)) (spl c (l.drop (k + 1))) ∧ L.length ≤ k + 1) := Lib.hid ⟨by
          rw [HS.out.1, drop_cons_of hb, consH_miss e, take_snoc_of hb hf], by have := HS.out.2; omega⟩
        clear hb e HS HX HB
        go_wp2_with fail
        go_roundw
        case rel => exact ⟨k + 1, f, L, by omega, by omega, rfl, by go_num, HS', HO, HC⟩
        case measure => simp [intOf] <;> omega
    · obtain rfl : k = n := by omega
      have hx := HX.out f k
      have hp' : (l.drop f).take (k - f) = l.drop f := by rw [List.take_of_length_le]; rw [List.length_drop, HLN.out]; omega
      rw [hp'] at hx
      have HS' : Hid (spl c l = L ++ [l.drop f]) := Lib.hid (by
        have := HS.out.1
        rw [hp', show l.drop k = [] from List.drop_eq_nil_of_le (by rw [HLN.out]; omega), consH_end] at this
        exact this)
      generalize hp : l.drop f = p at *
      have hA := (Chg.refl [] wr).alloc (.cells #[str p] 9)
      have hbl : Blk (wr.alloc (.cells #[str p] 9)) wr.heap.size 9 #[str p] := Blk.new _ _ _
      have HR1 := Lib.hid (own_chg HO.out hA (by simp))
      have HS1 := Lib.hid (one_s hbl)
      have HLT := Lib.hid (own_lt HO.out)
      have hws : w.heap.size ≤ (wr.alloc (.cells #[str p] 9)).heap.size := by have := HC.out.size; rw [World.size_alloc]; omega
      have hLl := HS.out.2
      have HA := Lib.hid hA
      have HFIN : Hid (∀ v1 w1, w1.ownsRow w.heap.size 9 1 v1 (L.length + 1) (L.map str ++ [str p]) → Chg u5.ownBlock.toList (wr.alloc (.cells #[str p] 9)) w1 → OwS w1 w.heap.size v1 (L ++ [p]) ∧ Chg [] w w1) := Lib.hid fun v1 w1 h1 h2 =>
        ⟨owS_snoc h1, (HC.out.trans HA.out).trans' h2 (fun x hx => .inr (HLT.out x hx).1)⟩
      clear hA hbl HS HX HB hp hp' HA HLT HLN
      go_wp2_with (first
        | (at_builtin; refine wpList_app elS rfl (.tmp 28) (.tmp 32) rfl w.heap.size rfl HR1.out rfl HS1.out (one_cs p) (by unfold maxLen; omega) (by omega) hws ?_; intro v1 w1 hown1 hc1 hb1)
        | fail)
      go_ret
      exact ⟨_, rfl, by rw [HS'.out]; exact (HFIN.out _ _ hown1 hc1).1, (HFIN.out _ _ hown1 hc1).2⟩
end Go.Proofs.YtljgemknccodeaaDoor
