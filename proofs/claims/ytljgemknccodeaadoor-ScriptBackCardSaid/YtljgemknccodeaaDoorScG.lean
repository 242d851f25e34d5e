/-
  THE LIBRARY's FUNCTIONS that scripts call, in my words: Split, Cut, Itoa, Atoi, Index, IndexByte. Conditions: the package-level variables that they read (Gl).
-/
import Derived.Test.YtljgemknccodeaaDoorScA
import Derived.Test.YtljgemknccodeaaDoorShelfS
import Derived.Lib.AtoiErrMem
import Derived.Lib.AppendIntMem
set_option linter.unusedVariables false
set_option linter.unusedSimpArgs false
namespace Go.Proofs.YtljgemknccodeaaDoor
open Go.RowKit

/-- What the library's package-level variables hold. -/
structure Gl (w : World) : Prop where
  mx : ∃ m, w.cell? ⟨0, 0, none⟩ = some (.int .i64 m)
  es : ∃ te pe, w.cell? ⟨1, 0, none⟩ = some (.iface te pe)
  er : ∃ te pe, w.cell? ⟨2, 0, none⟩ = some (.iface te pe)
  pw : Lib.TabIs Tryd.prog w "internal/strconv.uint64pow10" .u64 Lib.pow10Tab
theorem var_chg {P : Program} {w w' : World} {n : String} {cs : Array Value} (h : w.var? P n = some cs) (hc : Chg [] w w') : w'.var? P n = some cs := by
  unfold World.var? at h ⊢
  cases hg : P.globalNamed n with
  | none => rw [hg] at h; cases h
  | some g =>
    rw [hg] at h
    simp only [Option.bind_some] at h ⊢
    have hlt : g < w.heap.size := by
      rcases Nat.lt_or_ge g w.heap.size with h1 | h1
      · exact h1
      · rw [Array.getElem?_eq_none h1] at h; cases h
    rw [hc.block g hlt (by simp)]
    exact h
theorem Gl.chg {w w' : World} (h : Gl w) (hc : Chg [] w w') : Gl w' := by
  obtain ⟨m, hm⟩ := h.mx
  obtain ⟨t1, p1, h1⟩ := h.es
  obtain ⟨t2, p2, h2⟩ := h.er
  exact ⟨⟨m, hc.cell hm (by simp)⟩, ⟨t1, p1, hc.cell h1 (by simp)⟩, ⟨t2, p2, hc.cell h2 (by simp)⟩, var_chg h.pw hc⟩
theorem split_lib (l : Bs) (c : UInt8) {w : World} (hg : Gl w) (hl : l.length ≤ 1000000) :
    Calls Tryd.prog 20 #[str l, str [c]] w fun e w' => ∃ v, e = .returned v ∧ OwS w' w.heap.size v (spl c l) ∧ Chg [] w w' := by
  obtain ⟨m, hm⟩ := hg.mx
  refine (Tryd.strings_Split (bsA l) (bsA [c]) m w (by rw [bsA_size]; omega) hm (by rw [bsA_size]; simp)).mono ?_
  rintro e w' ⟨rfl, rfl⟩
  have hp : Lib.splitB (bsA [c]) 0 (Lib.countB (bsA l) (bsA [c])) (bsA l) = (spl c l).map bsA := by
    have h1 := Lib.splitB_data (bsA [c]) 0 (Lib.countB (bsA l) (bsA [c])) (bsA l)
    rw [bsA_data, bsA_data, splitK_spl c _ _ (by unfold Lib.countB; rw [bsA_data, bsA_data]; exact Nat.le_refl _)] at h1
    rw [← h1, List.map_map]
    conv => lhs; rw [← List.map_id (Lib.splitB _ _ _ _)]
    apply List.map_congr_left
    intro x _
    exact bsA_of x
  have hlen : Lib.countB (bsA l) (bsA [c]) + 1 = (spl c l).length := by
    have : ∀ k (s : Bs), Lib.count s [c] = k → (spl c s).length = k + 1 := by
      intro k
      induction k with
      | zero =>
        intro s h
        have hi : Lib.index s [c] = -1 := by
          rcases Int.lt_or_le (Lib.index s [c]) 0 with h1 | h1
          · have := Lib.index_ge s [c]; omega
          · have := Lib.count_hit (s := s) (sub := [c]) (i := (Lib.index s [c]).toNat) (by simp) (by omega)
            omega
        rw [spl_miss hi]; rfl
      | succ k ih =>
        intro s h
        by_cases hi : Lib.index s [c] = -1
        · rw [Lib.count_miss hi] at h; omega
        · have hge := Lib.index_ge s [c]
          have hx : Lib.index s [c] = ((Lib.index s [c]).toNat : Nat) := by omega
          have hc := Lib.count_hit (s := s) (sub := [c]) (i := (Lib.index s [c]).toNat) (by simp) hx
          rw [spl_hit hx, List.length_cons, ih _ (by simp only [List.length_singleton] at hc; omega)]
    rw [this (Lib.countB (bsA l) (bsA [c])) l (by unfold Lib.countB; rw [bsA_data, bsA_data])]
  refine ⟨_, rfl, ?_, (Chg.refl [] w).alloc _⟩
  have hpos : 0 < (spl c l).length := by omega
  rw [hp, hlen, List.map_map]
  unfold OwS
  have hlen2 := spl_len c l
  exact own_lit w 9 1 (spl c l).length ((spl c l).map str).toArray (Nat.le_refl _) (by unfold maxLen; omega) (by simp)
theorem itoa_lib (n : Int) (hn : I64s n) {w : World} (hg : Gl w) :
    Calls Tryd.prog 31 #[.int .i64 n] w fun e w' => e = .returned (str (Lib.itoa n)) ∧ Chg [] w w' := by
  refine (Tryd.strconv_Itoa n hn.1 hn.2 w hg.pw).mono ?_
  rintro e w' ⟨rfl, k, os, rfl⟩
  exact ⟨rfl, Chg.of_below (Lib.below_grow _ w (Nat.le_refl _) k os)⟩
theorem atoi_lib (l : Bs) (hl : l.length ≤ 1000000) {w : World} (hg : Gl w) :
    Calls Tryd.prog 38 #[str l] w fun e w' => ∃ v ev, e = .returned (.tuple #[.int .i64 v, ev]) ∧ ((ev = .nilIface ∧ Lib.atoiAll l = .ok v) ∨ (∃ p, ev = .iface 97 p ∧ numP l = none)) ∧ Chg [] w w' := by
  have hd := bsA_data l
  have hs := bsA_size l
  rcases ha : Lib.atoiAll l with v | _ | _
  · refine (Tryd.strconv_Atoi_ok (bsA l) (by omega) v (by rw [hd]; exact ha) w).mono ?_
    rintro e w' ⟨rfl, h⟩
    refine ⟨v, _, rfl, .inl ⟨rfl, rfl⟩, ?_⟩
    rcases h with rfl | ⟨t, rfl⟩
    · exact Chg.refl _ _
    · exact Chg.of_below (Lib.bytesWorld_below _ _ _)
  · obtain ⟨te, pe, h1⟩ := hg.es
    refine (Tryd.strconv_Atoi_syntax (bsA l) (by omega) (by rw [hd, ha]; intro v h; cases h) (by rw [hd, ha]; intro h; cases h) _ w h1 (.inr ⟨te, pe, rfl⟩)).mono ?_
    rintro e w' ⟨N, rfl, _, _, hb⟩
    exact ⟨_, _, rfl, .inr ⟨_, rfl, by unfold numP; rw [ha]⟩, Chg.of_below hb⟩
  · obtain ⟨te, pe, h1⟩ := hg.er
    refine (Tryd.strconv_Atoi_range (bsA l) (by omega) (by rw [hd]; exact ha) _ w h1 (.inr ⟨te, pe, rfl⟩)).mono ?_
    rintro e w' ⟨N, rfl, _, _, hb⟩
    exact ⟨_, _, rfl, .inr ⟨_, rfl, by unfold numP; rw [ha]⟩, Chg.of_below hb⟩
theorem ixb_all : ∀ n : Fin 256, Lib.indexByte dgs (UInt8.ofNat n.val) = nibP (UInt8.ofNat n.val) := by decide +kernel
theorem indexByte_lib (c : UInt8) (w : World) :
    Calls Tryd.prog 37 #[str dgs, .int .u8 c.toNat] w fun e w' => e = .returned (.int .i64 (nibP c)) ∧ w = w' := by
  refine (Tryd.strings_IndexByte (bsA dgs) c.toNat w).mono ?_
  rintro e w' ⟨rfl, rfl⟩
  have hc : UInt8.ofNat c.toNat = c := by simp
  have := ixb_all ⟨c.toNat, c.toNat_lt⟩
  simp only [hc] at this
  refine ⟨?_, rfl⟩
  rw [bsA_data, show ((c.toNat : Int)).toNat.toUInt8 = c by simp, this]
/-- What strings.Cut makes of a text at the end of a line. -/
def cutP (l : Bs) : Bs × Bs := ((Lib.cut l [10]).1, (Lib.cut l [10]).2.1)
theorem cut_lib (l : Bs) (hl : l.length ≤ 1000000) {w : World} (hg : Gl w) :
    Calls Tryd.prog 18 #[str l, str [10]] w fun e w' => ∃ b, e = .returned (.tuple #[str (cutP l).1, str (cutP l).2, .bool b]) ∧ Chg [] w w' := by
  obtain ⟨m, hm⟩ := hg.mx
  refine (Tryd.strings_Cut (bsA l) (bsA [10]) m w (by rw [bsA_size]; omega) hm).mono ?_
  rintro e w' ⟨rfl, n, rfl⟩
  refine ⟨(Lib.cut l [10]).2.2, ?_, (Chg.refl [] w).drewN n⟩
  rw [bsA_data, bsA_data]
  rfl
/-- The steps' words. -/
def words46 : Bs := [100, 101, 108, 105, 118, 101, 114, 32, 100, 114, 111, 112, 32, 100, 111, 117, 98, 108, 101, 32, 116, 105, 99, 107, 32, 108, 111, 97, 100, 32, 97, 100, 100, 32, 119, 101, 105, 103, 104, 32, 100, 114, 97, 105, 110, 32, 114, 101, 109, 111, 118, 101, 32, 114, 101, 115, 116, 97, 114, 116, 32, 99, 111, 110, 110, 101, 99, 116, 32, 115, 101, 110, 100, 32, 99, 108, 111, 115, 101, 32, 105, 110, 106, 101, 99, 116]
def kindsL : List Bs := spl 32 words46
/-- A word's kind; below 0: it is none. -/
def kindP (p : Bs) : Int := Lib.idxOfS (kindsL.map bsA) (bsA p)
theorem index_lib {w : World} {B : Nat} {v : Value} (h : SlS w B v kindsL) (p : Bs) :
    Calls Tryd.prog 21 #[v, str p] w fun e w' => e = .returned (.int .i64 (kindP p)) ∧ w = w' := by
  have hk : kindsL.length = 14 := by decide +kernel
  obtain ⟨q, hq⟩ : ∃ q, kindsL[0]? = some q := ⟨_, List.getElem?_eq_getElem (by omega)⟩
  obtain ⟨b, o, c, rfl, hc, _⟩ := SlS.at_ h hq
  refine (Tryd.slices_Index_string b o kindsL.length c (kindsL.map bsA) (bsA p) w (by simp) (by omega) (fun j hj => ?_)).mono ?_
  · rw [List.length_map] at hj
    obtain ⟨b', o', c', e', _, hcell⟩ := SlS.at_ h (List.getElem?_eq_getElem hj)
    cases e'
    have e2 : (kindsL.map bsA).getD j ByteArray.empty = bsA kindsL[j] := by
      rw [List.getD_eq_getElem?_getD, List.getElem?_map, List.getElem?_eq_getElem hj]
      rfl
    rw [hcell, e2]
  · rintro e w' ⟨rfl, rfl⟩
    refine ⟨?_, rfl⟩
    rw [List.take_of_length_le (by simp)]
    rfl
set_option maxRecDepth 100000 in
theorem kinds_any {w : World} (hg : Gl w) : Calls Tryd.prog 22 #[] w fun e w' => ∃ v, e = .returned v ∧ OwS w' w.heap.size v kindsL ∧ Chg [] w w' := by
  have F := Lib.hid (split_lib words46 32 hg (by decide))
  clear hg
  go_enter Tryd.func22, Tryd.ntmps22
  go_wp2_with fail
  refine F.out.mono ?_
  rintro e w1 ⟨v, rfl, ho, hc⟩
  have HC := Lib.hid (And.intro ho hc)
  clear ho hc F
  go_wp2_with fail
  go_ret
  exact ⟨v, rfl, HC.out⟩
end Go.Proofs.YtljgemknccodeaaDoor
