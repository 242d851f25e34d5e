/-
  MEMORY of a pool's backends; WALKS: place, Clone, Insert, Delete, members. Condition: at most 1000 backends.
-/
import Derived.Test.YtecblclpchndiaaGreatMagV
import Derived.Test.YtecblclpchndiaaGreatMagD0
import Derived.Test.YtecblclpchndiaaGreatClear
import Derived.Shelf.Spec.SlicesInsert
import Derived.Lib.AppendZerosOnto
import Derived.Laws.NewBlocks
set_option linter.unusedVariables false
set_option linter.unusedSimpArgs false
namespace Go.Proofs.YtecblclpchndiaaGreat
open Go.RowKit Go.Maps

/-- A backend. -/
structure Bk where
  node : Int
  w : Int
  dr : Bool
  dn : Bool
deriving DecidableEq
def encB (x : Bk) : List Value := [.int .i64 x.node, .int .i64 x.w, .bool x.dr, .bool x.dn]
theorem encB_len (x : Bk) : (encB x).length = 4 := rfl
theorem encB_one (x : Bk) : ∀ u ∈ encB x, u.oneCell' = true := by
  intro u hu
  simp [encB] at hu
  rcases hu with rfl | rfl | rfl | rfl <;> rfl
theorem flatB_one (l : List Bk) : ∀ u ∈ l.flatMap encB, u.oneCell' = true := flat_one encB_one l
def SlB (w : World) (B : Nat) (v : Value) (l : List Bk) : Prop := Sl w B 4 v l.length (l.flatMap encB)
def OwB (t : TypeId) (w : World) (B : Nat) (v : Value) (l : List Bk) : Prop := w.ownsRow B t 4 v l.length (l.flatMap encB)
theorem SlB.chg0 {w w' : World} {B : Nat} {v : Value} {l : List Bk} (h : SlB w B v l) (hc : Chg [] w w') : SlB w' B v l := Sl.chg0 h hc
theorem OwB.sl {t : TypeId} {w : World} {B : Nat} {v : Value} {l : List Bk} (h : OwB t w B v l) : SlB w B v l := Sl.of_own h
theorem SlB.at_ {w : World} {B : Nat} {v : Value} {l : List Bk} (h : SlB w B v l) {i : Nat} {x : Bk} (hi : l[i]? = some x) :
    ∃ b o c, v = .slice (some ⟨b, o, none⟩) l.length c ∧ l.length ≤ c ∧ w.cell? ⟨b, o + i * 4, none⟩ = some (.int .i64 x.node) ∧ w.cell? ⟨b, o + i * 4 + 1, none⟩ = some (.int .i64 x.w) ∧
      w.cell? ⟨b, o + i * 4 + 2, none⟩ = some (.bool x.dr) ∧ w.cell? ⟨b, o + i * 4 + 3, none⟩ = some (.bool x.dn) := by
  obtain ⟨b, o, c, hv, hb, hc, hx⟩ := Sl.rec encB_len (by omega) h hi
  exact ⟨b, o, c, hv, hc, hx 0 (by omega), by have := hx 1 (by omega); rw [← Nat.add_assoc] at this; exact this, by have := hx 2 (by omega); rw [← Nat.add_assoc] at this; exact this, by have := hx 3 (by omega); rw [← Nat.add_assoc] at this; exact this⟩
theorem elB : El Tryz.prog 30 37 (.agg #[.int .i64 0, .int .i64 0, .bool false, .bool false]) 4 24 := ⟨Tryz.underlying30, by kernel_rfl, rfl, by omega⟩
def nodesB (l : List Bk) : List Int := l.map (·.node)
/-- By their nodes. -/
def SrtB (l : List Bk) : Prop := (nodesB l).Pairwise (· < ·)
/-- Where a node is among others. -/
def cntB (l : List Bk) (n : Int) : Nat := l.countP (fun x => decide (x.node < n))
theorem cntB_le (l : List Bk) (n : Int) : cntB l n ≤ l.length := List.countP_le_length
theorem cntB_lt : ∀ {l : List Bk} {n : Int} {i : Nat} {x : Bk}, SrtB l → l[i]? = some x → (i < cntB l n ↔ x.node < n)
  | [], n, i, x, _, h => by simp at h
  | y :: l, n, 0, x, hs, h => by
    simp only [List.getElem?_cons_zero, Option.some.injEq] at h
    subst h
    unfold SrtB nodesB at hs
    rw [List.map_cons, List.pairwise_cons] at hs
    unfold cntB
    rw [List.countP_cons]
    by_cases hy : y.node < n
    · simp [hy]
    · have h0 : l.countP (fun x => decide (x.node < n)) = 0 := by
        rw [List.countP_eq_zero]
        intro z hz
        have := hs.1 z.node (List.mem_map.2 ⟨z, hz, rfl⟩)
        simp; omega
      simp [hy, h0]
  | y :: l, n, i + 1, x, hs, h => by
    have hs0 := hs
    unfold SrtB nodesB at hs
    rw [List.map_cons, List.pairwise_cons] at hs
    rw [List.getElem?_cons_succ] at h
    have ih := cntB_lt (n := n) (l := l) hs.2 h
    unfold cntB at *
    rw [List.countP_cons]
    have hxy := hs.1 x.node (List.mem_map.2 ⟨x, List.mem_of_getElem? h, rfl⟩)
    by_cases hy : y.node < n
    · simp only [hy, decide_true, if_true]
      rw [← ih]
      omega
    · have h0 : l.countP (fun x => decide (x.node < n)) = 0 := by
        rw [List.countP_eq_zero]
        intro z hz
        have := hs.1 z.node (List.mem_map.2 ⟨z, hz, rfl⟩)
        simp; omega
      simp only [hy, decide_false, h0]
      constructor
      · intro h; simp at h
      · intro h; omega
theorem cntB_at {l : List Bk} {n : Int} (hs : SrtB l) (h : n ∈ nodesB l) : ∃ x, l[cntB l n]? = some x ∧ x.node = n := by
  obtain ⟨x, hx, e⟩ := List.mem_map.1 h
  obtain ⟨i, hi, hv⟩ := List.mem_iff_getElem.1 hx
  have hi' : l[i]? = some x := by rw [List.getElem?_eq_getElem hi, hv]
  have h1 := cntB_lt (n := n) hs hi'
  have h2 : i = cntB l n := by
    rcases Nat.lt_trichotomy i (cntB l n) with h | h | h
    · have := h1.1 h; omega
    · exact h
    · obtain ⟨y, hy⟩ : ∃ y, l[cntB l n]? = some y := ⟨_, List.getElem?_eq_getElem (by omega)⟩
      have h3 := cntB_lt (n := n) hs hy
      have h4 : y.node < x.node := by
        unfold SrtB nodesB at hs
        rw [List.pairwise_map, List.pairwise_iff_getElem] at hs
        have := hs (cntB l n) i (by omega) hi h
        have e1 := List.getElem?_eq_some_iff.1 hy
        rw [e1.2, hv] at this
        exact this
      have := h3.2 (by omega)
      omega
  exact ⟨x, by rw [← h2]; exact hi', e⟩

set_option maxRecDepth 100000 in
set_option maxHeartbeats 1000000 in
theorem cloneB_any {w : World} {B : Nat} {v : Value} {l : List Bk} (h : SlB w B v l) (hl : l.length ≤ 1000) :
    Calls Tryz.prog 21 #[v] w fun e w' => ∃ v', e = .returned v' ∧ OwB 37 w' w.heap.size v' l ∧ Chg [] w w' := by
  obtain ⟨A, c, rfl⟩ := Sl.form h
  cases A with
  | none =>
    have h0 : l = [] := by
      obtain ⟨hl', A', c', hv, hcap, hx⟩ := h
      rcases Nat.eq_zero_or_pos l.length with e | e
      · exact List.eq_nil_of_length_eq_zero e
      · obtain ⟨b, o, hA, _⟩ := hx e
        simp only [Value.slice.injEq] at hv
        rw [← hv.1] at hA
        cases hA
    subst h0
    clear h
    have he := fun w => run_eql_slice_nil (P := Tryz.prog) Tryz.underlying30 w none 0 c
    simp only [Option.isNone_none, List.length_nil] at he ⊢
    go_enter Tryz.func21, Tryz.ntmps21
    go_wp2_with fail
    go_ret
    exact ⟨_, rfl, World.ownsRow_nil .., Chg.refl _ _⟩
  | some ad =>
    have he := fun w => run_eql_slice_nil (P := Tryz.prog) Tryz.underlying30 w (some ad) l.length c
    simp only [Option.isNone_some] at he
    have hA := (Chg.refl [] w).alloc (.cells #[] 37)
    have hown := own_lit (base := w.heap.size) w 37 4 0 #[] (Nat.le_refl _) (by simp [maxLen]) rfl
    have hs : Sl (w.alloc (.cells #[] 37)) B 4 (.slice (some ad) l.length c) l.length (l.flatMap encB) := h.chg0 hA
    have HI := Lib.hid (And.intro hA (And.intro hown hs))
    have HL := Lib.hid (own_lt hown)
    clear h hA hown hs
    have HB1 := Lib.hid (flatB_one l)
    have HO : Hid (∀ (w' : World) v', w'.ownsRow w.heap.size 37 4 v' (0 + l.length) ((#[] : Array Value).toList ++ l.flatMap encB) → OwB 37 w' w.heap.size v' l) := Lib.hid fun w' v' h => by
      unfold OwB
      simpa using h
    go_enter Tryz.func21, Tryz.ntmps21
    go_wp2_with (first
      | (at_builtin; refine wpList_app elB rfl (.tmp 5) (.tmp 6) rfl w.heap.size rfl HI.out.2.1 rfl HI.out.2.2 HB1.out (by unfold maxLen; omega) (by omega) (by simp) ?_; intro v1 w1 hown1 hc1 hb1)
      | fail)
    go_ret
    exact ⟨_, rfl, HO.out _ _ hown1, HI.out.1.trans' hc1 (fun x hx => .inr (HL.out x hx).1)⟩

set_option maxRecDepth 100000 in
set_option maxHeartbeats 1000000 in
theorem cmpB0 (x : Bk) (n : Int) (W : World) : Calls Tryz.prog 60 #[.agg #[.int .i64 x.node, .int .i64 x.w, .bool x.dr, .bool x.dn], .int .i64 n] W fun e w' => e = .returned (.int .i64 (wrap64 (x.node - n))) ∧ Chg [] W w' := by
  obtain ⟨nd, wt, dr, dn⟩ := x
  have hA := Lib.hid ((Chg.refl [] W).alloc (.cells #[.int .i64 nd, .int .i64 wt, .bool dr, .bool dn] 37))
  go_enter Tryz.func60, Tryz.ntmps60
  go_wp2
  go_ret
  exact ⟨rfl, hA.out⟩
/-- What the order of two nodes is, where the difference may be too great. -/
def CmpB (x n c : Int) : Prop := (c = 0 ↔ x = n) ∧ (1 ≤ n → n ≤ 65535 → (c < 0 ↔ x < n))
theorem cmpB (x : Bk) (n : Int) (W : World) (hx : 1 ≤ x.node ∧ x.node ≤ 65535) (hn : -9223372036854775808 ≤ n ∧ n ≤ 9223372036854775807) :
    Calls Tryz.prog 60 #[.agg #[.int .i64 x.node, .int .i64 x.w, .bool x.dr, .bool x.dn], .int .i64 n] W fun e w' => ∃ c, e = .returned (.int .i64 c) ∧ CmpB x.node n c ∧ Chg [] W w' := by
  refine (cmpB0 x n W).mono ?_
  rintro e w' ⟨rfl, hc⟩
  refine ⟨_, rfl, ⟨?_, ?_⟩, hc⟩
  · simp only [wrap64]; omega
  · intro h1 h2; simp only [wrap64]; omega
end Go.Proofs.YtecblclpchndiaaGreat
namespace Go.Proofs.YtecblclpchndiaaGreat
open Go.RowKit

/-- Backends that can be. -/
structure OkB (l : List Bk) : Prop where
  ok : ∀ x ∈ l, 1 ≤ x.node ∧ x.node ≤ 65535 ∧ 0 ≤ x.w ∧ x.w ≤ 4
  srt : SrtB l
  len : l.length ≤ 16
/-- What place says. -/
def PlcB (l : List Bk) (n : Int) (i : Nat) : Prop := i ≤ l.length ∧ (1 ≤ n → n ≤ 65535 → i = cntB l n)
theorem shr1_u64 (x : Int) : Op.shift .shr .u64 x .u64 1 = pure (.int .u64 (x / 2)) := by
  rw [shift_shr .u64 .u64 _ _ (by omega) (by decide)]
  rfl
theorem plc_end {l : List Bk} {n : Int} {i : Nat} {c : Int} {x : Bk} (hok : OkB l) (hx : l[i]? = some x) (hi : 1 ≤ n → n ≤ 65535 → i = cntB l n) (hc : CmpB x.node n c) : decide (c = 0) = decide (n ∈ nodesB l) := by
  have e : (c = 0) = (n ∈ nodesB l) := propext ⟨fun h => ?_, fun h => ?_⟩
  · simp only [e]
  · exact List.mem_map.2 ⟨x, List.mem_of_getElem? hx, hc.1.1 h⟩
  · obtain ⟨y, hy, e⟩ := List.mem_map.1 h
    have hb := hok.ok y hy
    have hi' := hi (by omega) (by omega)
    obtain ⟨z, hz, ez⟩ := cntB_at hok.srt h
    rw [← hi', hx] at hz
    injection hz with hz
    subst hz
    exact hc.1.2 ez
theorem plc_none {l : List Bk} {n : Int} (hok : OkB l) (hi : 1 ≤ n → n ≤ 65535 → l.length = cntB l n) : decide (n ∈ nodesB l) = false := by
  rw [decide_eq_false_iff_not]
  intro h
  obtain ⟨y, hy, e⟩ := List.mem_map.1 h
  have hb := hok.ok y hy
  obtain ⟨z, hz, ez⟩ := cntB_at hok.srt h
  rw [← hi (by omega) (by omega)] at hz
  simp at hz

set_option maxRecDepth 100000 in
set_option maxHeartbeats 2000000 in
theorem search_any4 {w : World} {B : Nat} {v : Value} {l : List Bk} (h : SlB w B v l) (hok : OkB l) (n : Int) (hn : -9223372036854775808 ≤ n ∧ n ≤ 9223372036854775807) :
    Calls Tryz.prog 59 #[v, .int .i64 n, .func (.func 60) #[] #[]] w fun e w' => ∃ (i : Nat), e = .returned (.tuple #[.int .i64 i, .bool (decide (n ∈ nodesB l))]) ∧ PlcB l n i ∧ Chg [] w w' := by
  obtain ⟨A, c, rfl⟩ := Sl.form h
  have hlen := hok.len
  have HS := Lib.hid (fun W (hW : Chg [] w W) i x hx => (h.chg0 hW).at_ (i := i) (x := x) hx)
  have HX : Hid (∀ i, i < l.length → ∃ x, l[i]? = some x) := Lib.hid fun i hi => ⟨_, List.getElem?_eq_getElem hi⟩
  have HC := Lib.hid (fun (x : Bk) (hx : x ∈ l) W => cmpB x n W (by have := hok.ok x hx; omega) hn)
  have HE := Lib.hid (fun i c x hx => plc_end (l := l) (n := n) (i := i) (c := c) (x := x) hok hx)
  have HN := Lib.hid (plc_none (l := l) (n := n) hok)
  have HL := Lib.hid (fun i x hx => cntB_lt (l := l) (n := n) (i := i) (x := x) hok.srt hx)
  have HB : Hid (cntB l n ≤ l.length) := Lib.hid (cntB_le l n)
  have hsh := shr1_u64
  clear h hok hn
  generalize hm : l.length = m at *
  go_enter Tryz.func59, Tryz.ntmps59
  go_wp2_with fail
  go_loopw [9, 10] (fun iv jv wr => ∃ i j : Nat, i ≤ j ∧ j ≤ m ∧ iv = .int .i64 i ∧ jv = .int .i64 j ∧ Hid (1 ≤ n → n ≤ 65535 → i ≤ cntB l n ∧ cntB l n ≤ j) ∧ Hid (Chg [] w wr)) (fun iv jv _ => (intOf jv).toNat - (intOf iv).toNat)
  case atStart => exact ⟨0, m, by omega, by omega, rfl, rfl, Lib.hid (fun _ _ => ⟨by omega, HB.out⟩), Lib.hid (Chg.refl _ _)⟩
  case round =>
    obtain ⟨i, j, hij, hjm, rfl, rfl, HI, HW⟩ := hrel
    by_cases hlt : i < j
    · have hcn : (i : Int) < (j : Int) := by omega
      obtain ⟨x, hx⟩ := HX.out ((i + j) / 2) (by omega)
      obtain ⟨b, o, c', hv, hcap, c0, c1, c2, c3⟩ := HS.out wr HW.out _ x hx
      simp only [Value.slice.injEq, true_and] at hv
      obtain ⟨rfl, rfl⟩ := hv
      have F := Lib.hid (HC.out x (List.mem_of_getElem? hx) wr)
      have HLX := Lib.hid (HL.out _ x hx)
      have h2 : ((i : Int) + j) / 2 = (((i + j) / 2 : Nat) : Int) := by omega
      have h3 : IntKind.i64.wrap ((i : Int) + j) = (i : Int) + j := by rw [IntKind.wrap_i64]; omega
      have h4 : IntKind.u64.wrap ((i : Int) + j) = (i : Int) + j := by rw [IntKind.wrap_u64]; omega
      have F2 : Hid (((i + j) / 2 : Nat) < m) := Lib.hid (by omega)
      have F3 : Hid (∀ c, CmpB x.node n c → 1 ≤ n → n ≤ 65535 → (c < 0 ↔ (i + j) / 2 < cntB l n)) := Lib.hid fun c hc a1 a2 => by rw [hc.2 a1 a2, HLX.out]
      clear hx HLX HS HX HL HE HN HC HB
      generalize hq : (i + j) / 2 = q at *
      have hqi : i ≤ q := by omega
      have hqj : q < j := by omega
      go_wp2_with fail
      refine F.out.mono ?_
      rintro e w2 ⟨cm, rfl, hcm, hc2⟩
      have H3 := Lib.hid (F3.out cm hcm)
      have HC2 := Lib.hid (HW.out.trans hc2)
      clear F F3 hcm hc2 c0 c1 c2 c3
      by_cases hcm : cm < 0
      · have h5 : IntKind.i64.wrap ((q : Int) + 1) = (q : Int) + 1 := by rw [IntKind.wrap_i64]; omega
        go_wp2_with fail
        go_roundw
        case rel => exact ⟨q + 1, j, by omega, by omega, by go_num, rfl, Lib.hid (fun a1 a2 => ⟨by have := (H3.out a1 a2).1 hcm; omega, (HI.out a1 a2).2⟩), HC2⟩
        case measure => simp [intOf] <;> omega
      · have HIQ : Hid (1 ≤ n → n ≤ 65535 → i ≤ cntB l n ∧ cntB l n ≤ q) := Lib.hid (fun a1 a2 => ⟨(HI.out a1 a2).1, Nat.le_of_not_lt fun h => hcm ((H3.out a1 a2).2 h)⟩)
        go_wp2_with fail
        go_roundw
        case rel => exact ⟨i, q, by omega, by omega, rfl, rfl, HIQ, HC2⟩
        case measure => simp [intOf] <;> omega
    · obtain rfl : i = j := by omega
      have hcn : ¬ (i : Int) < (i : Int) := by omega
      have HIC : Hid (1 ≤ n → n ≤ 65535 → i = cntB l n) := Lib.hid fun a1 a2 => by have := HI.out a1 a2; omega
      by_cases hlt2 : i < m
      · have hcn2 : (i : Int) < (m : Int) := by omega
        obtain ⟨x, hx⟩ := HX.out i hlt2
        obtain ⟨b, o, c', hv, hcap, c0, c1, c2, c3⟩ := HS.out wr HW.out _ x hx
        simp only [Value.slice.injEq, true_and] at hv
        obtain ⟨rfl, rfl⟩ := hv
        have F := Lib.hid (HC.out x (List.mem_of_getElem? hx) wr)
        have HE2 := Lib.hid (fun c => HE.out i c x hx HIC.out)
        clear hx HS HX HL HE HN HC HB HI
        go_wp2_with fail
        refine F.out.mono ?_
        rintro e w2 ⟨cm, rfl, hcm, hc2⟩
        have H3 := Lib.hid (HE2.out cm hcm)
        have HC2 := Lib.hid (HW.out.trans hc2)
        clear F HE2 hcm hc2 c0 c1 c2 c3
        go_wp2_with fail
        go_ret2
        exact ⟨i, by rw [← H3.out]; rfl, ⟨by omega, HIC.out⟩, HC2.out⟩
      · obtain rfl : i = m := by omega
        have hcn2 : ¬ (i : Int) < (i : Int) := by omega
        have H3 := Lib.hid (HN.out HIC.out)
        clear HS HX HL HE HN HC HB HI
        go_wp2_with fail
        go_ret2
        exact ⟨i, by rw [H3.out]; rfl, ⟨by omega, HIC.out⟩, HW.out⟩

theorem place_any {w : World} {B : Nat} {v : Value} {l : List Bk} (h : SlB w B v l) (hok : OkB l) (n : Int) (hn : -9223372036854775808 ≤ n ∧ n ≤ 9223372036854775807) :
    Calls Tryz.prog 42 #[v, .int .i64 n] w fun e w' => ∃ (i : Nat), e = .returned (.tuple #[.int .i64 i, .bool (decide (n ∈ nodesB l))]) ∧ PlcB l n i ∧ Chg [] w w' := by
  have F := Lib.hid (search_any4 h hok n hn)
  clear h hok
  go_enter Tryz.func42, Tryz.ntmps42
  go_wp2_with fail
  refine F.out.mono ?_
  rintro e w2 ⟨i, rfl, hp, hc⟩
  have HP := Lib.hid hp
  clear hp F
  go_wp2_with fail
  go_ret2
  exact ⟨i, rfl, HP.out, hc⟩
end Go.Proofs.YtecblclpchndiaaGreat
namespace Go.Proofs.YtecblclpchndiaaGreat
open Go.RowKit

def mbB (x : Bk) : Mb := ⟨x.node, if x.dr || x.dn then 0 else x.w⟩
/-- Backends as members. -/
def membersP (l : List Bk) : List Mb := l.map mbB
theorem membersP_len (l : List Bk) : (membersP l).length = l.length := by simp [membersP]
theorem membersP_take {l : List Bk} {k : Nat} {x : Bk} (h : l[k]? = some x) : membersP (l.take (k + 1)) = membersP (l.take k) ++ [mbB x] := by
  unfold membersP
  rw [List.take_add_one, h]
  simp
theorem owM_snoc {W w' : World} {base : Nat} {v : Value} {l : List Mb} {y : Mb} (h : w'.ownsRow base 78 2 v (l.length + 1) (l.flatMap encM ++ [.int .i64 y.node, .int .i64 y.w])) : OwM w' base v (l ++ [y]) := by
  unfold OwM
  rw [List.length_append, List.flatMap_append]
  simpa [encM] using h
theorem one_m {W : World} {g : Nat} {a b : Value} (h : Blk W g 78 #[a, b]) : Sl W 0 2 (.slice (some ⟨g, 0, none⟩) 1 1) 1 [a, b] :=
  ⟨rfl, _, 1, rfl, Nat.le_refl _, fun _ => ⟨g, 0, rfl, Nat.zero_le _, fun j u hu => by rw [Nat.zero_add, h.cell]; simpa using hu⟩⟩
theorem one_mk (nd v : Int) : ∀ u ∈ [Value.int .i64 nd, .int .i64 v], u.oneCell' = true := by
  intro u hu
  simp at hu
  rcases hu with rfl | rfl <;> rfl

set_option maxRecDepth 100000 in
set_option maxHeartbeats 2000000 in
theorem members35_any {w : World} {B : Nat} {v : Value} {l : List Bk} (h : SlB w B v l) (hl : l.length ≤ 1000) :
    Calls Tryz.prog 71 #[v] w fun e w' => ∃ v', e = .returned v' ∧ SlM w' w.heap.size v' (membersP l) ∧ Chg [] w w' := by
  obtain ⟨A, c, rfl⟩ := Sl.form h
  have HS := Lib.hid (fun W (hW : Chg [] w W) i x hx => (h.chg0 hW).at_ (i := i) (x := x) hx)
  have HX : Hid (∀ i, i < l.length → ∃ x, l[i]? = some x) := Lib.hid fun i hi => ⟨_, List.getElem?_eq_getElem hi⟩
  have HLA : Hid (membersP (l.take l.length) = membersP l) := Lib.hid (by rw [List.take_length])
  have HLL : Hid (∀ k, k ≤ l.length → (membersP (l.take k)).length = k) := Lib.hid fun k hk => by rw [membersP_len, List.length_take]; omega
  clear h
  generalize hn : l.length = n at *
  go_enter Tryz.func71, Tryz.ntmps71
  go_wp2_with fail
  go_loopw [3, 4] (fun ov iv wr => ∃ (k : Nat), k ≤ n ∧ iv = .int .i64 k ∧ Hid (OwM wr w.heap.size ov (membersP (l.take k))) ∧ Hid (Chg [] w wr)) (fun _ iv _ => n - (intOf iv).toNat)
  case atStart => exact ⟨0, by omega, rfl, Lib.hid (World.ownsRow_nil ..), Lib.hid (Chg.refl _ _)⟩
  case round =>
    obtain ⟨k, hk, rfl, HO, HC⟩ := hrel
    by_cases hlt : k < n
    · have hcn : (k : Int) < (n : Int) := by omega
      obtain ⟨x, hx⟩ := HX.out k hlt
      obtain ⟨b, o, c', hv, hcap, c0, c1, c2, c3⟩ := HS.out wr HC.out k x hx
      simp only [Value.slice.injEq, true_and] at hv
      obtain ⟨rfl, rfl⟩ := hv
      have HT := Lib.hid (membersP_take hx)
      have hlk := HLL.out k hk
      obtain ⟨nd, wt, dr, dn⟩ := x
      simp only [mbB] at c0 c1 c2 c3 HT
      clear hx HX HS HLA
      generalize membersP (l.take k) = L at *
      subst hlk
      obtain ⟨v, hv⟩ : ∃ v : Int, v = if dr || dn then 0 else wt := ⟨_, rfl⟩
      rw [← hv] at HT
      have hA := (Chg.refl [] wr).alloc (.cells #[.int .i64 nd, .int .i64 v] 78)
      have hbl : Blk (wr.alloc (.cells #[.int .i64 nd, .int .i64 v] 78)) wr.heap.size 78 #[.int .i64 nd, .int .i64 v] := Blk.new _ _ _
      have HR1 := Lib.hid (own_chg HO.out hA (by simp))
      have HS1 := Lib.hid (one_m hbl)
      have HO1 := Lib.hid (one_mk nd v)
      have HLT := Lib.hid (own_lt HO.out)
      have hws : w.heap.size ≤ (wr.alloc (.cells #[.int .i64 nd, .int .i64 v] 78)).heap.size := by have := HC.out.size; rw [World.size_alloc]; omega
      have HA := Lib.hid hA
      clear hA hbl
      have HFIN : Hid (∀ v1 w1, w1.ownsRow w.heap.size 78 2 v1 (L.length + 1) (L.flatMap encM ++ [.int .i64 nd, .int .i64 v]) → Chg u3.ownBlock.toList (wr.alloc (.cells #[.int .i64 nd, .int .i64 v] 78)) w1 → OwM w1 w.heap.size v1 (membersP (l.take (L.length + 1))) ∧ Chg [] w w1) := Lib.hid fun v1 w1 h1 h2 => by
        rw [HT.out]
        exact ⟨owM_snoc (W := w1) h1, (HC.out.trans HA.out).trans' h2 (fun x hx => .inr (HLT.out x hx).1)⟩
      clear HLL
      cases dr <;> cases dn <;> simp only [Bool.or_self, Bool.or_true, Bool.true_or, Bool.or_false, Bool.false_eq_true, if_true, if_false, ↓reduceIte] at hv <;> subst hv
      all_goals
        go_wp2_with (first
          | (at_builtin; refine wpList_app elM rfl (.tmp 29) (.tmp 37) rfl w.heap.size rfl HR1.out rfl HS1.out HO1.out (by unfold maxLen; omega) (by omega) hws ?_; intro v1 w1 hown1 hc1 hb1)
          | fail)
        go_roundw
        case rel => exact ⟨L.length + 1, by omega, by go_num, Lib.hid (HFIN.out _ _ hown1 hc1).1, Lib.hid (HFIN.out _ _ hown1 hc1).2⟩
        case measure => simp [intOf] <;> omega
    · obtain rfl : k = n := by omega
      have hcn : ¬ (k : Int) < (k : Int) := by omega
      rw [HLA.out] at HO
      go_wp2_with fail
      go_ret
      exact ⟨_, rfl, Sl.of_own HO.out, HC.out⟩

set_option maxRecDepth 100000 in
set_option maxHeartbeats 2000000 in
theorem members_any {w : World} {B : Nat} {v : Value} {l : List Bk} (h : SlB w B v l) (hl : l.length ≤ 1000) :
    Calls Tryz.prog 34 #[v] w fun e w' => ∃ v', e = .returned v' ∧ SlM w' w.heap.size v' (membersP l) ∧ Chg [] w w' := by
  obtain ⟨A, c, rfl⟩ := Sl.form h
  have HS := Lib.hid (fun W (hW : Chg [] w W) i x hx => (h.chg0 hW).at_ (i := i) (x := x) hx)
  have HX : Hid (∀ i, i < l.length → ∃ x, l[i]? = some x) := Lib.hid fun i hi => ⟨_, List.getElem?_eq_getElem hi⟩
  have HLA : Hid (membersP (l.take l.length) = membersP l) := Lib.hid (by rw [List.take_length])
  have HLL : Hid (∀ k, k ≤ l.length → (membersP (l.take k)).length = k) := Lib.hid fun k hk => by rw [membersP_len, List.length_take]; omega
  clear h
  generalize hn : l.length = n at *
  go_enter Tryz.func34, Tryz.ntmps34
  go_wp2_with fail
  go_loopw [3, 9] (fun ov iv wr => ∃ (k : Nat), k ≤ n ∧ iv = .int .i64 k ∧ Hid (OwM wr w.heap.size ov (membersP (l.take k))) ∧ Hid (Chg [] w wr)) (fun _ iv _ => n - (intOf iv).toNat)
  case atStart => exact ⟨0, by omega, rfl, Lib.hid (World.ownsRow_nil ..), Lib.hid (Chg.refl _ _)⟩
  case round =>
    obtain ⟨k, hk, rfl, HO, HC⟩ := hrel
    by_cases hlt : k < n
    · have hcn : (k : Int) < (n : Int) := by omega
      obtain ⟨x, hx⟩ := HX.out k hlt
      obtain ⟨b, o, c', hv, hcap, c0, c1, c2, c3⟩ := HS.out wr HC.out k x hx
      simp only [Value.slice.injEq, true_and] at hv
      obtain ⟨rfl, rfl⟩ := hv
      have HT := Lib.hid (membersP_take hx)
      have hlk := HLL.out k hk
      obtain ⟨nd, wt, dr, dn⟩ := x
      simp only [mbB] at c0 c1 c2 c3 HT
      clear hx HX HS HLA
      generalize membersP (l.take k) = L at *
      subst hlk
      obtain ⟨v, hv⟩ : ∃ v : Int, v = if dr || dn then 0 else wt := ⟨_, rfl⟩
      rw [← hv] at HT
      have hws : w.heap.size ≤ wr.heap.size := HC.out.size
      have HLT := Lib.hid (own_lt HO.out)
      have HGO : Hid (∀ W (hW : Chg [] wr W) g, Blk W g 78 #[.int .i64 nd, .int .i64 v] → Hid (W.ownsRow w.heap.size 78 2 u3 L.length (L.flatMap encM)) ∧ Hid (Sl W 0 2 (.slice (some ⟨g, 0, none⟩) 1 1) 1 [.int .i64 nd, .int .i64 v]) ∧ w.heap.size ≤ W.heap.size) := Lib.hid fun W hW g hB =>
        ⟨Lib.hid (own_chg HO.out hW (by simp)), Lib.hid (one_m hB), Nat.le_trans hws hW.size⟩
      have HO1 := Lib.hid (one_mk nd v)
      have HFIN : Hid (∀ W (hW : Chg [] wr W) v1 w1, w1.ownsRow w.heap.size 78 2 v1 (L.length + 1) (L.flatMap encM ++ [.int .i64 nd, .int .i64 v]) → Chg u3.ownBlock.toList W w1 → OwM w1 w.heap.size v1 (membersP (l.take (L.length + 1))) ∧ Chg [] w w1) := Lib.hid fun W hW v1 w1 h1 h2 => by
        rw [HT.out]
        exact ⟨owM_snoc (W := w1) h1, (HC.out.trans hW).trans' h2 (fun x hx => .inr (HLT.out x hx).1)⟩
      have hA := ((Chg.refl [] wr).alloc (.cells #[.int .i64 nd, .int .i64 wt, .bool dr, .bool dn] 37)).alloc (.cells #[.int .i64 nd, .int .i64 wt] 78)
      have b1 : Blk ((wr.alloc (.cells #[.int .i64 nd, .int .i64 wt, .bool dr, .bool dn] 37)).alloc (.cells #[.int .i64 nd, .int .i64 wt] 78)) wr.heap.size 37 #[.int .i64 nd, .int .i64 wt, .bool dr, .bool dn] := (Blk.new _ _ _).alloc _
      have b2 : Blk ((wr.alloc (.cells #[.int .i64 nd, .int .i64 wt, .bool dr, .bool dn] 37)).alloc (.cells #[.int .i64 nd, .int .i64 wt] 78)) (wr.heap.size + 1) 78 #[.int .i64 nd, .int .i64 wt] := Blk.new' (by simp)
      have hz : ((wr.alloc (.cells #[.int .i64 nd, .int .i64 wt, .bool dr, .bool dn] 37)).alloc (.cells #[.int .i64 nd, .int .i64 wt] 78)).heap.size = wr.heap.size + 2 := by simp
      have HB := Lib.hid (And.intro hA (And.intro b1 (And.intro b2 hz)))
      clear HLL hA b1 b2 hz
      go_upto_region 6 with fail
      obtain ⟨hA, b1, b2, hz⟩ := HB.out
      generalize ((wr.alloc (.cells #[.int .i64 nd, .int .i64 wt, .bool dr, .bool dn] 37)).alloc (.cells #[.int .i64 nd, .int .i64 wt] 78)) = w2 at *
      have d2 : w2.cell? ⟨wr.heap.size, 2, none⟩ = some (.bool dr) := b1.cell 2
      have d3 : w2.cell? ⟨wr.heap.size, 3, none⟩ = some (.bool dn) := b1.cell 3
      have e0 : w2.cell? ⟨wr.heap.size + 1, 0, none⟩ = some (.int .i64 nd) := b2.cell 0
      have e1 : w2.cell? ⟨wr.heap.size + 1, 1, none⟩ = some (.int .i64 wt) := b2.cell 1
      have f1 : w2.frozen? ⟨wr.heap.size + 1, 1, none⟩ = false := b2.frozen 1
      obtain ⟨g, hg⟩ : ∃ g, g = wr.heap.size + 1 := ⟨_, rfl⟩
      rw [← hg] at b2 e0 e1 f1 ⊢
      have hA2 := (hA.setCell (p := ⟨g, 1, none⟩) (.inr (by simp only; omega)) (.int .i64 0))
      have b3 := b2.set_ 1 (.int .i64 0)
      have G1 := Lib.hid (fun (hv : v = wt) => HGO.out (w2.alloc (.cells #[.int .i64 nd, .int .i64 v] 78)) (hA.alloc _) w2.heap.size (Blk.new _ _ _))
      have G2 := Lib.hid (HGO.out ((w2.setCell ⟨g, 1, none⟩ (.int .i64 0)).alloc (.cells #[.int .i64 nd, .int .i64 v] 78)) (hA2.alloc _) w2.heap.size (Blk.new' (by simp)))
      have K1 := Lib.hid (HFIN.out (w2.alloc (.cells #[.int .i64 nd, .int .i64 v] 78)) (hA.alloc _))
      have K2 := Lib.hid (HFIN.out ((w2.setCell ⟨g, 1, none⟩ (.int .i64 0)).alloc (.cells #[.int .i64 nd, .int .i64 v] 78)) (hA2.alloc _))
      clear hA hA2 b1 b2 b3 HGO HFIN HB HO c0 c1 c2 c3 hz hg
      cases dr <;> cases dn <;> simp only [Bool.or_self, Bool.or_true, Bool.true_or, Bool.or_false, Bool.false_eq_true, if_true, if_false, ↓reduceIte] at hv <;> subst hv
      case false.false =>
        go_wp2_with (first
          | (at_builtin; refine wpList_app elM rfl (.tmp 25) (.tmp 27) rfl w.heap.size rfl (G1.out rfl).1.out rfl (G1.out rfl).2.1.out HO1.out (by unfold maxLen; omega) (by omega) (G1.out rfl).2.2 ?_; intro v1 w1 hown1 hc1 hb1)
          | fail)
        go_roundw
        case rel => exact ⟨L.length + 1, by omega, by go_num, Lib.hid (K1.out _ _ hown1 hc1).1, Lib.hid (K1.out _ _ hown1 hc1).2⟩
        case measure => simp [intOf] <;> omega
      all_goals
        go_wp2_with (first
          | (at_builtin; refine wpList_app elM rfl (.tmp 25) (.tmp 27) rfl w.heap.size rfl G2.out.1.out rfl G2.out.2.1.out HO1.out (by unfold maxLen; omega) (by omega) G2.out.2.2 ?_; intro v1 w1 hown1 hc1 hb1)
          | fail)
        go_roundw
        case rel => exact ⟨L.length + 1, by omega, by go_num, Lib.hid (K2.out _ _ hown1 hc1).1, Lib.hid (K2.out _ _ hown1 hc1).2⟩
        case measure => simp [intOf] <;> omega
    · obtain rfl : k = n := by omega
      have hcn : ¬ (k : Int) < (k : Int) := by omega
      rw [HLA.out] at HO
      go_wp2_with fail
      go_ret
      exact ⟨_, rfl, Sl.of_own HO.out, HC.out⟩
end Go.Proofs.YtecblclpchndiaaGreat
namespace Go.Proofs.YtecblclpchndiaaGreat
open Go.RowKit


theorem zeroB (w : World) : (zeroValue 37).run Tryz.prog w = .ok (.agg #[.int .i64 0, .int .i64 0, .bool false, .bool false]) w := by kernel_rfl
theorem slice3B {g i j n cap : Nat} (h1 : i ≤ j) (h2 : j ≤ n) (h3 : n ≤ cap) (w : World) :
    (Instr.slice 30 (.slice (some ⟨g, 0, none⟩) n cap) (some (.int .i64 i)) (some (.int .i64 j)) (some (.int .i64 n))).run Tryz.prog w = .ok (.slice (if n = i then some ⟨g, 0, none⟩ else some (Addr.add ⟨g, 0, none⟩ (i * 4))) (j - i) (n - i)) w := by
  have b1 : ∀ c, (Instr.sliceBound (.int .i64 (n : Int)) cap c).run Tryz.prog w = .ok n w := fun c => by simp [Instr.sliceBound, asIntOf, go_sem, h3]
  have b2 : ∀ c, (Instr.sliceBound (.int .i64 (j : Int)) n c).run Tryz.prog w = .ok j w := fun c => by simp [Instr.sliceBound, asIntOf, go_sem, h2]
  have b3 : ∀ c, (Instr.sliceBound (.int .i64 (i : Int)) j c).run Tryz.prog w = .ok i w := fun c => by simp [Instr.sliceBound, asIntOf, go_sem, h1]
  obtain ⟨ti, hti, hz, hs, hby⟩ := info_parts (elB).info
  by_cases e : n = i
  · simp [Instr.slice, run_underlying (elB).ht, Instr.sliceBounds, b1, b2, b3, sizeOf, typeInfo, hti, hs, e]
    simp [e] at b1 b2 b3
    simp [b1, b2, b3]
  · simp [Instr.slice, run_underlying (elB).ht, Instr.sliceBounds, b1, b2, b3, sizeOf, typeInfo, hti, hs, e]
theorem wpList_slice3B {P : Program} {ops : Array Oper} {rest : List Oper} {o : Oper} {a : Act} {Q : Exit → Act → World → Prop} {w : World} (hgd : o.guard = none) (t : TypeId) (x l h m : Operand) (ho : o.op = .slice t x (some l) (some h) (some m)) {e : TypeId} (hu : P.underlying t = some (.slice e)) {xv lv hv mv v : Value}
    (hx : a.eval x = xv) (hl : a.eval l = lv) (hh : a.eval h = hv) (hm : a.eval m = mv) (hr : (Instr.slice t xv (some lv) (some hv) (some mv)).run P w = .ok v w) (hk : wpList P ops Q rest (a.put o.dst v) w) : wpList P ops Q (o :: rest) a w := by
  refine wpList_plain hgd fun K hK => ?_
  unfold Oper.wp execOp
  have hr2 : (Instr.sliceAt t xv (some lv) (some hv) (some mv)).run P w = .ok v w := by
    simp [Instr.sliceAt, run_underlying hu, hr]
  simp only [ho, Option.map_some, hx, hl, hh, hm, Sem.run_bind, Result.andThen_ok, hr2, Sem.run_pure]
  exact hK _ _ hk
theorem step_app_runB {P : Program} {t : TypeId} {w w' : World} {ops : Array Oper} {o : Oper} {a : Act} {K : Act → World → Prop} {Q : Exit → Act → World → Prop} {E : Prop} (hgd : o.guard = none) (s x : Operand)
    (ho : o.op = .call { callee := .builtin .append, args := #[s, x], argTypes := #[t, t] }) {v xv v' : Value} (hs : a.eval s = v) (hx : a.eval x = xv)
    (hr : ∀ ty, (Builtin.append_ #[t, t] ty #[v, xv]).run P w = .ok v' w') (h : K (a.put o.dst v') w') : if Region.wanted o (yielded ops a.tmps) = true then Oper.wp P o a w K Q else E := by
  have hw : Region.wanted o (yielded ops a.tmps) = true := by simp [Region.wanted, hgd]
  rw [if_pos hw]
  unfold Oper.wp execOp
  simp only [ho, resolve, invoke, builtin, Sem.run_bind, Sem.run_pure, Result.andThen_ok, List.map_toArray, List.map_cons, List.map_nil, hs, hx, hr]
  exact h
def AnyWB (w : World) : Prop := True

set_option maxRecDepth 100000 in
set_option maxHeartbeats 2000000 in
theorem deleteB_own {w : World} {base n i : Nat} {v : Value} {cs : List Value} (h : w.ownsRow base 37 4 v n cs) (hi : i < n) (hl : n ≤ 1000) (h1 : ∀ u ∈ cs, u.oneCell' = true) :
    Calls Tryz.prog 51 #[v, .int .i64 (i : Nat), .int .i64 ((i : Nat) + 1)] w fun e w' => ∃ v', e = .returned v' ∧ w'.ownsRow base 37 4 v' (n - 1) (cs.take (i * 4) ++ cs.drop ((i + 1) * 4)) ∧ v'.ownBlock = v.ownBlock ∧ Chg v.ownBlock.toList w w' := by
  have hcl := h.1
  rcases h.2 with ⟨rfl, h0⟩ | ⟨g, cap, cur, rfl, hb, hB0, hcap, hmx, hcs, ht⟩
  · omega
  have hB : Blk w g 37 cur := hB0
  have hsl := Sl.of_own h
  clear h hB0
  obtain ⟨j, hj⟩ : ∃ j : Nat, j = i + 1 := ⟨_, rfl⟩
  have hji : ((i : Nat) : Int) + 1 = (j : Int) := by omega
  rw [hji, ← hj]
  have hij : (i : Int) ≤ (j : Int) := by omega
  have hjn : (j : Int) ≤ (n : Int) := by omega
  have hin : (i : Int) ≤ (n : Int) := by omega
  have hncap : (n : Int) ≤ (cap : Int) := by omega
  have hicap : (i : Int) ≤ (cap : Int) := by omega
  have hne : ((i : Int) == (j : Int)) = false := beq_eq_false_iff_ne.2 (by omega)
  have hdl : (cs.drop (j * 4)).length = (n - j) * 4 := by rw [List.length_drop, hcl, Nat.sub_mul]
  have hap : ∀ (A : Addr), A = (if n ≤ j ∧ cap = j then ⟨g, 0, none⟩ else ⟨g, j * 4, none⟩) → ∀ ty, (Builtin.append_ #[30, 30] ty #[.slice (some ⟨g, 0, none⟩) i cap, .slice (some A) (n - j) (cap - j)]).run Tryz.prog w.drew = .ok (.slice (some ⟨g, 0, none⟩) (n - 1) cap) (w.drew.setCells g (i * 4) (cs.drop (j * 4))) := by
    intro A hA ty
    obtain ⟨ti, hti, hz, hs, hby⟩ := info_parts (elB).info
    have := run_append_room_cells (P := Tryz.prog) w.drew 30 ty 37 ti (elB).ht hti g 0 i cap A (n - j) (cap - j) (cs.drop (j * 4)) (by rw [hs]; exact hdl) (fun q u hq => ?_) (fun u hu => h1 u (List.mem_of_mem_drop hu)) (by omega)
      (fun q hq => ?_) (fun q hq => ?_)
    · rw [hs, Nat.zero_add, show i + (n - j) = n - 1 by omega] at this
      exact this
    · have hqn : q < (n - j) * 4 := by have := (List.getElem?_eq_some_iff.1 hq).1; omega
      have hjn2 : j < n := by rcases Nat.lt_or_ge j n with h | h; exact h; rw [show n - j = 0 by omega] at hqn; omega
      rw [if_neg (by omega)] at hA
      subst hA
      rw [List.getElem?_drop] at hq
      obtain ⟨b', o', c', hv, _, _, hx⟩ := Sl.at_ hsl (k := j + q / 4) (by omega) (by omega)
      simp only [Value.slice.injEq, true_and, Option.some.injEq, Addr.mk.injEq, and_true] at hv
      obtain ⟨⟨rfl, rfl⟩, rfl⟩ := hv
      have h2 := hx (q % 4) (Nat.mod_lt _ (by omega))
      rw [show (j + q / 4) * 4 + q % 4 = j * 4 + q by omega, hq] at h2
      have h3 : w.drew.cell? ⟨g, j * 4 + q, none⟩ = some u := by rw [Nat.zero_add] at h2; exact h2
      unfold Addr.add
      split
      · next hq0 => simpa [hq0] using h3
      · exact h3
    · rw [hdl] at hq
      rw [hs, hB.drew.cell, Array.getElem?_eq_getElem (by rw [hcs]; omega)]
      rfl
    · exact hB.drew.frozen _
  have hB2 := Blk.setCells (cs.drop (j * 4)) (i * 4) cur (Blk.drew hB)
  have hC2 : Chg [g] w (w.drew.setCells g (i * 4) (cs.drop (j * 4))) := (Chg.refl [g] w).drew.trans (Chg.setCells _ _)
  obtain ⟨vs, hvl, hclr⟩ := run_clear_all (P := Tryz.prog) hB2 30 37 (.agg #[.int .i64 0, .int .i64 0, .bool false, .bool false]) 4 Tryz.underlying30 (zeroB _) (by intro u hu; simp [Value.cells] at hu; rcases hu with rfl | rfl <;> rfl) rfl (by omega) ((n - 1) * 4) (n - (n - 1)) (cap - (n - 1)) (by rw [putAt_size, hcs]; omega)
  have hB3 := Blk.setCells vs ((n - 1) * 4) _ hB2
  have hC3 : Chg [g] w ((w.drew.setCells g (i * 4) (cs.drop (j * 4))).setCells g ((n - 1) * 4) vs) := hC2.trans (Chg.setCells _ _)
  have hfin : (putAt (putAt cur (i * 4) (cs.drop (j * 4))) ((n - 1) * 4) vs).toList.take ((n - 1) * 4) = cs.take (i * 4) ++ cs.drop (j * 4) := by
    apply List.ext_getElem?
    intro q
    by_cases hq : q < (n - 1) * 4
    · rw [List.getElem?_take_of_lt hq, Array.getElem?_toList, putAt_get _ _ _ _ (by rw [putAt_size, hcs]; omega), if_neg (by omega), putAt_get _ _ _ _ (by rw [hcs]; omega)]
      by_cases hqi : q < i * 4
      · rw [if_neg (by omega), List.getElem?_append_left (by rw [List.length_take, hcl]; omega), List.getElem?_take_of_lt hqi, ← ht, List.getElem?_take_of_lt (by omega), Array.getElem?_toList]
      · rw [if_pos (by rw [hdl]; omega), List.getElem?_append_right (by rw [List.length_take, hcl]; omega), List.length_take, hcl, show min (i * 4) (n * 4) = i * 4 by omega]
    · rw [List.getElem?_eq_none (by rw [List.length_take, Array.length_toList, putAt_size, putAt_size, hcs]; omega), List.getElem?_eq_none (by rw [List.length_append, List.length_take, hcl, hdl]; omega)]
  have HF : Hid (((w.drew.setCells g (i * 4) (cs.drop (j * 4))).setCells g ((n - 1) * 4) vs).ownsRow base 37 4 (.slice (some ⟨g, 0, none⟩) (n - 1) cap) (n - 1) (cs.take (i * 4) ++ cs.drop (j * 4)) ∧ Chg [g] w ((w.drew.setCells g (i * 4) (cs.drop (j * 4))).setCells g ((n - 1) * 4) vs)) :=
    Lib.hid ⟨⟨by rw [List.length_append, List.length_take, hcl, hdl]; omega, .inr ⟨g, cap, _, rfl, hb, hB3, by omega, hmx, by rw [putAt_size, putAt_size, hcs], hfin⟩⟩, hC3⟩
  have hjn3 : j ≤ n := by omega
  have hij3 : i ≤ j := by omega
  clear hj hji
  clear hcl hdl hB2 hC2 hB3 hC3 hfin hB hsl hcs ht hvl
  generalize cs.drop (j * 4) = news at *
  generalize cs.take (i * 4) ++ news = out at *
  have hA : AnyWB w.drew := trivial
  have hs3 := fun w => slice3B (g := g) (i := i) (j := j) (n := n) (cap := cap) (by omega) (by omega) hcap w
  go_enter Tryz.func51, Tryz.ntmps51
  go_wp2_with (first
    | (refine wpList_slice3B rfl 30 (.tmp 8) (.tmp 9) (.tmp 10) (.tmp 12) rfl Tryz.underlying30 rfl rfl rfl rfl (hs3 _) ?_)
    | fail)
  have hA2 : AnyWB (w.drew.setCells g (i * 4) news) := trivial
  by_cases hcj : cap = j
  · have hap := hap ⟨g, 0, none⟩ (by rw [if_pos ⟨by omega, hcj⟩])
    obtain rfl : n = cap := by omega
    obtain rfl : n = j := by omega
    simp only [Nat.sub_self] at hap
    clear hcj
    refine wp_region_noPanic ?_
    refine wp_region_held_drew (S := AnyWB) (by kernel_rfl) hA (fun _ => ?_)
    refine wpAnyH_take (i := 0) (v := ?_) rfl (by kernel_rfl) (by kernel_rfl) (by kernel_rfl) (fun _ _ _ h => h) (yields_pure (by rfl) (fun w => ?_)) (by with_reducible assumption) ?_
    rotate_left
    · (go_simp <;> with_reducible rfl)
    try simp only [List.getElem_toArray, List.getElem_cons_succ, List.getElem_cons_zero, Act.put, List.setIfInBounds_toArray, List.set_cons_zero, List.set_cons_succ]
    refine wpAnyH_take (i := 1) (v := ?_) rfl (by kernel_rfl) (by kernel_rfl) (by kernel_rfl) (fun _ _ _ h => h) (yields_pure (by rfl) (fun w => ?_)) (by with_reducible assumption) ?_
    rotate_left
    · (go_simp <;> with_reducible rfl)
    try simp only [List.getElem_toArray, List.getElem_cons_succ, List.getElem_cons_zero, Act.put, List.setIfInBounds_toArray, List.set_cons_zero, List.set_cons_succ]
    refine wpAnyH_take (i := 2) (v := ?_) rfl (by kernel_rfl) (by kernel_rfl) (by kernel_rfl) (fun _ _ _ h => h) (yields_pure (by rfl) (fun w => ?_)) (by with_reducible assumption) ?_
    rotate_left
    · (go_simp <;> with_reducible rfl)
    try simp only [List.getElem_toArray, List.getElem_cons_succ, List.getElem_cons_zero, Act.put, List.setIfInBounds_toArray, List.set_cons_zero, List.set_cons_succ]
    refine wpAnyH_take (i := 3) (v := ?_) rfl (by kernel_rfl) (by kernel_rfl) (by kernel_rfl) (fun _ _ _ h => h) (yields_pure (by rfl) (fun w => ?_)) (by with_reducible assumption) ?_
    rotate_left
    · (go_simp <;> with_reducible rfl)
    try simp only [List.getElem_toArray, List.getElem_cons_succ, List.getElem_cons_zero, Act.put, List.setIfInBounds_toArray, List.set_cons_zero, List.set_cons_succ]
    refine wpAnyH_take (i := 4) (v := ?_) rfl (by kernel_rfl) (by kernel_rfl) (by kernel_rfl) (fun _ _ _ h => h) (yields_pure (by rfl) (fun w => ?_)) (by with_reducible assumption) ?_
    rotate_left
    · (go_simp <;> with_reducible rfl)
    try simp only [List.getElem_toArray, List.getElem_cons_succ, List.getElem_cons_zero, Act.put, List.setIfInBounds_toArray, List.set_cons_zero, List.set_cons_succ]
    refine wpAnyH_take (i := 5) (v := ?_) rfl (by kernel_rfl) (by kernel_rfl) (by kernel_rfl) (fun _ _ _ h => h) (yields_pure (by rfl) (fun w => ?_)) (by with_reducible assumption) ?_
    rotate_left
    · (go_simp <;> with_reducible rfl)
    try simp only [List.getElem_toArray, List.getElem_cons_succ, List.getElem_cons_zero, Act.put, List.setIfInBounds_toArray, List.set_cons_zero, List.set_cons_succ]
    refine wpAnyH_ready (rs := [6]) (by kernel_rfl) (by simp) (AllReadyH.cons rfl (fun K hK => ?_) AllReadyH.nil)
    refine step_app_runB rfl (.tmp 22) (.tmp 25) rfl rfl rfl hap ?_
    refine hK.out _ _ (by with_reducible assumption) (fun _ => ?_)
    clear hK K
    try simp only [List.getElem_toArray, List.getElem_cons_succ, List.getElem_cons_zero, Act.put, List.setIfInBounds_toArray, List.set_cons_zero, List.set_cons_succ]
    refine wpAnyH_take (i := 7) (v := ?_) rfl (by kernel_rfl) (by kernel_rfl) (by kernel_rfl) (fun _ _ _ h => h) (yields_pure (by rfl) (fun w => ?_)) (by with_reducible assumption) ?_
    rotate_left
    · (go_simp <;> with_reducible rfl)
    try simp only [List.getElem_toArray, List.getElem_cons_succ, List.getElem_cons_zero, Act.put, List.setIfInBounds_toArray, List.set_cons_zero, List.set_cons_succ]
    refine wpAnyH_done (by kernel_rfl) ?_ _
    refine NoPanic.normal ?_
    go_wp2_with fail
    go_ret
    exact ⟨_, rfl, HF.out.1, rfl, HF.out.2⟩
  · have hap := hap ⟨g, j * 4, none⟩ (by rw [if_neg (by omega)])
    refine wp_region_noPanic ?_
    refine wp_region_held_drew (S := AnyWB) (by kernel_rfl) hA (fun _ => ?_)
    refine wpAnyH_take (i := 0) (v := ?_) rfl (by kernel_rfl) (by kernel_rfl) (by kernel_rfl) (fun _ _ _ h => h) (yields_pure (by rfl) (fun w => ?_)) (by with_reducible assumption) ?_
    rotate_left
    · (go_simp <;> with_reducible rfl)
    try simp only [List.getElem_toArray, List.getElem_cons_succ, List.getElem_cons_zero, Act.put, List.setIfInBounds_toArray, List.set_cons_zero, List.set_cons_succ]
    refine wpAnyH_take (i := 1) (v := ?_) rfl (by kernel_rfl) (by kernel_rfl) (by kernel_rfl) (fun _ _ _ h => h) (yields_pure (by rfl) (fun w => ?_)) (by with_reducible assumption) ?_
    rotate_left
    · (go_simp <;> with_reducible rfl)
    try simp only [List.getElem_toArray, List.getElem_cons_succ, List.getElem_cons_zero, Act.put, List.setIfInBounds_toArray, List.set_cons_zero, List.set_cons_succ]
    refine wpAnyH_take (i := 2) (v := ?_) rfl (by kernel_rfl) (by kernel_rfl) (by kernel_rfl) (fun _ _ _ h => h) (yields_pure (by rfl) (fun w => ?_)) (by with_reducible assumption) ?_
    rotate_left
    · (go_simp <;> with_reducible rfl)
    try simp only [List.getElem_toArray, List.getElem_cons_succ, List.getElem_cons_zero, Act.put, List.setIfInBounds_toArray, List.set_cons_zero, List.set_cons_succ]
    refine wpAnyH_take (i := 3) (v := ?_) rfl (by kernel_rfl) (by kernel_rfl) (by kernel_rfl) (fun _ _ _ h => h) (yields_pure (by rfl) (fun w => ?_)) (by with_reducible assumption) ?_
    rotate_left
    · (go_simp <;> with_reducible rfl)
    try simp only [List.getElem_toArray, List.getElem_cons_succ, List.getElem_cons_zero, Act.put, List.setIfInBounds_toArray, List.set_cons_zero, List.set_cons_succ]
    refine wpAnyH_take (i := 4) (v := ?_) rfl (by kernel_rfl) (by kernel_rfl) (by kernel_rfl) (fun _ _ _ h => h) (yields_pure (by rfl) (fun w => ?_)) (by with_reducible assumption) ?_
    rotate_left
    · (go_simp <;> with_reducible rfl)
    try simp only [List.getElem_toArray, List.getElem_cons_succ, List.getElem_cons_zero, Act.put, List.setIfInBounds_toArray, List.set_cons_zero, List.set_cons_succ]
    refine wpAnyH_take (i := 5) (v := ?_) rfl (by kernel_rfl) (by kernel_rfl) (by kernel_rfl) (fun _ _ _ h => h) (yields_pure (by rfl) (fun w => ?_)) (by with_reducible assumption) ?_
    rotate_left
    · (go_simp <;> with_reducible rfl)
    try simp only [List.getElem_toArray, List.getElem_cons_succ, List.getElem_cons_zero, Act.put, List.setIfInBounds_toArray, List.set_cons_zero, List.set_cons_succ]
    refine wpAnyH_ready (rs := [6]) (by kernel_rfl) (by simp) (AllReadyH.cons rfl (fun K hK => ?_) AllReadyH.nil)
    refine step_app_runB rfl (.tmp 22) (.tmp 25) rfl rfl rfl hap ?_
    refine hK.out _ _ (by with_reducible assumption) (fun _ => ?_)
    clear hK K
    try simp only [List.getElem_toArray, List.getElem_cons_succ, List.getElem_cons_zero, Act.put, List.setIfInBounds_toArray, List.set_cons_zero, List.set_cons_succ]
    refine wpAnyH_take (i := 7) (v := ?_) rfl (by kernel_rfl) (by kernel_rfl) (by kernel_rfl) (fun _ _ _ h => h) (yields_pure (by rfl) (fun w => ?_)) (by with_reducible assumption) ?_
    rotate_left
    · (go_simp <;> with_reducible rfl)
    try simp only [List.getElem_toArray, List.getElem_cons_succ, List.getElem_cons_zero, Act.put, List.setIfInBounds_toArray, List.set_cons_zero, List.set_cons_succ]
    refine wpAnyH_done (by kernel_rfl) ?_ _
    refine NoPanic.normal ?_
    go_wp2_with fail
    go_ret
    exact ⟨_, rfl, HF.out.1, rfl, HF.out.2⟩
end Go.Proofs.YtecblclpchndiaaGreat
namespace Go.Proofs.YtecblclpchndiaaGreat
open Go.RowKit Go.Proofs Go.Lib Go.Shelf

/-- 'copy' at any size: all is read before anything is written. -/
theorem run_copy_sz {P : Program} (w : World) (dT sT ty elem : TypeId) (s : Nat) (b o dLen dCap : Nat) (a : Addr) (sLen sCap m : Nat) (cs : List Value)
    (hu : P.underlying dT = some (.slice elem)) (hs : (P.info? elem).map (·.size) = some s) (hm : m = Nat.min sLen dLen) (hn : cs.length = m * s)
    (hsrc : ∀ j v, cs[j]? = some v → w.cell? (a.add j) = some v) (hc : ∀ j, j < cs.length → (w.cell? ⟨b, o + j, none⟩).isSome = true) (hf : ∀ j, j < cs.length → w.frozen? ⟨b, o + j, none⟩ = false) (h1 : ∀ v ∈ cs, v.oneCell' = true) :
    (Builtin.copy_ #[dT, sT] ty #[.slice (some ⟨b, o, none⟩) dLen dCap, .slice (some a) sLen sCap]).run P w = .ok (goInt m) (w.setCells b o cs) := by
  have hl := run_loadCells_list (P := P) w a cs hsrc
  have hst := run_storeCells_cells (P := P) b o cs 0 w (by simpa using hc) (by simpa using hf) h1
  cases hq : P.info? elem with
  | none => simp [hq] at hs
  | some i =>
    have hi : i.size = s := by simpa [hq] using hs
    simp [Builtin.copy_, run_underlying hu, Builtin.lenOf, Builtin.firstCells, sizeOf, typeInfo, hq, hi, ← hm, ← hn, hl, hst]
theorem one_vb {w : World} {vb : Nat} {t : TypeId} {vs : List Value} (h : Blk w vb t vs.toArray) (hl : vs.length = 4) : Sl w 0 4 (.slice (some ⟨vb, 0, none⟩) 1 1) 1 vs :=
  ⟨by omega, _, 1, rfl, Nat.le_refl _, fun _ => ⟨vb, 0, rfl, Nat.zero_le _, fun j u hu => by rw [Nat.zero_add, h.cell]; simpa using hu⟩⟩

set_option maxRecDepth 100000 in
set_option maxHeartbeats 2000000 in
theorem insertB_end {w : World} {base n vb : Nat} {v : Value} {cs vs : List Value} (h : w.ownsRow base 37 4 v n cs) (hl : n ≤ 1000) (hbase : base ≤ w.heap.size) (hv : Blk w vb 37 vs.toArray) (hvl : vs.length = 4) (h1v : ∀ u ∈ vs, u.oneCell' = true) :
    Calls Tryz.prog 46 #[v, .int .i64 n, .slice (some ⟨vb, 0, none⟩) 1 1] w fun e w' => ∃ v', e = .returned v' ∧ w'.ownsRow base 37 4 v' (n + 1) (cs ++ vs) ∧ Chg v.ownBlock.toList w w' := by
  have HH := Lib.hid h
  have HS := Lib.hid (one_vb hv hvl)
  obtain ⟨A, c, rfl⟩ := Sl.form (Sl.of_own h)
  obtain ⟨_, A', c', hv', hcap, _⟩ := Sl.of_own h
  simp only [Value.slice.injEq, true_and] at hv'
  obtain ⟨rfl, rfl⟩ := hv'
  clear h hv
  have hh1 : (n : Int) ≤ (n : Int) := Int.le_refl _
  by_cases hcn : c = n
  · subst hcn
    go_enter Tryz.func46, Tryz.ntmps46
    go_wp2_with (first
      | (at_builtin; refine wpList_app elB rfl (.tmp 23) (.tmp 24) rfl base rfl HH.out rfl HS.out h1v (by unfold maxLen; omega) (by omega) hbase ?_; intro v1 w1 hown1 hc1 hb1; replace hc1 : Chg (Value.slice A c c).ownBlock.toList w w1 := hc1)
      | fail)
    go_ret
    exact ⟨_, rfl, hown1, hc1⟩
  · have hcn2 : ¬ (n : Int) = (c : Int) := by omega
    go_enter Tryz.func46, Tryz.ntmps46
    go_wp2_with (first
      | (at_builtin; refine wpList_app elB rfl (.tmp 23) (.tmp 24) rfl base rfl HH.out rfl HS.out h1v (by unfold maxLen; omega) (by omega) hbase ?_; intro v1 w1 hown1 hc1 hb1; replace hc1 : Chg (Value.slice A n c).ownBlock.toList w w1 := hc1)
      | fail)
    go_ret
    exact ⟨_, rfl, hown1, hc1⟩
theorem ins_cells {cs vs : List Value} {R : Array Value} {n i : Nat} (hsz : (n + 1) * 4 ≤ R.size) (hcl : cs.length = n * 4) (hvl : vs.length = 4) (hi : i ≤ n) (h1 : ∀ j, j < i * 4 → R[j]? = cs[j]?) (h2 : ∀ j, j < 4 → R[i * 4 + j]? = vs[j]?)
    (h3 : ∀ j, (i + 1) * 4 ≤ j → j < (n + 1) * 4 → R[j]? = cs[j - 4]?) : R.toList.take ((n + 1) * 4) = cs.take (i * 4) ++ vs ++ cs.drop (i * 4) := by
  apply List.ext_getElem?
  intro j
  rw [List.getElem?_take]
  by_cases hj : j < (n + 1) * 4
  · rw [if_pos hj, Array.getElem?_toList]
    by_cases a1 : j < i * 4
    · rw [h1 j a1, List.append_assoc, List.getElem?_append_left (by rw [List.length_take]; omega), List.getElem?_take, if_pos a1]
    · by_cases a2 : j < i * 4 + 4
      · rw [List.append_assoc, List.getElem?_append_right (by rw [List.length_take]; omega), List.length_take, show min (i * 4) cs.length = i * 4 by omega, List.getElem?_append_left (by omega), ← h2 (j - i * 4) (by omega)]
        congr 1; omega
      · rw [h3 j (by omega) hj, List.getElem?_append_right (by rw [List.length_append, List.length_take]; omega), List.length_append, List.length_take, List.getElem?_drop]
        congr 1; omega
  · rw [if_neg hj, List.getElem?_eq_none (by simp; omega)]
theorem own_blockB {w : World} {base size n g cap : Nat} {e : TypeId} {cur : Array Value} {xs : List Value} (hb : base ≤ g) (hB : Blk w g e cur) (h1 : n ≤ cap) (h2 : cap ≤ maxLen) (h3 : cur.size = cap * size) (h4 : xs.length = n * size) (h5 : cur.toList.take (n * size) = xs) :
    w.ownsRow base e size (.slice (some ⟨g, 0, none⟩) n cap) n xs := ⟨h4, .inr ⟨g, cap, cur, rfl, hb, hB, h1, h2, h3, h5⟩⟩
theorem szB : (Tryz.prog.info? 37).map (·.size) = some 4 := by
  obtain ⟨i, hi, hz, hs, hb⟩ := info_parts elB.info
  rw [hi]; simp [hs]
theorem zeroSB (w : World) : (Go.sizeOf 37).run Tryz.prog w = .ok 4 w := by
  obtain ⟨i, hi, hz, hs, hb⟩ := info_parts elB.info
  simp [sizeOf, typeInfo, hi, hs]

end Go.Proofs.YtecblclpchndiaaGreat
namespace Go.Proofs.YtecblclpchndiaaGreat
open Go.RowKit Go.Proofs Go.Lib Go.Shelf

set_option maxRecDepth 100000 in
set_option maxHeartbeats 4000000 in
theorem insertB_room {w : World} {base n i vb g cap : Nat} {cs vs : List Value} {cur : Array Value} (hb : base ≤ g) (hB : Blk w g 37 cur) (hmx : cap ≤ maxLen) (hcs : cur.size = cap * 4) (hcl : cs.length = n * 4) (ht : cur.toList.take (n * 4) = cs)
    (hi : i < n) (hl : n ≤ 1000) (hroom : n + 1 ≤ cap) (hv : Blk w vb 37 vs.toArray) (hvl : vs.length = 4) (hvb : vb ≠ g) (h1v : ∀ u ∈ vs, u.oneCell' = true) (h1c : ∀ u ∈ cs, u.oneCell' = true) :
    Calls Tryz.prog 46 #[.slice (some ⟨g, 0, none⟩) n cap, .int .i64 i, .slice (some ⟨vb, 0, none⟩) 1 1] w fun e w' => ∃ v', e = .returned v' ∧ w'.ownsRow base 37 4 v' (n + 1) (cs.take (i * 4) ++ vs ++ cs.drop (i * 4)) ∧ Chg [g] w w' := by
  have hz2 : ¬ ((i : Int) = (n : Int)) := by omega
  have hcc : ∀ j, j < n * 4 → cur[j]? = cs[j]? := fun j hj => by rw [← ht, List.getElem?_take, if_pos hj]; simp
  have hdl : (cs.drop (i * 4)).length = (n - i) * 4 := by rw [List.length_drop, hcl, Nat.sub_mul]
  have hov : ∀ lb cb, (callFunc 64 #[.slice (some ⟨vb, 0, none⟩) 1 1, .slice (some ⟨g, (i + 1) * 4, none⟩) lb cb]).run Tryz.prog w = .ok (.value (.bool false)) w := fun lb cb => by
    rw [run_callFunc_extern Tryz.func64 (by kernel_rfl) (by kernel_rfl) (by kernel_rfl) (e := Extern.SlicesOverlaps.overlaps #[30, 30] #[4]) (by kernel_rfl),
      Lib.run_overlaps_apart w 30 4 37 Tryz.underlying30 4 zeroSB ⟨vb, 0, none⟩ ⟨g, (i + 1) * 4, none⟩ 1 1 lb cb hvb 37 37 vs.toArray.size cur.size
        (by unfold Blk at hv; simp [World.shape?, hv]) (by unfold Blk at hB; simp [World.shape?, hB]) (by omega) (hv.frozen 0) (hv.frozen _)]
    rfl
  have hw1 : IntKind.i64.wrap ((i : Int) + 1) = (i : Int) + 1 := by rw [IntKind.wrap_i64]; omega
  have hb1 : (0 : Int) ≤ (i : Int) + 1 := by omega
  have hin : i ≤ n := by omega
  have htn : ((i : Int) + 1).toNat = i + 1 := by omega
  have hb2 : ¬ (cap = i + 1) := by omega
  have hb3 : (i : Int) ≤ (n : Int) + 1 := by omega
  have hb4 : ¬ (cap = i) := by omega
  have hb5 : ¬ ((cap : Int) < (n : Int) + 1) := by omega
  have hcp1 : ∀ ty dc sc, (Builtin.copy_ #[30, 30] ty #[.slice (some ⟨g, (i + 1) * 4, none⟩) (n + 1 - (i + 1)) dc, .slice (some ⟨g, i * 4, none⟩) (n + 1 - i) sc]).run Tryz.prog w.drew = .ok (goInt (n - i : Nat)) (w.drew.setCells g ((i + 1) * 4) (cs.drop (i * 4))) := fun ty dc sc =>
    run_copy_sz w.drew _ _ ty 37 4 g ((i + 1) * 4) (n + 1 - (i + 1)) dc ⟨g, i * 4, none⟩ (n + 1 - i) sc (n - i) (cs.drop (i * 4)) Tryz.underlying30 szB (by simp only [Nat.min_def]; split <;> omega) hdl
      (fun j v hj => by
        rw [Addr.add_lit, hB.drew.cell, hcc _ (by have := (List.getElem?_eq_some_iff.1 hj).1; omega)]
        rwa [List.getElem?_drop] at hj)
      (fun j hj => by rw [hB.drew.cell, Array.getElem?_eq_getElem (by omega)]; rfl) (fun j hj => hB.drew.frozen _) (fun v hv => h1c v (List.mem_of_mem_drop hv))
  have hB2 := Blk.setCells (cs.drop (i * 4)) ((i + 1) * 4) cur hB.drew
  have hv2 : Blk (w.drew.setCells g ((i + 1) * 4) (cs.drop (i * 4))) vb 37 vs.toArray := hv.drew.chg (Chg.setCells (g := g) _ _) (by simpa using hvb)
  have hs2 : (putAt cur ((i + 1) * 4) (cs.drop (i * 4))).size = cap * 4 := by rw [putAt_size]; exact hcs
  have hcp2 : ∀ ty dc, (Builtin.copy_ #[30, 30] ty #[.slice (some ⟨g, i * 4, none⟩) (n + 1 - i) dc, .slice (some ⟨vb, 0, none⟩) 1 1]).run Tryz.prog (w.drew.setCells g ((i + 1) * 4) (cs.drop (i * 4))) = .ok (goInt (1 : Nat)) ((w.drew.setCells g ((i + 1) * 4) (cs.drop (i * 4))).setCells g (i * 4) vs) := fun ty dc =>
    run_copy_sz _ _ _ ty 37 4 g (i * 4) (n + 1 - i) dc ⟨vb, 0, none⟩ 1 1 1 vs Tryz.underlying30 szB (by simp only [Nat.min_def]; split <;> omega) (by omega)
      (fun j v hj => by rw [Addr.add_lit, Nat.zero_add, hv2.cell]; simpa using hj)
      (fun j hj => by rw [hB2.cell, Array.getElem?_eq_getElem (by omega)]; rfl) (fun j hj => hB2.frozen _) h1v
  have hB3 := Blk.setCells vs (i * 4) _ hB2
  have hs3 : (putAt (putAt cur ((i + 1) * 4) (cs.drop (i * 4))) (i * 4) vs).size = cap * 4 := by rw [putAt_size]; exact hs2
  have HF : Hid (((w.drew.setCells g ((i + 1) * 4) (cs.drop (i * 4))).setCells g (i * 4) vs).ownsRow base 37 4 (.slice (some ⟨g, 0, none⟩) (n + 1) cap) (n + 1) (cs.take (i * 4) ++ vs ++ cs.drop (i * 4)) ∧ Chg [g] w ((w.drew.setCells g ((i + 1) * 4) (cs.drop (i * 4))).setCells g (i * 4) vs)) := Lib.hid (by
    refine ⟨own_blockB hb hB3 hroom hmx hs3 (by rw [List.length_append, List.length_append, List.length_take, hdl, hcl, hvl]; omega) ?_, ((Chg.refl [g] w).drew.trans (Chg.setCells _ _)).trans (Chg.setCells _ _)⟩
    refine ins_cells (by omega) hcl hvl hin (fun j hj => ?_) (fun j hj => ?_) (fun j hj hj2 => ?_)
    · rw [putAt_get _ _ _ _ (by omega), if_neg (by omega), putAt_get _ _ _ _ (by omega), if_neg (by omega), hcc j (by omega)]
    · rw [putAt_get _ _ _ _ (by omega), if_pos (by omega), show i * 4 + j - i * 4 = j by omega]
    · rw [putAt_get _ _ _ _ (by omega), if_neg (by omega), putAt_get _ _ _ _ (by omega), if_pos (by omega), List.getElem?_drop]
      congr 1; omega)
  clear hB2 hv2 hs2 hB3 hs3 hcc hdl hB hcs hcl ht hv hvl
  generalize cs.drop (i * 4) = r at *
  go_enter Tryz.func46, Tryz.ntmps46
  go_wp2_with (simp only [hov])
  have hA : AnyWB w.drew := trivial
  have hA2 : AnyWB (w.drew.setCells g ((i + 1) * 4) r) := trivial
  refine wp_region_noPanic ?_
  refine wp_region_held_drew (S := AnyWB) (by kernel_rfl) hA (fun _ => ?_)
  refine wpAnyH_take (i := 0) (v := ?_) rfl (by kernel_rfl) (by kernel_rfl) (by kernel_rfl) (fun _ _ _ h => h) (yields_pure (by rfl) (fun w => ?_)) (by with_reducible assumption) ?_
  rotate_left
  · (go_simp <;> with_reducible rfl)
  try simp only [List.getElem_toArray, List.getElem_cons_succ, List.getElem_cons_zero, Act.put, List.setIfInBounds_toArray, List.set_cons_zero, List.set_cons_succ]
  refine wpAnyH_take (i := 1) (v := ?_) rfl (by kernel_rfl) (by kernel_rfl) (by kernel_rfl) (fun _ _ _ h => h) (yields_pure (by rfl) (fun w => ?_)) (by with_reducible assumption) ?_
  rotate_left
  · (go_simp <;> with_reducible rfl)
  try simp only [List.getElem_toArray, List.getElem_cons_succ, List.getElem_cons_zero, Act.put, List.setIfInBounds_toArray, List.set_cons_zero, List.set_cons_succ]
  refine wpAnyH_take (i := 2) (v := ?_) rfl (by kernel_rfl) (by kernel_rfl) (by kernel_rfl) (fun _ _ _ h => h) (yields_pure (by rfl) (fun w => ?_)) (by with_reducible assumption) ?_
  rotate_left
  · (go_simp <;> with_reducible rfl)
  try simp only [List.getElem_toArray, List.getElem_cons_succ, List.getElem_cons_zero, Act.put, List.setIfInBounds_toArray, List.set_cons_zero, List.set_cons_succ]
  refine wpAnyH_take (i := 3) (v := ?_) rfl (by kernel_rfl) (by kernel_rfl) (by kernel_rfl) (fun _ _ _ h => h) (yields_pure (by rfl) (fun w => ?_)) (by with_reducible assumption) ?_
  rotate_left
  · (go_simp <;> with_reducible rfl)
  try simp only [List.getElem_toArray, List.getElem_cons_succ, List.getElem_cons_zero, Act.put, List.setIfInBounds_toArray, List.set_cons_zero, List.set_cons_succ]
  refine wpAnyH_take (i := 4) (v := ?_) rfl (by kernel_rfl) (by kernel_rfl) (by kernel_rfl) (fun _ _ _ h => h) (yields_pure (by rfl) (fun w => ?_)) (by with_reducible assumption) ?_
  rotate_left
  · (go_simp <;> with_reducible rfl)
  try simp only [List.getElem_toArray, List.getElem_cons_succ, List.getElem_cons_zero, Act.put, List.setIfInBounds_toArray, List.set_cons_zero, List.set_cons_succ]
  refine wpAnyH_take (i := 5) (v := ?_) rfl (by kernel_rfl) (by kernel_rfl) (by kernel_rfl) (fun _ _ _ h => h) (yields_pure (by rfl) (fun w => ?_)) (by with_reducible assumption) ?_
  rotate_left
  · (go_simp <;> with_reducible rfl)
  try simp only [List.getElem_toArray, List.getElem_cons_succ, List.getElem_cons_zero, Act.put, List.setIfInBounds_toArray, List.set_cons_zero, List.set_cons_succ]
  refine wpAnyH_take (i := 6) (v := ?_) rfl (by kernel_rfl) (by kernel_rfl) (by kernel_rfl) (fun _ _ _ h => h) (yields_pure (by rfl) (fun w => ?_)) (by with_reducible assumption) ?_
  rotate_left
  · (go_simp <;> with_reducible rfl)
  try simp only [List.getElem_toArray, List.getElem_cons_succ, List.getElem_cons_zero, Act.put, List.setIfInBounds_toArray, List.set_cons_zero, List.set_cons_succ]
  refine wpAnyH_take (i := 7) (v := ?_) rfl (by kernel_rfl) (by kernel_rfl) (by kernel_rfl) (fun _ _ _ h => h) (yields_pure (by rfl) (fun w => ?_)) (by with_reducible assumption) ?_
  rotate_left
  · (go_simp <;> with_reducible rfl)
  try simp only [List.getElem_toArray, List.getElem_cons_succ, List.getElem_cons_zero, Act.put, List.setIfInBounds_toArray, List.set_cons_zero, List.set_cons_succ]
  refine wpAnyH_ready (rs := [8]) (by kernel_rfl) (by simp) (AllReadyH.cons rfl (fun K hK => ?_) AllReadyH.nil)
  refine step_copy_runI rfl (.tmp 73) (.tmp 76) 30 30 rfl (.slice (some ⟨g, (i + 1) * 4, none⟩) (n + 1 - (i + 1)) (cap - (i + 1))) (.slice (some ⟨g, i * 4, none⟩) (n + 1 - i) (cap - i)) (by simp [Act.eval, Act.put]) (by simp [Act.eval, Act.put]) (hcp1 _ _ _) ?_
  refine hK.out _ _ (by with_reducible assumption) (fun _ => ?_)
  clear hK K
  try simp only [List.getElem_toArray, List.getElem_cons_succ, List.getElem_cons_zero, Act.put, List.setIfInBounds_toArray, List.set_cons_zero, List.set_cons_succ]
  refine wpAnyH_done (by kernel_rfl) ?_ _
  refine NoPanic.normal ?_
  go_wp2_with (first
    | (at_builtin; refine wpList_copy_runI _ rfl (.tmp 80) (.tmp 81) 30 30 rfl _ _ rfl rfl (hcp2 _ _) ?_)
    | fail)
  go_ret
  exact ⟨_, rfl, HF.out.1, HF.out.2⟩

end Go.Proofs.YtecblclpchndiaaGreat
namespace Go.Proofs.YtecblclpchndiaaGreat
open Go.RowKit Go.Proofs Go.Lib Go.Shelf

set_option maxRecDepth 100000 in
set_option maxHeartbeats 4000000 in
theorem insertB_grow {w : World} {base n i vb g cap : Nat} {cs vs : List Value} {cur : Array Value} (hbase : base ≤ w.heap.size) (hB : Blk w g 37 cur) (hcap : n ≤ cap) (hcs : cur.size = cap * 4) (hcl : cs.length = n * 4) (ht : cur.toList.take (n * 4) = cs)
    (hi : i < n) (hl : n ≤ 1000) (hroom : cap < n + 1) (hv : Blk w vb 37 vs.toArray) (hvl : vs.length = 4) (h1v : ∀ u ∈ vs, u.oneCell' = true) (h1c : ∀ u ∈ cs, u.oneCell' = true) :
    Calls Tryz.prog 46 #[.slice (some ⟨g, 0, none⟩) n cap, .int .i64 i, .slice (some ⟨vb, 0, none⟩) 1 1] w fun e w' => ∃ v', e = .returned v' ∧ w'.ownsRow base 37 4 v' (n + 1) (cs.take (i * 4) ++ vs ++ cs.drop (i * 4)) ∧ Chg [] w w' := by
  have hcc : ∀ j, j < n * 4 → cur[j]? = cs[j]? := fun j hj => by rw [← ht, List.getElem?_take, if_pos hj]; simp
  have hdl : (cs.drop (i * 4)).length = (n - i) * 4 := by rw [List.length_drop, hcl, Nat.sub_mul]
  obtain ⟨i0, hi0, hz0, hzs, hzb⟩ := info_parts elB.info
  have hold : (Builtin.firstCells i0.size i (.slice (some ⟨g, 0, none⟩) i cap)).run Tryz.prog w.drew = .ok (cs.take (i * 4)).toArray w.drew := by
    rw [hzs]
    exact run_firstCells_some w.drew 4 i ⟨g, 0, none⟩ i cap (cs.take (i * 4)) (by rw [List.length_take]; omega) (fun j v hj => by
      rw [Addr.add_lit, Nat.zero_add, hB.drew.cell]
      rw [List.getElem?_take] at hj
      split at hj
      · rw [hcc _ (by omega)]; exact hj
      · cases hj)
  have hkk : (n : Int) + 1 - (i : Int) = ((n + 1 - i : Nat) : Int) := by omega
  have hik : i + (n + 1 - i) = n + 1 := by omega
  have hzc : ∀ k, (Builtin.zeroCells (Value.agg #[.int .i64 0, .int .i64 0, .bool false, .bool false]).cells k).size = k * 4 := fun k => by simp [Builtin.zeroCells, Value.cells]
  obtain ⟨G, hG⟩ : ∃ G, G = grownCap w (n + 1) cap 37 := ⟨_, rfl⟩
  have hGn : n + 1 ≤ G := by rw [hG]; exact grownCap_ge w _ _ _
  have hGm : G ≤ maxLen := by rw [hG]; exact grownCap_le_maxLen w (n + 1) cap _ (by unfold maxLen; omega)
  obtain ⟨R, hR⟩ : ∃ R : Array Value, R = (cs.take (i * 4)).toArray ++ Builtin.zeroCells (Value.agg #[.int .i64 0, .int .i64 0, .bool false, .bool false]).cells (n + 1 - i) ++ Builtin.zeroCells (Value.agg #[.int .i64 0, .int .i64 0, .bool false, .bool false]).cells (G - (n + 1)) := ⟨_, rfl⟩
  have hrz : ∀ ty, (Builtin.append_ #[30, 3] ty #[.slice (some ⟨g, 0, none⟩) i cap, .int .i64 ((n : Int) + 1 - (i : Int))]).run Tryz.prog w = .ok (.slice (some ⟨w.heap.size, 0, none⟩) (n + 1) G) (w.drew.alloc (.cells R 37)) := fun ty => by
    have h := Lib.run_append_grow_zeros w 30 3 ty 37 i0 _ .i64 .i64 Tryz.underlying30 Tryz.underlying3 hi0 hz0 (some ⟨g, 0, none⟩) i cap (cs.take (i * 4)) hold (n + 1 - i) (by omega) (by omega) (by omega) (by omega) (by rw [hzb]; omega) (by rw [hzb, hik]; exact growslice_fits hroom (by omega))
    rw [hik, ← hG, ← hR] at h
    rw [hkk]
    exact h
  have hRs : R.size = G * 4 := by
    rw [hR, Array.size_append, Array.size_append, hzc, hzc]
    simp; omega
  have hR1 : ∀ j, j < i * 4 → R[j]? = cs[j]? := fun j hj => by
    rw [hR, Array.append_assoc, Array.getElem?_append_left (by simp; omega)]
    simp [List.getElem?_take, hj]
  have hN := Blk.new w.drew 37 R
  have hNz : (w.drew.alloc (.cells R 37)).heap.size = w.heap.size + 1 := by simp
  have hN' : Blk (w.drew.alloc (.cells R 37)) w.heap.size 37 R := hN
  have hA1 : Chg [] w (w.drew.alloc (.cells R 37)) := (Chg.refl [] w).drew.alloc _
  have hv1 := hv.chg hA1 (by simp)
  have hg1 := hB.chg hA1 (by simp)
  have hgl : g ≠ w.heap.size := by have := hB.lt; omega
  have hwl : w.heap.size ≠ w.heap.size + 1 := by omega
  generalize (w.drew.alloc (.cells R 37)) = w1 at *
  have hcpA : ∀ ty dc, (Builtin.copy_ #[30, 30] ty #[.slice (some ⟨w.heap.size, i * 4, none⟩) (n + 1 - i) dc, .slice (some ⟨vb, 0, none⟩) 1 1]).run Tryz.prog w1 = .ok (goInt (1 : Nat)) (w1.setCells w.heap.size (i * 4) vs) := fun ty dc =>
    run_copy_sz _ _ _ ty 37 4 w.heap.size (i * 4) (n + 1 - i) dc ⟨vb, 0, none⟩ 1 1 1 vs Tryz.underlying30 szB (by simp only [Nat.min_def]; split <;> omega) (by omega)
      (fun j v hj => by rw [Addr.add_lit, Nat.zero_add, hv1.cell]; simpa using hj)
      (fun j hj => by rw [hN'.cell, Array.getElem?_eq_getElem (by omega)]; rfl) (fun j hj => hN'.frozen _) h1v
  have hN2 := (Blk.setCells vs (i * 4) _ hN').drew
  have hs2 : (putAt R (i * 4) vs).size = G * 4 := by rw [putAt_size]; exact hRs
  have hg2 : Blk (w1.setCells w.heap.size (i * 4) vs).drew g 37 cur := (hg1.chg (Chg.setCells (g := w.heap.size) _ _) (by simpa using hgl)).drew
  have hA2 : Chg [] w (w1.setCells w.heap.size (i * 4) vs).drew := (hA1.trans' (Chg.setCells (g := w.heap.size) _ _) (fun y hy => by simp at hy; subst hy; exact .inr (Nat.le_refl _))).drew
  obtain ⟨w2, hw2⟩ : ∃ w2, w2 = (w1.setCells w.heap.size (i * 4) vs).drew := ⟨_, rfl⟩
  have hwd : (w1.setCells w.heap.size (i * 4) vs).drew = w2 := hw2.symm
  rw [hwd] at hN2 hg2 hA2
  have hcpB : ∀ ty dc sc, (Builtin.copy_ #[30, 30] ty #[.slice (some ⟨w.heap.size, (i + 1) * 4, none⟩) (n + 1 - (i + 1)) dc, .slice (some ⟨g, i * 4, none⟩) (n - i) sc]).run Tryz.prog w2 = .ok (goInt (n - i : Nat)) (w2.setCells w.heap.size ((i + 1) * 4) (cs.drop (i * 4))) := fun ty dc sc =>
    run_copy_sz _ _ _ ty 37 4 w.heap.size ((i + 1) * 4) (n + 1 - (i + 1)) dc ⟨g, i * 4, none⟩ (n - i) sc (n - i) (cs.drop (i * 4)) Tryz.underlying30 szB (by simp only [Nat.min_def]; split <;> omega) hdl
      (fun j v hj => by
        rw [Addr.add_lit, hg2.cell, hcc _ (by have := (List.getElem?_eq_some_iff.1 hj).1; omega)]
        rwa [List.getElem?_drop] at hj)
      (fun j hj => by rw [hN2.cell, Array.getElem?_eq_getElem (by omega)]; rfl) (fun j hj => hN2.frozen _) (fun v hv => h1c v (List.mem_of_mem_drop hv))
  have hB3 := Blk.setCells (cs.drop (i * 4)) ((i + 1) * 4) _ hN2
  have hs3 : (putAt (putAt R (i * 4) vs) ((i + 1) * 4) (cs.drop (i * 4))).size = G * 4 := by rw [putAt_size]; exact hs2
  have hin : i ≤ n := by omega
  have HF : Hid ((w2.setCells w.heap.size ((i + 1) * 4) (cs.drop (i * 4))).ownsRow base 37 4 (.slice (some ⟨w.heap.size, 0, none⟩) (n + 1) G) (n + 1) (cs.take (i * 4) ++ vs ++ cs.drop (i * 4)) ∧ Chg [] w (w2.setCells w.heap.size ((i + 1) * 4) (cs.drop (i * 4)))) := Lib.hid (by
    refine ⟨own_blockB hbase hB3 hGn hGm hs3 (by rw [List.length_append, List.length_append, List.length_take, hdl, hcl, hvl]; omega) ?_, hA2.trans' (Chg.setCells (g := w.heap.size) _ _) (fun y hy => by simp at hy; subst hy; exact .inr (Nat.le_refl _))⟩
    refine ins_cells (by omega) hcl hvl hin (fun j hj => ?_) (fun j hj => ?_) (fun j hj hj2 => ?_)
    · rw [putAt_get _ _ _ _ (by omega), if_neg (by omega), putAt_get _ _ _ _ (by omega), if_neg (by omega), hR1 j hj]
    · rw [putAt_get _ _ _ _ (by omega), if_neg (by omega), putAt_get _ _ _ _ (by omega), if_pos (by omega), show i * 4 + j - i * 4 = j by omega]
    · rw [putAt_get _ _ _ _ (by omega), if_pos (by omega), List.getElem?_drop]
      congr 1; omega)
  have hz2 : ¬ ((i : Int) = (n : Int)) := by omega
  have hw1 : IntKind.i64.wrap ((i : Int) + 1) = (i : Int) + 1 := by rw [IntKind.wrap_i64]; omega
  have hb1 : (0 : Int) ≤ (i : Int) + 1 := by omega
  have htn : ((i : Int) + 1).toNat = i + 1 := by omega
  have hb5 : (cap : Int) < (n : Int) + 1 := by omega
  have hGi : ¬ (G = i) := by omega
  have hGim : ¬ (G = i + 1) := by omega
  have hci : ¬ (cap = i) := by omega
  have hb3 : (i : Int) ≤ (n : Int) := by omega
  have hb6 : (i : Int) ≤ (n : Int) + 1 := by omega
  clear hN hNz hN' hA1 hv1 hg1 hN2 hs2 hg2 hA2 hB3 hs3 hcc hdl hB hcs hcl ht hv hvl hRs hR1 hR hold hi0 hz0 hzs hzb hkk hik hG hw2
  generalize cs.drop (i * 4) = r at *
  have hA : AnyWB w2 := trivial
  have hA3 : AnyWB (w2.setCells w.heap.size ((i + 1) * 4) r) := trivial
  go_enter Tryz.func46, Tryz.ntmps46
  go_wp2_with (first
    | (at_builtin; refine Lib.wpList_append_run _ rfl (.tmp 34) (.tmp 39) 30 3 rfl _ _ rfl rfl _ _ (hrz _) ?_)
    | (at_builtin; refine wpList_copy_runI _ rfl (.tmp 43) (.tmp 44) 30 30 rfl _ _ rfl rfl (hcpA _ _) ?_)
    | fail)
  refine wp_region_noPanic ?_
  refine wp_region_held_drew (S := AnyWB) (by kernel_rfl) (by exact (trivial : AnyWB _)) (fun _ => ?_)
  rw [hwd]
  refine wpAnyH_take (i := 0) (v := ?_) rfl (by kernel_rfl) (by kernel_rfl) (by kernel_rfl) (fun _ _ _ h => h) (yields_pure (by rfl) (fun w => ?_)) (by with_reducible assumption) ?_
  rotate_left
  · (go_simp <;> with_reducible rfl)
  try simp only [List.getElem_toArray, List.getElem_cons_succ, List.getElem_cons_zero, Act.put, List.setIfInBounds_toArray, List.set_cons_zero, List.set_cons_succ]
  refine wpAnyH_take (i := 1) (v := ?_) rfl (by kernel_rfl) (by kernel_rfl) (by kernel_rfl) (fun _ _ _ h => h) (yields_pure (by rfl) (fun w => ?_)) (by with_reducible assumption) ?_
  rotate_left
  · (go_simp <;> with_reducible rfl)
  try simp only [List.getElem_toArray, List.getElem_cons_succ, List.getElem_cons_zero, Act.put, List.setIfInBounds_toArray, List.set_cons_zero, List.set_cons_succ]
  refine wpAnyH_take (i := 2) (v := ?_) rfl (by kernel_rfl) (by kernel_rfl) (by kernel_rfl) (fun _ _ _ h => h) (yields_pure (by rfl) (fun w => ?_)) (by with_reducible assumption) ?_
  rotate_left
  · (go_simp <;> with_reducible rfl)
  try simp only [List.getElem_toArray, List.getElem_cons_succ, List.getElem_cons_zero, Act.put, List.setIfInBounds_toArray, List.set_cons_zero, List.set_cons_succ]
  refine wpAnyH_take (i := 3) (v := ?_) rfl (by kernel_rfl) (by kernel_rfl) (by kernel_rfl) (fun _ _ _ h => h) (yields_pure (by rfl) (fun w => ?_)) (by with_reducible assumption) ?_
  rotate_left
  · (go_simp <;> with_reducible rfl)
  try simp only [List.getElem_toArray, List.getElem_cons_succ, List.getElem_cons_zero, Act.put, List.setIfInBounds_toArray, List.set_cons_zero, List.set_cons_succ]
  refine wpAnyH_take (i := 4) (v := ?_) rfl (by kernel_rfl) (by kernel_rfl) (by kernel_rfl) (fun _ _ _ h => h) (yields_pure (by rfl) (fun w => ?_)) (by with_reducible assumption) ?_
  rotate_left
  · (go_simp <;> with_reducible rfl)
  try simp only [List.getElem_toArray, List.getElem_cons_succ, List.getElem_cons_zero, Act.put, List.setIfInBounds_toArray, List.set_cons_zero, List.set_cons_succ]
  refine wpAnyH_take (i := 5) (v := ?_) rfl (by kernel_rfl) (by kernel_rfl) (by kernel_rfl) (fun _ _ _ h => h) (yields_pure (by rfl) (fun w => ?_)) (by with_reducible assumption) ?_
  rotate_left
  · (go_simp <;> with_reducible rfl)
  try simp only [List.getElem_toArray, List.getElem_cons_succ, List.getElem_cons_zero, Act.put, List.setIfInBounds_toArray, List.set_cons_zero, List.set_cons_succ]
  refine wpAnyH_take (i := 6) (v := ?_) rfl (by kernel_rfl) (by kernel_rfl) (by kernel_rfl) (fun _ _ _ h => h) (yields_pure (by rfl) (fun w => ?_)) (by with_reducible assumption) ?_
  rotate_left
  · (go_simp <;> with_reducible rfl)
  try simp only [List.getElem_toArray, List.getElem_cons_succ, List.getElem_cons_zero, Act.put, List.setIfInBounds_toArray, List.set_cons_zero, List.set_cons_succ]
  refine wpAnyH_take (i := 7) (v := ?_) rfl (by kernel_rfl) (by kernel_rfl) (by kernel_rfl) (fun _ _ _ h => h) (yields_pure (by rfl) (fun w => ?_)) (by with_reducible assumption) ?_
  rotate_left
  · (go_simp <;> with_reducible rfl)
  try simp only [List.getElem_toArray, List.getElem_cons_succ, List.getElem_cons_zero, Act.put, List.setIfInBounds_toArray, List.set_cons_zero, List.set_cons_succ]
  refine wpAnyH_ready (rs := [8]) (by kernel_rfl) (by simp) (AllReadyH.cons rfl (fun K hK => ?_) AllReadyH.nil)
  refine step_copy_runI rfl (.tmp 50) (.tmp 53) 30 30 rfl (.slice (some ⟨w.heap.size, (i + 1) * 4, none⟩) (n + 1 - (i + 1)) (G - (i + 1))) (.slice (some ⟨g, i * 4, none⟩) (n - i) (cap - i)) (by simp [Act.eval, Act.put]) (by simp [Act.eval, Act.put]) (hcpB _ _ _) ?_
  refine hK.out _ _ (by with_reducible assumption) (fun _ => ?_)
  clear hK K
  try simp only [List.getElem_toArray, List.getElem_cons_succ, List.getElem_cons_zero, Act.put, List.setIfInBounds_toArray, List.set_cons_zero, List.set_cons_succ]
  refine wpAnyH_done (by kernel_rfl) ?_ _
  refine NoPanic.normal ?_
  go_wp2_with fail
  go_ret
  exact ⟨_, rfl, HF.out.1, HF.out.2⟩
end Go.Proofs.YtecblclpchndiaaGreat
namespace Go.Proofs.YtecblclpchndiaaGreat
open Go.RowKit

theorem insertB_any {w : World} {base i vb : Nat} {v : Value} {l : List Bk} {x : Bk} (h : OwB 37 w base v l) (hi : i ≤ l.length) (hl : l.length ≤ 1000) (hbase : base ≤ w.heap.size) (hv : Blk w vb 37 (encB x).toArray) (hvb : vb ∉ v.ownBlock.toList) :
    Calls Tryz.prog 46 #[v, .int .i64 i, .slice (some ⟨vb, 0, none⟩) 1 1] w fun e w' => ∃ v', e = .returned v' ∧ OwB 37 w' base v' (l.take i ++ x :: l.drop i) ∧ Chg v.ownBlock.toList w w' := by
  have hlen : (l.take i ++ x :: l.drop i).length = l.length + 1 := by rw [List.length_append, List.length_take, List.length_cons, List.length_drop]; omega
  have hcat : (l.take i ++ x :: l.drop i).flatMap encB = (l.flatMap encB).take (i * 4) ++ encB x ++ (l.flatMap encB).drop (i * 4) := by
    rw [flat_take encB_len, flat_drop encB_len, List.flatMap_append, List.flatMap_cons, List.append_assoc]
  unfold OwB at h ⊢
  rw [hlen, hcat]
  by_cases hin : i = l.length
  · subst hin
    have e1 : (l.flatMap encB).take (l.length * 4) = l.flatMap encB := by rw [flat_take encB_len, List.take_length]
    have e2 : (l.flatMap encB).drop (l.length * 4) = [] := by rw [flat_drop encB_len, List.drop_length]; rfl
    rw [e1, e2, List.append_nil]
    exact insertB_end h hl hbase hv rfl (encB_one x)
  · rcases h.2 with ⟨_, h0⟩ | ⟨g, cap, cur, rfl, hb, hB0, hcap, hmx, hcs, ht⟩
    · omega
    · have hvg : vb ≠ g := fun e => hvb (by simp [Value.ownBlock, e])
      have eb : (Value.slice (some ⟨g, 0, none⟩) l.length cap).ownBlock.toList = [g] := rfl
      rw [eb]
      by_cases hr : l.length + 1 ≤ cap
      · exact insertB_room hb hB0 hmx hcs h.1 ht (by omega) hl hr hv rfl hvg (encB_one x) (flatB_one l)
      · exact (insertB_grow hbase hB0 hcap hcs h.1 ht (by omega) hl (by omega) hv rfl (encB_one x) (flatB_one l)).mono fun _ _ ⟨v', a, b, c⟩ => ⟨v', a, b, c.more (by simp)⟩
theorem deleteB_any {w : World} {base i : Nat} {v : Value} {l : List Bk} (h : OwB 37 w base v l) (hi : i < l.length) (hl : l.length ≤ 1000) :
    Calls Tryz.prog 51 #[v, .int .i64 i, .int .i64 ((i : Nat) + 1)] w fun e w' => ∃ v', e = .returned v' ∧ OwB 37 w' base v' (l.take i ++ l.drop (i + 1)) ∧ Chg v.ownBlock.toList w w' := by
  refine (deleteB_own h hi hl (flatB_one l)).mono fun e w' ⟨v', a, b, _, c⟩ => ⟨v', a, ?_, c⟩
  have hlen : (l.take i ++ l.drop (i + 1)).length = l.length - 1 := by rw [List.length_append, List.length_take, List.length_drop]; omega
  unfold OwB
  rw [hlen, List.flatMap_append, ← flat_take encB_len, ← flat_drop encB_len]
  exact b
end Go.Proofs.YtecblclpchndiaaGreat
namespace Go.Proofs.YtecblclpchndiaaGreat
open Go.RowKit

theorem elV : El Tryz.prog 34 46 (.agg #[.int .i64 0, .int .i64 0, .int .i64 0, .slice none 0 0]) 4 48 := ⟨Tryz.underlying34, by kernel_rfl, rfl, by omega⟩
theorem zeroV (w : World) : (zeroValue 46).run Tryz.prog w = .ok (.agg #[.int .i64 0, .int .i64 0, .int .i64 0, .slice none 0 0]) w := by kernel_rfl
theorem slice3V {g i j n cap : Nat} (h1 : i ≤ j) (h2 : j ≤ n) (h3 : n ≤ cap) (w : World) :
    (Instr.slice 34 (.slice (some ⟨g, 0, none⟩) n cap) (some (.int .i64 i)) (some (.int .i64 j)) (some (.int .i64 n))).run Tryz.prog w = .ok (.slice (if n = i then some ⟨g, 0, none⟩ else some (Addr.add ⟨g, 0, none⟩ (i * 4))) (j - i) (n - i)) w := by
  have b1 : ∀ c, (Instr.sliceBound (.int .i64 (n : Int)) cap c).run Tryz.prog w = .ok n w := fun c => by simp [Instr.sliceBound, asIntOf, go_sem, h3]
  have b2 : ∀ c, (Instr.sliceBound (.int .i64 (j : Int)) n c).run Tryz.prog w = .ok j w := fun c => by simp [Instr.sliceBound, asIntOf, go_sem, h2]
  have b3 : ∀ c, (Instr.sliceBound (.int .i64 (i : Int)) j c).run Tryz.prog w = .ok i w := fun c => by simp [Instr.sliceBound, asIntOf, go_sem, h1]
  obtain ⟨ti, hti, hz, hs, hby⟩ := info_parts (elV).info
  by_cases e : n = i
  · simp [Instr.slice, run_underlying (elV).ht, Instr.sliceBounds, b1, b2, b3, sizeOf, typeInfo, hti, hs, e]
    simp [e] at b1 b2 b3
    simp [b1, b2, b3]
  · simp [Instr.slice, run_underlying (elV).ht, Instr.sliceBounds, b1, b2, b3, sizeOf, typeInfo, hti, hs, e]
theorem wpList_slice3V {P : Program} {ops : Array Oper} {rest : List Oper} {o : Oper} {a : Act} {Q : Exit → Act → World → Prop} {w : World} (hgd : o.guard = none) (t : TypeId) (x l h m : Operand) (ho : o.op = .slice t x (some l) (some h) (some m)) {e : TypeId} (hu : P.underlying t = some (.slice e)) {xv lv hv mv v : Value}
    (hx : a.eval x = xv) (hl : a.eval l = lv) (hh : a.eval h = hv) (hm : a.eval m = mv) (hr : (Instr.slice t xv (some lv) (some hv) (some mv)).run P w = .ok v w) (hk : wpList P ops Q rest (a.put o.dst v) w) : wpList P ops Q (o :: rest) a w := by
  refine wpList_plain hgd fun K hK => ?_
  unfold Oper.wp execOp
  have hr2 : (Instr.sliceAt t xv (some lv) (some hv) (some mv)).run P w = .ok v w := by
    simp [Instr.sliceAt, run_underlying hu, hr]
  simp only [ho, Option.map_some, hx, hl, hh, hm, Sem.run_bind, Result.andThen_ok, hr2, Sem.run_pure]
  exact hK _ _ hk
theorem step_app_runV {P : Program} {t : TypeId} {w w' : World} {ops : Array Oper} {o : Oper} {a : Act} {K : Act → World → Prop} {Q : Exit → Act → World → Prop} {E : Prop} (hgd : o.guard = none) (s x : Operand)
    (ho : o.op = .call { callee := .builtin .append, args := #[s, x], argTypes := #[t, t] }) {v xv v' : Value} (hs : a.eval s = v) (hx : a.eval x = xv)
    (hr : ∀ ty, (Builtin.append_ #[t, t] ty #[v, xv]).run P w = .ok v' w') (h : K (a.put o.dst v') w') : if Region.wanted o (yielded ops a.tmps) = true then Oper.wp P o a w K Q else E := by
  have hw : Region.wanted o (yielded ops a.tmps) = true := by simp [Region.wanted, hgd]
  rw [if_pos hw]
  unfold Oper.wp execOp
  simp only [ho, resolve, invoke, builtin, Sem.run_bind, Sem.run_pure, Result.andThen_ok, List.map_toArray, List.map_cons, List.map_nil, hs, hx, hr]
  exact h
def AnyWV (w : World) : Prop := True

set_option maxRecDepth 100000 in
set_option maxHeartbeats 2000000 in
theorem deleteV_own {w : World} {base n i : Nat} {v : Value} {cs : List Value} (h : w.ownsRow base 46 4 v n cs) (hi : i < n) (hl : n ≤ 1000) (h1 : ∀ u ∈ cs, u.oneCell' = true) :
    Calls Tryz.prog 82 #[v, .int .i64 (i : Nat), .int .i64 ((i : Nat) + 1)] w fun e w' => ∃ v', e = .returned v' ∧ w'.ownsRow base 46 4 v' (n - 1) (cs.take (i * 4) ++ cs.drop ((i + 1) * 4)) ∧ v'.ownBlock = v.ownBlock ∧ Chg v.ownBlock.toList w w' := by
  have hcl := h.1
  rcases h.2 with ⟨rfl, h0⟩ | ⟨g, cap, cur, rfl, hb, hB0, hcap, hmx, hcs, ht⟩
  · omega
  have hB : Blk w g 46 cur := hB0
  have hsl := Sl.of_own h
  clear h hB0
  obtain ⟨j, hj⟩ : ∃ j : Nat, j = i + 1 := ⟨_, rfl⟩
  have hji : ((i : Nat) : Int) + 1 = (j : Int) := by omega
  rw [hji, ← hj]
  have hij : (i : Int) ≤ (j : Int) := by omega
  have hjn : (j : Int) ≤ (n : Int) := by omega
  have hin : (i : Int) ≤ (n : Int) := by omega
  have hncap : (n : Int) ≤ (cap : Int) := by omega
  have hicap : (i : Int) ≤ (cap : Int) := by omega
  have hne : ((i : Int) == (j : Int)) = false := beq_eq_false_iff_ne.2 (by omega)
  have hdl : (cs.drop (j * 4)).length = (n - j) * 4 := by rw [List.length_drop, hcl, Nat.sub_mul]
  have hap : ∀ (A : Addr), A = (if n ≤ j ∧ cap = j then ⟨g, 0, none⟩ else ⟨g, j * 4, none⟩) → ∀ ty, (Builtin.append_ #[34, 34] ty #[.slice (some ⟨g, 0, none⟩) i cap, .slice (some A) (n - j) (cap - j)]).run Tryz.prog w.drew = .ok (.slice (some ⟨g, 0, none⟩) (n - 1) cap) (w.drew.setCells g (i * 4) (cs.drop (j * 4))) := by
    intro A hA ty
    obtain ⟨ti, hti, hz, hs, hby⟩ := info_parts (elV).info
    have := run_append_room_cells (P := Tryz.prog) w.drew 34 ty 46 ti (elV).ht hti g 0 i cap A (n - j) (cap - j) (cs.drop (j * 4)) (by rw [hs]; exact hdl) (fun q u hq => ?_) (fun u hu => h1 u (List.mem_of_mem_drop hu)) (by omega)
      (fun q hq => ?_) (fun q hq => ?_)
    · rw [hs, Nat.zero_add, show i + (n - j) = n - 1 by omega] at this
      exact this
    · have hqn : q < (n - j) * 4 := by have := (List.getElem?_eq_some_iff.1 hq).1; omega
      have hjn2 : j < n := by rcases Nat.lt_or_ge j n with h | h; exact h; rw [show n - j = 0 by omega] at hqn; omega
      rw [if_neg (by omega)] at hA
      subst hA
      rw [List.getElem?_drop] at hq
      obtain ⟨b', o', c', hv, _, _, hx⟩ := Sl.at_ hsl (k := j + q / 4) (by omega) (by omega)
      simp only [Value.slice.injEq, true_and, Option.some.injEq, Addr.mk.injEq, and_true] at hv
      obtain ⟨⟨rfl, rfl⟩, rfl⟩ := hv
      have h2 := hx (q % 4) (Nat.mod_lt _ (by omega))
      rw [show (j + q / 4) * 4 + q % 4 = j * 4 + q by omega, hq] at h2
      have h3 : w.drew.cell? ⟨g, j * 4 + q, none⟩ = some u := by rw [Nat.zero_add] at h2; exact h2
      unfold Addr.add
      split
      · next hq0 => simpa [hq0] using h3
      · exact h3
    · rw [hdl] at hq
      rw [hs, hB.drew.cell, Array.getElem?_eq_getElem (by rw [hcs]; omega)]
      rfl
    · exact hB.drew.frozen _
  have hB2 := Blk.setCells (cs.drop (j * 4)) (i * 4) cur (Blk.drew hB)
  have hC2 : Chg [g] w (w.drew.setCells g (i * 4) (cs.drop (j * 4))) := (Chg.refl [g] w).drew.trans (Chg.setCells _ _)
  obtain ⟨vs, hvl, hclr⟩ := run_clear_all (P := Tryz.prog) hB2 34 46 (.agg #[.int .i64 0, .int .i64 0, .int .i64 0, .slice none 0 0]) 4 Tryz.underlying34 (zeroV _) (by intro u hu; simp [Value.cells] at hu; rcases hu with rfl | rfl <;> rfl) rfl (by omega) ((n - 1) * 4) (n - (n - 1)) (cap - (n - 1)) (by rw [putAt_size, hcs]; omega)
  have hB3 := Blk.setCells vs ((n - 1) * 4) _ hB2
  have hC3 : Chg [g] w ((w.drew.setCells g (i * 4) (cs.drop (j * 4))).setCells g ((n - 1) * 4) vs) := hC2.trans (Chg.setCells _ _)
  have hfin : (putAt (putAt cur (i * 4) (cs.drop (j * 4))) ((n - 1) * 4) vs).toList.take ((n - 1) * 4) = cs.take (i * 4) ++ cs.drop (j * 4) := by
    apply List.ext_getElem?
    intro q
    by_cases hq : q < (n - 1) * 4
    · rw [List.getElem?_take_of_lt hq, Array.getElem?_toList, putAt_get _ _ _ _ (by rw [putAt_size, hcs]; omega), if_neg (by omega), putAt_get _ _ _ _ (by rw [hcs]; omega)]
      by_cases hqi : q < i * 4
      · rw [if_neg (by omega), List.getElem?_append_left (by rw [List.length_take, hcl]; omega), List.getElem?_take_of_lt hqi, ← ht, List.getElem?_take_of_lt (by omega), Array.getElem?_toList]
      · rw [if_pos (by rw [hdl]; omega), List.getElem?_append_right (by rw [List.length_take, hcl]; omega), List.length_take, hcl, show min (i * 4) (n * 4) = i * 4 by omega]
    · rw [List.getElem?_eq_none (by rw [List.length_take, Array.length_toList, putAt_size, putAt_size, hcs]; omega), List.getElem?_eq_none (by rw [List.length_append, List.length_take, hcl, hdl]; omega)]
  have HF : Hid (((w.drew.setCells g (i * 4) (cs.drop (j * 4))).setCells g ((n - 1) * 4) vs).ownsRow base 46 4 (.slice (some ⟨g, 0, none⟩) (n - 1) cap) (n - 1) (cs.take (i * 4) ++ cs.drop (j * 4)) ∧ Chg [g] w ((w.drew.setCells g (i * 4) (cs.drop (j * 4))).setCells g ((n - 1) * 4) vs)) :=
    Lib.hid ⟨⟨by rw [List.length_append, List.length_take, hcl, hdl]; omega, .inr ⟨g, cap, _, rfl, hb, hB3, by omega, hmx, by rw [putAt_size, putAt_size, hcs], hfin⟩⟩, hC3⟩
  have hjn3 : j ≤ n := by omega
  have hij3 : i ≤ j := by omega
  clear hj hji
  clear hcl hdl hB2 hC2 hB3 hC3 hfin hB hsl hcs ht hvl
  generalize cs.drop (j * 4) = news at *
  generalize cs.take (i * 4) ++ news = out at *
  have hA : AnyWV w.drew := trivial
  have hs3 := fun w => slice3V (g := g) (i := i) (j := j) (n := n) (cap := cap) (by omega) (by omega) hcap w
  go_enter Tryz.func82, Tryz.ntmps82
  go_wp2_with (first
    | (refine wpList_slice3V rfl 34 (.tmp 8) (.tmp 9) (.tmp 10) (.tmp 12) rfl Tryz.underlying34 rfl rfl rfl rfl (hs3 _) ?_)
    | fail)
  have hA2 : AnyWV (w.drew.setCells g (i * 4) news) := trivial
  by_cases hcj : cap = j
  · have hap := hap ⟨g, 0, none⟩ (by rw [if_pos ⟨by omega, hcj⟩])
    obtain rfl : n = cap := by omega
    obtain rfl : n = j := by omega
    simp only [Nat.sub_self] at hap
    clear hcj
    refine wp_region_noPanic ?_
    refine wp_region_held_drew (S := AnyWV) (by kernel_rfl) hA (fun _ => ?_)
    refine wpAnyH_take (i := 0) (v := ?_) rfl (by kernel_rfl) (by kernel_rfl) (by kernel_rfl) (fun _ _ _ h => h) (yields_pure (by rfl) (fun w => ?_)) (by with_reducible assumption) ?_
    rotate_left
    · (go_simp <;> with_reducible rfl)
    try simp only [List.getElem_toArray, List.getElem_cons_succ, List.getElem_cons_zero, Act.put, List.setIfInBounds_toArray, List.set_cons_zero, List.set_cons_succ]
    refine wpAnyH_take (i := 1) (v := ?_) rfl (by kernel_rfl) (by kernel_rfl) (by kernel_rfl) (fun _ _ _ h => h) (yields_pure (by rfl) (fun w => ?_)) (by with_reducible assumption) ?_
    rotate_left
    · (go_simp <;> with_reducible rfl)
    try simp only [List.getElem_toArray, List.getElem_cons_succ, List.getElem_cons_zero, Act.put, List.setIfInBounds_toArray, List.set_cons_zero, List.set_cons_succ]
    refine wpAnyH_take (i := 2) (v := ?_) rfl (by kernel_rfl) (by kernel_rfl) (by kernel_rfl) (fun _ _ _ h => h) (yields_pure (by rfl) (fun w => ?_)) (by with_reducible assumption) ?_
    rotate_left
    · (go_simp <;> with_reducible rfl)
    try simp only [List.getElem_toArray, List.getElem_cons_succ, List.getElem_cons_zero, Act.put, List.setIfInBounds_toArray, List.set_cons_zero, List.set_cons_succ]
    refine wpAnyH_take (i := 3) (v := ?_) rfl (by kernel_rfl) (by kernel_rfl) (by kernel_rfl) (fun _ _ _ h => h) (yields_pure (by rfl) (fun w => ?_)) (by with_reducible assumption) ?_
    rotate_left
    · (go_simp <;> with_reducible rfl)
    try simp only [List.getElem_toArray, List.getElem_cons_succ, List.getElem_cons_zero, Act.put, List.setIfInBounds_toArray, List.set_cons_zero, List.set_cons_succ]
    refine wpAnyH_take (i := 4) (v := ?_) rfl (by kernel_rfl) (by kernel_rfl) (by kernel_rfl) (fun _ _ _ h => h) (yields_pure (by rfl) (fun w => ?_)) (by with_reducible assumption) ?_
    rotate_left
    · (go_simp <;> with_reducible rfl)
    try simp only [List.getElem_toArray, List.getElem_cons_succ, List.getElem_cons_zero, Act.put, List.setIfInBounds_toArray, List.set_cons_zero, List.set_cons_succ]
    refine wpAnyH_take (i := 5) (v := ?_) rfl (by kernel_rfl) (by kernel_rfl) (by kernel_rfl) (fun _ _ _ h => h) (yields_pure (by rfl) (fun w => ?_)) (by with_reducible assumption) ?_
    rotate_left
    · (go_simp <;> with_reducible rfl)
    try simp only [List.getElem_toArray, List.getElem_cons_succ, List.getElem_cons_zero, Act.put, List.setIfInBounds_toArray, List.set_cons_zero, List.set_cons_succ]
    refine wpAnyH_ready (rs := [6]) (by kernel_rfl) (by simp) (AllReadyH.cons rfl (fun K hK => ?_) AllReadyH.nil)
    refine step_app_runV rfl (.tmp 22) (.tmp 25) rfl rfl rfl hap ?_
    refine hK.out _ _ (by with_reducible assumption) (fun _ => ?_)
    clear hK K
    try simp only [List.getElem_toArray, List.getElem_cons_succ, List.getElem_cons_zero, Act.put, List.setIfInBounds_toArray, List.set_cons_zero, List.set_cons_succ]
    refine wpAnyH_take (i := 7) (v := ?_) rfl (by kernel_rfl) (by kernel_rfl) (by kernel_rfl) (fun _ _ _ h => h) (yields_pure (by rfl) (fun w => ?_)) (by with_reducible assumption) ?_
    rotate_left
    · (go_simp <;> with_reducible rfl)
    try simp only [List.getElem_toArray, List.getElem_cons_succ, List.getElem_cons_zero, Act.put, List.setIfInBounds_toArray, List.set_cons_zero, List.set_cons_succ]
    refine wpAnyH_done (by kernel_rfl) ?_ _
    refine NoPanic.normal ?_
    go_wp2_with fail
    go_ret
    exact ⟨_, rfl, HF.out.1, rfl, HF.out.2⟩
  · have hap := hap ⟨g, j * 4, none⟩ (by rw [if_neg (by omega)])
    refine wp_region_noPanic ?_
    refine wp_region_held_drew (S := AnyWV) (by kernel_rfl) hA (fun _ => ?_)
    refine wpAnyH_take (i := 0) (v := ?_) rfl (by kernel_rfl) (by kernel_rfl) (by kernel_rfl) (fun _ _ _ h => h) (yields_pure (by rfl) (fun w => ?_)) (by with_reducible assumption) ?_
    rotate_left
    · (go_simp <;> with_reducible rfl)
    try simp only [List.getElem_toArray, List.getElem_cons_succ, List.getElem_cons_zero, Act.put, List.setIfInBounds_toArray, List.set_cons_zero, List.set_cons_succ]
    refine wpAnyH_take (i := 1) (v := ?_) rfl (by kernel_rfl) (by kernel_rfl) (by kernel_rfl) (fun _ _ _ h => h) (yields_pure (by rfl) (fun w => ?_)) (by with_reducible assumption) ?_
    rotate_left
    · (go_simp <;> with_reducible rfl)
    try simp only [List.getElem_toArray, List.getElem_cons_succ, List.getElem_cons_zero, Act.put, List.setIfInBounds_toArray, List.set_cons_zero, List.set_cons_succ]
    refine wpAnyH_take (i := 2) (v := ?_) rfl (by kernel_rfl) (by kernel_rfl) (by kernel_rfl) (fun _ _ _ h => h) (yields_pure (by rfl) (fun w => ?_)) (by with_reducible assumption) ?_
    rotate_left
    · (go_simp <;> with_reducible rfl)
    try simp only [List.getElem_toArray, List.getElem_cons_succ, List.getElem_cons_zero, Act.put, List.setIfInBounds_toArray, List.set_cons_zero, List.set_cons_succ]
    refine wpAnyH_take (i := 3) (v := ?_) rfl (by kernel_rfl) (by kernel_rfl) (by kernel_rfl) (fun _ _ _ h => h) (yields_pure (by rfl) (fun w => ?_)) (by with_reducible assumption) ?_
    rotate_left
    · (go_simp <;> with_reducible rfl)
    try simp only [List.getElem_toArray, List.getElem_cons_succ, List.getElem_cons_zero, Act.put, List.setIfInBounds_toArray, List.set_cons_zero, List.set_cons_succ]
    refine wpAnyH_take (i := 4) (v := ?_) rfl (by kernel_rfl) (by kernel_rfl) (by kernel_rfl) (fun _ _ _ h => h) (yields_pure (by rfl) (fun w => ?_)) (by with_reducible assumption) ?_
    rotate_left
    · (go_simp <;> with_reducible rfl)
    try simp only [List.getElem_toArray, List.getElem_cons_succ, List.getElem_cons_zero, Act.put, List.setIfInBounds_toArray, List.set_cons_zero, List.set_cons_succ]
    refine wpAnyH_take (i := 5) (v := ?_) rfl (by kernel_rfl) (by kernel_rfl) (by kernel_rfl) (fun _ _ _ h => h) (yields_pure (by rfl) (fun w => ?_)) (by with_reducible assumption) ?_
    rotate_left
    · (go_simp <;> with_reducible rfl)
    try simp only [List.getElem_toArray, List.getElem_cons_succ, List.getElem_cons_zero, Act.put, List.setIfInBounds_toArray, List.set_cons_zero, List.set_cons_succ]
    refine wpAnyH_ready (rs := [6]) (by kernel_rfl) (by simp) (AllReadyH.cons rfl (fun K hK => ?_) AllReadyH.nil)
    refine step_app_runV rfl (.tmp 22) (.tmp 25) rfl rfl rfl hap ?_
    refine hK.out _ _ (by with_reducible assumption) (fun _ => ?_)
    clear hK K
    try simp only [List.getElem_toArray, List.getElem_cons_succ, List.getElem_cons_zero, Act.put, List.setIfInBounds_toArray, List.set_cons_zero, List.set_cons_succ]
    refine wpAnyH_take (i := 7) (v := ?_) rfl (by kernel_rfl) (by kernel_rfl) (by kernel_rfl) (fun _ _ _ h => h) (yields_pure (by rfl) (fun w => ?_)) (by with_reducible assumption) ?_
    rotate_left
    · (go_simp <;> with_reducible rfl)
    try simp only [List.getElem_toArray, List.getElem_cons_succ, List.getElem_cons_zero, Act.put, List.setIfInBounds_toArray, List.set_cons_zero, List.set_cons_succ]
    refine wpAnyH_done (by kernel_rfl) ?_ _
    refine NoPanic.normal ?_
    go_wp2_with fail
    go_ret
    exact ⟨_, rfl, HF.out.1, rfl, HF.out.2⟩
end Go.Proofs.YtecblclpchndiaaGreat
