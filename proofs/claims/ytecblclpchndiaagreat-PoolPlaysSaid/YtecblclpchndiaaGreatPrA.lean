/-
  The document side of the pool, first part: Find, May, with, Push, Pairs (merged of XPr1..XPr4).
-/
import Derived.Test.YtecblclpchndiaaGreatPool5
set_option linter.unusedVariables false
set_option linter.unusedSimpArgs false
namespace Go.Proofs.YtecblclpchndiaaGreat
open Go.RowKit

theorem elB2 : El Tryz.prog 49 61 (.agg #[.int .i64 0, .int .i64 0, .bool false, .bool false]) 4 24 := ⟨Tryz.underlying49, by kernel_rfl, rfl, by omega⟩
theorem elV2 : El Tryz.prog 50 85 (.agg #[.int .i64 0, .int .i64 0, .int .i64 0, .slice none 0 0]) 4 48 := ⟨Tryz.underlying50, by kernel_rfl, rfl, by omega⟩
/-- Where a node is among backends. -/
def findI (L : List Bk) (n : Int) : Int := if n ∈ nodesB L then (cntB L n : Int) else -1
theorem findI_at {L : List Bk} {n : Int} {k : Nat} {x : Bk} (hs : SrtB L) (hx : L[k]? = some x) (hn : x.node = n) : findI L n = k := by
  have hm : n ∈ nodesB L := List.mem_map.2 ⟨x, List.mem_of_getElem? hx, hn⟩
  unfold findI
  rw [if_pos hm]
  have h1 := cntB_lt (n := n) hs hx
  obtain ⟨y, hy, hyn⟩ := cntB_at hs hm
  have h2 := cntB_lt (n := n) hs hy
  have : k = cntB L n := by
    rcases Nat.lt_trichotomy k (cntB L n) with h | h | h
    · have := h1.1 h; omega
    · exact h
    · unfold SrtB nodesB at hs
      rw [List.pairwise_map, List.pairwise_iff_getElem] at hs
      have e1 := List.getElem?_eq_some_iff.1 hx
      have e2 := List.getElem?_eq_some_iff.1 hy
      have := hs (cntB L n) k e2.1 e1.1 h
      rw [e1.2, e2.2] at this
      omega
  rw [this]
theorem findI_none {L : List Bk} {n : Int} (h : ∀ (k : Nat) x, L[k]? = some x → x.node ≠ n) : findI L n = -1 := by
  unfold findI
  rw [if_neg]
  intro hm
  obtain ⟨x, hx, e⟩ := List.mem_map.1 hm
  obtain ⟨i, hi, e2⟩ := List.mem_iff_getElem.1 hx
  exact h i x (by rw [List.getElem?_eq_getElem hi, e2]) e

set_option maxRecDepth 100000 in
set_option maxHeartbeats 2000000 in
theorem find35_any {w : World} {B : Nat} {v : Value} {L : List Bk} (h : SlB w B v L) (hok : OkB L) (n : Int) :
    Calls Tryz.prog 18 #[v, .int .i64 n] w fun e w' => e = .returned (.int .i64 (findI L n)) ∧ Chg [] w w' := by
  obtain ⟨A, c, rfl⟩ := Sl.form h
  have HS := Lib.hid (fun W (hW : Chg [] w W) i x hx => (h.chg0 hW).at_ (i := i) (x := x) hx)
  have HX : Hid (∀ i, i < L.length → ∃ x, L[i]? = some x) := Lib.hid fun i hi => ⟨_, List.getElem?_eq_getElem hi⟩
  have HF := Lib.hid (fun k x hx hn => findI_at (n := n) hok.srt (k := k) (x := x) hx hn)
  have HNO : Hid ((∀ (k : Nat) x, k < L.length → L[k]? = some x → x.node ≠ n) → findI L n = -1) := Lib.hid fun hh => findI_none fun k x hx => hh k x (List.getElem?_eq_some_iff.1 hx).1 hx
  have hlen := hok.len
  clear h hok
  generalize hn : L.length = m at *
  go_enter Tryz.func18, Tryz.ntmps18
  go_wp2_with fail
  go_loopw [5] (fun iv wr => ∃ (k : Nat), k ≤ m ∧ iv = .int .i64 k ∧ Hid (∀ (j : Nat) x, j < k → L[j]? = some x → x.node ≠ n) ∧ Hid (Chg [] w wr)) (fun iv _ => m - (intOf iv).toNat)
  case atStart => exact ⟨0, by omega, rfl, Lib.hid (fun j x hj => by omega), Lib.hid (Chg.refl _ _)⟩
  case round =>
    obtain ⟨k, hk, rfl, HQ, HC⟩ := hrel
    by_cases hlt : k < m
    · have hcn : (k : Int) < (m : Int) := by omega
      obtain ⟨x, hx⟩ := HX.out k hlt
      obtain ⟨b, o, c', hv, hcap, c0, _, _, _⟩ := HS.out wr HC.out k x hx
      simp only [hn, Value.slice.injEq, true_and] at hv
      obtain ⟨rfl, rfl⟩ := hv
      have HFk := Lib.hid (HF.out k x hx)
      have HQ2 : Hid (x.node ≠ n → ∀ (j : Nat) y, j < k + 1 → L[j]? = some y → y.node ≠ n) := Lib.hid fun hxn j y hj hy => by
        rcases Nat.lt_or_eq_of_le (Nat.le_of_lt_succ hj) with h | h
        · exact HQ.out j y h hy
        · subst h
          rw [hx] at hy
          injection hy with hy
          subst hy
          exact hxn
      obtain ⟨nd, wt, dr, dn⟩ := x
      simp only at c0 HFk HQ2
      clear hx HX HS HF HNO HQ hn
      by_cases he : nd = n
      · have HR := Lib.hid (HFk.out he)
        clear HFk HQ2
        subst he
        go_wp2_with fail
        go_ret
        exact ⟨by rw [HR.out]; rfl, HC.out⟩
      · have HQ3 := Lib.hid (HQ2.out he)
        clear HFk HQ2
        have hb : (nd == n) = false := by simpa using he
        go_wp2_with fail
        go_roundw
        case rel => exact ⟨k + 1, by omega, by go_num, HQ3, HC⟩
        case measure => simp [intOf] <;> omega
    · obtain rfl : k = m := by omega
      have hcn : ¬ (k : Int) < (k : Int) := by omega
      have HR := Lib.hid (HNO.out HQ.out)
      clear HX HS HF HNO HQ
      go_wp2_with fail
      go_ret
      exact ⟨by rw [HR.out]; rfl, HC.out⟩

set_option maxRecDepth 100000 in
set_option maxHeartbeats 2000000 in
theorem may20_any {w : World} {B : Nat} {v : Value} {es : List Ve} {V : List Vs} {S : List Nat} (h : Sl w B 4 v es.length (es.flatMap encV)) (hv : VesR w S es V) (hok : OkV V) (now : Int) (hn : 0 ≤ now ∧ now ≤ 1000000) :
    Calls Tryz.prog 86 #[v, .int .i64 now] w fun e w' => e = .returned (.int .i64 (mayV V now)) ∧ w = w' := by
  obtain ⟨A, c, rfl⟩ := Sl.form h
  have hl := hv.1
  have hneg : ¬ now < 0 := by omega
  have hlen := hok.len
  rcases Nat.eq_zero_or_pos V.length with h0 | h0
  · obtain rfl : V = [] := List.eq_nil_of_length_eq_zero h0
    rw [mayV_nil now hn.1]
    have hz : es.length = 0 := by simpa using hl
    rw [hz]
    clear h hv hok hl h0 hz
    go_enter Tryz.func86, Tryz.ntmps86
    go_wp2_with fail
    go_ret
    exact ⟨rfl, rfl⟩
  · obtain ⟨m, hm⟩ : ∃ m, es.length = m + 1 := ⟨es.length - 1, by omega⟩
    obtain ⟨x, hx⟩ : ∃ x, V[m]? = some x := ⟨_, List.getElem?_eq_getElem (by omega)⟩
    obtain ⟨y, hy⟩ : ∃ y, V[0]? = some y := ⟨_, List.getElem?_eq_getElem (by omega)⟩
    obtain ⟨ex, hex⟩ : ∃ x, es[m]? = some x := ⟨_, List.getElem?_eq_getElem (by omega)⟩
    obtain ⟨ey, hey⟩ : ∃ y, es[0]? = some y := ⟨_, List.getElem?_eq_getElem (by omega)⟩
    rw [mayV_of hn.1 (by rw [← hl, hm, Nat.add_sub_cancel]; exact hx) hy]
    have hvx := hv.2 m ex x hex hx
    have hvy := hv.2 0 ey y hey hy
    obtain ⟨b, o, c1, hv1, _, hcap, q1⟩ := Sl.rec encV_len (by omega) h hex
    obtain ⟨b2, o2, c2, hv2, _, _, q2⟩ := Sl.rec encV_len (by omega) h hey
    simp only [Value.slice.injEq, true_and] at hv1 hv2
    obtain ⟨rfl, rfl⟩ := hv1
    obtain ⟨hb, rfl⟩ := hv2
    simp only [Option.some.injEq, Addr.mk.injEq, and_true] at hb
    obtain ⟨rfl, rfl⟩ := hb
    have d1 : w.cell? ⟨b, o + m * 4 + 1, none⟩ = some (.int .i64 x.frm) := by rw [Nat.add_assoc, q1 1 (by omega), ← hvx.frm]; rfl
    have d2 : w.cell? ⟨b, o + 2, none⟩ = some (.int .i64 y.unt) := by
      have := q2 2 (by omega)
      simp only [Nat.zero_mul, Nat.zero_add] at this
      rw [this, ← hvy.unt]; rfl
    have hyo := hok.rng y (List.mem_of_getElem? hy)
    have hm1 : ((m + 1 : Nat) : Int) - 1 = (m : Int) := by omega
    have hm2 : (m : Int) + 1 - 1 = (m : Int) := by omega
    have hmw : IntKind.i64.wrap (m : Int) = (m : Int) := by rw [IntKind.wrap_i64]; omega
    have hml : (m : Int) < (m : Int) + 1 := by omega
    have hgt : (0 : Int) < (m : Int) + 1 := by omega
    have hlV : V.length = m + 1 := by omega
    rw [hlV, hm]
    obtain ⟨xn, xf, xu, xt⟩ := x
    obtain ⟨yn, yf, yu, yt⟩ := y
    simp only at d1 d2 hyo ⊢
    have hyw : IntKind.i64.wrap (now - yu) = now - yu := by rw [IntKind.wrap_i64]; omega
    have hm3 : m ≤ 3 := by omega
    clear h hv hok hl h0 hm hx hy hex hey hvx hvy q1 q2 hcap hlV hlen
    by_cases hlt : now < xf
    · simp only [hlt, if_true, ↓reduceIte]
      go_enter Tryz.func86, Tryz.ntmps86
      go_wp2_with fail
      go_ret
      exact ⟨rfl, rfl⟩
    · simp only [hlt, if_false, ↓reduceIte]
      by_cases h4 : m = 3
      · subst h4
        have hd4 : (4 : Nat) ≤ 3 + 1 := by omega
        by_cases h16 : now - yu < 16
        · simp only [h16, hd4, and_self, if_true, ↓reduceIte]
          go_enter Tryz.func86, Tryz.ntmps86
          go_wp2_with fail
          go_ret
          exact ⟨rfl, rfl⟩
        · simp only [h16, and_false, if_false, ↓reduceIte]
          go_enter Tryz.func86, Tryz.ntmps86
          go_wp2_with fail
          go_ret
          exact ⟨rfl, rfl⟩
      · have hd4 : ¬ 4 ≤ m + 1 := by omega
        have hne : ((m : Int) + 1 == 4) = false := by simp; omega
        have hne2 : (((m + 1 : Nat) : Int) == 4) = false := by simp; omega
        simp only [hd4, false_and, if_false, ↓reduceIte]
        go_enter Tryz.func86, Tryz.ntmps86
        go_wp2_with fail
        go_ret
        exact ⟨rfl, rfl⟩
end Go.Proofs.YtecblclpchndiaaGreat
namespace Go.Proofs.YtecblclpchndiaaGreat
open Go.RowKit

/-- A backend stored over another one, in a row of one's own. -/
theorem own_set4 {t : TypeId} {w : World} {base g cap i : Nat} {L : List Bk} {x : Bk} (h : OwB t w base (.slice (some ⟨g, 0, none⟩) L.length cap) L) (hx : L[i]? = some x) (y : Bk) :
    OwB t ((((w.setCell ⟨g, i * 4, none⟩ (.int .i64 y.node)).setCell ⟨g, i * 4 + 1, none⟩ (.int .i64 y.w)).setCell ⟨g, i * 4 + 2, none⟩ (.bool y.dr)).setCell ⟨g, i * 4 + 3, none⟩ (.bool y.dn)) base (.slice (some ⟨g, 0, none⟩) L.length cap) (L.set i y) := by
  have hl := (List.getElem?_eq_some_iff.1 hx).1
  have h1 := own_set h (i * 4 + 0) (.int .i64 y.node)
  have h2 := own_set h1 (i * 4 + 1) (.int .i64 y.w)
  have h3 := own_set h2 (i * 4 + 2) (.bool y.dr)
  have h4 := own_set h3 (i * 4 + 3) (.bool y.dn)
  rw [flat_set encB_len L i 0 x ⟨y.node, x.w, x.dr, x.dn⟩ _ (by omega) hx rfl,
    flat_set encB_len _ i 1 ⟨y.node, x.w, x.dr, x.dn⟩ ⟨y.node, y.w, x.dr, x.dn⟩ _ (by omega) (List.getElem?_set_self hl) rfl, List.set_set,
    flat_set encB_len _ i 2 ⟨y.node, y.w, x.dr, x.dn⟩ ⟨y.node, y.w, y.dr, x.dn⟩ _ (by omega) (List.getElem?_set_self hl) rfl, List.set_set,
    flat_set encB_len _ i 3 ⟨y.node, y.w, y.dr, x.dn⟩ y _ (by omega) (List.getElem?_set_self hl) rfl, List.set_set] at h4
  unfold OwB
  rw [List.length_set]
  exact h4
theorem chg_set4 (w : World) (g i : Nat) (a b c d : Value) : Chg [g] w ((((w.setCell ⟨g, i * 4, none⟩ a).setCell ⟨g, i * 4 + 1, none⟩ b).setCell ⟨g, i * 4 + 2, none⟩ c).setCell ⟨g, i * 4 + 3, none⟩ d) :=
  ((((Chg.refl [g] w).setCell (p := ⟨g, i * 4, none⟩) (.inl (by simp)) a).setCell (p := ⟨g, i * 4 + 1, none⟩) (.inl (by simp)) b).setCell (p := ⟨g, i * 4 + 2, none⟩) (.inl (by simp)) c).setCell (p := ⟨g, i * 4 + 3, none⟩) (.inl (by simp)) d

set_option maxRecDepth 100000 in
set_option maxHeartbeats 2000000 in
theorem with35_any {w : World} {B i : Nat} {v : Value} {L : List Bk} {x : Bk} (h : SlB w B v L) (hl : L.length ≤ 1000) (hx : L[i]? = some x) (y : Bk) :
    Calls Tryz.prog 56 #[v, .int .i64 i, .agg #[.int .i64 y.node, .int .i64 y.w, .bool y.dr, .bool y.dn]] w fun e w' => ∃ v', e = .returned v' ∧ OwB 61 w' w.heap.size v' (L.set i y) ∧ Chg [] w w' := by
  obtain ⟨A, c, rfl⟩ := Sl.form h
  have hil := (List.getElem?_eq_some_iff.1 hx).1
  obtain ⟨yn, yw, yd, yu⟩ := y
  simp only
  have hA := ((Chg.refl [] w).alloc (.cells #[.int .i64 yn, .int .i64 yw, .bool yd, .bool yu] 61)).alloc (.cells #[] 61)
  have hb0 : Blk ((w.alloc (.cells #[.int .i64 yn, .int .i64 yw, .bool yd, .bool yu] 61)).alloc (.cells #[] 61)) w.heap.size 61 #[.int .i64 yn, .int .i64 yw, .bool yd, .bool yu] := (Blk.new _ _ _).alloc _
  have hown := own_lit (base := w.heap.size + 1) (w.alloc (.cells #[.int .i64 yn, .int .i64 yw, .bool yd, .bool yu] 61)) 61 4 0 #[] (by simp) (by simp [maxLen]) rfl
  have hs := h.chg0 hA
  have hz : w.heap.size + 1 ≤ ((w.alloc (.cells #[.int .i64 yn, .int .i64 yw, .bool yd, .bool yu] 61)).alloc (.cells #[] 61)).heap.size := by simp
  have HI := Lib.hid (And.intro hA (And.intro hb0 (And.intro hown hs)))
  have HB1 := Lib.hid (flatB_one L)
  have HX := Lib.hid hx
  have HO : Hid (∀ (w' : World) v', w'.ownsRow (w.heap.size + 1) 61 4 v' (0 + L.length) ((#[] : Array Value).toList ++ L.flatMap encB) → OwB 61 w' (w.heap.size + 1) v' L) := Lib.hid fun w' v' h => by
    unfold OwB
    simpa using h
  have hlt0 : ∀ x ∈ (Value.slice (some ⟨w.heap.size + 1, 0, none⟩) 0 0).ownBlock.toList, w.heap.size + 1 ≤ x := fun x hx => by simp [Value.ownBlock] at hx; omega
  have HLT := Lib.hid hlt0
  have hilI : (i : Int) < (L.length : Int) := by omega
  clear h hA hb0 hown hs hx hlt0
  go_enter Tryz.func56, Tryz.ntmps56
  go_upto_region 2 with (first
    | (at_builtin; refine wpList_app elB2 rfl (.tmp 8) (.tmp 9) rfl (w.heap.size + 1) rfl (by have := HI.out.2.2.1; rw [World.size_alloc] at this; exact this) rfl HI.out.2.2.2 HB1.out (by unfold maxLen; omega) (by omega) hz ?_; intro v1 w1 hown1 hc1 hb1)
    | fail)
  have ho1 := HO.out _ _ hown1
  obtain ⟨g, cap, rfl, hg, hgl⟩ := own_form ho1 (by omega)
  obtain ⟨g', cap', cur, hv', hg', hh, hcap, hmx, hcs, htk⟩ := ho1.2.resolve_left (by rintro ⟨_, h0⟩; omega)
  simp only [Value.slice.injEq, Option.some.injEq, Addr.mk.injEq, and_true, true_and] at hv'
  obtain ⟨rfl, rfl⟩ := hv'
  have hbk : Blk w1 g 61 cur := hh
  have hce : ∀ j, j < 4 → cur[i * 4 + j]? = (encB x)[j]? := fun j hj => by
    have h1 := flat_at encB_len L i j hj
    rw [HX.out, ← htk, List.getElem?_take] at h1
    split at h1
    · simpa using h1
    · next hh => exfalso; have := Nat.mul_le_mul_right 4 hil; omega
  have k0 : w1.cell? ⟨g, i * 4, none⟩ = some (.int .i64 x.node) := (hbk.cell (i * 4)).trans (hce 0 (by omega))
  have k1 : w1.cell? ⟨g, i * 4 + 1, none⟩ = some (.int .i64 x.w) := (hbk.cell _).trans (hce 1 (by omega))
  have k2 : w1.cell? ⟨g, i * 4 + 2, none⟩ = some (.bool x.dr) := (hbk.cell _).trans (hce 2 (by omega))
  have k3 : w1.cell? ⟨g, i * 4 + 3, none⟩ = some (.bool x.dn) := (hbk.cell _).trans (hce 3 (by omega))
  have f0 := hbk.frozen (i * 4)
  have f1 := hbk.frozen (i * 4 + 1)
  have f2 := hbk.frozen (i * 4 + 2)
  have f3 := hbk.frozen (i * 4 + 3)
  have hb5 := HI.out.2.1.chg hc1 (fun hm => by have := HLT.out _ hm; omega)
  have m0 := hb5.cell 0
  have m1 := hb5.cell 1
  have m2 := hb5.cell 2
  have m3 := hb5.cell 3
  simp only [List.getElem?_toArray, List.getElem?_cons_succ, List.getElem?_cons_zero] at m0 m1 m2 m3
  have HFIN := Lib.hid (own_less (B' := w.heap.size) (own_set4 ho1 HX.out ⟨yn, yw, yd, yu⟩) (by omega))
  have HCH : Hid (Chg [] w ((((w1.setCell ⟨g, i * 4, none⟩ (.int .i64 yn)).setCell ⟨g, i * 4 + 1, none⟩ (.int .i64 yw)).setCell ⟨g, i * 4 + 2, none⟩ (.bool yd)).setCell ⟨g, i * 4 + 3, none⟩ (.bool yu))) := Lib.hid (by
    have h1 := HI.out.1.trans' hc1 (fun x hx => .inr (by have := HLT.out _ hx; omega))
    exact h1.trans' (chg_set4 w1 g i _ _ _ _) (fun x hx => .inr (by simp at hx; subst hx; omega)))
  clear ho1 hown1 hc1 hb1 hbk hh htk hce hcs hb5 HI HO HX HLT HB1 hz hmx
  go_wp2_with fail
  go_ret
  exact ⟨_, rfl, HFIN.out, HCH.out⟩
end Go.Proofs.YtecblclpchndiaaGreat
namespace Go.Proofs.YtecblclpchndiaaGreat
open Go.RowKit

/-- The newest entry closed; the entries that stay. -/
def closeE (es : List Ve) (now : Int) : List Ve := match es[es.length - 1]? with | some e => es.set (es.length - 1) { e with unt := now } | none => es
theorem closeE_at {es : List Ve} {now : Int} {m k : Nat} {e : Ve} (hm : es.length = m + 1) (he : es[k]? = some e) : (closeE es now)[k]? = some { e with unt := if k = m then now else e.unt } := by
  have hk : k < es.length := (List.getElem?_eq_some_iff.1 he).1
  obtain ⟨z, hz⟩ : ∃ z, es[m]? = some z := ⟨_, List.getElem?_eq_getElem (by omega)⟩
  have h1 : closeE es now = es.set m { z with unt := now } := by
    unfold closeE
    rw [hm, Nat.add_sub_cancel, hz]
  rw [h1]
  by_cases hkm : k = m
  · subst hkm
    rw [he] at hz
    injection hz with hz
    subst hz
    rw [List.getElem?_set_self (by omega), if_pos rfl]
  · rw [List.getElem?_set_ne (fun e => hkm e.symm), if_neg hkm, he]
theorem closeE_len (es : List Ve) (now : Int) : (closeE es now).length = es.length := by
  unfold closeE
  split
  · rw [List.length_set]
  · rfl
def outE (es : List Ve) (now : Int) (k : Nat) : List Ve := ((closeE es now).take k).drop (if 4 ≤ es.length then 1 else 0)
theorem outE_step {es : List Ve} {now : Int} {k : Nat} {e : Ve} (he : (closeE es now)[k]? = some e) : (es.length < 4 ∨ 0 < k → outE es now (k + 1) = outE es now k ++ [e]) ∧ (¬ (es.length < 4 ∨ 0 < k) → outE es now (k + 1) = outE es now k) := by
  have hlt := (List.getElem?_eq_some_iff.1 he).1
  have ht : (closeE es now).take (k + 1) = (closeE es now).take k ++ [e] := by rw [List.take_add_one, he]; rfl
  unfold outE
  rw [ht]
  constructor
  · intro h
    rw [List.drop_append_of_le_length (by rw [List.length_take]; split <;> omega)]
  · intro h
    obtain rfl : k = 0 := by omega
    rw [if_pos (by omega)]
    rfl
theorem closeV_drop {V : List Vs} {now : Int} (h : V.length = 4) : (closeV V now).drop 1 = closeV (V.drop 1) now := by
  obtain ⟨a, b, c, d, rfl⟩ : ∃ a b c d, V = [a, b, c, d] := by
    match V, h with
    | [a, b, c, d], _ => exact ⟨a, b, c, d, rfl⟩
  rfl
theorem VesR.close {w : World} {S : List Nat} {es : List Ve} {V : List Vs} (h : VesR w S es V) (now : Int) : VesR w S (closeE es now) (closeV V now) := by
  have hl := h.1
  refine ⟨by rw [closeE_len, closeV_len]; exact hl, fun i e x a b => ?_⟩
  rcases Nat.eq_zero_or_pos es.length with h0 | h0
  · have : i < (closeE es now).length := (List.getElem?_eq_some_iff.1 a).1
    rw [closeE_len] at this
    omega
  · obtain ⟨m, hm⟩ : ∃ m, es.length = m + 1 := ⟨es.length - 1, by omega⟩
    have hi : i < es.length := by have := (List.getElem?_eq_some_iff.1 a).1; rwa [closeE_len] at this
    obtain ⟨e0, he0⟩ : ∃ z, es[i]? = some z := ⟨_, List.getElem?_eq_getElem (by omega)⟩
    obtain ⟨x0, hx0⟩ : ∃ z, V[i]? = some z := ⟨_, List.getElem?_eq_getElem (by omega)⟩
    obtain ⟨xm, hxm⟩ : ∃ z, V[m]? = some z := ⟨_, List.getElem?_eq_getElem (by omega)⟩
    have hv := h.2 i e0 x0 he0 hx0
    rw [closeE_at hm he0] at a
    rw [closeV_at (by omega) hxm] at b
    injection a with a
    subst a
    by_cases him : i = m
    · subst him
      rw [List.getElem?_set_self (by omega)] at b
      injection b with b
      rw [hx0] at hxm
      injection hxm with hxm
      subst hxm b
      rw [if_pos rfl]
      exact ⟨hv.num, hv.frm, rfl, hv.tab⟩
    · rw [List.getElem?_set_ne (fun e => him e.symm), hx0] at b
      injection b with b
      subst b
      rw [if_neg him]
      exact ⟨hv.num, hv.frm, hv.unt, hv.tab⟩
theorem outE_all {w : World} {S : List Nat} {es : List Ve} {V : List Vs} (h : VesR w S es V) (hl : V.length ≤ 4) (now : Int) : VesR w S (outE es now es.length) (closeV (if 4 ≤ V.length then V.drop 1 else V) now) := by
  have h1 := h.close now
  unfold outE
  rw [List.take_of_length_le (by rw [closeE_len]; omega), h.1]
  by_cases h4 : 4 ≤ V.length
  · rw [if_pos h4, if_pos h4, ← closeV_drop (by omega)]
    exact h1.drop1
  · rw [if_neg h4, if_neg h4, List.drop_zero]
    exact h1
/-- Push, of the document. -/
def PuR (w w' : World) (S : List Nat) (v : Value) (V : List Vs) (last now : Int) (tab : List Int) (e : Ending) : Prop :=
  (mayV V now ≠ 0 ∧ e = .returned (.tuple #[v, .int .i64 last, .int .i64 (mayV V now)]) ∧ Chg [] w w') ∨
    (mayV V now = 0 ∧ ∃ v' es', e = .returned (.tuple #[v', .int .i64 (last + 1), .int .i64 0]) ∧ w'.ownsRow w.heap.size 85 4 v' es'.length (es'.flatMap encV) ∧ VesR w' S es' (pushV V last now tab) ∧ Chg [] w w')
theorem ves_snoc {w : World} {S : List Nat} {es : List Ve} {V : List Vs} (h : VesR w S es V) {e : Ve} {x : Vs} (hx : VeR w S e x) : VesR w S (es ++ [e]) (V ++ [x]) := by
  have hl := h.1
  refine ⟨by simp [hl], fun i e' x' a b => ?_⟩
  by_cases hi : i < es.length
  · rw [List.getElem?_append_left hi] at a
    rw [List.getElem?_append_left (by omega)] at b
    exact h.2 i e' x' a b
  · rw [List.getElem?_append_right (by omega)] at a
    rw [List.getElem?_append_right (by omega)] at b
    rw [hl] at a
    cases hd : i - V.length with
    | zero =>
      rw [hd] at a b
      simp at a b
      subst a b
      exact hx
    | succ k => rw [hd] at a; simp at a

set_option maxRecDepth 100000 in
set_option maxHeartbeats 4000000 in
theorem push20_any {w : World} {B B' : Nat} {v tv : Value} {es : List Ve} {V : List Vs} {S : List Nat} (h : Sl w B 4 v es.length (es.flatMap encV)) (hv : VesR w S es V) (hok : OkV V) (hSw : ∀ x ∈ S, x < w.heap.size) (last now : Int) (hn : 0 ≤ now ∧ now ≤ 1000000) (hlast : 0 ≤ last ∧ last < 1000000)
    {tab : List Int} (ht : SlZ w B' tv tab) (htl : tab.length ≤ 300) :
    Calls Tryz.prog 72 #[v, .int .i64 last, .int .i64 now, tv] w fun e w' => PuR w w' S v V last now tab e := by
  have FM := Lib.hid (may20_any h hv hok now hn)
  have hl := hv.1
  have hlen := hok.len
  by_cases hm : mayV V now = 0
  · rw [hm] at FM
    obtain ⟨A, c, rfl⟩ := Sl.form h
    obtain ⟨At, ct, rfl⟩ := Sl.form ht
    have HM := Lib.hid hm
    have HS := Lib.hid (fun W (hW : Chg [] w W) i e (he : es[i]? = some e) => Sl.rec encV_len (by omega) (h.chg0 hW) he)
    have HV : Hid (∀ i, i < es.length → ∃ e T n c, es[i]? = some e ∧ e.tv = .slice T n c) := Lib.hid fun i hi => by
      obtain ⟨x, hx⟩ : ∃ x, V[i]? = some x := ⟨_, List.getElem?_eq_getElem (by omega)⟩
      obtain ⟨T, c, e⟩ := Sl.form (hv.2 i _ x (List.getElem?_eq_getElem hi) hx).tab.1
      exact ⟨_, T, _, c, List.getElem?_eq_getElem hi, e⟩
    have HVR := Lib.hid hv
    have HSW := Lib.hid hSw
    have HT := Lib.hid ht
    have HST : Hid (∀ (k : Nat) e, es[k]? = some e → (es.length < 4 ∨ 0 < k → outE es now (k + 1) = outE es now k ++ [{ e with unt := if k = es.length - 1 then now else e.unt }]) ∧ (¬ (es.length < 4 ∨ 0 < k) → outE es now (k + 1) = outE es now k)) := Lib.hid fun k e he => by
      have hk := (List.getElem?_eq_some_iff.1 he).1
      exact outE_step (closeE_at (m := es.length - 1) (by omega) he)
    have HZ : Hid (outE es now 0 = []) := Lib.hid (by unfold outE; simp)
    have hel : es.length ≤ 4 := by omega
    clear h hv hok hSw ht hl hm hlen
    generalize hn2 : es.length = n at *
    go_enter Tryz.func72, Tryz.ntmps72
    go_wp2_with fail
    refine FM.out.mono ?_
    rintro e w1 ⟨rfl, rfl⟩
    go_wp2_with fail
    go_loopw [12, 13] (fun ov iv wr => ∃ (k : Nat), k ≤ n ∧ iv = .int .i64 k ∧ Hid (wr.ownsRow w.heap.size 85 4 ov (outE es now k).length ((outE es now k).flatMap encV)) ∧ Hid (Chg [] w wr)) (fun _ iv _ => n - (intOf iv).toNat)
    case atStart => exact ⟨0, by omega, rfl, Lib.hid (by rw [HZ.out]; exact World.ownsRow_nil ..), Lib.hid (Chg.refl _ _)⟩
    case round =>
      obtain ⟨k, hk, rfl, HO, HC⟩ := hrel
      by_cases hlt : k < n
      · have hcn : (k : Int) < (n : Int) := by omega
        obtain ⟨e, T, tn, tc, he, het⟩ := HV.out k hlt
        obtain ⟨b, o, c', hv', _, hcap, hq⟩ := HS.out wr HC.out k e he
        simp only [hn2, Value.slice.injEq, true_and] at hv'
        obtain ⟨rfl, rfl⟩ := hv'
        have HSTk := Lib.hid (HST.out k e he)
        obtain ⟨num, frm, unt, tv⟩ := e
        simp only at het
        subst het
        have d0 := hq 0 (by omega)
        have d1 := hq 1 (by omega)
        have d2 := hq 2 (by omega)
        have d3 := hq 3 (by omega)
        rw [← Nat.add_assoc] at d0 d1 d2 d3
        have g0 : wr.cell? ⟨b, o + k * 4, none⟩ = some (.int .i64 num) := d0
        have g1 : wr.cell? ⟨b, o + k * 4 + 1, none⟩ = some (.int .i64 frm) := d1
        have g2 : wr.cell? ⟨b, o + k * 4 + 2, none⟩ = some (.int .i64 unt) := d2
        have g3 : wr.cell? ⟨b, o + k * 4 + 3, none⟩ = some (.slice T tn tc) := d3
        clear d0 d1 d2 d3 hq he HV HS HST FM HZ
        have hw1 : IntKind.i64.wrap ((n : Int) - 1) = (n : Int) - 1 := by rw [IntKind.wrap_i64]; omega
        go_upto_if 37 with fail
        go_cut [] (fun wx => Hid (Blk wx wr.heap.size 85 #[.int .i64 num, .int .i64 frm, .int .i64 (if k = n - 1 then now else unt), .slice T tn tc]) ∧ Hid (Chg [] wr wx))
        case first =>
          have hbl := Blk.new wr 85 #[.int .i64 num, .int .i64 frm, .int .i64 unt, .slice T tn tc]
          have HB := Lib.hid hbl
          have HCA := Lib.hid ((Chg.refl [] wr).alloc (.cells #[.int .i64 num, .int .i64 frm, .int .i64 unt, .slice T tn tc] 85))
          clear HSTk HO HC hbl
          by_cases hkn : k = n - 1
          · have hb : ((k : Int) == (n : Int) - 1) = true := by simp; omega
            have HK := Lib.hid hkn
            clear hkn
            go_wp2_with fail
            go_meet
            rw [if_pos HK.out]
            exact ⟨Lib.hid (Blk.new _ _ _), Lib.hid ((Chg.refl [] wr).alloc _)⟩
          · have hb : ((k : Int) == (n : Int) - 1) = false := by simp; omega
            have HK := Lib.hid hkn
            clear hkn
            go_wp2_with fail
            go_meet
            rw [if_neg HK.out]
            exact ⟨HB, HCA⟩
        case rest =>
          obtain ⟨HB, HCA⟩ := hcut
          generalize (if k = n - 1 then now else unt) = unt2 at *
          have HCC := Lib.hid (HC.out.trans HCA.out)
          have HOC := Lib.hid (own_chg HO.out HCA.out (by simp))
          clear HO HC HCA g0 g1 g2 g3
          by_cases h4 : n < 4 ∨ 0 < k
          · have HE := Lib.hid (HSTk.out.1 h4)
            have hA := (Chg.refl [] wc).alloc (.cells #[.int .i64 num, .int .i64 frm, .int .i64 unt2, .slice T tn tc] 85)
            have hl1 := Sl.of_own (own_lit (base := 0) wc 85 4 1 #[.int .i64 num, .int .i64 frm, .int .i64 unt2, .slice T tn tc] (Nat.zero_le _) (by simp [maxLen]) rfl)
            have hown1 := own_chg HOC.out hA (by simp)
            have hlt1 := own_lt HOC.out
            have hw5 : w.heap.size ≤ (wc.alloc (.cells #[.int .i64 num, .int .i64 frm, .int .i64 unt2, .slice T tn tc] 85)).heap.size := by have := HCC.out.size; rw [World.size_alloc]; omega
            have ho1 : ∀ u ∈ [Value.int .i64 num, .int .i64 frm, .int .i64 unt2, .slice T tn tc], u.oneCell' = true := by
              intro u hu
              simp at hu
              rcases hu with rfl | rfl | rfl | rfl <;> rfl
            have k0 := HB.out.cell 0
            have k1 := HB.out.cell 1
            have k2 := HB.out.cell 2
            have k3 := HB.out.cell 3
            simp only [List.getElem?_toArray, List.getElem?_cons_succ, List.getElem?_cons_zero] at k0 k1 k2 k3
            have hle : (outE es now k).length ≤ 4 := by unfold outE; rw [List.length_drop, List.length_take, closeE_len]; omega
            have HR1 := Lib.hid hown1
            have HS1 := Lib.hid hl1
            have HO1 := Lib.hid ho1
            have HCA := Lib.hid hA
            have HLT := Lib.hid hlt1
            clear HSTk hA hl1 hown1 ho1 hlt1
            have HFIN : Hid (∀ v1 w1, w1.ownsRow w.heap.size 85 4 v1 ((outE es now k).length + 1) ((outE es now k).flatMap encV ++ [.int .i64 num, .int .i64 frm, .int .i64 unt2, .slice T tn tc]) → Chg u12.ownBlock.toList (wc.alloc (.cells #[.int .i64 num, .int .i64 frm, .int .i64 unt2, .slice T tn tc] 85)) w1 →
                w1.ownsRow w.heap.size 85 4 v1 (outE es now (k + 1)).length ((outE es now (k + 1)).flatMap encV) ∧ Chg [] w w1) := Lib.hid fun v1 w1 h1 h2 => by
              rw [HE.out]
              refine ⟨?_, (HCC.out.trans HCA.out).trans' h2 (fun x hx => .inr (HLT.out x hx).1)⟩
              rw [List.length_append, List.flatMap_append]
              exact h1
            generalize outE es now k = L at *
            by_cases hn4 : (n : Int) < 4
            · clear h4
              go_wp2_with (first
                | (at_builtin; refine wpList_app elV2 rfl (.tmp 47) (.tmp 49) rfl w.heap.size rfl HR1.out rfl HS1.out HO1.out (by unfold maxLen; omega) (by omega) hw5 ?_; intro v1 w1 hown1 hc1 hb1)
                | fail)
              go_roundw
              case rel => exact ⟨k + 1, by omega, by go_num, Lib.hid (HFIN.out _ _ hown1 hc1).1, Lib.hid (HFIN.out _ _ hown1 hc1).2⟩
              case measure => simp [intOf] <;> omega
            · have h0k : (0 : Int) < (k : Int) := by omega
              clear h4
              go_wp2_with (first
                | (at_builtin; refine wpList_app elV2 rfl (.tmp 47) (.tmp 49) rfl w.heap.size rfl HR1.out rfl HS1.out HO1.out (by unfold maxLen; omega) (by omega) hw5 ?_; intro v1 w1 hown1 hc1 hb1)
                | fail)
              go_roundw
              case rel => exact ⟨k + 1, by omega, by go_num, Lib.hid (HFIN.out _ _ hown1 hc1).1, Lib.hid (HFIN.out _ _ hown1 hc1).2⟩
              case measure => simp [intOf] <;> omega
          · have HE := Lib.hid (HSTk.out.2 h4)
            obtain rfl : k = 0 := by omega
            have hn4 : ¬ (n : Int) < 4 := by omega
            clear HSTk h4
            go_wp2_with fail
            go_roundw
            case rel => exact ⟨1, by omega, by go_num, Lib.hid (by rw [HE.out]; exact HOC.out), HCC⟩
            case measure => simp [intOf] <;> omega
      · obtain rfl : k = n := by omega
        have hcn : ¬ (k : Int) < (k : Int) := by omega
        clear HS HV HST HZ FM
        have hA1 := (Chg.refl [] wr).alloc (.cells #[] 3)
        have hown1 := own_lit (base := wr.heap.size) wr 3 1 0 #[] (Nat.le_refl _) (by simp [maxLen]) rfl
        have hs1 := (HT.out.chg0 HC.out).chg0 hA1
        have hz1 : wr.heap.size ≤ (wr.alloc (.cells #[] 3)).heap.size := by simp
        have hwl : IntKind.i64.wrap (last + 1) = last + 1 := by rw [IntKind.wrap_i64]; omega
        have HLO := Lib.hid (own_lt HO.out)
        have hle : (outE es now k).length ≤ 4 := by unfold outE; rw [List.length_drop, List.length_take, closeE_len]; omega
        obtain ⟨Ao, co, eo⟩ := Sl.form (Sl.of_own HO.out)
        subst eo
        have HOA := Lib.hid (And.intro hA1 (And.intro hown1 hs1))
        have HE : Hid (VesR w S (outE es now k) (closeV (if 4 ≤ V.length then V.drop 1 else V) now)) := Lib.hid (by have := outE_all HVR.out (by have := HVR.out.1; omega) now; rw [hn2] at this; exact this)
        have HZB := Lib.hid (oneZ tab)
        clear hA1 hown1 hs1 HVR hn2
        generalize outE es now k = L at *
        go_wp2_with (first
          | (at_builtin; refine wpList_app elZ rfl (.tmp 55) (.tmp 56) rfl wr.heap.size rfl HOA.out.2.1 rfl HOA.out.2.2 HZB.out (by unfold maxLen; omega) (by omega) hz1 ?_; intro v1 w1 hown1 hc1 hb1
             have hT1 : w1.ownsRow wr.heap.size 3 1 v1 tab.length (tab.map (Value.int .i64)) := by simpa using hown1
             have HT1 := Lib.hid hT1
             have hc01 : Chg [] wr w1 := HOA.out.1.trans' hc1 (fun x hx => .inr (by have := (own_lt HOA.out.2.1 x hx).1; omega))
             obtain ⟨T1, c1, e1⟩ := Sl.form (Sl.of_own hT1)
             subst e1
             have hA2 := (Chg.refl [] w1).alloc (.cells #[.int .i64 (last + 1), .int .i64 now, .int .i64 (-1), .slice T1 tab.length c1] 85)
             have hl2 := Sl.of_own (own_lit (base := 0) w1 85 4 1 #[.int .i64 (last + 1), .int .i64 now, .int .i64 (-1), .slice T1 tab.length c1] (Nat.zero_le _) (by simp [maxLen]) rfl)
             have hr2 := own_chg (own_chg HO.out hc01 (by simp)) hA2 (by simp)
             have ho2 := one_vk (a := last + 1) (b := now) (c := -1) (Sl.of_own hT1)
             have hz2 : w.heap.size ≤ (w1.alloc (.cells #[.int .i64 (last + 1), .int .i64 now, .int .i64 (-1), .slice T1 tab.length c1] 85)).heap.size := by have h1 := HC.out.size; have h2 := hc01.size; rw [World.size_alloc]; omega
             have HC12 := Lib.hid (And.intro hc01 hA2)
             clear hT1 hown1 hc1 hb1 hc01 hA2)
          | (at_builtin; refine wpList_app elV2 rfl (.tmp 51) (.tmp 59) rfl w.heap.size rfl hr2 rfl hl2 ho2 (by unfold maxLen; omega) (by omega) hz2 ?_; intro v3 w3 hown3 hc3 hb3)
          | fail)
        go_ret3
        refine .inr ⟨HM.out, v3, L ++ [⟨last + 1, now, -1, .slice T1 tab.length c1⟩], rfl, ?_, ?_, ?_⟩
        · rw [List.length_append, List.flatMap_append]
          exact hown3
        · have hcw3 : Chg [] w w3 := ((HC.out.trans HC12.out.1).trans HC12.out.2).trans' hc3 (fun x hx => .inr (HLO.out x hx).1)
          have hlt1 := own_lt HT1.out
          refine ves_snoc (HE.out.step (hcw3.more (by simp)) (fun x hx => .inl hx)) ⟨rfl, rfl, rfl, ?_, fun g hg => ⟨?_, fun hm => ?_⟩⟩
          · have h1 : SlZ w1 0 (.slice T1 tab.length c1) tab := Sl.less (Sl.of_own HT1.out) (Nat.zero_le _)
            exact Sl.chgB (h1.chg0 HC12.out.2) hc3 (fun g hg hm => by have h2 := (hlt1 g hg).1; have h3 := (HLO.out g hm).2; omega)
          · have h2 := (hlt1 g hg).2; have h3 := HC12.out.2.size; have h4 := hc3.size; omega
          · have h2 := (hlt1 g hg).1; have h3 := HSW.out g hm; have h4 := HC.out.size; omega
        · exact ((HC.out.trans HC12.out.1).trans HC12.out.2).trans' hc3 (fun x hx => .inr (HLO.out x hx).1)
  · generalize hmv : mayV V now = m at *
    have HM := Lib.hid hmv
    clear h hv hok hSw ht hl hmv
    go_enter Tryz.func72, Tryz.ntmps72
    go_wp2_with fail
    refine FM.out.mono ?_
    rintro e w1 ⟨rfl, rfl⟩
    go_wp2_with fail
    go_ret3
    exact .inl ⟨by rw [HM.out]; exact hm, by rw [HM.out]; rfl, Chg.refl _ _⟩
end Go.Proofs.YtecblclpchndiaaGreat
namespace Go.Proofs.YtecblclpchndiaaGreat
open Go.RowKit

set_option maxRecDepth 100000 in
set_option maxHeartbeats 2000000 in
theorem pairs20_any {w : World} {B : Nat} {v : Value} {es : List Ve} {V : List Vs} {S : List Nat} (h : Sl w B 4 v es.length (es.flatMap encV)) (hv : VesR w S es V) (hok : OkV V) (u : Nat) (hu : u < 18446744073709551616) :
    Calls Tryz.prog 15 #[v, .int .u64 u] w fun e w' => ∃ v', e = .returned v' ∧ Sl w' w.heap.size 2 v' V.length ((prV V u).flatMap encP) ∧ Chg [] w w' := by
  obtain ⟨A, c, rfl⟩ := Sl.form h
  have hlen := hok.len
  have hl := hv.1
  have HS := Lib.hid (fun W (hW : Chg [] w W) i e (he : es[i]? = some e) => Sl.rec encV_len (by omega) (h.chg0 hW) he)
  have HX : Hid (∀ i, i < V.length → ∃ e T n c y, es[i]? = some e ∧ e.tv = .slice T n c ∧ V[i]? = some y ∧ (∀ W, Chg [] w W → SlZ W 0 e.tv y.tab) ∧ y.tab.length ≤ 300) := Lib.hid fun i hi => by
    obtain ⟨y, hy⟩ : ∃ y, V[i]? = some y := ⟨_, List.getElem?_eq_getElem hi⟩
    have he : es[i]? = some (es[i]'(by omega)) := List.getElem?_eq_getElem _
    have hvr := hv.2 i _ y he hy
    obtain ⟨T, c, e⟩ := Sl.form hvr.tab.1
    exact ⟨_, T, _, c, y, he, e, hy, fun W hW => hvr.tab.1.chg0 hW, hok.tab y (List.mem_of_getElem? hy)⟩
  have HLA : Hid ((prV V u).take V.length = prV V u) := Lib.hid (by rw [← prV_len V u, List.take_length])
  have HLL : Hid (∀ k, k ≤ V.length → ((prV V u).take k).length = k) := Lib.hid fun k hk => by rw [List.length_take, prV_len]; omega
  clear h hv hok
  rw [hl] at HS ⊢
  generalize hn : V.length = n at *
  go_enter Tryz.func15, Tryz.ntmps15
  go_wp2_with fail
  go_loopw [5, 6] (fun ov iv wr => ∃ (k : Nat), k ≤ n ∧ iv = .int .i64 k ∧ Hid (wr.ownsRow w.heap.size 62 2 ov k (((prV V u).take k).flatMap encP)) ∧ Hid (Chg [] w wr)) (fun _ iv _ => n - (intOf iv).toNat)
  case atStart => exact ⟨0, by omega, rfl, Lib.hid (World.ownsRow_nil ..), Lib.hid (Chg.refl _ _)⟩
  case round =>
    obtain ⟨k, hk, rfl, HO, HC⟩ := hrel
    by_cases hlt : k < n
    · have hcn : (k : Int) < (n : Int) := by omega
      obtain ⟨e, T, tn, tc, y, he, het, hy, ht, htl⟩ := HX.out k hlt
      obtain ⟨b, o, c', hv', _, hcap, hq⟩ := HS.out wr HC.out k e he
      simp only [Value.slice.injEq, true_and] at hv'
      obtain ⟨rfl, rfl⟩ := hv'
      have d3 := hq 3 (by omega)
      rw [← Nat.add_assoc] at d3
      have g3 : wr.cell? ⟨b, o + k * 4 + 3, none⟩ = some (.slice T tn tc) := by rw [d3, ← het]; rfl
      have F2 := Lib.hid (two18_any u (ht wr HC.out) htl hu)
      rw [het] at F2
      have HTK := Lib.hid (prV_take (u := u) hy)
      clear d3 hq he het hy ht HX HS HLA HLL
      generalize twoA y.tab u = ta at *
      generalize twoB y.tab u = tb at *
      go_wp2_with fail
      refine F2.out.mono ?_
      rintro e2 w2 ⟨rfl, rfl⟩
      have hc2 := Chg.refl [] wr
      have hA := (Chg.refl [] wr).alloc (.cells #[.int .i64 ta, .int .i64 tb] 62)
      have hl1 := Sl.of_own (own_lit (base := 0) wr 62 2 1 #[.int .i64 ta, .int .i64 tb] (Nat.zero_le _) (by simp [maxLen]) rfl)
      have hr1 := own_chg (own_chg HO.out hc2 (by simp)) hA (by simp)
      have hz1 : w.heap.size ≤ (wr.alloc (.cells #[.int .i64 ta, .int .i64 tb] 62)).heap.size := by have h1 := HC.out.size; have h2 := hc2.size; rw [World.size_alloc]; omega
      have HLT := Lib.hid (own_lt HO.out)
      have HCA := Lib.hid ((HC.out.trans hc2).trans hA)
      have hcap3 : k + 1 ≤ 4 := by omega
      clear hc2 hA F2 g3
      go_wp2_with (first
        | (at_builtin; refine wpList_app elP2 rfl (.tmp 25) (.tmp 29) rfl w.heap.size rfl hr1 rfl hl1 (encP_one (ta, tb)) (by unfold maxLen; omega) (by omega) hz1 ?_; intro v3 w3 hown3 hc3 hb3)
        | fail)
      go_roundw
      case rel => exact ⟨k + 1, by omega, by go_num, Lib.hid (by rw [HTK.out, List.flatMap_append]; exact hown3), Lib.hid (HCA.out.trans' hc3 (fun x hx => .inr (HLT.out x hx).1))⟩
      case measure => simp [intOf] <;> omega
    · obtain rfl : k = n := by omega
      have hcn : ¬ (k : Int) < (k : Int) := by omega
      have HR := Lib.hid (And.intro (Sl.of_own HO.out) HC.out)
      rw [HLA.out] at HR
      clear HX HS HLA HLL HO HC
      go_wp2_with fail
      go_ret
      exact ⟨_, rfl, HR.out⟩
end Go.Proofs.YtecblclpchndiaaGreat
