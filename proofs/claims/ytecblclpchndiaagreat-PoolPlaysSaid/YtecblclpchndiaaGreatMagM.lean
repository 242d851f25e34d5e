/-
  WALKS: members of a table: whether they can be, in packages maglev and harrierref17. Condition: at most 1000 members.
-/
import Derived.Test.YtecblclpchndiaaGreatCut
import Derived.Test.YtecblclpchndiaaGreatMapV
import Derived.Test.YtecblclpchndiaaGreatReg
import Derived.Deep.DeepCutAuto
import Derived.Deep.CutBlock
set_option linter.unusedVariables false
set_option linter.unusedSimpArgs false
namespace Go.Proofs.YtecblclpchndiaaGreat
open Go.RowKit Go.Maps

/-- A member. -/
structure Mb where
  node : Int
  w : Int
deriving DecidableEq
def arrM (x : Mb) : Array Value := #[.int .i64 x.node, .int .i64 x.w]
def encM (x : Mb) : List Value := [.int .i64 x.node, .int .i64 x.w]
theorem encM_len (x : Mb) : (encM x).length = 2 := rfl
theorem encM_one (x : Mb) : ∀ u ∈ encM x, u.oneCell' = true := by
  intro u hu
  simp [encM] at hu
  rcases hu with rfl | rfl <;> rfl
def SlM (w : World) (B : Nat) (v : Value) (l : List Mb) : Prop := Sl w B 2 v l.length (l.flatMap encM)
theorem SlM.chg0 {w w' : World} {B : Nat} {v : Value} {l : List Mb} (h : SlM w B v l) (hc : Chg [] w w') : SlM w' B v l := Sl.chg0 h hc
theorem SlM.at_ {w : World} {B : Nat} {v : Value} {l : List Mb} (h : SlM w B v l) {i : Nat} {x : Mb} (hi : l[i]? = some x) :
    ∃ b o c, v = .slice (some ⟨b, o, none⟩) l.length c ∧ l.length ≤ c ∧ w.cell? ⟨b, o + i * 2, none⟩ = some (.int .i64 x.node) ∧ w.cell? ⟨b, o + i * 2 + 1, none⟩ = some (.int .i64 x.w) := by
  obtain ⟨b, o, c, hv, hb, hc, hx⟩ := Sl.rec encM_len (by omega) h hi
  exact ⟨b, o, c, hv, hc, hx 0 (by omega), by have := hx 1 (by omega); rw [← Nat.add_assoc] at this; exact this⟩
def badM (x : Mb) : Prop := x.node < 1 ∨ 65535 < x.node ∨ x.w < 0 ∨ 4 < x.w
instance (x : Mb) : Decidable (badM x) := by unfold badM; infer_instance
def nodesM (l : List Mb) : List Int := l.map (·.node)
def scanM : List Int → List Mb → Int
  | _, [] => 0
  | met, x :: r => if badM x then 2 else if x.node ∈ met then 9 else scanM (met ++ [x.node]) r
/-- Why members can't be. -/
def rightM (l : List Mb) : Int := if scanM [] l = 0 then (if 16 < l.length then 8 else 0) else scanM [] l
def scanAt (l : List Mb) (i : Nat) : Int := scanM (nodesM (l.take i)) (l.drop i)
theorem scanAt_zero (l : List Mb) : scanAt l 0 = scanM [] l := rfl
theorem scanAt_all (l : List Mb) : scanAt l l.length = 0 := by unfold scanAt; rw [List.drop_length]; rfl
theorem scanAt_step {l : List Mb} {i : Nat} {x : Mb} (h : l[i]? = some x) : scanAt l i = if badM x then 2 else if x.node ∈ nodesM (l.take i) then 9 else scanAt l (i + 1) := by
  obtain ⟨hlt, hv⟩ := List.getElem?_eq_some_iff.1 h
  unfold scanAt
  have e : nodesM (l.take (i + 1)) = nodesM (l.take i) ++ [x.node] := by rw [List.take_add_one, h]; simp [nodesM]
  rw [List.drop_eq_getElem_cons hlt, hv, e]
  rfl
theorem rightM_cut {l : List Mb} {e : Int} (h : scanM [] l = e) (h0 : e ≠ 0) : rightM l = e := by unfold rightM; rw [h, if_neg h0]
theorem scanM_all : ∀ {l : List Mb} {met : List Int}, scanM met l = 0 → (∀ x ∈ l, ¬ badM x) ∧ (nodesM l).Nodup ∧ ∀ x ∈ l, x.node ∉ met
  | [], _, _ => ⟨by simp, by simp [nodesM], by simp⟩
  | x :: l, met, h => by
    unfold scanM at h
    split at h
    · cases h
    · split at h
      · cases h
      · next hb hm =>
        obtain ⟨h1, h2, h3⟩ := scanM_all h
        refine ⟨?_, ?_, ?_⟩
        · intro y hy
          rcases List.mem_cons.1 hy with rfl | hy
          · exact hb
          · exact h1 y hy
        · unfold nodesM at *
          rw [List.map_cons, List.nodup_cons]
          refine ⟨fun hx => ?_, h2⟩
          obtain ⟨y, hy, e⟩ := List.mem_map.1 hx
          exact h3 y hy (by rw [e]; simp)
        · intro y hy
          rcases List.mem_cons.1 hy with rfl | hy
          · exact hm
          · exact fun hh => h3 y hy (by simp [hh])
/-- Members that can be. -/
structure OkM (l : List Mb) : Prop where
  ok : ∀ x ∈ l, 1 ≤ x.node ∧ x.node ≤ 65535 ∧ 0 ≤ x.w ∧ x.w ≤ 4
  nd : (nodesM l).Nodup
  len : l.length ≤ 16
theorem OkM.of {l : List Mb} (h : rightM l = 0) : OkM l := by
  unfold rightM at h
  split at h
  · next h0 =>
    obtain ⟨h1, h2, _⟩ := scanM_all h0
    split at h
    · cases h
    · exact ⟨fun x hx => by have := h1 x hx; unfold badM at this; omega, h2, by omega⟩
  · next h0 => exact absurd h h0

/-- Integers as keys. -/
def KZm : KV Tryz.prog 3 Int where
  lit n := .int .i64 n
  ok n := (Lit.int .i64 n).wf = true
  key n _ := by simp [WideAt.IsKeyLit]
  inj a b _ _ h := by injection h
  val n := .int .i64 n
  law := lawZ
  isk n h := by simp [keyOf, Tryz.underlying3, mapKey, h]
  inv v l h := by
    obtain ⟨x, rfl, rfl, hw⟩ := Maps.keyOf_int_inv Tryz.underlying3 h
    exact ⟨x, hw, rfl, rfl⟩
def metM (ns : List Int) : Int → Option Value := fun n => if n ∈ ns then some (.int .i64 1) else none
theorem metM_snoc (ns : List Int) (n : Int) : (fun y => if y = n then some (Value.int .i64 1) else metM ns y) = metM (ns ++ [n]) := by
  funext y
  unfold metM
  by_cases h : y = n
  · simp [h]
  · simp [h]
theorem wf_m {n : Int} (h0 : 0 ≤ n) (h1 : n ≤ 1000000) : (Lit.int .i64 n).wf = true := by
  simp [Lit.wf, IntKind.min, IntKind.max, IntKind.signed, IntKind.bits]; omega
theorem zeroZm (w : World) : (zeroValue 3).run Tryz.prog w = .ok (.int .i64 0) w := by kernel_rfl

set_option maxRecDepth 100000 in
set_option maxHeartbeats 2000000 in
theorem right_any {w : World} {B : Nat} {v : Value} {l : List Mb} (h : SlM w B v l) (hl : l.length ≤ 1000) :
    Calls Tryz.prog 75 #[v] w fun e w' => e = .returned (.int .i64 (rightM l)) ∧ Chg [] w w' := by
  have hmm := @run_makeMap Tryz.prog
  obtain ⟨A, c, rfl⟩ := Sl.form h
  have HS := Lib.hid (fun W (hW : Chg [] w W) i x hx => (h.chg0 hW).at_ (i := i) (x := x) hx)
  have HX : Hid (∀ i, i < l.length → ∃ x, l[i]? = some x) := Lib.hid fun i hi => ⟨_, List.getElem?_eq_getElem hi⟩
  have HT := Lib.hid (fun i x hx => scanAt_step (l := l) (i := i) (x := x) hx)
  have HA := Lib.hid (scanAt_all l)
  have HZ := Lib.hid (scanAt_zero l)
  have HR : Hid (rightM l = if scanAt l 0 = 0 then (if 16 < l.length then 8 else 0) else scanAt l 0) := Lib.hid rfl
  have hom := OM.new (K := KZm) w
  have HM0 : Hid (OM KZm (w.alloc (.map #[] 0)) w.heap.size 0 (metM (nodesM (l.take 0))) 0) := Lib.hid (by
    have e : metM (nodesM (l.take 0)) = fun _ => none := by funext y; simp [metM, nodesM]
    rw [e]; exact hom)
  have HC0 := Lib.hid ((Chg.refl [] w).alloc (.map #[] 0))
  clear h hom
  generalize hn : l.length = n at *
  go_enter Tryz.func75, Tryz.ntmps75
  go_wp2_with fail
  generalize (w.alloc (.map #[] 0)) = w1 at *
  go_loopw [9] (fun iv wr => ∃ (k s : Nat), k ≤ n ∧ iv = .int .i64 k ∧ Hid (OM KZm wr w.heap.size k (metM (nodesM (l.take k))) s) ∧ Hid (Chg [] w wr) ∧ Hid (scanAt l 0 = scanAt l k)) (fun iv _ => n - (intOf iv).toNat)
  case atStart => exact ⟨0, 0, by omega, rfl, HM0, HC0, Lib.hid rfl⟩
  case round =>
    obtain ⟨k, s, hk, rfl, HM, HC, HE⟩ := hrel
    by_cases hlt : k < n
    · have hcn : (k : Int) < (n : Int) := by omega
      obtain ⟨x, hx⟩ := HX.out k hlt
      obtain ⟨b, o, c', hv, hcap, c0, c1⟩ := HS.out wr HC.out k x hx
      simp only [Value.slice.injEq, true_and] at hv
      obtain ⟨rfl, rfl⟩ := hv
      have hst := HT.out k x hx
      have HTK : Hid (nodesM (l.take (k + 1)) = nodesM (l.take k) ++ [x.node]) := Lib.hid (by
        rw [List.take_add_one, hx]; simp [nodesM])
      clear hx HS HX HT HM0 HC0
      obtain ⟨nd, wt⟩ := x
      simp only at c0 c1 hst HTK
      have HST := Lib.hid hst
      clear hst
      by_cases h1 : nd < 1
      · have HQ : Hid (rightM l = 2) := Lib.hid (by
          rw [HR.out, HE.out, HST.out, if_pos (show badM ⟨nd, wt⟩ from .inl h1)]; rfl)
        clear HE HST HM
        go_wp2_with fail
        go_ret
        rw [HQ.out]
        exact ⟨rfl, HC.out.alloc _⟩
      by_cases h2 : 65535 < nd
      · have HQ : Hid (rightM l = 2) := Lib.hid (by
          rw [HR.out, HE.out, HST.out, if_pos (show badM ⟨nd, wt⟩ from .inr (.inl h2))]; rfl)
        clear HE HST HM
        go_wp2_with fail
        go_ret
        rw [HQ.out]
        exact ⟨rfl, HC.out.alloc _⟩
      by_cases h3 : wt < 0
      · have HQ : Hid (rightM l = 2) := Lib.hid (by
          rw [HR.out, HE.out, HST.out, if_pos (show badM ⟨nd, wt⟩ from .inr (.inr (.inl h3)))]; rfl)
        clear HE HST HM
        go_wp2_with fail
        go_ret
        rw [HQ.out]
        exact ⟨rfl, HC.out.alloc _⟩
      by_cases h4 : 4 < wt
      · have HQ : Hid (rightM l = 2) := Lib.hid (by
          rw [HR.out, HE.out, HST.out, if_pos (show badM ⟨nd, wt⟩ from .inr (.inr (.inr h4)))]; rfl)
        clear HE HST HM
        go_wp2_with fail
        go_ret
        rw [HQ.out]
        exact ⟨rfl, HC.out.alloc _⟩
      have hnb : ¬ badM ⟨nd, wt⟩ := by unfold badM; simp only; omega
      have hA := (Chg.refl [] wr).alloc (.cells #[.int .i64 nd, .int .i64 wt] 78)
      have hB : Blk (wr.alloc (.cells #[.int .i64 nd, .int .i64 wt] 78)) wr.heap.size 78 #[.int .i64 nd, .int .i64 wt] := Blk.new _ _ _
      have hM2 := HM.out.chg0 hA
      have hlm := HM.out.lt
      have hwf := wf_m (n := nd) (by omega) (by omega)
      have HC2 := Lib.hid (HC.out.trans hA)
      have c2 : (wr.alloc (.cells #[.int .i64 nd, .int .i64 wt] 78)).cell? ⟨wr.heap.size, 0, none⟩ = some (.int .i64 nd) := hB.cell 0
      obtain ⟨q, hq⟩ : ∃ q : Int, q = if nd ∈ nodesM (l.take k) then 1 else 0 := ⟨_, rfl⟩
      have hlk := hM2.look Tryz.underlying133 (zeroZm _) (x := nd) hwf
      have eq1 : (metM (nodesM (l.take k)) nd).getD (Value.int .i64 0) = .int .i64 q := by
        unfold metM
        rw [hq]
        split <;> rfl
      rw [eq1] at hlk
      have hqb : 0 ≤ q ∧ q ≤ 1 := by rw [hq]; split <;> omega
      obtain ⟨w3, hup, hM3, hc3⟩ := hM2.put Tryz.underlying133 (by unfold maxLen; omega) (x := nd) hwf (.int .i64 (q + 1))
      have hlk3 := hM3.look Tryz.underlying133 (zeroZm _) (x := nd) hwf
      rw [if_pos rfl] at hlk3
      have hB3 := hB.chg hc3 (by simp; omega)
      have c3 : w3.cell? ⟨wr.heap.size, 0, none⟩ = some (.int .i64 nd) := hB3.cell 0
      have HC3 := Lib.hid (HC2.out.trans' hc3 (by intro y hy; simp at hy; subst hy; exact .inr (Nat.le_refl _)))
      have hww : IntKind.i64.wrap (q + 1) = q + 1 := by rw [IntKind.wrap_i64]; omega
      have HM3 := Lib.hid hM3
      simp only [KZm, Option.getD_some] at hlk hup hlk3
      clear hA hB hM2 hM3 hc3 hB3 eq1 HC HM HC2
      by_cases hm : nd ∈ nodesM (l.take k)
      · rw [if_pos hm] at hq
        subst hq
        have HQ : Hid (rightM l = 9) := Lib.hid (by
          rw [HR.out, HE.out, HST.out, if_neg hnb, if_pos hm]; rfl)
        clear HE HST HM3 hm hnb
        simp only [Int.reduceAdd] at hup hlk3 hww
        go_wp2_with fail
        go_ret
        rw [HQ.out]
        exact ⟨rfl, HC3.out⟩
      · rw [if_neg hm] at hq
        subst hq
        have HE2 : Hid (scanAt l 0 = scanAt l (k + 1)) := Lib.hid (by rw [HE.out, HST.out, if_neg hnb, if_neg hm])
        have HM4 : Hid (∃ s, OM KZm w3 w.heap.size (k + 1) (metM (nodesM (l.take (k + 1)))) s) := Lib.hid (by
          rw [HTK.out, ← metM_snoc]; exact ⟨_, HM3.out⟩)
        clear HE HST HM3 hm hnb HTK
        simp only [Int.reduceAdd] at hup hlk3 hww
        go_wp2_with fail
        obtain ⟨s4, hM4⟩ := HM4.out
        go_roundw
        case rel => exact ⟨k + 1, s4, by omega, by go_num, Lib.hid hM4, HC3, HE2⟩
        case measure => simp [intOf] <;> omega
    · obtain rfl : k = n := by omega
      have hcn : ¬ (k : Int) < (k : Int) := by omega
      have h0 : scanAt l 0 = 0 := by rw [HE.out]; exact HA.out
      have HQ : Hid (rightM l = if 16 < k then 8 else 0) := Lib.hid (by rw [HR.out, if_pos h0])
      clear HE HM h0 HR HA HT HX HS HZ HM0 HC0
      by_cases h16 : 16 < k
      · have h16' : (16 : Int) < (k : Int) := by omega
        rw [if_pos h16] at HQ
        go_wp2_with fail
        go_ret
        rw [HQ.out]
        exact ⟨rfl, HC.out⟩
      · have h16' : ¬ (16 : Int) < (k : Int) := by omega
        rw [if_neg h16] at HQ
        go_wp2_with fail
        go_ret
        rw [HQ.out]
        exact ⟨rfl, HC.out⟩
end Go.Proofs.YtecblclpchndiaaGreat
