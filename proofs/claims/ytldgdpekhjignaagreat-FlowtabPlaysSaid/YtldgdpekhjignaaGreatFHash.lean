/-
  WALKS: a flow as bytes, its hash (octets.two, Put16, flow.Bytes, keyed.Flow). Condition: the flow's numbers are such.
-/
import Derived.Test.YtldgdpekhjignaaGreatKeyVf
import Derived.Test.YtldgdpekhjignaaGreatFlow
import Derived.Test.YtldgdpekhjignaaGreatRow
import Derived.ArgAppend
set_option linter.unusedVariables false
set_option linter.unusedSimpArgs false
namespace Go.Proofs.YtldgdpekhjignaaGreat
open Go.RowKit

theorem endW_nat (v : W4) : 0 ≤ endW v := by
  unfold endW xorS bits
  rw [IntKind.wrap_u64]
  omega
theorem sumS_nat (ka kb : Int) (l : List Nat) : 0 ≤ sumS ka kb l := by
  unfold sumS
  exact endW_nat _
def loB (n : Int) : Nat := (IntKind.u8.wrap n).toNat
theorem loB_eq (n : Int) : IntKind.u8.wrap n = (loB n : Int) := by
  unfold loB
  have : IntKind.u8.wrap n = n % 256 := by simp [IntKind.wrap, IntKind.signed, IntKind.bits]
  rw [this]; omega
theorem loB_lt (n : Int) : loB n < 256 := by
  unfold loB
  have : IntKind.u8.wrap n = n % 256 := by simp [IntKind.wrap, IntKind.signed, IntKind.bits]
  rw [this]; omega
theorem elPair : (Tryz.prog.info? 140).map (·.size) = some 2 := by kernel_rfl
set_option maxRecDepth 100000 in
set_option maxHeartbeats 1000000 in
theorem two_any (n : Int) (w : World) : Calls Tryz.prog 93 #[.int .i64 n] w fun e w' => e = .returned (.agg #[byV (loB (n / 256)), byV (loB n)]) ∧ Chg [] w w' := by
  have e1 := loB_eq (n / 256)
  have e2 := loB_eq n
  have hA := (Chg.refl [] w).alloc (.cells #[.int .u8 0, .int .u8 0] 140)
  have hB : Blk (w.alloc (.cells #[.int .u8 0, .int .u8 0] 140)) w.heap.size 140 #[.int .u8 0, .int .u8 0] := Blk.new _ _ _
  have HA := Lib.hid hA
  go_enter Tryz.func93, Tryz.ntmps93
  go_wp2_with (first
    | (refine wpList_store_blk (vs := #[byV (loB (n / 256)), byV (loB n)]) rfl 140 (.tmp 2) (.tmp 8) rfl rfl hB rfl rfl rfl elPair rfl ?_; intro w9 hB9 hc9)
    | fail)
  refine bodyPost_ret (results_blk rfl rfl hB9 _ Tryz.underlying140 rfl elPair) rfl ?_
  exact ⟨rfl, HA.out.trans' hc9 (by intro x hx; simp at hx; subst hx; right; omega)⟩
def twoB (n : Int) : List Nat := [loB (n / 256), loB n]
theorem twoB_lt {n : Int} : ∀ x ∈ twoB n, x < 256 := by
  intro x hx
  simp [twoB] at hx
  rcases hx with rfl | rfl <;> exact loB_lt _
set_option maxRecDepth 100000 in
set_option maxHeartbeats 1000000 in
theorem put16_own {w : World} {base : Nat} {v : Value} {l : List Nat} (h : w.ownsRow base 5 1 v l.length (l.map byV)) (hl : l.length ≤ 1000000) (hbase : base ≤ w.heap.size) (n : Int) :
    Calls Tryz.prog 72 #[v, .int .i64 n] w fun e w' => ∃ v', e = .returned v' ∧ w'.ownsRow base 5 1 v' (l ++ twoB n).length ((l ++ twoB n).map byV) ∧ Chg v.ownBlock.toList w w' := by
  have HI := Lib.hid h
  have HL := Lib.hid (own_lt h)
  clear h
  go_enter Tryz.func72, Tryz.ntmps72
  go_wp2_with fail
  refine (two_any n w).mono ?_
  rintro e w1 ⟨rfl, hc1⟩
  have HC1 := Lib.hid hc1
  clear hc1
  go_upto_region 2 with (first
    | (refine wpList_store_blk (vs := #[byV (loB (n / 256)), byV (loB n)]) rfl 140 (.tmp 5) (.tmp 7) rfl rfl (Blk.new _ _ _) rfl rfl rfl elPair rfl ?_; intro w2 hB2 hc2)
    | fail)
  have hcA : Chg [] w1 w2 := ((Chg.refl [] w1).alloc _).trans' hc2 (by intro x hx; simp at hx; subst hx; exact .inr (Nat.le_refl _))
  have HC2 := Lib.hid (HC1.out.trans hcA)
  clear hcA hc2
  have c0 : w2.cell? ⟨w1.heap.size, 0, none⟩ = some (.int .u8 (loB (n / 256) : Nat)) := hB2.cell 0
  have c1 : w2.cell? ⟨w1.heap.size, 1, none⟩ = some (.int .u8 (loB n : Nat)) := hB2.cell 1
  have hA := (Chg.refl [] w2).alloc (.cells #[byV (loB (n / 256)), byV (loB n)] 5)
  have HO := Lib.hid (own_chg (own_chg HI.out HC2.out (by simp)) hA (by simp))
  have HT : Hid (Sl (w2.alloc (.cells #[byV (loB (n / 256)), byV (loB n)] 5)) 0 1 (.slice (some ⟨w2.heap.size, 0, none⟩) 2 2) 2 ((twoB n).map byV)) :=
    Lib.hid (Sl.of_own (own_lit (base := 0) w2 5 1 2 #[byV (loB (n / 256)), byV (loB n)] (Nat.zero_le _) (by simp [maxLen]) rfl))
  have HCA := Lib.hid (HC2.out.trans hA)
  have hws : base ≤ (w2.alloc (.cells #[byV (loB (n / 256)), byV (loB n)] 5)).heap.size := by have := HC2.out.size; rw [World.size_alloc]; omega
  clear hB2 hA HI HC1
  go_wp2_with (first
    | (at_builtin; refine wpList_app elY rfl (.tmp 8) (.tmp 13) rfl base rfl HO.out rfl HT.out (byV_one _) (by unfold maxLen; omega) (by omega) hws ?_; intro v1 w3 hown1 hc3 hb1)
    | fail)
  go_ret
  refine ⟨v1, rfl, ?_, (HCA.out.more (by simp)).trans' hc3 (fun x hx => .inl hx)⟩
  rw [List.map_append, List.length_append]
  exact hown1
set_option maxRecDepth 100000 in
set_option maxHeartbeats 1000000 in
theorem put16_full {w : World} {b off m : Nat} {l : List Nat} (hm : l.length = m) (h : ∀ j u, (l.map byV)[j]? = some u → w.cell? ⟨b, off + j, none⟩ = some u) (hl : l.length ≤ 1000000) (n : Int) :
    Calls Tryz.prog 72 #[.slice (some ⟨b, off, none⟩) m m, .int .i64 n] w fun e w' => ∃ v', e = .returned v' ∧ w'.ownsRow w.heap.size 5 1 v' (l ++ twoB n).length ((l ++ twoB n).map byV) ∧ Chg [] w w' := by
  obtain ⟨i0, hi0, hz, hs1, hb1⟩ := info_parts elY.info
  have HI := Lib.hid h
  clear h
  go_enter Tryz.func72, Tryz.ntmps72
  go_wp2_with fail
  refine (two_any n w).mono ?_
  rintro e w1 ⟨rfl, hc1⟩
  have HC1 := Lib.hid hc1
  clear hc1
  go_upto_region 2 with (first
    | (refine wpList_store_blk (vs := #[byV (loB (n / 256)), byV (loB n)]) rfl 140 (.tmp 5) (.tmp 7) rfl rfl (Blk.new _ _ _) rfl rfl rfl elPair rfl ?_; intro w2 hB2 hc2)
    | fail)
  have hcA : Chg [] w1 w2 := ((Chg.refl [] w1).alloc _).trans' hc2 (by intro x hx; simp at hx; subst hx; exact .inr (Nat.le_refl _))
  have HC2 := Lib.hid (HC1.out.trans hcA)
  clear hcA hc2
  have c0 : w2.cell? ⟨w1.heap.size, 0, none⟩ = some (.int .u8 (loB (n / 256) : Nat)) := hB2.cell 0
  have c1 : w2.cell? ⟨w1.heap.size, 1, none⟩ = some (.int .u8 (loB n : Nat)) := hB2.cell 1
  have hA := (Chg.refl [] w2).alloc (.cells #[byV (loB (n / 256)), byV (loB n)] 5)
  have HCA := Lib.hid (HC2.out.trans hA)
  have HO : Hid (∀ j u, (l.map byV)[j]? = some u → (w2.alloc (.cells #[byV (loB (n / 256)), byV (loB n)] 5)).cell? ⟨b, off + j, none⟩ = some u) := Lib.hid fun j u hu => HCA.out.cell (HI.out j u hu) (by simp)
  have HT : Hid (∀ j u, ((twoB n).map byV)[j]? = some u → (w2.alloc (.cells #[byV (loB (n / 256)), byV (loB n)] 5)).cell? ((⟨w2.heap.size, 0, none⟩ : Addr).add j) = some u) := Lib.hid fun j u hu => by
    rw [Addr.add_lit, Nat.zero_add, (Blk.new w2 5 #[byV (loB (n / 256)), byV (loB n)]).cell]
    match j with
    | 0 => exact hu
    | 1 => exact hu
    | j + 2 => simp [twoB] at hu
  have hsz := HCA.out.size
  clear hB2 hA HI HC1 HC2
  go_wp2_with (first
    | (at_builtin; refine wpList_append_arg _ rfl (.tmp 8) (.tmp 13) 90 rfl 5 i0 (.int .u8 0) 1 1 Tryz.underlying90 hi0 hz hs1 hb1 rfl (by decide) b off m m (l.map byV) rfl (by simp [hm]) HO.out ⟨w2.heap.size, 0, none⟩ 2 2 ((twoB n).map byV) rfl (by simp [twoB]) HT.out (byV_one _) (fun h => absurd h (by omega)) (by unfold maxLen; omega) (by omega) (fun h => absurd h (by omega)) ?_; intro hlt v1 w3 hown1 hc3)
    | fail)
  go_ret
  refine ⟨v1, rfl, ?_, HCA.out.grown hc3 (fun k hk => by cases hk)⟩
  have h5 : (l ++ twoB n).length = m + 2 := by simp [twoB, hm]
  rw [h5, List.map_append]
  obtain ⟨e1, e2⟩ := hown1
  refine ⟨e1, ?_⟩
  rcases e2 with e2 | ⟨g, cap, cur, hv, hB, r⟩
  · exact .inl e2
  · exact .inr ⟨g, cap, cur, hv, Nat.le_trans hsz hB, r⟩
/-- A flow's bytes. -/
def adB (A : Ad) : List Nat := A.l.map Int.toNat
def flowB (f : Fl) : List Nat := adB f.src ++ twoB f.sport ++ adB f.dst ++ twoB f.dport
theorem adB_lt {A : Ad} (h : okA A) : ∀ x ∈ adB A, x < 256 := by
  intro x hx
  obtain ⟨y, hy, rfl⟩ := List.mem_map.1 hx
  have := h y hy
  simp [Lit.wf, IntKind.min, IntKind.max, IntKind.signed, IntKind.bits] at this
  omega
theorem flowB_lt {f : Fl} (h : okF f) : ∀ x ∈ flowB f, x < 256 := by
  intro x hx
  simp only [flowB, List.mem_append] at hx
  rcases hx with ((hx | hx) | hx) | hx
  · exact adB_lt h.1 x hx
  · exact twoB_lt x hx
  · exact adB_lt h.2.2.1 x hx
  · exact twoB_lt x hx
theorem adB_len (A : Ad) : (adB A).length = 16 := rfl
theorem flowB_len (f : Fl) : (flowB f).length = 36 := rfl
theorem byV_nat {y : Int} (h : (Lit.int .u8 y).wf = true) : byV y.toNat = .int .u8 y := by
  simp [Lit.wf, IntKind.min, IntKind.max, IntKind.signed, IntKind.bits] at h
  unfold byV
  congr 1
  omega
theorem adB_enc {A : Ad} (h : okA A) : (adB A).map byV = encA A := by
  unfold adB encA
  rw [List.map_map]
  exact List.map_congr_left fun y hy => byV_nat (h y hy)
set_option maxRecDepth 100000 in
set_option maxHeartbeats 1000000 in
theorem bytes_any {f : Fl} (hf : okF f) (w : World) : Calls Tryz.prog 43 #[f.v] w fun e w' => ∃ v', e = .returned v' ∧ w'.ownsRow w.heap.size 5 1 v' (flowB f).length ((flowB f).map byV) ∧ Chg [] w w' := by
  have hA := (Chg.refl [] w).alloc (.cells (arrF f) 38)
  have hB : Blk (w.alloc (.cells (arrF f) 38)) w.heap.size 38 (arrF f) := Blk.new _ _ _
  have HI := Lib.hid (And.intro hA hB)
  have HF := Lib.hid hf
  clear hA hB hf
  go_enter Tryz.func43, Tryz.ntmps43
  go_upto_region 1 with fail
  obtain ⟨hA, hB⟩ := HI.out
  generalize hw1 : (w.alloc (.cells (arrF f) 38)) = w1 at *
  clear hw1
  have hlt := hB.lt
  generalize hgg : w.heap.size = g at *
  have hS0 : (fun W : World => Blk W g 38 (arrF f) ∧ Chg [] w W) w1.drew := ⟨hB.drew, hA.drew⟩
  have HS1 : ∀ W : World, (fun W : World => Blk W g 38 (arrF f) ∧ Chg [] w W) W → W.cell? ⟨g, 16, none⟩ = some (.int .i64 f.sport) := fun W h => h.1.cell 16
  have HS2 : ∀ W : World, (fun W : World => Blk W g 38 (arrF f) ∧ Chg [] w W) W → W.cell? ⟨g, 33, none⟩ = some (.int .i64 f.dport) := fun W h => h.1.cell 33
  refine wp_region_noPanic ?_
  refine wp_region_held_drew (S := fun W : World => Blk W g 38 (arrF f) ∧ Chg [] w W) (by kernel_rfl) hS0 (fun _ => ?_)
  refine wpAnyH_take (i := 0) (v := ?_) rfl (by kernel_rfl) (by kernel_rfl) (by kernel_rfl) (fun _ _ _ h => h) (yields_pure (by rfl) (fun w => ?_)) (by with_reducible assumption) ?_
  rotate_left
  · (go_simp <;> with_reducible rfl)
  try simp only [List.getElem_toArray, List.getElem_cons_succ, List.getElem_cons_zero, Act.put, List.setIfInBounds_toArray, List.set_cons_zero, List.set_cons_succ]
  refine wpAnyH_take (i := 1) (v := ?_) rfl (by kernel_rfl) (by kernel_rfl) (by kernel_rfl) (fun _ _ _ h => h) (yields_pure (by rfl) (fun w => ?_)) (by with_reducible assumption) ?_
  rotate_left
  · (go_simp <;> with_reducible rfl)
  try simp only [List.getElem_toArray, List.getElem_cons_succ, List.getElem_cons_zero, Act.put, List.setIfInBounds_toArray, List.set_cons_zero, List.set_cons_succ]
  refine wpAnyH_take (i := 2) (v := ?_) rfl (by kernel_rfl) (by kernel_rfl) (by kernel_rfl) (fun _ _ _ h => h) (yields_pure (by rfl) (fun w => ?_)) (by with_reducible assumption) ?_
  rotate_left
  · (go_simp <;> with_reducible rfl)
  try simp only [List.getElem_toArray, List.getElem_cons_succ, List.getElem_cons_zero, Act.put, List.setIfInBounds_toArray, List.set_cons_zero, List.set_cons_succ]
  refine wpAnyH_take (i := 3) rfl (by kernel_rfl) (by kernel_rfl) (by kernel_rfl) (fun _ _ _ h => h) (yields_cell (by rfl) 3 (.tmp 6) rfl g 16 rfl (.int .i64 f.sport) _ HS1 Tryz.underlying3 rfl) (by with_reducible assumption) ?_
  try simp only [List.getElem_toArray, List.getElem_cons_succ, List.getElem_cons_zero, Act.put, List.setIfInBounds_toArray, List.set_cons_zero, List.set_cons_succ]
  refine wpAnyH_ready (rs := [4]) (by kernel_rfl) (by simp) (AllReadyH.cons rfl (fun K hK => ?_) AllReadyH.nil)
  have hsrc : ∀ j u, ((adB f.src).map byV)[j]? = some u → w1.drew.cell? ⟨g, 0 + j, none⟩ = some u := fun j u hu => by
    have hj : j < 16 := by have := (List.getElem?_eq_some_iff.1 hu).1; simpa [adB_len] using this
    rw [Nat.zero_add, hB.drew.cell, ← hu, adB_enc HF.out.1]
    have e : (arrF f)[j]? = (encF f)[j]? := by rw [← Array.getElem?_toList]; rfl
    rw [e, encF, List.getElem?_append_left (by show j < 16; exact hj)]
  have F1 := Lib.hid (put16_full (adB_len f.src) hsrc (by rw [adB_len]; omega) f.sport)
  go_simp
  refine F1.out.mono ?_
  rintro e w2 ⟨v2, rfl, hown2, hc2⟩
  have hC2 : Chg [] w1 w2 := (Chg.refl [] w1).drew.trans hc2
  have hS2 : (fun W : World => Blk W g 38 (arrF f) ∧ Chg [] w W) w2 := ⟨hB.chg hC2 (by simp), hA.trans hC2⟩
  refine hK.out _ _ (by with_reducible assumption) (fun _ => ?_)
  clear hK K
  try simp only [List.getElem_toArray, List.getElem_cons_succ, List.getElem_cons_zero, Act.put, List.setIfInBounds_toArray, List.set_cons_zero, List.set_cons_succ]
  refine wpAnyH_take (i := 5) (v := ?_) rfl (by kernel_rfl) (by kernel_rfl) (by kernel_rfl) (fun _ _ _ h => h) (yields_pure (by rfl) (fun w => ?_)) (by with_reducible assumption) ?_
  rotate_left
  · (go_simp <;> with_reducible rfl)
  try simp only [List.getElem_toArray, List.getElem_cons_succ, List.getElem_cons_zero, Act.put, List.setIfInBounds_toArray, List.set_cons_zero, List.set_cons_succ]
  refine wpAnyH_done (by kernel_rfl) ?_ _
  refine NoPanic.normal ?_
  go_upto_region 2 with fail
  have hsz12 := hc2.size
  have hb1 : w1.heap.size ≤ w2.heap.size := hsz12
  have hS3 : (fun W : World => Blk W g 38 (arrF f) ∧ Chg [] w W) w2.drew := ⟨hS2.1.drew, hS2.2.drew⟩
  have hown2' : w2.drew.ownsRow w1.heap.size 5 1 v2 (adB f.src ++ twoB f.sport).length ((adB f.src ++ twoB f.sport).map byV) := hown2
  have hsl : Sl w2.drew 0 1 (.slice (some ⟨g, 17, none⟩) 16 16) 16 ((adB f.dst).map byV) := by
    refine ⟨by simp [adB_len], some ⟨g, 17, none⟩, 16, rfl, Nat.le_refl _, fun _ => ⟨g, 17, rfl, Nat.zero_le _, fun j u hu => ?_⟩⟩
    rw [adB_enc HF.out.2.2.1] at hu
    have hj : j < 16 := (List.getElem?_eq_some_iff.1 hu).1
    rw [hS3.1.cell, ← hu, ← Array.getElem?_toList]
    show (encF f)[17 + j]? = _
    rw [encF, List.getElem?_append_right (by show 16 ≤ 17 + j; omega)]
    show ((Value.int .i64 f.sport :: (encA f.dst ++ [.int .i64 f.dport])))[17 + j - 16]? = _
    rw [show 17 + j - 16 = j + 1 by omega, List.getElem?_cons_succ, List.getElem?_append_left (by show j < 16; omega)]
  refine wp_region_noPanic ?_
  refine wp_region_held_drew (S := fun W : World => Blk W g 38 (arrF f) ∧ Chg [] w W) (by kernel_rfl) hS3 (fun _ => ?_)
  refine wpAnyH_take (i := 0) (v := ?_) rfl (by kernel_rfl) (by kernel_rfl) (by kernel_rfl) (fun _ _ _ h => h) (yields_pure (by rfl) (fun w => ?_)) (by with_reducible assumption) ?_
  rotate_left
  · (go_simp <;> with_reducible rfl)
  try simp only [List.getElem_toArray, List.getElem_cons_succ, List.getElem_cons_zero, Act.put, List.setIfInBounds_toArray, List.set_cons_zero, List.set_cons_succ]
  refine wpAnyH_take (i := 1) (v := ?_) rfl (by kernel_rfl) (by kernel_rfl) (by kernel_rfl) (fun _ _ _ h => h) (yields_pure (by rfl) (fun w => ?_)) (by with_reducible assumption) ?_
  rotate_left
  · (go_simp <;> with_reducible rfl)
  try simp only [List.getElem_toArray, List.getElem_cons_succ, List.getElem_cons_zero, Act.put, List.setIfInBounds_toArray, List.set_cons_zero, List.set_cons_succ]
  refine wpAnyH_take (i := 2) (v := ?_) rfl (by kernel_rfl) (by kernel_rfl) (by kernel_rfl) (fun _ _ _ h => h) (yields_pure (by rfl) (fun w => ?_)) (by with_reducible assumption) ?_
  rotate_left
  · (go_simp <;> with_reducible rfl)
  try simp only [List.getElem_toArray, List.getElem_cons_succ, List.getElem_cons_zero, Act.put, List.setIfInBounds_toArray, List.set_cons_zero, List.set_cons_succ]
  refine wpAnyH_take (i := 4) (v := ?_) rfl (by kernel_rfl) (by kernel_rfl) (by kernel_rfl) (fun _ _ _ h => h) (yields_pure (by rfl) (fun w => ?_)) (by with_reducible assumption) ?_
  rotate_left
  · (go_simp <;> with_reducible rfl)
  try simp only [List.getElem_toArray, List.getElem_cons_succ, List.getElem_cons_zero, Act.put, List.setIfInBounds_toArray, List.set_cons_zero, List.set_cons_succ]
  refine wpAnyH_take (i := 5) rfl (by kernel_rfl) (by kernel_rfl) (by kernel_rfl) (fun _ _ _ h => h) (yields_cell (by rfl) 3 (.tmp 13) rfl g 33 rfl (.int .i64 f.dport) _ HS2 Tryz.underlying3 rfl) (by with_reducible assumption) ?_
  try simp only [List.getElem_toArray, List.getElem_cons_succ, List.getElem_cons_zero, Act.put, List.setIfInBounds_toArray, List.set_cons_zero, List.set_cons_succ]
  refine wpAnyH_ready (rs := [3]) (by kernel_rfl) (by simp) (AllReadyH.cons rfl (fun K hK => ?_) AllReadyH.nil)
  refine step_app elY rfl (.tmp 9) (.tmp 11) rfl w1.heap.size rfl hown2' rfl hsl (byV_one _) (by simp [adB_len, twoB, maxLen]) (by simp [adB_len, twoB]) hb1 ?_
  intro v5 w5 hown5 hc5 hb5
  have hown6 : w5.ownsRow w1.heap.size 5 1 v5 (adB f.src ++ twoB f.sport ++ adB f.dst).length ((adB f.src ++ twoB f.sport ++ adB f.dst).map byV) := by
    rw [List.map_append, List.length_append]
    exact hown5
  have hC5 : Chg [] w1 w5 := hC2.drew.trans' hc5 (fun x hx => .inr (own_lt hown2' x hx).1)
  have hS5 : (fun W : World => Blk W g 38 (arrF f) ∧ Chg [] w W) w5 := ⟨hB.chg hC5 (by simp), hA.trans hC5⟩
  refine hK.out _ _ (by with_reducible assumption) (fun _ => ?_)
  clear hK K
  try simp only [List.getElem_toArray, List.getElem_cons_succ, List.getElem_cons_zero, Act.put, List.setIfInBounds_toArray, List.set_cons_zero, List.set_cons_succ]
  refine wpAnyH_ready (rs := [6]) (by kernel_rfl) (by simp) (AllReadyH.cons rfl (fun K hK => ?_) AllReadyH.nil)
  have F6 := Lib.hid (put16_own hown6 (by simp [adB_len, twoB]) hC5.size f.dport)
  go_simp
  refine F6.out.mono ?_
  rintro e w6 ⟨v6, rfl, hown7, hc6⟩
  have hC6 : Chg [] w1 w6 := hC5.trans' hc6 (fun x hx => .inr (own_lt hown6 x hx).1)
  have hS6 : (fun W : World => Blk W g 38 (arrF f) ∧ Chg [] w W) w6 := ⟨hB.chg hC6 (by simp), hA.trans hC6⟩
  refine hK.out _ _ (by with_reducible assumption) (fun _ => ?_)
  clear hK K
  try simp only [List.getElem_toArray, List.getElem_cons_succ, List.getElem_cons_zero, Act.put, List.setIfInBounds_toArray, List.set_cons_zero, List.set_cons_succ]
  refine wpAnyH_take (i := 7) (v := ?_) rfl (by kernel_rfl) (by kernel_rfl) (by kernel_rfl) (fun _ _ _ h => h) (yields_pure (by rfl) (fun w => ?_)) (by with_reducible assumption) ?_
  rotate_left
  · (go_simp <;> with_reducible rfl)
  try simp only [List.getElem_toArray, List.getElem_cons_succ, List.getElem_cons_zero, Act.put, List.setIfInBounds_toArray, List.set_cons_zero, List.set_cons_succ]
  refine wpAnyH_done (by kernel_rfl) ?_ _
  refine NoPanic.normal ?_
  have HFIN : Hid (w6.ownsRow g 5 1 v6 (flowB f).length ((flowB f).map byV) ∧ Chg [] w w6) := Lib.hid ⟨by
    obtain ⟨e1, e2⟩ := hown7
    refine ⟨e1, ?_⟩
    rcases e2 with e2 | ⟨g', cap, cur, hv, hB', r⟩
    · exact .inl e2
    · exact .inr ⟨g', cap, cur, hv, by omega, r⟩, hA.trans hC6⟩
  clear F1 F6 hS0 hS2 hS3 hS5 hS6 hC2 hC5 hC6 hc2 hc5 hc6 hown2 hown2' hown6 hown7 hsl HS1 HS2 hA hB hsrc hlt hb1 hsz12 hb5
  go_wp2_with fail
  go_ret
  exact ⟨_, rfl, by rw [hgg]; exact HFIN.out.1, HFIN.out.2⟩
/-- A flow's hash. -/
def hashF (ka kb : Int) (f : Fl) : Int := sumS ka kb (flowB f)
theorem hashF_nat (ka kb : Int) (f : Fl) : 0 ≤ hashF ka kb f := sumS_nat _ _ _
theorem infKey : (Tryz.prog.info? 24).map (·.size) = some 2 := by kernel_rfl
set_option maxRecDepth 100000 in
set_option maxHeartbeats 1000000 in
theorem kflow_any {f : Fl} (hf : okF f) (ka kb : Int) (w : World) : Calls Tryz.prog 23 #[.agg #[.int .u64 ka, .int .u64 kb], f.v] w fun e w' => e = .returned (.int .u64 (hashF ka kb f)) ∧ Chg [] w w' := by
  have h1 := (Chg.refl [] w).alloc (.cells #[.int .u64 ka, .int .u64 kb] 24)
  have hA := h1.alloc (.cells (arrF f) 38)
  have hK : Blk ((w.alloc (.cells #[.int .u64 ka, .int .u64 kb] 24)).alloc (.cells (arrF f) 38)) w.heap.size 24 #[.int .u64 ka, .int .u64 kb] := (Blk.new _ _ _).alloc _
  have hB : Blk ((w.alloc (.cells #[.int .u64 ka, .int .u64 kb] 24)).alloc (.cells (arrF f) 38)) (w.heap.size + 1) 38 (arrF f) := Blk.new' (by simp)
  have HI := Lib.hid (And.intro hA (And.intro hK hB))
  have HF := Lib.hid hf
  clear h1 hA hK hB hf
  go_enter Tryz.func23, Tryz.ntmps23
  go_upto_region 1 with fail
  obtain ⟨hA, hK, hB⟩ := HI.out
  generalize hw1 : (w.alloc (.cells #[.int .u64 ka, .int .u64 kb] 24)).alloc (.cells (arrF f) 38) = w1 at *
  clear hw1
  generalize hgg : w.heap.size = g at *
  have hS0 : (fun W : World => (Blk W g 24 #[.int .u64 ka, .int .u64 kb] ∧ Blk W (g + 1) 38 (arrF f)) ∧ Chg [] w W) w1.drew := ⟨⟨hK.drew, hB.drew⟩, hA.drew⟩
  have HS1 : ∀ W : World, (fun W : World => (Blk W g 24 #[.int .u64 ka, .int .u64 kb] ∧ Blk W (g + 1) 38 (arrF f)) ∧ Chg [] w W) W → W.rangeAt g 0 (#[.int .u64 ka, .int .u64 kb] : Array Value).toList := fun W h => h.1.1.rangeQ
  have HS2 : ∀ W : World, (fun W : World => (Blk W g 24 #[.int .u64 ka, .int .u64 kb] ∧ Blk W (g + 1) 38 (arrF f)) ∧ Chg [] w W) W → W.rangeAt (g + 1) 0 (arrF f).toList := fun W h => h.1.2.rangeQ
  refine wp_region_noPanic ?_
  refine wp_region_held_drew (S := fun W : World => (Blk W g 24 #[.int .u64 ka, .int .u64 kb] ∧ Blk W (g + 1) 38 (arrF f)) ∧ Chg [] w W) (by kernel_rfl) hS0 (fun _ => ?_)
  generalize w1.drew = wd at *
  refine wpAnyH_take (i := 0) rfl (by kernel_rfl) (by kernel_rfl) (by kernel_rfl) (fun _ _ _ h => h) (yields_row (by rfl) 24 (.tmp 2) rfl g 0 rfl (#[.int .u64 ka, .int .u64 kb]) _ HS1 Tryz.underlying24 rfl infKey) (by with_reducible assumption) ?_
  try simp only [List.getElem_toArray, List.getElem_cons_succ, List.getElem_cons_zero, Act.put, List.setIfInBounds_toArray, List.set_cons_zero, List.set_cons_succ]
  refine wpAnyH_take (i := 1) rfl (by kernel_rfl) (by kernel_rfl) (by kernel_rfl) (fun _ _ _ h => h) (yields_row (by rfl) 38 (.tmp 3) rfl (g + 1) 0 rfl (arrF f) _ HS2 Tryz.underlying38 rfl infF) (by with_reducible assumption) ?_
  try simp only [List.getElem_toArray, List.getElem_cons_succ, List.getElem_cons_zero, Act.put, List.setIfInBounds_toArray, List.set_cons_zero, List.set_cons_succ]
  refine wpAnyH_ready (rs := [2]) (by kernel_rfl) (by simp) (AllReadyH.cons rfl (fun K hK => ?_) AllReadyH.nil)
  have F1 := Lib.hid (bytes_any HF.out wd)
  go_simp
  refine F1.out.mono ?_
  rintro e w2 ⟨v2, rfl, hown2, hc2⟩
  have hS2 : (fun W : World => (Blk W g 24 #[.int .u64 ka, .int .u64 kb] ∧ Blk W (g + 1) 38 (arrF f)) ∧ Chg [] w W) w2 := ⟨⟨hS0.1.1.chg hc2 (by simp), hS0.1.2.chg hc2 (by simp)⟩, hS0.2.trans hc2⟩
  have F2 := Lib.hid (sum_any (Sl.of_own hown2) (by rw [flowB_len]; omega) (flowB_lt HF.out) ka kb)
  refine hK.out _ _ (by with_reducible assumption) (fun _ => ?_)
  clear hK K
  try simp only [List.getElem_toArray, List.getElem_cons_succ, List.getElem_cons_zero, Act.put, List.setIfInBounds_toArray, List.set_cons_zero, List.set_cons_succ]
  refine wpAnyH_ready (rs := [3]) (by kernel_rfl) (by simp) (AllReadyH.cons rfl (fun K hK => ?_) AllReadyH.nil)
  go_simp
  refine F2.out.mono ?_
  rintro e w3 ⟨rfl, hc3⟩
  have hS3 : (fun W : World => (Blk W g 24 #[.int .u64 ka, .int .u64 kb] ∧ Blk W (g + 1) 38 (arrF f)) ∧ Chg [] w W) w3 := ⟨⟨hS2.1.1.chg hc3 (by simp), hS2.1.2.chg hc3 (by simp)⟩, hS2.2.trans hc3⟩
  have HC3 := Lib.hid hS3.2
  refine hK.out _ _ (by with_reducible assumption) (fun _ => ?_)
  clear hK K
  try simp only [List.getElem_toArray, List.getElem_cons_succ, List.getElem_cons_zero, Act.put, List.setIfInBounds_toArray, List.set_cons_zero, List.set_cons_succ]
  refine wpAnyH_take (i := 4) (v := ?_) rfl (by kernel_rfl) (by kernel_rfl) (by kernel_rfl) (fun _ _ _ h => h) (yields_pure (by rfl) (fun w => ?_)) (by with_reducible assumption) ?_
  rotate_left
  · (go_simp <;> with_reducible rfl)
  try simp only [List.getElem_toArray, List.getElem_cons_succ, List.getElem_cons_zero, Act.put, List.setIfInBounds_toArray, List.set_cons_zero, List.set_cons_succ]
  refine wpAnyH_done (by kernel_rfl) ?_ _
  refine NoPanic.normal ?_
  have HH : Hid (sumS ka kb (flowB f) = hashF ka kb f) := Lib.hid rfl
  clear F1 F2 hS0 hS2 hS3 hc2 hc3 hown2 HS1 HS2 hA hK hB
  go_wp2_with fail
  go_ret
  rw [HH.out]
  exact ⟨rfl, HC3.out⟩
end Go.Proofs.YtldgdpekhjignaaGreat
