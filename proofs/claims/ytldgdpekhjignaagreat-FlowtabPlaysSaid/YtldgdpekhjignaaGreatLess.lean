/-
  WALKS: which address comes first: package addr's answer and the document's. Condition: each is sixteen bytes.
-/
import Derived.Test.YtldgdpekhjignaaGreatAddr
import Derived.Sort.Grow
set_option linter.unusedVariables false
set_option linter.unusedSimpArgs false
namespace Go.Proofs.YtldgdpekhjignaaGreat
open Go.RowKit Go.Maps Go.Sort

/-- The world w' is w with what was made and drawn. -/
def Gro (w w' : World) : Prop := ∃ q os', w' = grow (w.drewN q) os'
theorem Gro.refl (w : World) : Gro w w := ⟨0, #[], by simp [World.drewN]⟩
theorem Gro.alloc {w w' : World} (h : Gro w w') (o : Obj) : Gro w (w'.alloc o) := by
  obtain ⟨q, os, rfl⟩ := h
  exact ⟨q, os ++ #[o], by rw [alloc_eq_grow, grow_grow]⟩
theorem Gro.drewN {w w' : World} (h : Gro w w') (n : Nat) : Gro w (w'.drewN n) := by
  obtain ⟨q, os, rfl⟩ := h
  exact ⟨q + n, os, by simp [grow, World.drewN, Nat.add_assoc]⟩
theorem Gro.trans {w w' w'' : World} (h : Gro w w') (k : Gro w' w'') : Gro w w'' := by
  obtain ⟨q, os, rfl⟩ := h
  obtain ⟨q', os', rfl⟩ := k
  exact ⟨q + q', os ++ os', by simp [grow, World.drewN, Nat.add_assoc, Array.append_assoc]⟩
theorem Gro.chg {w w' : World} (h : Gro w w') : Chg [] w w' := by
  obtain ⟨q, os, rfl⟩ := h
  refine ⟨rfl, rfl, rfl, by simp [grow, World.drewN], fun k hk _ => ?_⟩
  simp [grow, World.drewN]
  rw [Array.getElem?_append_left hk]

def lexI : List Int → List Int → Bool
  | a :: l, b :: m => if a = b then lexI l m else decide (a < b)
  | _, _ => false
theorem lexI_at : ∀ (l m : List Int) (i : Nat) (a b : Int), (∀ j, j < i → l[j]? = m[j]?) → l[i]? = some a → m[i]? = some b → a ≠ b → lexI l m = decide (a < b)
  | [], m, i, a, b, _, h, _, _ => by simp at h
  | x :: l, [], i, a, b, _, _, h, _ => by simp at h
  | x :: l, y :: m, 0, a, b, _, h, h', hn => by
    simp at h h'
    subst h h'
    simp [lexI, hn]
  | x :: l, y :: m, i + 1, a, b, hj, h, h', hn => by
    have h0 := hj 0 (by omega)
    simp at h0
    subst h0
    have := lexI_at l m i a b (fun j hji => by simpa using hj (j + 1) (by omega)) (by simpa using h) (by simpa using h') hn
    simpa [lexI] using this
theorem lexI_refl : ∀ l : List Int, lexI l l = false
  | [] => rfl
  | a :: l => by simp [lexI, lexI_refl l]
def lessA (A B : Ad) : Bool := lexI A.l B.l
/-- The first i bytes are the same. -/
def SameTo (A B : Ad) (i : Nat) : Prop := ∀ j, j < i → A.l[j]? = B.l[j]?
theorem SameTo.all {A B : Ad} (h : SameTo A B 16) : A = B := by
  refine Ad.ext_l (List.ext_getElem? fun j => ?_)
  by_cases hj : j < 16
  · exact h j hj
  · rw [List.getElem?_eq_none (by rw [A.l_len]; omega), List.getElem?_eq_none (by rw [B.l_len]; omega)]
theorem SameTo.step {A B : Ad} {i : Nat} (h : SameTo A B i) (hi : i < 16) : (A.l[i]?.getD 0 = B.l[i]?.getD 0 → SameTo A B (i + 1)) ∧ (¬ A.l[i]?.getD 0 = B.l[i]?.getD 0 → lessA A B = decide (A.l[i]?.getD 0 < B.l[i]?.getD 0)) := by
  have hA : A.l[i]? = some (A.l[i]?.getD 0) := by rw [List.getElem?_eq_getElem (by rw [A.l_len]; exact hi)]; rfl
  have hB : B.l[i]? = some (B.l[i]?.getD 0) := by rw [List.getElem?_eq_getElem (by rw [B.l_len]; exact hi)]; rfl
  refine ⟨fun he j hj => ?_, fun hn => lexI_at _ _ i _ _ h hA hB hn⟩
  by_cases e : j = i
  · subst e; rw [hA, hB, he]
  · exact h j (by omega)
theorem blkA {w : World} {g : Nat} {t : TypeId} {A : Ad} (h : Blk w g t (arrA A)) {i : Nat} (hi : i < 16) : w.cell? ⟨g, i, none⟩ = some (.int .u8 (A.l[i]?.getD 0)) := by
  have h' : Blk w g t (encA A).toArray := h
  rw [h'.cell i]
  have hA : A.l[i]? = some (A.l[i]?.getD 0) := by rw [List.getElem?_eq_getElem (by rw [A.l_len]; exact hi)]; rfl
  simp only [List.getElem?_toArray, encA, List.getElem?_map]
  rw [hA]; rfl

set_option maxRecDepth 100000 in
set_option maxHeartbeats 1000000 in
theorem less_any {A B : Ad} (hA : okA A) (hB : okA B) (w : World) : Calls Tryz.prog 90 #[A.v, B.v] w fun e w' => e = .returned (.bool (lessA A B)) ∧ Gro w w' := by
  have h2 : Blk ((w.alloc (.cells (arrA A) 36)).alloc (.cells (arrA B) 36)) w.heap.size 36 (arrA A) := (Blk.new _ _ _).alloc _
  have h3 : Blk ((w.alloc (.cells (arrA A) 36)).alloc (.cells (arrA B) 36)) (w.heap.size + 1) 36 (arrA B) := Blk.new' (by simp)
  have hG : Gro w ((w.alloc (.cells (arrA A) 36)).alloc (.cells (arrA B) 36)) := ((Gro.refl w).alloc _).alloc _
  have HL : Hid (lessA A A = false) := Lib.hid (lexI_refl _)
  have HS := Lib.hid (fun i (h : SameTo A B i) (hi : i < 16) => h.step hi)
  have HW := Lib.hid (fun w1 => eq_ad w1 hA hA)
  obtain ⟨W2, hW2⟩ : ∃ W2, W2 = ((w.alloc (.cells (arrA A) 36)).alloc (.cells (arrA B) 36)) := ⟨_, rfl⟩
  rw [← hW2] at hG h2 h3
  have HA := Lib.hid (fun w1 (hc : Chg [] W2 w1) i (hi : i < 16) => And.intro (blkA (h2.chg hc (by simp)) hi) (blkA (h3.chg hc (by simp)) hi))
  have HE := Lib.hid (fun w1 (hc : Chg [] W2 w1) => And.intro (h2.chg hc (by simp)) (h3.chg hc (by simp)))
  have HG := Lib.hid (And.intro hG (Chg.refl [] W2))
  have HW2 := Lib.hid hW2
  clear hA hB h2 h3 hG hW2
  go_enter Tryz.func90, Tryz.ntmps90
  go_wp2_with fail
  go_loopw [5, 6] (fun u iv wr => ∃ k : Nat, k ≤ 16 ∧ iv = .int .i64 k ∧ Hid (SameTo A B k) ∧ Gro w wr ∧ Chg [] W2 wr) (fun _ iv _ => 16 - (intOf iv).toNat)
  case atStart =>
    have hg := HG.out
    rw [HW2.out] at hg
    exact ⟨0, by omega, rfl, Lib.hid (fun j hj => absurd hj (by omega)), hg.1, by rw [HW2.out]; exact hg.2⟩
  case round =>
    obtain ⟨k, hk, rfl, hs, hgw, hcw⟩ := hrel
    by_cases hlt : k < 16
    · obtain ⟨ca, cb⟩ := HA.out wr hcw k hlt
      obtain ⟨s1, s2⟩ := HS.out k hs.out hlt
      have S1 := Lib.hid s1
      have S2 := Lib.hid s2
      have hkI : (k : Int) < 16 := by omega
      clear HA HS s1 s2 HE HG HW2 HL HW
      generalize A.l[k]?.getD 0 = x at *
      generalize B.l[k]?.getD 0 = y at *
      have hcz : Hid (∀ q, Chg [] W2 (wr.drewN q) ∧ Gro w (wr.drewN q) ∧ (wr.drewN q).cell? ⟨w.heap.size, k, none⟩ = some (.int .u8 x) ∧ (wr.drewN q).cell? ⟨w.heap.size + 1, k, none⟩ = some (.int .u8 y)) := Lib.hid fun q => ⟨hcw.drewN q, hgw.drewN q, ((Chg.refl [] wr).drewN q).cell ca (by simp), ((Chg.refl [] wr).drewN q).cell cb (by simp)⟩
      by_cases hxy : x = y
      · have hb : (x != y) = false := by simp [hxy]
        have hs2 := Lib.hid (S1.out hxy)
        clear S1 S2 hxy
        go_wp2_with fail
        go_quiet (fail)
        obtain ⟨z1, z2, z3, z4⟩ := hcz.out nq
        go_wp2_with fail
        go_roundw
        case rel => exact ⟨k + 1, by omega, by go_num, hs2, z2, z1⟩
        case measure => simp [intOf]; omega
      · have hb : (x != y) = true := by simp [hxy]
        have hs2 := Lib.hid (S2.out hxy)
        clear S1 S2 hxy
        go_wp2_with fail
        go_quiet (fail)
        obtain ⟨z1, z2, z3, z4⟩ := hcz.out nq
        generalize wr.drewN nq = w5 at *
        clear hcz ca cb
        go_wp2_with fail
        go_quiet (fail)
        go_wp2_with fail
        go_ret
        exact ⟨by rw [hs2.out]; rfl, z2.drewN _⟩
    · obtain rfl : k = 16 := by omega
      obtain rfl := hs.out.all
      obtain ⟨b2, b3⟩ := HE.out wr hcw
      have hl := HL.out
      have he := HW.out wr
      simp only [decide_true] at he
      clear HA HE HS HW HG HW2
      go_wp2_with (first | (refine wpList_load_blk rfl 36 _ rfl b2 rfl _ Tryz.underlying36 rfl (by kernel_rfl) ?_) | (refine wpList_load_blk rfl 36 _ rfl b3 rfl _ Tryz.underlying36 rfl (by kernel_rfl) ?_) | fail)
      go_ret
      exact ⟨by rw [hl]; rfl, hgw⟩

set_option maxRecDepth 100000 in
set_option maxHeartbeats 1000000 in
theorem less03 {A B : Ad} (hA : okA A) (hB : okA B) (w : World) : Calls Tryz.prog 96 #[A.v, B.v] w fun e w' => e = .returned (.bool (lessA A B)) ∧ Gro w w' := by
  have h2 : Blk ((w.alloc (.cells (arrA A) 36)).alloc (.cells (arrA B) 36)) w.heap.size 36 (arrA A) := (Blk.new _ _ _).alloc _
  have h3 : Blk ((w.alloc (.cells (arrA A) 36)).alloc (.cells (arrA B) 36)) (w.heap.size + 1) 36 (arrA B) := Blk.new' (by simp)
  have hG : Gro w ((w.alloc (.cells (arrA A) 36)).alloc (.cells (arrA B) 36)) := ((Gro.refl w).alloc _).alloc _
  have HL : Hid (lessA A A = false) := Lib.hid (lexI_refl _)
  have HS := Lib.hid (fun i (h : SameTo A B i) (hi : i < 16) => h.step hi)
  have HW := Lib.hid (fun w1 => eq_ad w1 hA hA)
  obtain ⟨W2, hW2⟩ : ∃ W2, W2 = ((w.alloc (.cells (arrA A) 36)).alloc (.cells (arrA B) 36)) := ⟨_, rfl⟩
  rw [← hW2] at hG h2 h3
  have HA := Lib.hid (fun w1 (hc : Chg [] W2 w1) i (hi : i < 16) => And.intro (blkA (h2.chg hc (by simp)) hi) (blkA (h3.chg hc (by simp)) hi))
  have HE := Lib.hid (fun w1 (hc : Chg [] W2 w1) => And.intro (h2.chg hc (by simp)) (h3.chg hc (by simp)))
  have HG := Lib.hid (And.intro hG (Chg.refl [] W2))
  have HW2 := Lib.hid hW2
  clear hA hB h2 h3 hG hW2
  go_enter Tryz.func96, Tryz.ntmps96
  go_wp2_with fail
  go_loopw [5] (fun iv wr => ∃ k : Nat, k ≤ 16 ∧ iv = .int .i64 k ∧ Hid (SameTo A B k) ∧ Gro w wr ∧ Chg [] W2 wr) (fun iv _ => 16 - (intOf iv).toNat)
  case atStart =>
    have hg := HG.out
    rw [HW2.out] at hg
    exact ⟨0, by omega, rfl, Lib.hid (fun j hj => absurd hj (by omega)), hg.1, by rw [HW2.out]; exact hg.2⟩
  case round =>
    obtain ⟨k, hk, rfl, hs, hgw, hcw⟩ := hrel
    by_cases hlt : k < 16
    · obtain ⟨ca, cb⟩ := HA.out wr hcw k hlt
      obtain ⟨s1, s2⟩ := HS.out k hs.out hlt
      have S1 := Lib.hid s1
      have S2 := Lib.hid s2
      have hkI : (k : Int) < 16 := by omega
      clear HA HS s1 s2 HE HG HW2 HL HW
      generalize A.l[k]?.getD 0 = x at *
      generalize B.l[k]?.getD 0 = y at *
      have hcz : Hid (∀ q, Chg [] W2 (wr.drewN q) ∧ Gro w (wr.drewN q) ∧ (wr.drewN q).cell? ⟨w.heap.size, k, none⟩ = some (.int .u8 x) ∧ (wr.drewN q).cell? ⟨w.heap.size + 1, k, none⟩ = some (.int .u8 y)) := Lib.hid fun q => ⟨hcw.drewN q, hgw.drewN q, ((Chg.refl [] wr).drewN q).cell ca (by simp), ((Chg.refl [] wr).drewN q).cell cb (by simp)⟩
      by_cases hxy : x = y
      · have hb : (x != y) = false := by simp [hxy]
        have hs2 := Lib.hid (S1.out hxy)
        clear S1 S2 hxy
        go_wp2_with fail
        go_quiet (fail)
        obtain ⟨z1, z2, z3, z4⟩ := hcz.out nq
        go_wp2_with fail
        go_roundw
        case rel => exact ⟨k + 1, by omega, by go_num, hs2, z2, z1⟩
        case measure => simp [intOf]; omega
      · have hb : (x != y) = true := by simp [hxy]
        have hs2 := Lib.hid (S2.out hxy)
        clear S1 S2 hxy
        go_wp2_with fail
        go_quiet (fail)
        obtain ⟨z1, z2, z3, z4⟩ := hcz.out nq
        generalize wr.drewN nq = w5 at *
        clear hcz ca cb
        go_wp2_with fail
        go_quiet (fail)
        go_wp2_with fail
        go_ret
        exact ⟨by rw [hs2.out]; rfl, z2.drewN _⟩
    · obtain rfl : k = 16 := by omega
      obtain rfl := hs.out.all
      obtain ⟨b2, b3⟩ := HE.out wr hcw
      have hl := HL.out
      go_wp2_with fail
      go_ret
      exact ⟨rfl, hgw⟩
end Go.Proofs.YtldgdpekhjignaaGreat
