/-
  WALKS over the document's answer of chapter 44: Find, with. Condition: at most 300 flows.
-/
import Derived.Test.YtgbdbeaflilmlaaModelR
set_option linter.unusedVariables false
set_option linter.unusedSimpArgs false
namespace Go.Proofs.Ytgbdbeaflilmlaa
open Go.RowKit Go.Maps

/-- A flow's life as the document has it: its row of nodes lies in the slice v. -/
structure Rf where
  f : Fl
  x : Lf
  v : Value
deriving Inhabited
def encR (r : Rf) : List Value := encF r.f ++ [.int .i64 r.x.st, .int .i64 r.x.ow, r.v]
@[reducible] def arrR (r : Rf) : Array Value := #[.int .u8 r.f.src.a0, .int .u8 r.f.src.a1, .int .u8 r.f.src.a2, .int .u8 r.f.src.a3, .int .u8 r.f.src.a4, .int .u8 r.f.src.a5, .int .u8 r.f.src.a6, .int .u8 r.f.src.a7, .int .u8 r.f.src.a8, .int .u8 r.f.src.a9, .int .u8 r.f.src.a10, .int .u8 r.f.src.a11, .int .u8 r.f.src.a12, .int .u8 r.f.src.a13, .int .u8 r.f.src.a14, .int .u8 r.f.src.a15, .int .i64 r.f.sport, .int .u8 r.f.dst.a0, .int .u8 r.f.dst.a1, .int .u8 r.f.dst.a2, .int .u8 r.f.dst.a3, .int .u8 r.f.dst.a4, .int .u8 r.f.dst.a5, .int .u8 r.f.dst.a6, .int .u8 r.f.dst.a7, .int .u8 r.f.dst.a8, .int .u8 r.f.dst.a9, .int .u8 r.f.dst.a10, .int .u8 r.f.dst.a11, .int .u8 r.f.dst.a12, .int .u8 r.f.dst.a13, .int .u8 r.f.dst.a14, .int .u8 r.f.dst.a15, .int .i64 r.f.dport, .int .i64 r.x.st, .int .i64 r.x.ow, r.v]
theorem arrR_list (r : Rf) : (arrR r).toList = encR r := rfl
theorem encR_len (r : Rf) : (encR r).length = 37 := rfl
theorem infR {r : Rf} : (Try.prog.info? 78).map (·.size) = some (arrR r).size := by
  show _ = some 37
  kernel_rfl
def okR (w : World) (B : Nat) (r : Rf) : Prop := okF r.f ∧ SlZ w B r.v r.x.ls ∧ r.x.ls.Pairwise (· < ·)
/-- The slice v reads as the lives R. -/
def SlR (w : World) (B : Nat) (v : Value) (R : List Rf) : Prop := Sl w B 37 v R.length (R.flatMap encR) ∧ ∀ r ∈ R, okR w B r
theorem okR.chg {w w' : World} {B : Nat} {r : Rf} {S : List Nat} (h : okR w B r) (hc : Chg S w w') (hS : ∀ x ∈ S, x < B) : okR w' B r := ⟨h.1, Sl.chg h.2.1 hc hS, h.2.2⟩
theorem SlR.chg {w w' : World} {B : Nat} {v : Value} {R : List Rf} {S : List Nat} (h : SlR w B v R) (hc : Chg S w w') (hS : ∀ x ∈ S, x < B) : SlR w' B v R := ⟨Sl.chg h.1 hc hS, fun r hr => (h.2 r hr).chg hc hS⟩
theorem SlR.chg0 {w w' : World} {B : Nat} {v : Value} {R : List Rf} (h : SlR w B v R) (hc : Chg [] w w') : SlR w' B v R := h.chg hc (by simp)
theorem okR.one {w : World} {B : Nat} {r : Rf} (h : okR w B r) : ∀ u ∈ encR r, u.oneCell' = true := by
  obtain ⟨A, c, hv⟩ := Sl.form h.2.1
  intro u hu
  simp only [encR, List.mem_append, List.mem_cons, List.not_mem_nil, or_false] at hu
  rcases hu with hu | rfl | rfl | rfl
  · exact encF_one _ u hu
  · rfl
  · rfl
  · rw [hv]; rfl
theorem okR.oneA {w : World} {B : Nat} {r : Rf} (h : okR w B r) : (arrR r).toList.all (·.oneCell') = true := by
  rw [arrR_list, List.all_eq_true]; exact h.one
theorem SlR.one {w : World} {B n c : Nat} {A : Option Addr} {R : List Rf} (h : SlR w B (.slice A n c) R) (hn : R.length = n) {i : Nat} {r : Rf} (hr : R[i]? = some r) :
    ∃ b o, A = some ⟨b, o, none⟩ ∧ w.rangeAt b (o + i * 37) (arrR r).toList := by
  obtain ⟨b, o, c', hv, _, _, hc⟩ := Sl.rec encR_len (by omega) h.1 hr
  simp only [Value.slice.injEq] at hv
  obtain ⟨rfl, _, _⟩ := hv
  refine ⟨b, o, rfl, fun j u hu => ?_⟩
  have hj : j < 37 := by have := (List.getElem?_eq_some_iff.1 hu).1; exact this
  rw [Nat.add_assoc, hc j hj]
  exact hu
/-- The parts of a life's cells. -/
theorem rg_fl {w : World} {b o : Nat} {r : Rf} (h : w.rangeAt b o (arrR r).toList) : w.rangeAt b o (arrF r.f).toList := fun j u hu => by
  have hj : j < 34 := (List.getElem?_eq_some_iff.1 hu).1
  refine h j u ?_
  show (encR r)[j]? = some u
  unfold encR
  rw [List.getElem?_append_left (by rw [encF_len]; exact hj)]
  exact hu
theorem rg_st {w : World} {b o : Nat} {r : Rf} (h : w.rangeAt b o (arrR r).toList) : w.cell? ⟨b, o + 34, none⟩ = some (.int .i64 r.x.st) := h 34 _ rfl
theorem rg_ow {w : World} {b o : Nat} {r : Rf} (h : w.rangeAt b o (arrR r).toList) : w.cell? ⟨b, o + 35, none⟩ = some (.int .i64 r.x.ow) := h 35 _ rfl
theorem rg_ls {w : World} {b o : Nat} {r : Rf} (h : w.rangeAt b o (arrR r).toList) : w.cell? ⟨b, o + 36, none⟩ = some r.v := h 36 _ rfl
def noR (f : Fl) : Rf := ⟨f, zL, .slice none 0 0⟩
def findR44 (R : List Rf) (f : Fl) : Rf := (R.find? fun r => decide (r.f = f)).getD (noR f)
@[reducible] def arrZ78 : Array Value := #[.int .u8 0, .int .u8 0, .int .u8 0, .int .u8 0, .int .u8 0, .int .u8 0, .int .u8 0, .int .u8 0, .int .u8 0, .int .u8 0, .int .u8 0, .int .u8 0, .int .u8 0, .int .u8 0, .int .u8 0, .int .u8 0, .int .i64 0, .int .u8 0, .int .u8 0, .int .u8 0, .int .u8 0, .int .u8 0, .int .u8 0, .int .u8 0, .int .u8 0, .int .u8 0, .int .u8 0, .int .u8 0, .int .u8 0, .int .u8 0, .int .u8 0, .int .u8 0, .int .u8 0, .int .i64 0, .int .i64 0, .int .i64 0, .slice none 0 0]
theorem boxR (w : World) : (zeroValue 78).run Try.prog w = .ok (.agg (arrR (noR zF))) w := by kernel_rfl
theorem find_hit {R : List Rf} {f : Fl} {i : Nat} {r : Rf} (hr : R[i]? = some r) (he : r.f = f) (hno : ∀ j y, j < i → R[j]? = some y → ¬ y.f = f) : findR44 R f = r := by
  have : R.find? (fun r => decide (r.f = f)) = some r := by
    obtain ⟨hi, rfl⟩ := List.getElem?_eq_some_iff.1 hr
    rw [List.find?_eq_some_iff_getElem]
    exact ⟨by simpa using he, i, hi, rfl, fun j hj => by simpa using hno j _ hj (List.getElem?_eq_getElem (by omega))⟩
  unfold findR44
  rw [this]; rfl
theorem find_miss {R : List Rf} {f : Fl} (hno : ∀ r ∈ R, ¬ r.f = f) : findR44 R f = noR f := by
  have : R.find? (fun r => decide (r.f = f)) = none := by
    rw [List.find?_eq_none]
    intro r hr; simpa using hno r hr
  unfold findR44
  rw [this]; rfl
set_option maxRecDepth 100000 in
set_option maxHeartbeats 1000000 in
theorem rfind_any {w : World} {B : Nat} {v : Value} {R : List Rf} (h : SlR w B v R) (hR : R.length ≤ 300) {f : Fl} (hf : okF f) :
    Calls Try.prog 27 #[v, f.v] w fun e w' => e = .returned (.agg (arrR (findR44 R f))) ∧ Chg [] w w' := by
  obtain ⟨A, c, rfl⟩ := Sl.form h.1
  have hcA := ((Chg.refl [] w).alloc (.cells (arrF f) 73)).alloc (.cells arrZ78 78)
  have hBf : Blk ((w.alloc (.cells (arrF f) 73)).alloc (.cells arrZ78 78)) w.heap.size 73 (arrF f) := (Blk.new _ _ _).alloc _
  have hBl : Blk ((w.alloc (.cells (arrF f) 73)).alloc (.cells arrZ78 78)) (w.heap.size + 1) 78 arrZ78 := Blk.new' (by simp)
  have HI := Lib.hid (And.intro hcA (And.intro hBf hBl))
  have HR := Lib.hid (fun W (hc : Chg [] w W) i (r : Rf) (hr : R[i]? = some r) => SlR.one (h.chg0 hc) rfl hr)
  have HX : Hid (∀ i, i < R.length → ∃ r, R[i]? = some r ∧ okR w B r) := Lib.hid fun i hi => ⟨_, List.getElem?_eq_getElem hi, h.2 _ (List.getElem_mem hi)⟩
  clear h hcA hBf hBl
  generalize hN : R.length = N at *
  have HNN : Hid (R.length = N) := Lib.hid hN
  clear hN
  go_enter Try.func27, Try.ntmps27
  go_upto_region 1 with fail
  generalize (w.alloc (.cells (arrF f) 73)).alloc (.cells arrZ78 78) = w1 at *
  generalize hg : w.heap.size = gf at *
  go_wp2_with fail
  go_loopw [5] (fun iv wr => ∃ k : Nat, k ≤ N ∧ iv = .int .i64 k ∧ Hid (Chg [] w1 wr) ∧ Hid (∀ i y, i < k → R[i]? = some y → ¬ y.f = f)) (fun iv _ => N - (intOf iv).toNat)
  case atStart => exact ⟨0, by omega, rfl, Lib.hid (Chg.refl _ _), Lib.hid (fun i t hi => by omega)⟩
  case round =>
    obtain ⟨k, hk, rfl, HC, HK⟩ := hrel
    by_cases hlt : k < N
    · obtain ⟨r, hr, hok⟩ := HX.out k hlt
      obtain ⟨b, o, rfl, hrg⟩ := HR.out _ (HI.out.1.trans HC.out) k r hr
      have R1 := Lib.hid (fun W (hc : Chg [] wr W) => rg_fl (rangeAt_chg hrg hc (by simp)))
      have R2 := Lib.hid (fun W (hc : Chg [] wr W) => ((HI.out.2.1.chg (HC.out.trans hc) (by simp)).rangeQ))
      have R3 := Lib.hid (fun W (hc : Chg [] wr W) => (rangeAt_chg hrg hc (by simp)))
      have hE1 := fun W => eq_fl W hok.1 hf
      have HY := Lib.hid (And.intro hr hok)
      clear hr hok hrg
      go_upto_region 4 with fail
      by_cases he : r.f = f
      · have hfd := Lib.hid (find_hit HY.out.1 he HK.out)
        rw [decide_eq_true he] at hE1
        clear he
        refine wp_region_chg (by kernel_rfl) (by kernel_rfl) ?_
        (with_reducible refine wpQuiet_pure (v := ?_) ?_ (fun w => ?_) ?_); rotate_left; (focus rfl); (focus (go_simp <;> with_reducible rfl)); (try simp only [List.getElem_toArray, List.getElem_cons_succ, List.getElem_cons_zero, Act.put, List.setIfInBounds_toArray, List.set_cons_zero, List.set_cons_succ])
        (with_reducible refine wpQuiet_pure (v := ?_) ?_ (fun w => ?_) ?_); rotate_left; (focus rfl); (focus (go_simp <;> with_reducible rfl)); (try simp only [List.getElem_toArray, List.getElem_cons_succ, List.getElem_cons_zero, Act.put, List.setIfInBounds_toArray, List.set_cons_zero, List.set_cons_succ])
        (with_reducible refine wpQuiet_pure (v := ?_) ?_ (fun w => ?_) ?_); rotate_left; (focus rfl); (focus (go_simp <;> with_reducible rfl)); (try simp only [List.getElem_toArray, List.getElem_cons_succ, List.getElem_cons_zero, Act.put, List.setIfInBounds_toArray, List.set_cons_zero, List.set_cons_succ])
        (with_reducible refine wpQuiet_pure (v := ?_) ?_ (fun w => ?_) ?_); rotate_left; (focus rfl); (focus (go_simp <;> with_reducible rfl)); (try simp only [List.getElem_toArray, List.getElem_cons_succ, List.getElem_cons_zero, Act.put, List.setIfInBounds_toArray, List.set_cons_zero, List.set_cons_succ])
        (with_reducible refine wpQuiet_rowC 73 (.tmp 15) ?_ ?_ b _ ?_ (arrF r.f) _ R1.out Try.underlying73 ?_ infF ?_); (focus rfl); (focus rfl); (focus rfl); (focus rfl); (try simp only [List.getElem_toArray, List.getElem_cons_succ, List.getElem_cons_zero, Act.put, List.setIfInBounds_toArray, List.set_cons_zero, List.set_cons_succ])
        (with_reducible refine wpQuiet_rowC 73 (.tmp 3) ?_ ?_ gf 0 ?_ (arrF f) _ R2.out Try.underlying73 ?_ infF ?_); (focus rfl); (focus rfl); (focus rfl); (focus rfl); (try simp only [List.getElem_toArray, List.getElem_cons_succ, List.getElem_cons_zero, Act.put, List.setIfInBounds_toArray, List.set_cons_zero, List.set_cons_succ])
        (with_reducible refine wpQuiet_pure (v := ?_) ?_ (fun w => ?_) ?_); rotate_left; (focus rfl); (focus (go_simp <;> with_reducible rfl)); (try simp only [List.getElem_toArray, List.getElem_cons_succ, List.getElem_cons_zero, Act.put, List.setIfInBounds_toArray, List.set_cons_zero, List.set_cons_succ])
        refine wpQuiet_nil ?_
        intro w2 hc2
        have r3 := R3.out w2 hc2
        have hBl := HI.out.2.2.chg (HC.out.trans hc2) (by simp)
        have HC2 := Lib.hid (HI.out.1.trans (HC.out.trans hc2))
        have ho := Lib.hid HY.out.2.oneA
        clear hc2 R1 R2
        go_wp2_with (first
          | (refine wpList_row 78 (.tmp 21) rfl rfl b _ rfl (arrR r) _ r3 Try.underlying78 rfl infR ?_)
          | (refine wpList_store_blk rfl 78 _ _ rfl rfl hBl rfl rfl rfl (infR (r := r)) ho.out ?_; intro w5 hB5 hc5)
          | fail)
        exact bodyPost_ret (results_blk rfl rfl hB5 _ Try.underlying78 rfl (by kernel_rfl)) rfl ⟨by rw [hfd.out], HC2.out.trans' hc5 (by intro y hy; simp at hy; subst hy; exact .inr (by omega))⟩
      · rw [decide_eq_false he] at hE1
        refine wp_region_chg (by kernel_rfl) (by kernel_rfl) ?_
        (with_reducible refine wpQuiet_pure (v := ?_) ?_ (fun w => ?_) ?_); rotate_left; (focus rfl); (focus (go_simp <;> with_reducible rfl)); (try simp only [List.getElem_toArray, List.getElem_cons_succ, List.getElem_cons_zero, Act.put, List.setIfInBounds_toArray, List.set_cons_zero, List.set_cons_succ])
        (with_reducible refine wpQuiet_pure (v := ?_) ?_ (fun w => ?_) ?_); rotate_left; (focus rfl); (focus (go_simp <;> with_reducible rfl)); (try simp only [List.getElem_toArray, List.getElem_cons_succ, List.getElem_cons_zero, Act.put, List.setIfInBounds_toArray, List.set_cons_zero, List.set_cons_succ])
        (with_reducible refine wpQuiet_pure (v := ?_) ?_ (fun w => ?_) ?_); rotate_left; (focus rfl); (focus (go_simp <;> with_reducible rfl)); (try simp only [List.getElem_toArray, List.getElem_cons_succ, List.getElem_cons_zero, Act.put, List.setIfInBounds_toArray, List.set_cons_zero, List.set_cons_succ])
        (with_reducible refine wpQuiet_pure (v := ?_) ?_ (fun w => ?_) ?_); rotate_left; (focus rfl); (focus (go_simp <;> with_reducible rfl)); (try simp only [List.getElem_toArray, List.getElem_cons_succ, List.getElem_cons_zero, Act.put, List.setIfInBounds_toArray, List.set_cons_zero, List.set_cons_succ])
        (with_reducible refine wpQuiet_rowC 73 (.tmp 15) ?_ ?_ b _ ?_ (arrF r.f) _ R1.out Try.underlying73 ?_ infF ?_); (focus rfl); (focus rfl); (focus rfl); (focus rfl); (try simp only [List.getElem_toArray, List.getElem_cons_succ, List.getElem_cons_zero, Act.put, List.setIfInBounds_toArray, List.set_cons_zero, List.set_cons_succ])
        (with_reducible refine wpQuiet_rowC 73 (.tmp 3) ?_ ?_ gf 0 ?_ (arrF f) _ R2.out Try.underlying73 ?_ infF ?_); (focus rfl); (focus rfl); (focus rfl); (focus rfl); (try simp only [List.getElem_toArray, List.getElem_cons_succ, List.getElem_cons_zero, Act.put, List.setIfInBounds_toArray, List.set_cons_zero, List.set_cons_succ])
        (with_reducible refine wpQuiet_pure (v := ?_) ?_ (fun w => ?_) ?_); rotate_left; (focus rfl); (focus (go_simp <;> with_reducible rfl)); (try simp only [List.getElem_toArray, List.getElem_cons_succ, List.getElem_cons_zero, Act.put, List.setIfInBounds_toArray, List.set_cons_zero, List.set_cons_succ])
        refine wpQuiet_nil ?_
        intro w2 hc2
        have HC2 := Lib.hid (HC.out.trans hc2)
        have HE := Lib.hid he
        clear hc2 R1 R2 R3 he
        go_wp2_with fail
        go_roundw
        case rel =>
          refine ⟨k + 1, by omega, by go_num, HC2, Lib.hid fun i t hi ht => ?_⟩
          rcases Nat.lt_or_ge i k with h1 | h1
          · exact HK.out i t h1 ht
          · rw [show i = k by omega, HY.out.1] at ht
            injection ht with ht; subst ht; exact HE.out
        case measure => simp [intOf]; omega
    · obtain rfl : k = N := by omega
      have hfd := Lib.hid (find_miss (R := R) (f := f) (fun r hr => by
        obtain ⟨i, hi, rfl⟩ := List.mem_iff_getElem.1 hr
        exact HK.out i _ (by have := HNN.out; omega) (List.getElem?_eq_getElem hi)))
      have r2 := (HI.out.2.1.chg HC.out (by simp)).rangeQ
      have hBl := HI.out.2.2.chg HC.out (by simp)
      go_wp2_with (first
        | (refine wpList_row 73 (.tmp 3) rfl rfl gf 0 rfl (arrF f) _ r2 Try.underlying73 rfl infF ?_)
        | (refine wpList_store_blk rfl 78 _ _ rfl rfl hBl rfl rfl rfl (infR (r := noR f)) rfl ?_; intro w5 hB5 hc5)
        | fail)
      exact bodyPost_ret (results_blk rfl rfl hB5 _ Try.underlying78 rfl (by kernel_rfl)) rfl ⟨by rw [hfd.out]; rfl, (HI.out.1.trans HC.out).trans' hc5 (by intro y hy; simp at hy; subst hy; exact .inr (by omega))⟩
end Go.Proofs.Ytgbdbeaflilmlaa
