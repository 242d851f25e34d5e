/-
  WALKS: the document's answer for the flow table, function by function, but its tick. Conditions: the table is one that New made, and its numbers are not great.
-/
import Derived.Test.YtldgdpekhjignaaGreatFtRc
import Derived.Test.YtldgdpekhjignaaGreatFtS
import Derived.Test.YtldgdpekhjignaaGreatCut
set_option linter.unusedVariables false
set_option linter.unusedSimpArgs false
namespace Go.Proofs.YtldgdpekhjignaaGreat.Ft
open Go.RowKit Go.Maps

@[reducible] def arrR (n now : Int) (v : Value) (c : Cn) : Array Value := #[.int .i64 n, .int .i64 now, v, .int .i64 c.hits, .int .i64 c.misses, .int .i64 c.learnt, .int .i64 c.evicted, .int .i64 c.expired, .int .i64 c.clashes]
theorem infR {n now : Int} {v : Value} {c : Cn} : (Tryz.prog.info? 51).map (·.size) = some (arrR n now v c).size := by
  show _ = some 9
  kernel_rfl
theorem infE2 {e : En} : (Tryz.prog.info? 54).map (·.size) = some (arrE e).size := by
  show _ = some 37
  kernel_rfl
theorem elEr : El Tryz.prog 48 54 (.agg (arrE ⟨⟨⟨0, 0, 0, 0, 0, 0, 0, 0, 0, 0, 0, 0, 0, 0, 0, 0⟩, 0, ⟨0, 0, 0, 0, 0, 0, 0, 0, 0, 0, 0, 0, 0, 0, 0, 0⟩, 0⟩, 0, 0, 0⟩)) 37 72 := ⟨Tryz.underlying48, by kernel_rfl, rfl, by omega⟩
/-- The row v holds the entries L. -/
def RL (w : World) (v : Value) (L : List En) : Prop := w.ownsRow 0 54 37 v L.length (L.flatMap encE)
theorem RL.chg0 {w w' : World} {v : Value} {L : List En} (h : RL w v L) (hc : Chg [] w w') : RL w' v L := own_chg h hc (by simp)
theorem RL.chg {w w' : World} {v : Value} {L : List En} {S : List Nat} (h : RL w v L) (hc : Chg S w w') (hS : ∀ x ∈ v.ownBlock.toList, x ∉ S) : RL w' v L := own_chg h hc hS
theorem RL.nil (w : World) : RL w (.slice none 0 0) [] := World.ownsRow_nil ..
theorem RL.one {w : World} {A : Option Addr} {n c : Nat} {l : List En} (h : RL w (.slice A n c) l) {i : Nat} {x : En} (hx : l[i]? = some x) : ∃ b o, A = some ⟨b, o, none⟩ ∧ w.rangeAt b (o + i * 37) (arrE x).toList := by
  obtain ⟨b, o, c', hv, hr, _⟩ := row_fl (Sl.of_own h) hx
  simp only [Value.slice.injEq] at hv
  obtain ⟨rfl, _, _⟩ := hv
  exact ⟨b, o, rfl, hr⟩
def idxE (L : List En) (f : Fl) : Option Nat := L.findIdx? fun e => decide (e.fl = f)
def idxV (o : Option Nat) : Int := match o with | none => -1 | some i => i
theorem idx_hit {L : List En} {f : Fl} {i : Nat} {e : En} (he : L[i]? = some e) (hf : e.fl = f) (hno : ∀ j y, j < i → L[j]? = some y → ¬ y.fl = f) : idxE L f = some i := by
  unfold idxE
  obtain ⟨hi, rfl⟩ := List.getElem?_eq_some_iff.1 he
  rw [List.findIdx?_eq_some_iff_getElem]
  exact ⟨hi, by simpa using hf, fun j hj => by simpa using hno j _ hj (List.getElem?_eq_getElem (by omega))⟩
theorem idx_none {L : List En} {f : Fl} : idxE L f = none ↔ ∀ e ∈ L, ¬ e.fl = f := by
  unfold idxE
  rw [List.findIdx?_eq_none_iff]
  simp
theorem idx_some {L : List En} {f : Fl} {i : Nat} (h : idxE L f = some i) : ∃ e, L[i]? = some e ∧ e.fl = f := by
  unfold idxE at h
  rw [List.findIdx?_eq_some_iff_getElem] at h
  obtain ⟨hi, h1, _⟩ := h
  exact ⟨_, List.getElem?_eq_getElem hi, by simpa using h1⟩
theorem idx_get_none {L : List En} {f : Fl} (h : idxE L f = none) : getE L f = none := by
  rw [idx_none] at h
  unfold getE
  exact List.find?_eq_none.2 (fun e he => by simpa using h e he)
/-- Without the entry at a place. -/
def woL (L : List En) (i : Nat) : List En := L.take i ++ L.drop (i + 1)
theorem split_at {L : List En} {i : Nat} {e : En} (h : L[i]? = some e) : L = L.take i ++ e :: L.drop (i + 1) := by
  obtain ⟨hi, rfl⟩ := List.getElem?_eq_some_iff.1 h
  rw [← List.drop_eq_getElem_cons hi, List.take_append_drop]
theorem out_idx {L : List En} (hn : (L.map En.fl).Nodup) {i : Nat} {e : En} (h : L[i]? = some e) : outE L e.fl = woL L i := by
  have hs := split_at h
  have hn2 := hn
  rw [hs, List.map_append, List.map_cons, List.nodup_append] at hn2
  obtain ⟨_, h2, h3⟩ := hn2
  have h4 := (List.nodup_cons.1 h2).1
  have e1 : outE (L.take i) e.fl = L.take i := by
    unfold outE
    rw [List.filter_eq_self]
    intro x hx
    have : ¬ x.fl = e.fl := fun q => h3 x.fl (List.mem_map.2 ⟨x, hx, rfl⟩) e.fl (by simp) q
    simp [this]
  have e2 : outE (L.drop (i + 1)) e.fl = L.drop (i + 1) := by
    unfold outE
    rw [List.filter_eq_self]
    intro x hx
    have : ¬ x.fl = e.fl := fun q => h4 (List.mem_map.2 ⟨x, hx, q⟩)
    simp [this]
  have e3 : outE L e.fl = outE (L.take i) e.fl ++ outE (e :: L.drop (i + 1)) e.fl := by
    have : outE L e.fl = outE (L.take i ++ e :: L.drop (i + 1)) e.fl := by rw [← hs]
    rw [this]
    unfold outE
    rw [List.filter_append]
  have e4 : outE (e :: L.drop (i + 1)) e.fl = outE (L.drop (i + 1)) e.fl := by
    unfold outE
    rw [List.filter_cons]
    simp
  rw [e3, e4, e1, e2]
  rfl
theorem woL_len {L : List En} {i : Nat} (h : i < L.length) : (woL L i).length = L.length - 1 := by
  unfold woL; rw [List.length_append, List.length_take, List.length_drop]; omega
theorem woL_last {L : List En} (h : 0 < L.length) : woL L (L.length - 1) = L.dropLast := by
  unfold woL
  rw [List.drop_of_length_le (by omega), List.append_nil, List.dropLast_eq_take]
theorem woL_mem {L : List En} {i : Nat} {x : En} (h : x ∈ woL L i) : x ∈ L := by
  rcases List.mem_append.1 h with h | h
  · exact List.mem_of_mem_take h
  · exact List.mem_of_mem_drop h
set_option maxRecDepth 100000 in
set_option maxHeartbeats 1000000 in
theorem rfind_any {w : World} {v : Value} {L : List En} {n now : Int} {c : Cn} (h : RL w v L) (hok : ∀ e ∈ L, okF e.fl) (hL : L.length ≤ 64) {f : Fl} (hf : okF f) :
    Calls Tryz.prog 16 #[.agg (arrR n now v c), f.v] w fun e w' => e = .returned (.int .i64 (idxV (idxE L f))) ∧ Chg [] w w' := by
  obtain ⟨A, cp, rfl⟩ := Sl.form (Sl.of_own h)
  have hcA := ((Chg.refl [] w).alloc (.cells (arrR n now (.slice A L.length cp) c) 51)).alloc (.cells (arrF f) 38)
  have hBt : Blk ((w.alloc (.cells (arrR n now (.slice A L.length cp) c) 51)).alloc (.cells (arrF f) 38)) w.heap.size 51 (arrR n now (.slice A L.length cp) c) := (Blk.new _ _ _).alloc _
  have hBf : Blk ((w.alloc (.cells (arrR n now (.slice A L.length cp) c) 51)).alloc (.cells (arrF f) 38)) (w.heap.size + 1) 38 (arrF f) := Blk.new' (by simp)
  have HI := Lib.hid (And.intro hcA (And.intro hBt hBf))
  have HR := Lib.hid (fun W (hc : Chg [] w W) i (r : En) (hr : L[i]? = some r) => RL.one (h.chg0 hc) hr)
  have HX : Hid (∀ i, i < L.length → ∃ r, L[i]? = some r ∧ okF r.fl) := Lib.hid fun i hi => ⟨_, List.getElem?_eq_getElem hi, hok _ (List.getElem_mem hi)⟩
  clear h hok hcA hBt hBf
  generalize hN : L.length = N at *
  have HNN : Hid (L.length = N) := Lib.hid hN
  clear hN
  go_enter Tryz.func16, Tryz.ntmps16
  go_upto_region 1 with fail
  generalize (w.alloc (.cells (arrR n now (.slice A N cp) c) 51)).alloc (.cells (arrF f) 38) = w1 at *
  generalize hg : w.heap.size = gt at *
  go_wp2_with fail
  go_loopw [5] (fun iv wr => ∃ k : Nat, k ≤ N ∧ iv = .int .i64 k ∧ Hid (Chg [] w1 wr) ∧ Hid (∀ i y, i < k → L[i]? = some y → ¬ y.fl = f)) (fun iv _ => N - (intOf iv).toNat)
  case atStart => exact ⟨0, by omega, rfl, Lib.hid (Chg.refl _ _), Lib.hid (fun i t hi => by omega)⟩
  case round =>
    obtain ⟨k, hk, rfl, HC, HK⟩ := hrel
    have c2 : wr.cell? ⟨gt, 2, none⟩ = some (.slice A N cp) := (HI.out.2.1.chg HC.out (by simp)).cell 2
    by_cases hlt : k < N
    · obtain ⟨r, hr, hok⟩ := HX.out k hlt
      obtain ⟨b, o, rfl, hrg⟩ := HR.out _ (HI.out.1.trans HC.out) k r hr
      have R1 := Lib.hid (fun W (hc : Chg [] wr W) => rgE_fl (rangeAt_chg hrg hc (by simp)))
      have R2 := Lib.hid (fun W (hc : Chg [] wr W) => ((HI.out.2.2.chg (HC.out.trans hc) (by simp)).rangeQ))
      have R3 : Hid (∀ W (hc : Chg [] wr W), W.cell? ⟨gt, 2, none⟩ = some (.slice (some ⟨b, o, none⟩) N cp)) := Lib.hid (fun W hc => hc.cell c2 (by simp))
      have hE1 := fun W => eq_fl W hok hf
      have HY := Lib.hid (And.intro hr hok)
      clear hr hok hrg
      go_upto_region 4 with fail
      clear c2
      by_cases he : r.fl = f
      · have hfd := Lib.hid (idx_hit HY.out.1 he HK.out)
        rw [decide_eq_true he] at hE1
        clear he
        refine wp_region_chg (by kernel_rfl) (by kernel_rfl) ?_
        (with_reducible refine wpQuiet_pure (v := ?_) ?_ (fun w => ?_) ?_); rotate_left; (focus rfl); (focus (go_simp <;> with_reducible rfl)); (try simp only [List.getElem_toArray, List.getElem_cons_succ, List.getElem_cons_zero, Act.put, List.setIfInBounds_toArray, List.set_cons_zero, List.set_cons_succ])
        (with_reducible refine wpQuiet_cellC 48 (.tmp 13) ?_ ?_ gt 2 ?_ (.slice (some ⟨b, o, none⟩) N cp) _ R3.out Tryz.underlying48 ?_ ?_); (focus rfl); (focus rfl); (focus rfl); (focus rfl); (try simp only [List.getElem_toArray, List.getElem_cons_succ, List.getElem_cons_zero, Act.put, List.setIfInBounds_toArray, List.set_cons_zero, List.set_cons_succ])
        (with_reducible refine wpQuiet_pure (v := ?_) ?_ (fun w => ?_) ?_); rotate_left; (focus rfl); (focus (go_simp <;> with_reducible rfl)); (try simp only [List.getElem_toArray, List.getElem_cons_succ, List.getElem_cons_zero, Act.put, List.setIfInBounds_toArray, List.set_cons_zero, List.set_cons_succ])
        (with_reducible refine wpQuiet_pure (v := ?_) ?_ (fun w => ?_) ?_); rotate_left; (focus rfl); (focus (go_simp <;> with_reducible rfl)); (try simp only [List.getElem_toArray, List.getElem_cons_succ, List.getElem_cons_zero, Act.put, List.setIfInBounds_toArray, List.set_cons_zero, List.set_cons_succ])
        (with_reducible refine wpQuiet_pure (v := ?_) ?_ (fun w => ?_) ?_); rotate_left; (focus rfl); (focus (go_simp <;> with_reducible rfl)); (try simp only [List.getElem_toArray, List.getElem_cons_succ, List.getElem_cons_zero, Act.put, List.setIfInBounds_toArray, List.set_cons_zero, List.set_cons_succ])
        (with_reducible refine wpQuiet_rowC 38 (.tmp 17) ?_ ?_ b _ ?_ (arrF r.fl) _ R1.out Tryz.underlying38 ?_ infF ?_); (focus rfl); (focus rfl); (focus rfl); (focus rfl); (try simp only [List.getElem_toArray, List.getElem_cons_succ, List.getElem_cons_zero, Act.put, List.setIfInBounds_toArray, List.set_cons_zero, List.set_cons_succ])
        (with_reducible refine wpQuiet_rowC 38 (.tmp 3) ?_ ?_ (gt + 1) 0 ?_ (arrF f) _ R2.out Tryz.underlying38 ?_ infF ?_); (focus rfl); (focus rfl); (focus rfl); (focus rfl); (try simp only [List.getElem_toArray, List.getElem_cons_succ, List.getElem_cons_zero, Act.put, List.setIfInBounds_toArray, List.set_cons_zero, List.set_cons_succ])
        (with_reducible refine wpQuiet_pure (v := ?_) ?_ (fun w => ?_) ?_); rotate_left; (focus rfl); (focus (go_simp <;> with_reducible rfl)); (try simp only [List.getElem_toArray, List.getElem_cons_succ, List.getElem_cons_zero, Act.put, List.setIfInBounds_toArray, List.set_cons_zero, List.set_cons_succ])
        refine wpQuiet_nil ?_
        intro w2 hc2
        have HC2 := Lib.hid (HI.out.1.trans (HC.out.trans hc2))
        clear hc2 R1 R2 R3
        go_wp2_with fail
        go_ret
        rw [hfd.out]
        exact ⟨rfl, HC2.out⟩
      · rw [decide_eq_false he] at hE1
        refine wp_region_chg (by kernel_rfl) (by kernel_rfl) ?_
        (with_reducible refine wpQuiet_pure (v := ?_) ?_ (fun w => ?_) ?_); rotate_left; (focus rfl); (focus (go_simp <;> with_reducible rfl)); (try simp only [List.getElem_toArray, List.getElem_cons_succ, List.getElem_cons_zero, Act.put, List.setIfInBounds_toArray, List.set_cons_zero, List.set_cons_succ])
        (with_reducible refine wpQuiet_cellC 48 (.tmp 13) ?_ ?_ gt 2 ?_ (.slice (some ⟨b, o, none⟩) N cp) _ R3.out Tryz.underlying48 ?_ ?_); (focus rfl); (focus rfl); (focus rfl); (focus rfl); (try simp only [List.getElem_toArray, List.getElem_cons_succ, List.getElem_cons_zero, Act.put, List.setIfInBounds_toArray, List.set_cons_zero, List.set_cons_succ])
        (with_reducible refine wpQuiet_pure (v := ?_) ?_ (fun w => ?_) ?_); rotate_left; (focus rfl); (focus (go_simp <;> with_reducible rfl)); (try simp only [List.getElem_toArray, List.getElem_cons_succ, List.getElem_cons_zero, Act.put, List.setIfInBounds_toArray, List.set_cons_zero, List.set_cons_succ])
        (with_reducible refine wpQuiet_pure (v := ?_) ?_ (fun w => ?_) ?_); rotate_left; (focus rfl); (focus (go_simp <;> with_reducible rfl)); (try simp only [List.getElem_toArray, List.getElem_cons_succ, List.getElem_cons_zero, Act.put, List.setIfInBounds_toArray, List.set_cons_zero, List.set_cons_succ])
        (with_reducible refine wpQuiet_pure (v := ?_) ?_ (fun w => ?_) ?_); rotate_left; (focus rfl); (focus (go_simp <;> with_reducible rfl)); (try simp only [List.getElem_toArray, List.getElem_cons_succ, List.getElem_cons_zero, Act.put, List.setIfInBounds_toArray, List.set_cons_zero, List.set_cons_succ])
        (with_reducible refine wpQuiet_rowC 38 (.tmp 17) ?_ ?_ b _ ?_ (arrF r.fl) _ R1.out Tryz.underlying38 ?_ infF ?_); (focus rfl); (focus rfl); (focus rfl); (focus rfl); (try simp only [List.getElem_toArray, List.getElem_cons_succ, List.getElem_cons_zero, Act.put, List.setIfInBounds_toArray, List.set_cons_zero, List.set_cons_succ])
        (with_reducible refine wpQuiet_rowC 38 (.tmp 3) ?_ ?_ (gt + 1) 0 ?_ (arrF f) _ R2.out Tryz.underlying38 ?_ infF ?_); (focus rfl); (focus rfl); (focus rfl); (focus rfl); (try simp only [List.getElem_toArray, List.getElem_cons_succ, List.getElem_cons_zero, Act.put, List.setIfInBounds_toArray, List.set_cons_zero, List.set_cons_succ])
        (with_reducible refine wpQuiet_pure (v := ?_) ?_ (fun w => ?_) ?_); rotate_left; (focus rfl); (focus (go_simp <;> with_reducible rfl)); (try simp only [List.getElem_toArray, List.getElem_cons_succ, List.getElem_cons_zero, Act.put, List.setIfInBounds_toArray, List.set_cons_zero, List.set_cons_succ])
        refine wpQuiet_nil ?_
        intro w2 hc2
        have HC2 := Lib.hid (HC.out.trans hc2)
        have HE := Lib.hid he
        clear hc2 R1 R2 R3 he
        go_wp2_with fail
        go_roundw
        case rel =>
          refine ⟨k + 1, by omega, by go_num, HC2, Lib.hid fun i t hi ht => ?_⟩
          rcases Nat.lt_or_ge i k with h1 | h1
          · exact HK.out i t h1 ht
          · rw [show i = k by omega, HY.out.1] at ht
            injection ht with ht; subst ht; exact HE.out
        case measure => simp [intOf]; omega
    · obtain rfl : k = N := by omega
      have hfd : Hid (idxE L f = none) := Lib.hid (idx_none.2 (fun r hr => by
        obtain ⟨i, hi, rfl⟩ := List.mem_iff_getElem.1 hr
        exact HK.out i _ (by have := HNN.out; omega) (List.getElem?_eq_getElem hi)))
      go_wp2_with fail
      go_ret
      rw [hfd.out]
      exact ⟨rfl, HI.out.1.trans HC.out⟩
set_option maxRecDepth 100000 in
set_option maxHeartbeats 2000000 in
theorem rwo_any {w : World} {v : Value} {L : List En} {n now : Int} {c : Cn} (h : RL w v L) (hL : L.length ≤ 64) {i : Nat} (hi : i < L.length) :
    Calls Tryz.prog 49 #[.agg (arrR n now v c), .int .i64 i] w fun e w' => ∃ v', e = .returned (.agg (arrR n now v' c)) ∧ RL w' v' (woL L i) ∧ Chg [] w w' := by
  obtain ⟨A, cp, rfl⟩ := Sl.form (Sl.of_own h)
  have hA2 := ((Chg.refl [] w).alloc (.cells (arrR n now (.slice A L.length cp) c) 51)).alloc (.cells (arrR 0 0 (.slice none 0 0) ⟨0, 0, 0, 0, 0, 0⟩) 51)
  have hBp2 : Blk ((w.alloc (.cells (arrR n now (.slice A L.length cp) c) 51)).alloc (.cells (arrR 0 0 (.slice none 0 0) ⟨0, 0, 0, 0, 0, 0⟩) 51)) w.heap.size 51 (arrR n now (.slice A L.length cp) c) := (Blk.new _ _ _).alloc _
  have hBr2 : Blk ((w.alloc (.cells (arrR n now (.slice A L.length cp) c) 51)).alloc (.cells (arrR 0 0 (.slice none 0 0) ⟨0, 0, 0, 0, 0, 0⟩) 51)) (w.heap.size + 1) 51 (arrR 0 0 (.slice none 0 0) ⟨0, 0, 0, 0, 0, 0⟩) := Blk.new' (by simp)
  have hsz2 : ((w.alloc (.cells (arrR n now (.slice A L.length cp) c) 51)).alloc (.cells (arrR 0 0 (.slice none 0 0) ⟨0, 0, 0, 0, 0, 0⟩) 51)).heap.size = w.heap.size + 2 := by simp
  have HI := Lib.hid (And.intro hA2 (And.intro hBp2 (And.intro hBr2 hsz2)))
  have HS := Lib.hid (fun W (hc : Chg [] w W) => Sl.of_own (h.chg0 hc))
  have HLL : Hid ((woL L i).length = L.length - 1 ∧ (woL L i).flatMap encE = (L.flatMap encE).take (i * 37) ++ (L.flatMap encE).drop ((i + 1) * 37)) := Lib.hid ⟨woL_len hi, by
    unfold woL
    rw [flat_take encE_len, flat_drop encE_len, List.flatMap_append]⟩
  have hone1 : Hid (∀ u ∈ (L.flatMap encE).take (i * 37), u.oneCell' = true) := Lib.hid fun u hu => flat_one encE_one L u (List.mem_of_mem_take hu)
  have hone2 : Hid (∀ u ∈ (L.flatMap encE).drop ((i + 1) * 37), u.oneCell' = true) := Lib.hid fun u hu => flat_one encE_one L u (List.mem_of_mem_drop hu)
  clear h hA2 hBp2 hBr2 hsz2
  generalize hN : L.length = N at *
  generalize L.flatMap encE = X at *
  generalize woL L i = L2 at *
  clear hN
  go_enter Tryz.func49, Tryz.ntmps49
  go_upto_region 1 with fail
  obtain ⟨hA2, hBp2, hBr2, hsz2⟩ := HI.out
  generalize ((w.alloc (.cells (arrR n now (.slice A N cp) c) 51)).alloc (.cells (arrR 0 0 (.slice none 0 0) ⟨0, 0, 0, 0, 0, 0⟩) 51)) = w2 at *
  generalize hgp : w.heap.size = gp at *
  have HSZ := Lib.hid hsz2
  clear hsz2
  have HB := Lib.hid (fun W (hc : Chg [] w2 W) => hBp2.chg hc (by simp))
  have HBR := Lib.hid (fun W (hc : Chg [] w2 W) => hBr2.chg hc (by simp))
  have hS2 := HS.out w2 hA2
  obtain ⟨ct1, ct2⟩ := cut_to elEr hS2 (Nat.le_of_lt hi)
  obtain ⟨Y, cf1, cf2⟩ := cut_from elEr hS2 (show i + 1 ≤ N from hi)
  have c1 : w2.cell? ⟨gp, 2, none⟩ = some (.slice A N cp) := hBp2.cell 2
  have hown0 : (w2.alloc (.cells #[] 54)).ownsRow w2.heap.size 54 37 (.slice (some ⟨w2.heap.size, 0, none⟩) 0 0) 0 [] := by
    have := own_lit (base := w2.heap.size) w2 54 37 0 #[] (Nat.le_refl _) (by simp [maxLen]) rfl
    simpa using this
  have hA1 := (Chg.refl [] w2).alloc (.cells #[] 54)
  have hct := ct2.chg0 hA1
  have c1a := hA1.cell c1 (by simp)
  have cf1' : ∀ W : World, (Instr.slice 48 (.slice A N cp) (some (.int .i64 ((i : Int) + 1))) none none).run Tryz.prog W = .ok (.slice Y (N - (i + 1)) (cp - (i + 1))) W := fun W => by
    have := cf1 W
    rwa [show ((i + 1 : Nat) : Int) = (i : Int) + 1 by omega] at this
  have hkI : (i : Int) ≤ (N : Int) := by omega
  have hkI2 : (i : Int) + 1 ≤ (N : Int) := by omega
  have HCF := Lib.hid cf2
  have HA1 := Lib.hid hA1
  have HCW := Lib.hid hA2
  clear hS2 ct2 cf2 cf1 hA1 HS hBp2 hBr2 hA2 HI
  generalize X.take (i * 37) = T1 at *
  generalize X.drop ((i + 1) * 37) = T2 at *
  go_upto_region 2 with (first
    | (at_builtin; refine wpList_app elEr rfl (.tmp 6) (.tmp 10) rfl w2.heap.size rfl hown0 rfl hct hone1.out (by unfold maxLen; omega) (by omega) (by simp) ?_; intro v5 w5 hown5 hc5 hb5)
    | fail)
  have hlt0 := own_lt hown0
  have hC5 : Chg [] w2 w5 := HA1.out.trans' hc5 (fun x hx => .inr (by have := (hlt0 x hx).1; omega))
  have k1 : w5.cell? ⟨gp, 2, none⟩ = some (.slice A N cp) := (HB.out w5 hC5).cell 2
  have hz5 := hC5.size
  have hcf5 := HCF.out.chg0 hC5
  have HK5 := HB.out w5 hC5
  have hlt5 := own_lt hown5
  clear hct hc5 hb5 c1 c1a hlt0
  go_wp2_with (first
    | (at_builtin; refine wpList_app elEr rfl (.tmp 12) (.tmp 17) rfl w2.heap.size rfl hown5 rfl hcf5 hone2.out (by unfold maxLen; omega) (by omega) (by omega) ?_; intro v7 w7 hown7 hc7 hb7; rw [show 0 + i + (N - (i + 1)) = N - 1 by omega] at hown7; have hC7 : Chg [] w2 w7 := hC5.trans' hc7 (fun x hx => .inr (by have := (hlt5 x hx).1; omega)); have HK7 := HB.out w7 hC7; obtain ⟨A7, cap7, rfl⟩ := Sl.form (Sl.of_own hown7); have q7 := HK7.cell 2; have f7 := HK7.frozen 2; have l7 := HK7.lt; have R7 := Lib.hid (HK7.set_ 2 (.slice A7 (N - 1) cap7)).rangeQ; have hB7 := HBR.out w7 hC7; have hB8 := hB7.far (p := ⟨gp, 2, none⟩) (by simp) (.slice A7 (N - 1) cap7); clear hc7 hb7 hcf5 hlt5 hC5 k1 HK5 hB7)
    | (refine wpList_row 51 (.tmp 2) rfl rfl gp 0 rfl _ _ R7.out Tryz.underlying51 rfl infR ?_)
    | (refine wpList_store_blk rfl 51 _ _ rfl rfl hB8 rfl rfl rfl (by kernel_rfl) rfl ?_; intro w9 hB9 hc9)
    | fail)
  refine bodyPost_ret (results_blk rfl rfl hB9 _ Tryz.underlying51 rfl (by kernel_rfl)) rfl ?_
  have hcS : Chg [gp, gp + 1] w7 w9 := (((Chg.refl [gp] w7).setCell (p := ⟨gp, 2, none⟩) (.inl (by simp)) _).more (by simp)).trans (hc9.more (by simp))
  have hlt7 := own_lt hown7
  have hsz2 := HSZ.out
  refine ⟨_, rfl, ?_, (HCW.out.trans hC7).trans' hcS (by intro x hx; simp at hx; rcases hx with rfl | rfl <;> exact .inr (by omega))⟩
  unfold RL
  rw [HLL.out.1, HLL.out.2]
  exact own_base (own_chg hown7 hcS (by intro x hx hm; have := (hlt7 x hx).1; simp at hm; omega)) (Nat.zero_le _)
end Go.Proofs.YtldgdpekhjignaaGreat.Ft
namespace Go.Proofs.YtldgdpekhjignaaGreat.Ft
open Go.RowKit Go.Maps

@[reducible] def arrR0 : Array Value := arrR 0 0 (.slice none 0 0) ⟨0, 0, 0, 0, 0, 0⟩
set_option maxRecDepth 100000 in
set_option maxHeartbeats 2000000 in
theorem rfront_any {w : World} {v : Value} {L : List En} {n now : Int} {c : Cn} (h : RL w v L) (hL : L.length ≤ 64) {x : En} (hst : 0 ≤ x.st ∧ x.st ≤ 4) (hn0 : 0 ≤ now) (hn1 : now ≤ 1000000) :
    Calls Tryz.prog 48 #[.agg (arrR n now v c), .agg (arrE x)] w fun e w' => ∃ v', e = .returned (.agg (arrR n now v' c)) ∧ RL w' v' (nowE now x :: L) ∧ Chg [] w w' := by
  obtain ⟨A, cp, rfl⟩ := Sl.form (Sl.of_own h)
  have hA2 := (((Chg.refl [] w).alloc (.cells (arrR n now (.slice A L.length cp) c) 51)).alloc (.cells (arrE x) 54)).alloc (.cells (arrR 0 0 (.slice none 0 0) ⟨0, 0, 0, 0, 0, 0⟩) 51)
  have hBp2 : Blk (((w.alloc (.cells (arrR n now (.slice A L.length cp) c) 51)).alloc (.cells (arrE x) 54)).alloc (.cells (arrR 0 0 (.slice none 0 0) ⟨0, 0, 0, 0, 0, 0⟩) 51)) w.heap.size 51 (arrR n now (.slice A L.length cp) c) := ((Blk.new _ _ _).alloc _).alloc _
  have hBx2 : Blk (((w.alloc (.cells (arrR n now (.slice A L.length cp) c) 51)).alloc (.cells (arrE x) 54)).alloc (.cells (arrR 0 0 (.slice none 0 0) ⟨0, 0, 0, 0, 0, 0⟩) 51)) (w.heap.size + 1) 54 (arrE x) := (Blk.new' (by simp)).alloc _
  have hBr2 : Blk (((w.alloc (.cells (arrR n now (.slice A L.length cp) c) 51)).alloc (.cells (arrE x) 54)).alloc (.cells (arrR 0 0 (.slice none 0 0) ⟨0, 0, 0, 0, 0, 0⟩) 51)) (w.heap.size + 1 + 1) 51 (arrR 0 0 (.slice none 0 0) ⟨0, 0, 0, 0, 0, 0⟩) := Blk.new' (by simp)
  have hsz2 : (((w.alloc (.cells (arrR n now (.slice A L.length cp) c) 51)).alloc (.cells (arrE x) 54)).alloc (.cells (arrR 0 0 (.slice none 0 0) ⟨0, 0, 0, 0, 0, 0⟩) 51)).heap.size = w.heap.size + 3 := by simp
  have HI := Lib.hid (And.intro hA2 (And.intro hBp2 (And.intro hBx2 (And.intro hBr2 hsz2))))
  have HS := Lib.hid (fun W (hc : Chg [] w W) => Sl.of_own (h.chg0 hc))
  have HLL : Hid ((nowE now x :: L).length = 1 + L.length ∧ (nowE now x :: L).flatMap encE = encE (nowE now x) ++ L.flatMap encE) := Lib.hid ⟨by simp; omega, by simp⟩
  have hone2 : Hid (∀ u ∈ L.flatMap encE, u.oneCell' = true) := Lib.hid fun u hu => flat_one encE_one L u hu
  have hto := timeout_le x.st
  have hwr : IntKind.i64.wrap (now + timeout x.st) = now + timeout x.st := by rw [IntKind.wrap_i64]; omega
  have FT := Lib.hid (fun W => rtimeout_any hst W)
  have HNE : Hid (arrE (nowE now x) = (arrE x).setIfInBounds 36 (.int .i64 (now + timeout x.st))) := Lib.hid rfl
  clear h hA2 hBp2 hBr2 hBx2 hsz2
  generalize hN : L.length = N at *
  generalize L.flatMap encE = X at *
  generalize (nowE now x :: L) = L2 at *
  generalize nowE now x = xn at *
  clear hN
  go_enter Tryz.func48, Tryz.ntmps48
  go_upto_region 1 with fail
  obtain ⟨hA2, hBp2, hBx2, hBr2, hsz2⟩ := HI.out
  generalize (((w.alloc (.cells (arrR n now (.slice A N cp) c) 51)).alloc (.cells (arrE x) 54)).alloc (.cells (arrR 0 0 (.slice none 0 0) ⟨0, 0, 0, 0, 0, 0⟩) 51)) = w2 at *
  generalize hgp : w.heap.size = gp at *
  have HSZ := Lib.hid hsz2
  clear hsz2
  have hS0 : (fun W : World => W.cell? ⟨gp, 1, none⟩ = some (.int .i64 now) ∧ W.cell? ⟨gp + 1, 35, none⟩ = some (.int .i64 x.st)) w2.drew := ⟨hBp2.drew.cell 1, hBx2.drew.cell 35⟩
  have HS1 : ∀ W : World, (fun W : World => W.cell? ⟨gp, 1, none⟩ = some (.int .i64 now) ∧ W.cell? ⟨gp + 1, 35, none⟩ = some (.int .i64 x.st)) W → W.cell? ⟨gp, 1, none⟩ = some (.int .i64 now) := fun W h => h.1
  have HS2 : ∀ W : World, (fun W : World => W.cell? ⟨gp, 1, none⟩ = some (.int .i64 now) ∧ W.cell? ⟨gp + 1, 35, none⟩ = some (.int .i64 x.st)) W → W.cell? ⟨gp + 1, 35, none⟩ = some (.int .i64 x.st) := fun W h => h.2
  have k0 : w2.drew.cell? ⟨gp + 1, 36, none⟩ = some (.int .i64 x.til) := hBx2.drew.cell 36
  have k1 := hBx2.drew.frozen 36
  have HB3 := Lib.hid (hBx2.drew.set_ 36 (.int .i64 (now + timeout x.st)))
  rw [← HNE.out] at HB3
  have HP3 := Lib.hid (hBp2.drew.far (p := ⟨gp + 1, 36, none⟩) (by simp) (.int .i64 (now + timeout x.st)))
  have HR3 := Lib.hid (hBr2.drew.far (p := ⟨gp + 1, 36, none⟩) (by simp) (.int .i64 (now + timeout x.st)))
  have HC3 : Hid (Chg [] w (w2.drew.setCell ⟨gp + 1, 36, none⟩ (.int .i64 (now + timeout x.st)))) := Lib.hid (hA2.drew.setCell (p := ⟨gp + 1, 36, none⟩) (.inr (by rw [hgp]; exact Nat.le_succ _)) _)
  clear hA2 hBp2 hBx2 hBr2 HI HNE
  refine wp_region_noPanic ?_
  refine wp_region_held_drew (S := fun W : World => W.cell? ⟨gp, 1, none⟩ = some (.int .i64 now) ∧ W.cell? ⟨gp + 1, 35, none⟩ = some (.int .i64 x.st)) (by kernel_rfl) hS0 (fun _ => ?_)
  have HSZ3 : Hid (w2.drew.heap.size = gp + 3) := Lib.hid (show w2.heap.size = gp + 3 from HSZ.out)
  generalize w2.drew = w3 at *
  refine wpAnyH_take (i := 0) (v := ?_) rfl (by kernel_rfl) (by kernel_rfl) (by kernel_rfl) (fun _ _ _ h => h) (yields_pure (by rfl) (fun w => ?_)) (by with_reducible assumption) ?_
  rotate_left
  · (go_simp <;> with_reducible rfl)
  try simp only [List.getElem_toArray, List.getElem_cons_succ, List.getElem_cons_zero, Act.put, List.setIfInBounds_toArray, List.set_cons_zero, List.set_cons_succ]
  refine wpAnyH_take (i := 1) rfl (by kernel_rfl) (by kernel_rfl) (by kernel_rfl) (fun _ _ _ h => h) (yields_cell (by rfl) 3 (.tmp 5) rfl gp 1 rfl (.int .i64 now) _ HS1 Tryz.underlying3 rfl) (by with_reducible assumption) ?_
  try simp only [List.getElem_toArray, List.getElem_cons_succ, List.getElem_cons_zero, Act.put, List.setIfInBounds_toArray, List.set_cons_zero, List.set_cons_succ]
  refine wpAnyH_take (i := 2) (v := ?_) rfl (by kernel_rfl) (by kernel_rfl) (by kernel_rfl) (fun _ _ _ h => h) (yields_pure (by rfl) (fun w => ?_)) (by with_reducible assumption) ?_
  rotate_left
  · (go_simp <;> with_reducible rfl)
  try simp only [List.getElem_toArray, List.getElem_cons_succ, List.getElem_cons_zero, Act.put, List.setIfInBounds_toArray, List.set_cons_zero, List.set_cons_succ]
  refine wpAnyH_take (i := 3) rfl (by kernel_rfl) (by kernel_rfl) (by kernel_rfl) (fun _ _ _ h => h) (yields_cell (by rfl) 3 (.tmp 7) rfl (gp + 1) 35 rfl (.int .i64 x.st) _ HS2 Tryz.underlying3 rfl) (by with_reducible assumption) ?_
  try simp only [List.getElem_toArray, List.getElem_cons_succ, List.getElem_cons_zero, Act.put, List.setIfInBounds_toArray, List.set_cons_zero, List.set_cons_succ]
  refine wpAnyH_ready (rs := [4]) (by kernel_rfl) (by simp) (AllReadyH.cons rfl (fun K hK => ?_) AllReadyH.nil)
  go_simp
  refine (FT.out _).mono ?_
  rintro e w' ⟨rfl, rfl⟩
  refine hK.out _ _ (by with_reducible assumption) (fun _ => ?_)
  clear hK K
  try simp only [List.getElem_toArray, List.getElem_cons_succ, List.getElem_cons_zero, Act.put, List.setIfInBounds_toArray, List.set_cons_zero, List.set_cons_succ]
  refine wpAnyH_take (i := 5) (v := ?_) rfl (by kernel_rfl) (by kernel_rfl) (by kernel_rfl) (fun _ _ _ h => h) (yields_pure (by rfl) (fun w => ?_)) (by with_reducible assumption) ?_
  rotate_left
  · (go_simp <;> with_reducible rfl)
  try simp only [List.getElem_toArray, List.getElem_cons_succ, List.getElem_cons_zero, Act.put, List.setIfInBounds_toArray, List.set_cons_zero, List.set_cons_succ]
  refine wpAnyH_take (i := 6) (v := ?_) rfl (by kernel_rfl) (by kernel_rfl) (by kernel_rfl) (fun _ _ _ h => h) (yields_pure (by rfl) (fun w => ?_)) (by with_reducible assumption) ?_
  rotate_left
  · (go_simp <;> with_reducible rfl)
  try simp only [List.getElem_toArray, List.getElem_cons_succ, List.getElem_cons_zero, Act.put, List.setIfInBounds_toArray, List.set_cons_zero, List.set_cons_succ]
  refine wpAnyH_ready (rs := [7]) (by kernel_rfl) (by simp) (AllReadyH.cons rfl (fun K hK => ?_) AllReadyH.nil)
  go_simp
  have hS4 : (fun W : World => W.cell? ⟨gp, 1, none⟩ = some (.int .i64 now) ∧ W.cell? ⟨gp + 1, 35, none⟩ = some (.int .i64 x.st)) (w3.setCell ⟨gp + 1, 36, none⟩ (.int .i64 (now + timeout x.st))) := ⟨(World.cell?_setCell_other _ _ _ _ (by simp)).trans hS0.1, (World.cell?_setCell_other _ _ _ _ (by simp)).trans hS0.2⟩
  refine hK.out _ _ (by with_reducible assumption) (fun _ => ?_)
  clear hK K
  try simp only [List.getElem_toArray, List.getElem_cons_succ, List.getElem_cons_zero, Act.put, List.setIfInBounds_toArray, List.set_cons_zero, List.set_cons_succ]
  refine wpAnyH_done (by kernel_rfl) ?_ _
  refine NoPanic.normal ?_
  generalize hw4 : (w3.setCell ⟨gp + 1, 36, none⟩ (.int .i64 (now + timeout x.st))) = w4 at *
  have HZ4 : Hid (w4.heap.size = gp + 3) := Lib.hid (by rw [← hw4]; simp only [World.setCell, Array.size_modify]; exact HSZ3.out)
  clear hS0 hS4 HS1 HS2 k0 k1 FT hw4
  have hS4 := HS.out w4 HC3.out
  have c2 : w4.cell? ⟨gp, 2, none⟩ = some (.slice A N cp) := HP3.out.cell 2
  have hrx := HB3.out.rangeQ
  have hA1 := (Chg.refl [] w4).alloc (.cells (arrE xn) 54)
  have hown0 : (w4.alloc (.cells (arrE xn) 54)).ownsRow w4.heap.size 54 37 (.slice (some ⟨w4.heap.size, 0, none⟩) 1 1) 1 (encE xn) := own_lit (base := w4.heap.size) w4 54 37 1 (arrE xn) (Nat.le_refl _) (by simp [maxLen]) rfl
  have hS5 := hS4.chg0 hA1
  have c2a := hA1.cell c2 (by simp)
  have HA1 := Lib.hid hA1
  have HP := Lib.hid (fun W (hc : Chg [] w4 W) => HP3.out.chg hc (by simp))
  have HRR := Lib.hid (fun W (hc : Chg [] w4 W) => HR3.out.chg hc (by simp))
  have hlt5 := own_lt hown0
  clear hA1 hS4 HS HP3 HR3 HB3
  go_wp2_with (first
    | (refine wpList_row 54 (.tmp 3) rfl rfl (gp + 1) 0 rfl (arrE xn) _ hrx Tryz.underlying54 rfl infE2 ?_)
    | (at_builtin; refine wpList_app elEr rfl (.tmp 13) (.tmp 15) rfl w4.heap.size rfl hown0 rfl hS5 hone2.out (by unfold maxLen; omega) (by omega) (by simp) ?_; intro v7 w7 hown7 hc7 hb7; have hC7 : Chg [] w4 w7 := HA1.out.trans' hc7 (fun x hx => .inr (by have := (hlt5 x hx).1; omega)); have HK7 := HP.out w7 hC7; obtain ⟨A7, cap7, rfl⟩ := Sl.form (Sl.of_own hown7); have q7 := HK7.cell 2; have f7 := HK7.frozen 2; have l7 := HK7.lt; have R7 := Lib.hid (HK7.set_ 2 (.slice A7 (1 + N) cap7)).rangeQ; have hB7 := HRR.out w7 hC7; have hB8 := hB7.far (p := ⟨gp, 2, none⟩) (show gp + 1 + 1 ≠ gp by omega) (.slice A7 (1 + N) cap7); clear hc7 hb7 hlt5 HK7 hB7)
    | (refine wpList_row 51 (.tmp 2) rfl rfl gp 0 rfl _ _ R7.out Tryz.underlying51 rfl infR ?_)
    | (refine wpList_store_blk rfl 51 _ _ rfl rfl hB8 rfl rfl rfl (by kernel_rfl) rfl ?_; intro w9 hB9 hc9)
    | fail)
  refine bodyPost_ret (results_blk rfl rfl hB9 _ Tryz.underlying51 rfl (by kernel_rfl)) rfl ?_
  have hcS : Chg [gp, gp + 1 + 1] w7 w9 := (((Chg.refl [gp] w7).setCell (p := ⟨gp, 2, none⟩) (.inl (by simp)) _).more (by simp)).trans (hc9.more (by simp))
  have hlt7 := own_lt hown7
  have hz4 := HZ4.out
  refine ⟨_, rfl, ?_, (HC3.out.trans hC7).trans' hcS (by intro x hx; simp at hx; rcases hx with rfl | rfl <;> exact .inr (by omega))⟩
  unfold RL
  rw [HLL.out.1, HLL.out.2]
  exact own_base (own_chg hown7 hcS (by intro x hx hm; have := (hlt7 x hx).1; simp at hm; omega)) (Nat.zero_le _)
end Go.Proofs.YtldgdpekhjignaaGreat.Ft
namespace Go.Proofs.YtldgdpekhjignaaGreat.Ft
open Go.RowKit Go.Maps

theorem RL.form {w : World} {v : Value} {L : List En} (h : RL w v L) : ∃ A c, v = .slice A L.length c := Sl.form (Sl.of_own h)
theorem RL.one' {w : World} {v : Value} {L : List En} (h : RL w v L) : v.oneCell' = true := by
  obtain ⟨A, c, rfl⟩ := h.form
  rfl
theorem arrR_one {n now : Int} {A : Option Addr} {m cp : Nat} {c : Cn} : (arrR n now (.slice A m cp) c).toList.all (·.oneCell') = true := rfl
set_option maxRecDepth 100000 in
set_option maxHeartbeats 4000000 in
theorem radd_any {w : World} {v : Value} {L : List En} {n : Nat} {now : Int} {c : Cn} (h : RL w v L) (hL : L.length ≤ n) (hn : n ≤ 64) (hlo : 1 ≤ n) {x : En} (hst : 0 ≤ x.st ∧ x.st ≤ 4) (hn0 : 0 ≤ now) (hn1 : now ≤ 1000000) (he0 : 0 ≤ c.evicted) (he1 : c.evicted ≤ 1000000000) :
    Calls Tryz.prog 50 #[.agg (arrR n now v c), .agg (arrE x)] w fun e w' => ∃ v', e = .returned (.agg (arrR n now v' (addC n L c))) ∧ RL w' v' (nowE now x :: addL n L) ∧ Chg [] w w' := by
  obtain ⟨A, cp, rfl⟩ := h.form
  have hA2 := (((Chg.refl [] w).alloc (.cells (arrR n now (.slice A L.length cp) c) 51)).alloc (.cells (arrE x) 54)).alloc (.cells (arrR 0 0 (.slice none 0 0) ⟨0, 0, 0, 0, 0, 0⟩) 51)
  have hBp2 : Blk (((w.alloc (.cells (arrR n now (.slice A L.length cp) c) 51)).alloc (.cells (arrE x) 54)).alloc (.cells (arrR 0 0 (.slice none 0 0) ⟨0, 0, 0, 0, 0, 0⟩) 51)) w.heap.size 51 (arrR n now (.slice A L.length cp) c) := ((Blk.new _ _ _).alloc _).alloc _
  have hBx2 : Blk (((w.alloc (.cells (arrR n now (.slice A L.length cp) c) 51)).alloc (.cells (arrE x) 54)).alloc (.cells (arrR 0 0 (.slice none 0 0) ⟨0, 0, 0, 0, 0, 0⟩) 51)) (w.heap.size + 1) 54 (arrE x) := (Blk.new' (by simp)).alloc _
  have hBr2 : Blk (((w.alloc (.cells (arrR n now (.slice A L.length cp) c) 51)).alloc (.cells (arrE x) 54)).alloc (.cells (arrR 0 0 (.slice none 0 0) ⟨0, 0, 0, 0, 0, 0⟩) 51)) (w.heap.size + 1 + 1) 51 (arrR 0 0 (.slice none 0 0) ⟨0, 0, 0, 0, 0, 0⟩) := Blk.new' (by simp)
  have HI := Lib.hid (And.intro hA2 (And.intro hBp2 (And.intro hBx2 hBr2)))
  have HRL := Lib.hid (h.chg0 hA2)
  have HAC : Hid (addC n L c = (if L.length = n then { c with evicted := c.evicted + 1 } else c) ∧ addL n L = if L.length = n then L.dropLast else L) := Lib.hid ⟨rfl, rfl⟩
  have hL0 := hL
  generalize hac : addC n L c = c1 at *
  generalize hal : addL n L = L1 at *
  clear h hA2 hBp2 hBr2 hBx2 hac hal
  go_enter Tryz.func50, Tryz.ntmps50
  go_upto_if 10 with fail
  obtain ⟨hA2, hBp2, hBx2, hBr2⟩ := HI.out
  generalize (((w.alloc (.cells (arrR n now (.slice A L.length cp) c) 51)).alloc (.cells (arrE x) 54)).alloc (.cells (arrR 0 0 (.slice none 0 0) ⟨0, 0, 0, 0, 0, 0⟩) 51)) = w2 at *
  generalize hgp : w.heap.size = gp at *
  go_cut [] (fun wx => ∃ A1 cp1, Hid (RL wx (.slice A1 L1.length cp1) L1) ∧ Hid (L1.length ≤ 64) ∧ Hid (Blk wx gp 51 (arrR n now (.slice A1 L1.length cp1) c1)) ∧ Hid (Blk wx (gp + 1) 54 (arrE x)) ∧ Hid (Blk wx (gp + 1 + 1) 51 (arrR 0 0 (.slice none 0 0) ⟨0, 0, 0, 0, 0, 0⟩)) ∧ Hid (Chg [] w wx))
  case first =>
    have c2 : w2.cell? ⟨gp, 2, none⟩ = some (.slice A L.length cp) := hBp2.cell 2
    have c0 : w2.cell? ⟨gp, 0, none⟩ = some (.int .i64 n) := hBp2.cell 0
    by_cases hf : L.length = n
    · have hfb : ((L.length : Int) == (n : Int)) = true := by simp [hf]
      have HE : Hid (c1 = { c with evicted := c.evicted + 1 } ∧ L1 = L.dropLast) := Lib.hid (by rw [HAC.out.1, HAC.out.2, if_pos hf, if_pos hf]; exact ⟨rfl, rfl⟩)
      have hpos : 0 < L.length := by omega
      have FW := Lib.hid (rwo_any (n := n) (now := now) (c := c) HRL.out (by omega) (i := L.length - 1) (by omega))
      rw [woL_last hpos] at FW
      have hix : ((L.length - 1 : Nat) : Int) = (n : Int) - 1 := by omega
      rw [hix] at FW
      have hwr0 : IntKind.i64.wrap ((n : Int) - 1) = (n : Int) - 1 := by rw [IntKind.wrap_i64]; omega
      have hR := hBp2.rangeQ
      have HB := Lib.hid (And.intro hBp2 (And.intro hBx2 (And.intro hBr2 hA2)))
      have HLD : Hid (L.dropLast.length ≤ 64) := Lib.hid (by rw [List.length_dropLast]; omega)
      have hwr : IntKind.i64.wrap (c.evicted + 1) = c.evicted + 1 := by rw [IntKind.wrap_i64]; omega
      clear hBp2 hBx2 hBr2 hA2 hix HAC hf
      generalize L.dropLast = LD at *
      go_wp2_with (first
        | (refine wpList_row 51 (.tmp 2) rfl rfl gp 0 rfl _ _ hR Tryz.underlying51 rfl infR ?_)
        | fail)
      refine FW.out.mono ?_
      rintro e w3 ⟨v3, rfl, hr3, hc3⟩
      obtain ⟨A3, cp3, rfl⟩ := hr3.form
      have hB3 := HB.out.1.chg hc3 (by simp)
      have HB3 := Lib.hid (And.intro (HB.out.2.1.chg hc3 (by simp)) (And.intro (HB.out.2.2.1.chg hc3 (by simp)) (And.intro (HB.out.2.2.2.trans hc3) hr3)))
      clear hc3 FW hR c2 c0 hr3 HB
      go_upto_region 3 with (first
        | (refine wpList_store_blk (vs := arrR n now (.slice A3 LD.length cp3) c) rfl 51 (.tmp 2) (.tmp 15) rfl rfl hB3 rfl rfl rfl infR rfl ?_; intro w4 hB4 hc4)
        | fail)
      have c6 : w4.cell? ⟨gp, 6, none⟩ = some (.int .i64 c.evicted) := hB4.cell 6
      have f6 := hB4.frozen 6
      have HFIN : Hid (∃ A1 cp1, Hid (RL (w4.setCell ⟨gp, 6, none⟩ (.int .i64 (c.evicted + 1))) (.slice A1 L1.length cp1) L1) ∧ Hid (L1.length ≤ 64) ∧ Hid (Blk (w4.setCell ⟨gp, 6, none⟩ (.int .i64 (c.evicted + 1))) gp 51 (arrR n now (.slice A1 L1.length cp1) c1)) ∧ Hid (Blk (w4.setCell ⟨gp, 6, none⟩ (.int .i64 (c.evicted + 1))) (gp + 1) 54 (arrE x)) ∧ Hid (Blk (w4.setCell ⟨gp, 6, none⟩ (.int .i64 (c.evicted + 1))) (gp + 1 + 1) 51 (arrR 0 0 (.slice none 0 0) ⟨0, 0, 0, 0, 0, 0⟩)) ∧ Hid (Chg [] w (w4.setCell ⟨gp, 6, none⟩ (.int .i64 (c.evicted + 1))))) := Lib.hid (by
        obtain ⟨b1, b2, b3, b4⟩ := HB3.out
        have hcc : Chg [gp] w3 (w4.setCell ⟨gp, 6, none⟩ (.int .i64 (c.evicted + 1))) := hc4.setCell (p := ⟨gp, 6, none⟩) (.inl (by simp)) _
        rw [HE.out.2, HE.out.1]
        have htg := own_tag b4
        refine ⟨A3, cp3, Lib.hid (b4.chg hcc (fun y hy hm => ?_)), HLD, Lib.hid (hB4.set_ 6 (.int .i64 (c.evicted + 1))), Lib.hid (b1.chg hcc (by simp)), Lib.hid (b2.chg hcc (by simp; omega)), Lib.hid (b3.trans' hcc (by intro y hy; simp at hy; subst hy; exact .inr (by omega)))⟩
        simp only [List.mem_cons, List.not_mem_nil, or_false] at hm
        subst hm
        have := htg _ hy
        rw [Blk.tag hB3] at this
        exact absurd this (by decide))
      clear HB3 hB4 hc4 hB3
      go_wp2_with fail
      go_meet
      exact HFIN.out
    · have hfb : ((L.length : Int) == (n : Int)) = false := by simp; omega
      have HFIN : Hid (∃ A1 cp1, Hid (RL w2 (.slice A1 L1.length cp1) L1) ∧ Hid (L1.length ≤ 64) ∧ Hid (Blk w2 gp 51 (arrR n now (.slice A1 L1.length cp1) c1)) ∧ Hid (Blk w2 (gp + 1) 54 (arrE x)) ∧ Hid (Blk w2 (gp + 1 + 1) 51 (arrR 0 0 (.slice none 0 0) ⟨0, 0, 0, 0, 0, 0⟩)) ∧ Hid (Chg [] w w2)) := Lib.hid (by
        have e1 : c1 = c := by rw [HAC.out.1, if_neg hf]
        have e2 : L1 = L := by rw [HAC.out.2, if_neg hf]
        rw [e1, e2]
        exact ⟨A, cp, HRL, Lib.hid (by omega), Lib.hid hBp2, Lib.hid hBx2, Lib.hid hBr2, Lib.hid hA2⟩)
      clear hBp2 hBx2 hBr2 hA2 HI HRL HAC
      go_wp2_with fail
      go_meet
      exact HFIN.out
  case rest =>
    obtain ⟨A1, cp1, HR1, HL1, HB1, HX1, HG1, HC1⟩ := hcut
    have FF := Lib.hid (rfront_any (n := n) (now := now) (c := c1) HR1.out HL1.out hst hn0 hn1)
    have hR := HB1.out.rangeQ
    have hRx := HX1.out.rangeQ
    clear hBp2 hBx2 hBr2 hA2 HI HRL HAC HR1 HL1 HB1 HX1
    generalize L1.length = M1 at *
    go_wp2_with (first
      | (refine wpList_row 51 (.tmp 2) rfl rfl gp 0 rfl _ _ hR Tryz.underlying51 rfl infR ?_)
      | (refine wpList_row 54 (.tmp 3) rfl rfl (gp + 1) 0 rfl (arrE x) _ hRx Tryz.underlying54 rfl infE2 ?_)
      | fail)
    refine FF.out.mono ?_
    rintro e w5 ⟨v5, rfl, hr5, hc5⟩
    obtain ⟨A5, cp5, rfl⟩ := hr5.form
    have hB5 := HG1.out.chg hc5 (by simp)
    have HC5 := Lib.hid (And.intro (HC1.out.trans hc5) hr5)
    clear hc5 hr5 FF hR hRx
    generalize hl5 : (nowE now x :: L1).length = M5 at *
    go_wp2_with (first
      | (refine wpList_store_blk (vs := arrR n now (.slice A5 M5 cp5) c1) rfl 51 (.tmp 4) (.tmp 24) rfl rfl hB5 rfl rfl rfl infR rfl ?_; intro w6 hB6 hc6)
      | fail)
    refine bodyPost_ret (results_blk rfl rfl hB6 _ Tryz.underlying51 rfl (by kernel_rfl)) rfl ?_
    refine ⟨_, rfl, HC5.out.2.chg hc6 (fun y hy hm => ?_), HC5.out.1.trans' hc6 (by intro y hy; simp at hy; subst hy; exact .inr (by omega))⟩
    simp only [List.mem_cons, List.not_mem_nil, or_false] at hm
    subst hm
    have := own_tag HC5.out.2 _ hy
    rw [Blk.tag hB5] at this
    exact absurd this (by decide)
end Go.Proofs.YtldgdpekhjignaaGreat.Ft
namespace Go.Proofs.YtldgdpekhjignaaGreat.Ft
open Go.RowKit Go.Maps

section
variable {P : Program} {w : World} {g : Nat} {cs : Array Value}
/-- A struct and two values more handed back. -/
theorem results_b12 {fn : Func} {p q r : Tmp} {ty : TypeId} (h : fn.results = #[.cell p ty, .tmp q, .tmp r]) {tmps : Array Value} (hp : tmps.getD p undef = .pointer (some ⟨g, 0, none⟩)) {e : TypeId} (hb : Blk w g e cs)
    (he : e = ty) (d : TypeDesc) (hu : P.underlying ty = some d) (hd : d.isRow = true) (hi : (P.info? ty).map (·.size) = some cs.size) :
    (results fn tmps).run P w = .ok (.tuple #[.agg cs, tmps.getD q undef, tmps.getD r undef]) w := by
  subst he
  have hp1 : tmps[p]?.getD undef = .pointer (some ⟨g, 0, none⟩) := by simpa using hp
  simp [results, h, hp1, asAddr, run_loadVar_blk hb e d hu hd hi]
end
/-- A table of the document's, fit for a walk. -/
structure okS (n : Nat) (s : Sx) : Prop where
  nd : (s.L.map En.fl).Nodup
  len : s.L.length ≤ n
  hi : n ≤ 64
  lo : 1 ≤ n
  ok : ∀ e ∈ s.L, okE e
  now : 0 ≤ s.now ∧ s.now ≤ 100000
  c : bC s.c
theorem RL.far {w w' : World} {v : Value} {L : List En} {g : Nat} {t : TypeId} {cs : Array Value} (h : RL w v L) (hB : Blk w g t cs) (ht : t ≠ 54) (hc : Chg [g] w w') : RL w' v L :=
  h.chg hc (fun y hy hm => by
    simp only [List.mem_cons, List.not_mem_nil, or_false] at hm
    subst hm
    have h1 := own_tag h _ hy
    rw [Blk.tag hB] at h1
    exact ht (Option.some.inj h1))
theorem tR_ne : 51 ≠ 54 := by decide
/-- A segment that is no entry's with a node. -/
theorem look_miss {s : Sx} {f : Fl} {fl : Int} (h : ∀ e, getE s.L f = some e → e.node = 0) : lookS s f fl = ({ s with c := { s.c with misses := s.c.misses + 1 } }, 0, false) := by
  cases hg : getE s.L f with
  | none => exact look_none hg
  | some e => exact look_zero hg (h e hg)
set_option maxRecDepth 100000 in
set_option maxHeartbeats 4000000 in
theorem rlook_any {w : World} {v : Value} {n : Nat} {s : Sx} (h : RL w v s.L) (hS : okS n s) {f : Fl} (hf : okF f) (fl : Int) :
    Calls Tryz.prog 31 #[.agg (arrR n s.now v s.c), f.v, .int .i64 fl] w fun e w' => ∃ v', e = .returned (.tuple #[.agg (arrR n s.now v' (lookS s f fl).1.c), .int .i64 (lookS s f fl).2.1, .bool (lookS s f fl).2.2]) ∧ RL w' v' (lookS s f fl).1.L ∧ Chg [] w w' := by
  obtain ⟨A, cp, rfl⟩ := h.form
  have hlen : s.L.length ≤ 64 := by have := hS.len; have := hS.hi; omega
  have hA2 := (((Chg.refl [] w).alloc (.cells (arrR n s.now (.slice A s.L.length cp) s.c) 51)).alloc (.cells (arrF f) 38)).alloc (.cells (arrR 0 0 (.slice none 0 0) ⟨0, 0, 0, 0, 0, 0⟩) 51)
  have hBp2 : Blk (((w.alloc (.cells (arrR n s.now (.slice A s.L.length cp) s.c) 51)).alloc (.cells (arrF f) 38)).alloc (.cells (arrR 0 0 (.slice none 0 0) ⟨0, 0, 0, 0, 0, 0⟩) 51)) w.heap.size 51 (arrR n s.now (.slice A s.L.length cp) s.c) := ((Blk.new _ _ _).alloc _).alloc _
  have hBf2 : Blk (((w.alloc (.cells (arrR n s.now (.slice A s.L.length cp) s.c) 51)).alloc (.cells (arrF f) 38)).alloc (.cells (arrR 0 0 (.slice none 0 0) ⟨0, 0, 0, 0, 0, 0⟩) 51)) (w.heap.size + 1) 38 (arrF f) := (Blk.new' (by simp)).alloc _
  have hBr2 : Blk (((w.alloc (.cells (arrR n s.now (.slice A s.L.length cp) s.c) 51)).alloc (.cells (arrF f) 38)).alloc (.cells (arrR 0 0 (.slice none 0 0) ⟨0, 0, 0, 0, 0, 0⟩) 51)) (w.heap.size + 1 + 1) 51 (arrR 0 0 (.slice none 0 0) ⟨0, 0, 0, 0, 0, 0⟩) := Blk.new' (by simp)
  have hRL2 := h.chg0 hA2
  have FF := Lib.hid (rfind_any (n := n) (now := s.now) (c := s.c) hRL2 (fun e he => (hS.ok e he).fl) hlen hf)
  have HI := Lib.hid (And.intro hA2 (And.intro hBp2 (And.intro hBf2 (And.intro hBr2 hRL2))))
  have HS := Lib.hid hS
  have HC := Lib.hid hS.c
  have hrp := hBp2.rangeQ
  have hrf := hBf2.rangeQ
  clear h hA2 hBp2 hBf2 hBr2 hRL2 hS
  generalize hM : s.L.length = M at *
  have HM := Lib.hid hM
  clear hM
  go_enter Tryz.func31, Tryz.ntmps31
  go_upto_region 1 with fail
  generalize hw2 : (((w.alloc (.cells (arrR n s.now (.slice A M cp) s.c) 51)).alloc (.cells (arrF f) 38)).alloc (.cells (arrR 0 0 (.slice none 0 0) ⟨0, 0, 0, 0, 0, 0⟩) 51)) = w2 at *
  generalize hgp : w.heap.size = gp at *
  clear hw2
  go_wp2_with (first
    | (refine wpList_row 51 (.tmp 3) rfl rfl gp 0 rfl _ _ hrp Tryz.underlying51 rfl infR ?_)
    | (refine wpList_row 38 (.tmp 4) rfl rfl (gp + 1) 0 rfl (arrF f) _ hrf Tryz.underlying38 rfl infF ?_)
    | fail)
  refine FF.out.mono ?_
  rintro e w3 ⟨rfl, hc3⟩
  have HC3 := Lib.hid (HI.out.1.trans hc3)
  have hBp3 := HI.out.2.1.chg hc3 (by simp)
  have hBr3 := HI.out.2.2.2.1.chg hc3 (by simp)
  have HR3 := Lib.hid (HI.out.2.2.2.2.chg0 hc3)
  clear hc3 FF hrp hrf HI
  -- the missing case, whatever the reason
  have hwm : IntKind.i64.wrap (s.c.misses + 1) = s.c.misses + 1 := by have := HC.out.misses; unfold bN at this; rw [IntKind.wrap_i64]; omega
  have hwh : IntKind.i64.wrap (s.c.hits + 1) = s.c.hits + 1 := by have := HC.out.hits; unfold bN at this; rw [IntKind.wrap_i64]; omega
  have c4 : w3.cell? ⟨gp, 4, none⟩ = some (.int .i64 s.c.misses) := hBp3.cell 4
  have f4 := hBp3.frozen 4
  have hBm : Blk (w3.setCell ⟨gp, 4, none⟩ (.int .i64 (s.c.misses + 1))) gp 51 (arrR n s.now (.slice A M cp) { s.c with misses := s.c.misses + 1 }) := hBp3.set_ 4 (.int .i64 (s.c.misses + 1))
  have HRM := Lib.hid hBm.rangeQ
  have hBrm := hBr3.far (p := ⟨gp, 4, none⟩) (show gp + 1 + 1 ≠ gp by omega) (.int .i64 (s.c.misses + 1))
  have HMISS : Hid (∀ w5, Chg [gp + 1 + 1] (w3.setCell ⟨gp, 4, none⟩ (.int .i64 (s.c.misses + 1))) w5 → RL w5 (.slice A M cp) s.L ∧ Chg [] w w5) := Lib.hid (fun w5 hc5 => by
    have hcc : Chg [gp] w3 (w3.setCell ⟨gp, 4, none⟩ (.int .i64 (s.c.misses + 1))) := (Chg.refl _ _).setCell (p := ⟨gp, 4, none⟩) (.inl (by simp)) _
    refine ⟨(HR3.out.far hBp3 tR_ne hcc).far hBrm tR_ne hc5, (HC3.out.trans' hcc (by intro y hy; simp at hy; subst hy; exact .inr (by omega))).trans' hc5 (by intro y hy; simp at hy; subst hy; exact .inr (by omega))⟩)
  cases hidx : idxE s.L f with
  | none =>
    have HG := Lib.hid (look_miss (s := s) (f := f) (fl := fl) (fun e he => by rw [idx_get_none hidx] at he; cases he))
    have hlt : decide (idxV none < 0) = true := rfl
    clear hidx
    go_wp2_with (first
      | (refine wpList_row 51 (.tmp 3) rfl rfl gp 0 rfl (arrR n s.now (.slice A M cp) { s.c with misses := s.c.misses + 1 }) _ HRM.out Tryz.underlying51 rfl infR ?_)
      | (refine wpList_store_blk (vs := arrR n s.now (.slice A M cp) { s.c with misses := s.c.misses + 1 }) rfl 51 (.tmp 6) (.tmp 31) rfl rfl hBrm rfl rfl rfl infR arrR_one ?_; intro w5 hB5 hc5)
      | fail)
    refine bodyPost_ret (results_b12 rfl rfl hB5 rfl _ Tryz.underlying51 rfl (by kernel_rfl)) rfl ?_
    rw [HG.out]
    exact ⟨_, rfl, HMISS.out w5 hc5⟩
  | some i =>
    obtain ⟨e, he, hfe⟩ := idx_some hidx
    have hge : getE s.L f = some e := by rw [← hfe]; exact getE_of HS.out.nd (List.mem_of_getElem? he)
    have hlt : decide (idxV (some i) < 0) = false := by show decide ((i : Int) < 0) = false; simp
    have hidV : idxV (some i) = (i : Int) := rfl
    obtain ⟨b, o, rfl, hre⟩ := HR3.out.one he
    have c2 : w3.cell? ⟨gp, 2, none⟩ = some (.slice (some ⟨b, o, none⟩) M cp) := hBp3.cell 2
    have hiM : i < M := by rw [← HM.out]; exact (List.getElem?_eq_some_iff.1 he).1
    have hiI : (i : Int) < (M : Int) := by omega
    have k34 : w3.cell? ⟨b, o + i * 37 + 34, none⟩ = some (.int .i64 e.node) := hre 34 _ rfl
    rw [hidV]
    rw [hidV] at hlt
    clear hidx hidV
    by_cases hz : e.node = 0
    · have HG := Lib.hid (look_miss (s := s) (f := f) (fl := fl) (fun e' he' => by rw [hge] at he'; injection he' with he'; subst he'; exact hz))
      rw [hz] at k34
      clear hre he hge hfe hz
      go_wp2_with (first
        | (refine wpList_row 51 (.tmp 3) rfl rfl gp 0 rfl (arrR n s.now (.slice (some ⟨b, o, none⟩) M cp) { s.c with misses := s.c.misses + 1 }) _ HRM.out Tryz.underlying51 rfl infR ?_)
        | (refine wpList_store_blk (vs := arrR n s.now (.slice (some ⟨b, o, none⟩) M cp) { s.c with misses := s.c.misses + 1 }) rfl 51 (.tmp 6) (.tmp 31) rfl rfl hBrm rfl rfl rfl infR arrR_one ?_; intro w5 hB5 hc5)
        | fail)
      refine bodyPost_ret (results_b12 rfl rfl hB5 rfl _ Tryz.underlying51 rfl (by kernel_rfl)) rfl ?_
      rw [HG.out]
      exact ⟨_, rfl, HMISS.out w5 hc5⟩
    · have HG := Lib.hid (look_some (fl := fl) hge hz)
      have hzb : (e.node == 0) = false := by simp [hz]
      have HOE := Lib.hid (HS.out.ok e (List.mem_of_getElem? he))
      have hst := HOE.out.st
      have HWO : Hid (woL s.L i = outE s.L f) := Lib.hid (by rw [← hfe, out_idx HS.out.nd he])
      have FX := Lib.hid (fun W => rnext_any hst fl W)
      have FW := Lib.hid (fun W (hr : RL W (.slice (some ⟨b, o, none⟩) M cp) s.L) => rwo_any (n := n) (now := s.now) (c := { s.c with hits := s.c.hits + 1 }) hr (by rw [HM.out]; exact hlen) (i := i) (by rw [HM.out]; exact hiM))
      have FF := Lib.hid (fun W v (hr : RL W v (woL s.L i)) => rfront_any (n := n) (now := s.now) (c := { s.c with hits := s.c.hits + 1 }) hr (by rw [woL_len (by rw [HM.out]; exact hiM), HM.out]; omega) (x := stEn e fl) (nextF_ok hst fl) HS.out.now.1 (by have := HS.out.now.2; omega))
      rw [HWO.out] at FW FF
      have hse : arrE (stEn e fl) = (arrE e).setIfInBounds 35 (.int .i64 (nextF e.st fl)) := rfl
      have hBx : Blk (w3.alloc (.cells arrE0 54)) w3.heap.size 54 arrE0 := Blk.new _ _ _
      have hcx := (Chg.refl [] w3).alloc (.cells arrE0 54)
      have hzx := hBp3.lt
      have hzy := hBr3.lt
      clear c4 f4 hBm HRM hBrm HMISS hwm he hge hfe hz
      go_upto_region 6 with (first
        | (refine wpList_row 54 (.tmp 35) rfl rfl b (o + i * 37) rfl (arrE e) _ hre Tryz.underlying54 rfl infE2 ?_)
        | (refine wpList_store_blk (vs := arrE e) rfl 54 (.tmp 10) (.tmp 36) rfl rfl hBx rfl rfl rfl infE2 (arrE_one _) ?_; intro w5 hB5 hc5)
        | fail)
      have hC5 : Chg [] w3 w5 := hcx.trans' hc5 (by intro y hy; simp at hy; subst hy; exact .inr (Nat.le_refl _))
      have hBp5 := hBp3.chg hC5 (by simp)
      have hBr5 := hBr3.chg hC5 (by simp)
      have HR5 := Lib.hid (HR3.out.chg0 hC5)
      have HC5 := Lib.hid (HC3.out.trans hC5)
      have HLT := Lib.hid (fun y hy => (own_lt HR3.out y hy).2)
      clear hBx hcx hc5 hre k34 c2 hC5 hBp3 hBr3 HR3 HC3
      generalize hgx : w3.heap.size = gx at *
      have k35 : w5.cell? ⟨gx, 35, none⟩ = some (.int .i64 e.st) := hB5.cell 35
      have f35 := hB5.frozen 35
      have hB6 := hB5.set_ 35 (.int .i64 (nextF e.st fl))
      rw [← hse] at hB6
      have hBp6 := hBp5.far (p := ⟨gx, 35, none⟩) (show gp ≠ gx by omega) (.int .i64 (nextF e.st fl))
      have hBr6 := hBr5.far (p := ⟨gx, 35, none⟩) (show gp + 1 + 1 ≠ gx by omega) (.int .i64 (nextF e.st fl))
      have h6 : Chg [gx] w5 (w5.setCell ⟨gx, 35, none⟩ (.int .i64 (nextF e.st fl))) := (Chg.refl _ _).setCell (p := ⟨gx, 35, none⟩) (.inl (by simp)) _
      have HR6 := Lib.hid (HR5.out.chg h6 (fun y hy hm => by simp at hm; subst hm; have := HLT.out _ hy; omega))
      go_wp2_with fail
      refine (FX.out _).mono ?_
      rintro e' w' ⟨rfl, rfl⟩
      clear FX
      go_upto_region 7 with fail
      generalize (w5.setCell ⟨gx, 35, none⟩ (.int .i64 (nextF e.st fl))) = w6 at *
      clear k35 f35
      have hB7 := hB6.far (p := ⟨gp, 3, none⟩) (show gx ≠ gp by omega) (.int .i64 (s.c.hits + 1))
      have hBp7 : Blk (w6.setCell ⟨gp, 3, none⟩ (.int .i64 (s.c.hits + 1))) gp 51 (arrR n s.now (.slice (some ⟨b, o, none⟩) M cp) { s.c with hits := s.c.hits + 1 }) := hBp6.set_ 3 (.int .i64 (s.c.hits + 1))
      have hBr7 := hBr6.far (p := ⟨gp, 3, none⟩) (show gp + 1 + 1 ≠ gp by omega) (.int .i64 (s.c.hits + 1))
      have h7 : Chg [gp] w6 (w6.setCell ⟨gp, 3, none⟩ (.int .i64 (s.c.hits + 1))) := (Chg.refl _ _).setCell (p := ⟨gp, 3, none⟩) (.inl (by simp)) _
      have HR7 := Lib.hid (HR6.out.far hBp6 tR_ne h7)
      have c3 : w6.cell? ⟨gp, 3, none⟩ = some (.int .i64 s.c.hits) := hBp6.cell 3
      have f3 := hBp6.frozen 3
      have HC7 : Hid (Chg [] w (w6.setCell ⟨gp, 3, none⟩ (.int .i64 (s.c.hits + 1)))) := Lib.hid ((HC5.out.trans' h6 (by intro y hy; simp at hy; subst hy; exact .inr (by omega))).trans' h7 (by intro y hy; simp at hy; subst hy; exact .inr (by omega)))
      have HS7 := Lib.hid (And.intro hB7 (And.intro hBp7 hBr7))
      clear hB5 hB6 hB7 hBp5 hBp6 hBp7 hBr5 hBr6 hBr7 h6 h7 HR5 HR6 HC5
      go_upto_region 8 with fail
      generalize (w6.setCell ⟨gp, 3, none⟩ (.int .i64 (s.c.hits + 1))) = w7 at *
      clear c3 f3
      have hR7d : RL w7.drew (.slice (some ⟨b, o, none⟩) M cp) s.L := HR7.out.chg0 (Chg.refl [] w7).drew
      have HC7d := Lib.hid (HC7.out.drew)
      have HBr := Lib.hid (HS7.out.2.2.drew)
      have hS0 : (fun W : World => Blk W gp 51 (arrR n s.now (.slice (some ⟨b, o, none⟩) M cp) { s.c with hits := s.c.hits + 1 }) ∧ Blk W gx 54 (arrE (stEn e fl))) w7.drew := ⟨HS7.out.2.1.drew, HS7.out.1.drew⟩
      have HS1 : ∀ W : World, (fun W : World => Blk W gp 51 (arrR n s.now (.slice (some ⟨b, o, none⟩) M cp) { s.c with hits := s.c.hits + 1 }) ∧ Blk W gx 54 (arrE (stEn e fl))) W → W.rangeAt gp 0 (arrR n s.now (.slice (some ⟨b, o, none⟩) M cp) { s.c with hits := s.c.hits + 1 }).toList := fun W h => h.1.rangeQ
      have HS2 : ∀ W : World, (fun W : World => Blk W gp 51 (arrR n s.now (.slice (some ⟨b, o, none⟩) M cp) { s.c with hits := s.c.hits + 1 }) ∧ Blk W gx 54 (arrE (stEn e fl))) W → W.rangeAt gx 0 (arrE (stEn e fl)).toList := fun W h => h.2.rangeQ
      have HS3 : ∀ W : World, (fun W : World => Blk W gp 51 (arrR n s.now (.slice (some ⟨b, o, none⟩) M cp) { s.c with hits := s.c.hits + 1 }) ∧ Blk W gx 54 (arrE (stEn e fl))) W → W.cell? ⟨gx, 34, none⟩ = some (.int .i64 e.node) := fun W h => h.2.cell 34
      have FW1 := Lib.hid (FW.out _ hR7d)
      have hnn : (stEn e fl).node = e.node := rfl
      have hgg : gp < gx ∧ gp + 1 + 1 < gx := ⟨by omega, by omega⟩
      clear FW HS7 HR7 HC7
      refine wp_region_noPanic ?_
      refine wp_region_held_drew (S := fun W : World => Blk W gp 51 (arrR n s.now (.slice (some ⟨b, o, none⟩) M cp) { s.c with hits := s.c.hits + 1 }) ∧ Blk W gx 54 (arrE (stEn e fl))) (by kernel_rfl) hS0 (fun _ => ?_)
      generalize w7.drew = w8 at *
      refine wpAnyH_take (i := 0) rfl (by kernel_rfl) (by kernel_rfl) (by kernel_rfl) (fun _ _ _ h => h) (yields_row (by rfl) 51 (.tmp 3) rfl gp 0 rfl (arrR n s.now (.slice (some ⟨b, o, none⟩) M cp) { s.c with hits := s.c.hits + 1 }) _ HS1 Tryz.underlying51 rfl infR) (by with_reducible assumption) ?_
      try simp only [List.getElem_toArray, List.getElem_cons_succ, List.getElem_cons_zero, Act.put, List.setIfInBounds_toArray, List.set_cons_zero, List.set_cons_succ]
      refine wpAnyH_take (i := 1) (v := ?_) rfl (by kernel_rfl) (by kernel_rfl) (by kernel_rfl) (fun _ _ _ h => h) (yields_pure (by rfl) (fun w => ?_)) (by with_reducible assumption) ?_
      rotate_left
      · (go_simp <;> with_reducible rfl)
      try simp only [List.getElem_toArray, List.getElem_cons_succ, List.getElem_cons_zero, Act.put, List.setIfInBounds_toArray, List.set_cons_zero, List.set_cons_succ]
      refine wpAnyH_take (i := 3) rfl (by kernel_rfl) (by kernel_rfl) (by kernel_rfl) (fun _ _ _ h => h) (yields_row (by rfl) 54 (.tmp 10) rfl gx 0 rfl (arrE (stEn e fl)) _ HS2 Tryz.underlying54 rfl infE2) (by with_reducible assumption) ?_
      try simp only [List.getElem_toArray, List.getElem_cons_succ, List.getElem_cons_zero, Act.put, List.setIfInBounds_toArray, List.set_cons_zero, List.set_cons_succ]
      refine wpAnyH_take (i := 5) (v := ?_) rfl (by kernel_rfl) (by kernel_rfl) (by kernel_rfl) (fun _ _ _ h => h) (yields_pure (by rfl) (fun w => ?_)) (by with_reducible assumption) ?_
      rotate_left
      · (go_simp <;> with_reducible rfl)
      try simp only [List.getElem_toArray, List.getElem_cons_succ, List.getElem_cons_zero, Act.put, List.setIfInBounds_toArray, List.set_cons_zero, List.set_cons_succ]
      refine wpAnyH_take (i := 6) rfl (by kernel_rfl) (by kernel_rfl) (by kernel_rfl) (fun _ _ _ h => h) (yields_cell (by rfl) 3 (.tmp 53) rfl gx 34 rfl (.int .i64 e.node) _ HS3 Tryz.underlying3 rfl) (by with_reducible assumption) ?_
      try simp only [List.getElem_toArray, List.getElem_cons_succ, List.getElem_cons_zero, Act.put, List.setIfInBounds_toArray, List.set_cons_zero, List.set_cons_succ]
      refine wpAnyH_ready (rs := [2]) (by kernel_rfl) (by simp) (AllReadyH.cons rfl (fun K hK => ?_) AllReadyH.nil)
      go_simp
      refine FW1.out.mono ?_
      rintro e' w9 ⟨v9, rfl, hr9, hc9⟩
      have FF1 := Lib.hid (FF.out _ _ hr9)
      have HC9 := Lib.hid (HC7d.out.trans hc9)
      have HB9 := Lib.hid (HBr.out.chg hc9 (by simp))
      have hS9 : (fun W : World => Blk W gp 51 (arrR n s.now (.slice (some ⟨b, o, none⟩) M cp) { s.c with hits := s.c.hits + 1 }) ∧ Blk W gx 54 (arrE (stEn e fl))) w9 := ⟨hS0.1.chg hc9 (by simp), hS0.2.chg hc9 (by simp)⟩
      clear hr9 hc9
      refine hK.out _ _ (by with_reducible assumption) (fun _ => ?_)
      clear hK K
      try simp only [List.getElem_toArray, List.getElem_cons_succ, List.getElem_cons_zero, Act.put, List.setIfInBounds_toArray, List.set_cons_zero, List.set_cons_succ]
      refine wpAnyH_ready (rs := [4]) (by kernel_rfl) (by simp) (AllReadyH.cons rfl (fun K hK => ?_) AllReadyH.nil)
      go_simp
      refine FF1.out.mono ?_
      rintro e' w10 ⟨v10, rfl, hr10, hc10⟩
      obtain ⟨A10, c10, rfl⟩ := hr10.form
      have HR10 := Lib.hid hr10
      have HC10 := Lib.hid (HC9.out.trans hc10)
      have HB10 := Lib.hid (HB9.out.chg hc10 (by simp))
      have hS10 : (fun W : World => Blk W gp 51 (arrR n s.now (.slice (some ⟨b, o, none⟩) M cp) { s.c with hits := s.c.hits + 1 }) ∧ Blk W gx 54 (arrE (stEn e fl))) w10 := ⟨hS9.1.chg hc10 (by simp), hS9.2.chg hc10 (by simp)⟩
      clear hr10 hc10
      refine hK.out _ _ (by with_reducible assumption) (fun _ => ?_)
      clear hK K
      try simp only [List.getElem_toArray, List.getElem_cons_succ, List.getElem_cons_zero, Act.put, List.setIfInBounds_toArray, List.set_cons_zero, List.set_cons_succ]
      refine wpAnyH_ready (rs := [7]) (by kernel_rfl) (by simp) (AllReadyH.cons rfl (fun K hK => ?_) AllReadyH.nil)
      refine step_store_blk (vs := arrR n s.now (.slice A10 (nowE s.now (stEn e fl) :: outE s.L f).length c10) { s.c with hits := s.c.hits + 1 }) rfl 51 (.tmp 6) (.tmp 52) rfl HB10.out rfl rfl rfl infR arrR_one ?_
      intro w11 hB11 hc11
      have hS11 : (fun W : World => Blk W gp 51 (arrR n s.now (.slice (some ⟨b, o, none⟩) M cp) { s.c with hits := s.c.hits + 1 }) ∧ Blk W gx 54 (arrE (stEn e fl))) w11 := ⟨hS10.1.chg hc11 (by simp; omega), hS10.2.chg hc11 (by simp; omega)⟩
      refine hK.out _ _ (by with_reducible assumption) (fun _ => ?_)
      clear hK K
      try simp only [List.getElem_toArray, List.getElem_cons_succ, List.getElem_cons_zero, Act.put, List.setIfInBounds_toArray, List.set_cons_zero, List.set_cons_succ]
      refine wpAnyH_take (i := 8) (v := ?_) rfl (by kernel_rfl) (by kernel_rfl) (by kernel_rfl) (fun _ _ _ h => h) (yields_pure (by rfl) (fun w => ?_)) (by with_reducible assumption) ?_
      rotate_left
      · (go_simp <;> with_reducible rfl)
      try simp only [List.getElem_toArray, List.getElem_cons_succ, List.getElem_cons_zero, Act.put, List.setIfInBounds_toArray, List.set_cons_zero, List.set_cons_succ]
      refine wpAnyH_take (i := 9) (v := ?_) rfl (by kernel_rfl) (by kernel_rfl) (by kernel_rfl) (fun _ _ _ h => h) (yields_pure (by rfl) (fun w => ?_)) (by with_reducible assumption) ?_
      rotate_left
      · (go_simp <;> with_reducible rfl)
      try simp only [List.getElem_toArray, List.getElem_cons_succ, List.getElem_cons_zero, Act.put, List.setIfInBounds_toArray, List.set_cons_zero, List.set_cons_succ]
      refine wpAnyH_done (by kernel_rfl) ?_ _
      refine NoPanic.normal ?_
      have HFIN : Hid (RL w11 (.slice A10 (nowE s.now (stEn e fl) :: outE s.L f).length c10) (nowE s.now (stEn e fl) :: outE s.L f) ∧ Chg [] w w11) := Lib.hid ⟨HR10.out.far HB10.out tR_ne hc11, HC10.out.trans' hc11 (by intro y hy; simp at hy; subst hy; exact .inr (by omega))⟩
      clear hS0 hS9 hS10 hS11 HS1 HS2 HS3 FF FW1 FF1 hc11
      go_wp2_with fail
      refine bodyPost_ret (results_b12 rfl rfl hB11 rfl _ Tryz.underlying51 rfl (by kernel_rfl)) rfl ?_
      rw [HG.out]
      exact ⟨_, rfl, HFIN.out⟩
end Go.Proofs.YtldgdpekhjignaaGreat.Ft
namespace Go.Proofs.YtldgdpekhjignaaGreat.Ft
open Go.RowKit Go.Maps

set_option maxRecDepth 100000 in
set_option maxHeartbeats 4000000 in
theorem rforget_any {w : World} {v : Value} {n : Nat} {s : Sx} (h : RL w v s.L) (hS : okS n s) {f : Fl} (hf : okF f) :
    Calls Tryz.prog 34 #[.agg (arrR n s.now v s.c), f.v] w fun e w' => ∃ v', e = .returned (.tuple #[.agg (arrR n s.now v' s.c), .bool (forgetS s f).2]) ∧ RL w' v' (forgetS s f).1.L ∧ (forgetS s f).1.c = s.c ∧ Chg [] w w' := by
  obtain ⟨A, cp, rfl⟩ := h.form
  have hlen : s.L.length ≤ 64 := by have := hS.len; have := hS.hi; omega
  have hA2 := (((Chg.refl [] w).alloc (.cells (arrR n s.now (.slice A s.L.length cp) s.c) 51)).alloc (.cells (arrF f) 38)).alloc (.cells (arrR 0 0 (.slice none 0 0) ⟨0, 0, 0, 0, 0, 0⟩) 51)
  have hBp2 : Blk (((w.alloc (.cells (arrR n s.now (.slice A s.L.length cp) s.c) 51)).alloc (.cells (arrF f) 38)).alloc (.cells (arrR 0 0 (.slice none 0 0) ⟨0, 0, 0, 0, 0, 0⟩) 51)) w.heap.size 51 (arrR n s.now (.slice A s.L.length cp) s.c) := ((Blk.new _ _ _).alloc _).alloc _
  have hBf2 : Blk (((w.alloc (.cells (arrR n s.now (.slice A s.L.length cp) s.c) 51)).alloc (.cells (arrF f) 38)).alloc (.cells (arrR 0 0 (.slice none 0 0) ⟨0, 0, 0, 0, 0, 0⟩) 51)) (w.heap.size + 1) 38 (arrF f) := (Blk.new' (by simp)).alloc _
  have hBr2 : Blk (((w.alloc (.cells (arrR n s.now (.slice A s.L.length cp) s.c) 51)).alloc (.cells (arrF f) 38)).alloc (.cells (arrR 0 0 (.slice none 0 0) ⟨0, 0, 0, 0, 0, 0⟩) 51)) (w.heap.size + 1 + 1) 51 (arrR 0 0 (.slice none 0 0) ⟨0, 0, 0, 0, 0, 0⟩) := Blk.new' (by simp)
  have hRL2 := h.chg0 hA2
  have FF := Lib.hid (rfind_any (n := n) (now := s.now) (c := s.c) hRL2 (fun e he => (hS.ok e he).fl) hlen hf)
  have HI := Lib.hid (And.intro hA2 (And.intro hBp2 (And.intro hBf2 (And.intro hBr2 hRL2))))
  have HS := Lib.hid hS
  have HC := Lib.hid hS.c
  have hrp := hBp2.rangeQ
  have hrf := hBf2.rangeQ
  clear h hA2 hBp2 hBf2 hBr2 hRL2 hS
  generalize hM : s.L.length = M at *
  have HM := Lib.hid hM
  clear hM
  go_enter Tryz.func34, Tryz.ntmps34
  go_upto_region 1 with fail
  generalize hw2 : (((w.alloc (.cells (arrR n s.now (.slice A M cp) s.c) 51)).alloc (.cells (arrF f) 38)).alloc (.cells (arrR 0 0 (.slice none 0 0) ⟨0, 0, 0, 0, 0, 0⟩) 51)) = w2 at *
  generalize hgp : w.heap.size = gp at *
  clear hw2
  go_wp2_with (first
    | (refine wpList_row 51 (.tmp 2) rfl rfl gp 0 rfl _ _ hrp Tryz.underlying51 rfl infR ?_)
    | (refine wpList_row 38 (.tmp 3) rfl rfl (gp + 1) 0 rfl (arrF f) _ hrf Tryz.underlying38 rfl infF ?_)
    | fail)
  refine FF.out.mono ?_
  rintro e w3 ⟨rfl, hc3⟩
  have HC3 := Lib.hid (HI.out.1.trans hc3)
  have hBp3 := HI.out.2.1.chg hc3 (by simp)
  have hBf3 := HI.out.2.2.1.chg hc3 (by simp)
  have hBr3 := HI.out.2.2.2.1.chg hc3 (by simp)
  have HR3 := Lib.hid (HI.out.2.2.2.2.chg0 hc3)
  have HRP := Lib.hid hBp3.rangeQ
  have HRF := Lib.hid hBf3.rangeQ
  clear hc3 FF hrp hrf HI
  cases hidx : idxE s.L f with
  | none =>
    have HG := Lib.hid (forget_none (idx_get_none hidx))
    have hlt : decide (idxV none < 0) = true := rfl
    clear hidx
    go_wp2_with (first
      | (refine wpList_row 51 (.tmp 2) rfl rfl gp 0 rfl (arrR n s.now (.slice A M cp) s.c) _ HRP.out Tryz.underlying51 rfl infR ?_)
      | (refine wpList_store_blk (vs := arrR n s.now (.slice A M cp) s.c) rfl 51 (.tmp 4) (.tmp 12) rfl rfl hBr3 rfl rfl rfl infR arrR_one ?_; intro w5 hB5 hc5)
      | fail)
    refine bodyPost_ret (results_blk2 rfl rfl hB5 _ Tryz.underlying51 rfl (by kernel_rfl)) rfl ?_
    rw [HG.out]
    exact ⟨_, rfl, HR3.out.far hBr3 tR_ne hc5, rfl, HC3.out.trans' hc5 (by intro y hy; simp at hy; subst hy; exact .inr (by omega))⟩
  | some i =>
    obtain ⟨e, he, hfe⟩ := idx_some hidx
    have hge : getE s.L f = some e := by rw [← hfe]; exact getE_of HS.out.nd (List.mem_of_getElem? he)
    have HG := Lib.hid (forget_some hge)
    have hlt : decide (idxV (some i) < 0) = false := by show decide ((i : Int) < 0) = false; simp
    have hidV : idxV (some i) = (i : Int) := rfl
    have hiM : i < s.L.length := (List.getElem?_eq_some_iff.1 he).1
    have HWO : Hid (woL s.L i = outE s.L f) := Lib.hid (by rw [← hfe, out_idx HS.out.nd he])
    have FW := Lib.hid (rwo_any (n := n) (now := s.now) (c := s.c) HR3.out (by rw [HM.out]; exact hlen) (i := i) hiM)
    rw [HWO.out] at FW
    rw [hidV]
    rw [hidV] at hlt
    clear hidx hidV he hfe hge hiM
    go_wp2_with (first
      | (refine wpList_row 51 (.tmp 2) rfl rfl gp 0 rfl (arrR n s.now (.slice A M cp) s.c) _ HRP.out Tryz.underlying51 rfl infR ?_)
      | fail)
    refine FW.out.mono ?_
    rintro e' w4 ⟨v4, rfl, hr4, hc4⟩
    obtain ⟨A4, c4, rfl⟩ := hr4.form
    have hBr4 := hBr3.chg hc4 (by simp)
    have HR4 := Lib.hid hr4
    have HC4 := Lib.hid (HC3.out.trans hc4)
    clear hr4 hc4 FW
    go_wp2_with (first
      | (refine wpList_store_blk (vs := arrR n s.now (.slice A4 (outE s.L f).length c4) s.c) rfl 51 (.tmp 4) (.tmp 15) rfl rfl hBr4 rfl rfl rfl infR arrR_one ?_; intro w5 hB5 hc5)
      | fail)
    refine bodyPost_ret (results_blk2 rfl rfl hB5 _ Tryz.underlying51 rfl (by kernel_rfl)) rfl ?_
    rw [HG.out]
    exact ⟨_, rfl, HR4.out.far hBr4 tR_ne hc5, rfl, HC4.out.trans' hc5 (by intro y hy; simp at hy; subst hy; exact .inr (by omega))⟩
end Go.Proofs.YtldgdpekhjignaaGreat.Ft
namespace Go.Proofs.YtldgdpekhjignaaGreat.Ft
open Go.RowKit Go.Maps

set_option maxRecDepth 100000 in
set_option maxHeartbeats 4000000 in
theorem rpend_any {w : World} {v : Value} {n : Nat} {s : Sx} (h : RL w v s.L) (hS : okS n s) {f : Fl} (hf : okF f) :
    Calls Tryz.prog 32 #[.agg (arrR n s.now v s.c), f.v] w fun e w' => ∃ v', e = .returned (.tuple #[.agg (arrR n s.now v' (pendS n s f).1.c), .bool (pendS n s f).2]) ∧ RL w' v' (pendS n s f).1.L ∧ Chg [] w w' := by
  obtain ⟨A, cp, rfl⟩ := h.form
  have hlen : s.L.length ≤ 64 := by have := hS.len; have := hS.hi; omega
  have HLT0 := Lib.hid (fun y hy => (own_lt h y hy).2)
  have hA2 := (((Chg.refl [] w).alloc (.cells (arrR n s.now (.slice A s.L.length cp) s.c) 51)).alloc (.cells (arrF f) 38)).alloc (.cells (arrR 0 0 (.slice none 0 0) ⟨0, 0, 0, 0, 0, 0⟩) 51)
  have hBp2 : Blk (((w.alloc (.cells (arrR n s.now (.slice A s.L.length cp) s.c) 51)).alloc (.cells (arrF f) 38)).alloc (.cells (arrR 0 0 (.slice none 0 0) ⟨0, 0, 0, 0, 0, 0⟩) 51)) w.heap.size 51 (arrR n s.now (.slice A s.L.length cp) s.c) := ((Blk.new _ _ _).alloc _).alloc _
  have hBf2 : Blk (((w.alloc (.cells (arrR n s.now (.slice A s.L.length cp) s.c) 51)).alloc (.cells (arrF f) 38)).alloc (.cells (arrR 0 0 (.slice none 0 0) ⟨0, 0, 0, 0, 0, 0⟩) 51)) (w.heap.size + 1) 38 (arrF f) := (Blk.new' (by simp)).alloc _
  have hBr2 : Blk (((w.alloc (.cells (arrR n s.now (.slice A s.L.length cp) s.c) 51)).alloc (.cells (arrF f) 38)).alloc (.cells (arrR 0 0 (.slice none 0 0) ⟨0, 0, 0, 0, 0, 0⟩) 51)) (w.heap.size + 1 + 1) 51 (arrR 0 0 (.slice none 0 0) ⟨0, 0, 0, 0, 0, 0⟩) := Blk.new' (by simp)
  have hRL2 := h.chg0 hA2
  have FF := Lib.hid (rfind_any (n := n) (now := s.now) (c := s.c) hRL2 (fun e he => (hS.ok e he).fl) hlen hf)
  have HI := Lib.hid (And.intro hA2 (And.intro hBp2 (And.intro hBf2 (And.intro hBr2 hRL2))))
  have HS := Lib.hid hS
  have HC := Lib.hid hS.c
  have hrp := hBp2.rangeQ
  have hrf := hBf2.rangeQ
  clear h hA2 hBp2 hBf2 hBr2 hRL2 hS
  generalize hM : s.L.length = M at *
  have HM := Lib.hid hM
  clear hM
  go_enter Tryz.func32, Tryz.ntmps32
  go_upto_region 1 with fail
  generalize hw2 : (((w.alloc (.cells (arrR n s.now (.slice A M cp) s.c) 51)).alloc (.cells (arrF f) 38)).alloc (.cells (arrR 0 0 (.slice none 0 0) ⟨0, 0, 0, 0, 0, 0⟩) 51)) = w2 at *
  generalize hgp : w.heap.size = gp at *
  clear hw2
  go_wp2_with (first
    | (refine wpList_row 51 (.tmp 2) rfl rfl gp 0 rfl _ _ hrp Tryz.underlying51 rfl infR ?_)
    | (refine wpList_row 38 (.tmp 3) rfl rfl (gp + 1) 0 rfl (arrF f) _ hrf Tryz.underlying38 rfl infF ?_)
    | fail)
  refine FF.out.mono ?_
  rintro e w3 ⟨rfl, hc3⟩
  have HC3 := Lib.hid (HI.out.1.trans hc3)
  have hBp3 := HI.out.2.1.chg hc3 (by simp)
  have hBf3 := HI.out.2.2.1.chg hc3 (by simp)
  have hBr3 := HI.out.2.2.2.1.chg hc3 (by simp)
  have HR3 := Lib.hid (HI.out.2.2.2.2.chg0 hc3)
  have HRP := Lib.hid hBp3.rangeQ
  have HRF := Lib.hid hBf3.rangeQ
  clear hc3 FF hrp hrf HI
  cases hidx : idxE s.L f with
  | none =>
    have HG := Lib.hid (pend_none (n := n) (idx_get_none hidx))
    have hlt : decide (idxV none < 0) = true := rfl
    have FA := Lib.hid (radd_any (n := n) (now := s.now) (c := s.c) HR3.out HS.out.len HS.out.hi HS.out.lo (x := ⟨f, 0, 0, 0⟩) ⟨by show (0 : Int) ≤ 0; omega, by show (0 : Int) ≤ 4; omega⟩ HS.out.now.1 (by have := HS.out.now.2; omega) HC.out.evicted.1 HC.out.evicted.2)
    clear hidx
    go_wp2_with (first
      | (refine wpList_row 51 (.tmp 2) rfl rfl gp 0 rfl (arrR n s.now (.slice A M cp) s.c) _ HRP.out Tryz.underlying51 rfl infR ?_)
      | (refine wpList_row 38 (.tmp 3) rfl rfl (gp + 1) 0 rfl (arrF f) _ HRF.out Tryz.underlying38 rfl infF ?_)
      | fail)
    refine FA.out.mono ?_
    rintro e' w4 ⟨v4, rfl, hr4, hc4⟩
    obtain ⟨A4, c4, rfl⟩ := hr4.form
    have hBr4 := hBr3.chg hc4 (by simp)
    have HR4 := Lib.hid hr4
    have HC4 := Lib.hid (HC3.out.trans hc4)
    clear hr4 hc4 FA
    generalize hl4 : (nowE s.now ⟨f, 0, 0, 0⟩ :: addL n s.L).length = M4 at *
    go_wp2_with (first
      | (refine wpList_store_blk (vs := arrR n s.now (.slice A4 M4 c4) (addC n s.L s.c)) rfl 51 (.tmp 4) (.tmp 15) rfl rfl hBr4 rfl rfl rfl infR arrR_one ?_; intro w5 hB5 hc5)
      | fail)
    refine bodyPost_ret (results_blk2 rfl rfl hB5 _ Tryz.underlying51 rfl (by kernel_rfl)) rfl ?_
    rw [HG.out]
    exact ⟨_, rfl, HR4.out.far hBr4 tR_ne hc5, HC4.out.trans' hc5 (by intro y hy; simp at hy; subst hy; exact .inr (by omega))⟩
  | some i =>
    obtain ⟨e, he, hfe⟩ := idx_some hidx
    have hge : getE s.L f = some e := by rw [← hfe]; exact getE_of HS.out.nd (List.mem_of_getElem? he)
    have hlt : decide (idxV (some i) < 0) = false := by show decide ((i : Int) < 0) = false; simp
    have hlt2 : decide (0 ≤ idxV (some i)) = true := by show decide (0 ≤ (i : Int)) = true; simp
    have hidV : idxV (some i) = (i : Int) := rfl
    have hiL : i < s.L.length := (List.getElem?_eq_some_iff.1 he).1
    obtain ⟨b, o, rfl, hre⟩ := HR3.out.one he
    have HBL : Hid (b < gp) := Lib.hid (HLT0.out b (by simp [Value.ownBlock]))
    have c2 : w3.cell? ⟨gp, 2, none⟩ = some (.slice (some ⟨b, o, none⟩) M cp) := hBp3.cell 2
    have hiM : i < M := by rw [← HM.out]; exact hiL
    have hiI : (i : Int) < (M : Int) := by omega
    have k34 : w3.cell? ⟨b, o + i * 37 + 34, none⟩ = some (.int .i64 e.node) := hre 34 _ rfl
    have HWO : Hid (woL s.L i = outE s.L f) := Lib.hid (by rw [← hfe, out_idx HS.out.nd he])
    have HOE := Lib.hid (HS.out.ok e (List.mem_of_getElem? he))
    have HWL : Hid ((outE s.L f).length ≤ 64) := Lib.hid (by rw [← HWO.out, woL_len hiL, HM.out]; omega)
    have FW := Lib.hid (fun W c (hr : RL W (.slice (some ⟨b, o, none⟩) M cp) s.L) => rwo_any (n := n) (now := s.now) (c := c) hr (by rw [HM.out]; exact hlen) (i := i) hiL)
    have FF := Lib.hid (fun W v c x (hx : okE x) (hr : RL W v (outE s.L f)) => rfront_any (n := n) (now := s.now) (c := c) hr HWL.out (x := x) hx.st HS.out.now.1 (by have := HS.out.now.2; omega))
    rw [HWO.out] at FW
    rw [hidV]
    rw [hidV] at hlt hlt2
    clear hidx hidV hfe hiL he
    by_cases hz : e.node = 0
    · have HG := Lib.hid (pend_zero (n := n) hge hz)
      rw [hz] at k34
      clear hge hz
      go_upto_region 6 with fail
      have HC3d := Lib.hid (HC3.out.drew)
      have HBr := Lib.hid (hBr3.drew)
      have hR3d : RL w3.drew (.slice (some ⟨b, o, none⟩) M cp) s.L := HR3.out.chg0 (Chg.refl [] w3).drew
      have hS0 : (fun W : World => Blk W gp 51 (arrR n s.now (.slice (some ⟨b, o, none⟩) M cp) s.c) ∧ W.rangeAt b (o + i * 37) (arrE e).toList) w3.drew := ⟨hBp3.drew, rangeAt_chg hre (Chg.refl [] w3).drew (by simp)⟩
      have HS1 : ∀ W : World, (fun W : World => Blk W gp 51 (arrR n s.now (.slice (some ⟨b, o, none⟩) M cp) s.c) ∧ W.rangeAt b (o + i * 37) (arrE e).toList) W → W.rangeAt gp 0 (arrR n s.now (.slice (some ⟨b, o, none⟩) M cp) s.c).toList := fun W h => h.1.rangeQ
      have HS2 : ∀ W : World, (fun W : World => Blk W gp 51 (arrR n s.now (.slice (some ⟨b, o, none⟩) M cp) s.c) ∧ W.rangeAt b (o + i * 37) (arrE e).toList) W → W.cell? ⟨gp, 2, none⟩ = some (.slice (some ⟨b, o, none⟩) M cp) := fun W h => h.1.cell 2
      have HS3 : ∀ W : World, (fun W : World => Blk W gp 51 (arrR n s.now (.slice (some ⟨b, o, none⟩) M cp) s.c) ∧ W.rangeAt b (o + i * 37) (arrE e).toList) W → W.rangeAt b (o + i * 37) (arrE e).toList := fun W h => h.2
      have FW1 := Lib.hid (FW.out _ s.c hR3d)
      clear FW
      refine wp_region_noPanic ?_
      refine wp_region_held_drew (S := fun W : World => Blk W gp 51 (arrR n s.now (.slice (some ⟨b, o, none⟩) M cp) s.c) ∧ W.rangeAt b (o + i * 37) (arrE e).toList) (by kernel_rfl) hS0 (fun _ => ?_)
      generalize w3.drew = w8 at *
      refine wpAnyH_take (i := 0) rfl (by kernel_rfl) (by kernel_rfl) (by kernel_rfl) (fun _ _ _ h => h) (yields_row (by rfl) 51 (.tmp 2) rfl gp 0 rfl (arrR n s.now (.slice (some ⟨b, o, none⟩) M cp) s.c) _ HS1 Tryz.underlying51 rfl infR) (by with_reducible assumption) ?_
      try simp only [List.getElem_toArray, List.getElem_cons_succ, List.getElem_cons_zero, Act.put, List.setIfInBounds_toArray, List.set_cons_zero, List.set_cons_succ]
      refine wpAnyH_take (i := 1) (v := ?_) rfl (by kernel_rfl) (by kernel_rfl) (by kernel_rfl) (fun _ _ _ h => h) (yields_pure (by rfl) (fun w => ?_)) (by with_reducible assumption) ?_
      rotate_left
      · (go_simp <;> with_reducible rfl)
      try simp only [List.getElem_toArray, List.getElem_cons_succ, List.getElem_cons_zero, Act.put, List.setIfInBounds_toArray, List.set_cons_zero, List.set_cons_succ]
      refine wpAnyH_take (i := 3) (v := ?_) rfl (by kernel_rfl) (by kernel_rfl) (by kernel_rfl) (fun _ _ _ h => h) (yields_pure (by rfl) (fun w => ?_)) (by with_reducible assumption) ?_
      rotate_left
      · (go_simp <;> with_reducible rfl)
      try simp only [List.getElem_toArray, List.getElem_cons_succ, List.getElem_cons_zero, Act.put, List.setIfInBounds_toArray, List.set_cons_zero, List.set_cons_succ]
      refine wpAnyH_take (i := 4) rfl (by kernel_rfl) (by kernel_rfl) (by kernel_rfl) (fun _ _ _ h => h) (yields_cell (by rfl) 48 (.tmp 27) rfl gp 2 rfl (.slice (some ⟨b, o, none⟩) M cp) _ HS2 Tryz.underlying48 rfl) (by with_reducible assumption) ?_
      try simp only [List.getElem_toArray, List.getElem_cons_succ, List.getElem_cons_zero, Act.put, List.setIfInBounds_toArray, List.set_cons_zero, List.set_cons_succ]
      refine wpAnyH_take (i := 5) (v := ?_) rfl (by kernel_rfl) (by kernel_rfl) (by kernel_rfl) (fun _ _ _ h => h) (yields_pure (by rfl) (fun w => ?_)) (by with_reducible assumption) ?_
      rotate_left
      · (go_simp <;> with_reducible rfl)
      try simp only [List.getElem_toArray, List.getElem_cons_succ, List.getElem_cons_zero, Act.put, List.setIfInBounds_toArray, List.set_cons_zero, List.set_cons_succ]
      refine wpAnyH_take (i := 6) (v := ?_) rfl (by kernel_rfl) (by kernel_rfl) (by kernel_rfl) (fun _ _ _ h => h) (yields_pure (by rfl) (fun w => ?_)) (by with_reducible assumption) ?_
      rotate_left
      · (go_simp <;> with_reducible rfl)
      try simp only [List.getElem_toArray, List.getElem_cons_succ, List.getElem_cons_zero, Act.put, List.setIfInBounds_toArray, List.set_cons_zero, List.set_cons_succ]
      refine wpAnyH_take (i := 7) rfl (by kernel_rfl) (by kernel_rfl) (by kernel_rfl) (fun _ _ _ h => h) (yields_row (by rfl) 54 (.tmp 30) rfl b (o + i * 37) rfl (arrE e) _ HS3 Tryz.underlying54 rfl infE2) (by with_reducible assumption) ?_
      try simp only [List.getElem_toArray, List.getElem_cons_succ, List.getElem_cons_zero, Act.put, List.setIfInBounds_toArray, List.set_cons_zero, List.set_cons_succ]
      refine wpAnyH_ready (rs := [2]) (by kernel_rfl) (by simp) (AllReadyH.cons rfl (fun K hK => ?_) AllReadyH.nil)
      go_simp
      refine FW1.out.mono ?_
      rintro e' w9 ⟨v9, rfl, hr9, hc9⟩
      have FF1 := Lib.hid (FF.out _ _ s.c e HOE.out hr9)
      have HC9 := Lib.hid (HC3d.out.trans hc9)
      have HB9 := Lib.hid (HBr.out.chg hc9 (by simp))
      have hS9 : (fun W : World => Blk W gp 51 (arrR n s.now (.slice (some ⟨b, o, none⟩) M cp) s.c) ∧ W.rangeAt b (o + i * 37) (arrE e).toList) w9 := ⟨hS0.1.chg hc9 (by simp), rangeAt_chg hS0.2 hc9 (by simp)⟩
      clear hr9 hc9
      refine hK.out _ _ (by with_reducible assumption) (fun _ => ?_)
      clear hK K
      try simp only [List.getElem_toArray, List.getElem_cons_succ, List.getElem_cons_zero, Act.put, List.setIfInBounds_toArray, List.set_cons_zero, List.set_cons_succ]
      refine wpAnyH_ready (rs := [8]) (by kernel_rfl) (by simp) (AllReadyH.cons rfl (fun K hK => ?_) AllReadyH.nil)
      go_simp
      refine FF1.out.mono ?_
      rintro e' w10 ⟨v10, rfl, hr10, hc10⟩
      obtain ⟨A10, c10, rfl⟩ := hr10.form
      have HR10 := Lib.hid hr10
      have HC10 := Lib.hid (HC9.out.trans hc10)
      have HB10 := Lib.hid (HB9.out.chg hc10 (by simp))
      have hS10 : (fun W : World => Blk W gp 51 (arrR n s.now (.slice (some ⟨b, o, none⟩) M cp) s.c) ∧ W.rangeAt b (o + i * 37) (arrE e).toList) w10 := ⟨hS9.1.chg hc10 (by simp), rangeAt_chg hS9.2 hc10 (by simp)⟩
      clear hr10 hc10
      refine hK.out _ _ (by with_reducible assumption) (fun _ => ?_)
      clear hK K
      try simp only [List.getElem_toArray, List.getElem_cons_succ, List.getElem_cons_zero, Act.put, List.setIfInBounds_toArray, List.set_cons_zero, List.set_cons_succ]
      refine wpAnyH_ready (rs := [9]) (by kernel_rfl) (by simp) (AllReadyH.cons rfl (fun K hK => ?_) AllReadyH.nil)
      refine step_store_blk (vs := arrR n s.now (.slice A10 (nowE s.now e :: outE s.L f).length c10) s.c) rfl 51 (.tmp 4) (.tmp 32) rfl HB10.out rfl rfl rfl infR arrR_one ?_
      intro w11 hB11 hc11
      have hS11 : (fun W : World => Blk W gp 51 (arrR n s.now (.slice (some ⟨b, o, none⟩) M cp) s.c) ∧ W.rangeAt b (o + i * 37) (arrE e).toList) w11 := ⟨hS10.1.chg hc11 (by simp; omega), rangeAt_chg hS10.2 hc11 (by have := HBL.out; simp; omega)⟩
      refine hK.out _ _ (by with_reducible assumption) (fun _ => ?_)
      clear hK K
      try simp only [List.getElem_toArray, List.getElem_cons_succ, List.getElem_cons_zero, Act.put, List.setIfInBounds_toArray, List.set_cons_zero, List.set_cons_succ]
      refine wpAnyH_take (i := 10) (v := ?_) rfl (by kernel_rfl) (by kernel_rfl) (by kernel_rfl) (fun _ _ _ h => h) (yields_pure (by rfl) (fun w => ?_)) (by with_reducible assumption) ?_
      rotate_left
      · (go_simp <;> with_reducible rfl)
      try simp only [List.getElem_toArray, List.getElem_cons_succ, List.getElem_cons_zero, Act.put, List.setIfInBounds_toArray, List.set_cons_zero, List.set_cons_succ]
      refine wpAnyH_done (by kernel_rfl) ?_ _
      refine NoPanic.normal ?_
      have HFIN : Hid (RL w11 (.slice A10 (nowE s.now e :: outE s.L f).length c10) (nowE s.now e :: outE s.L f) ∧ Chg [] w w11) := Lib.hid ⟨HR10.out.far HB10.out tR_ne hc11, HC10.out.trans' hc11 (by intro y hy; simp at hy; subst hy; exact .inr (by omega))⟩
      clear hS0 hS9 hS10 hS11 HS1 HS2 HS3 FF FW1 FF1 hc11
      go_wp2_with fail
      refine bodyPost_ret (results_blk2 rfl rfl hB11 _ Tryz.underlying51 rfl (by kernel_rfl)) rfl ?_
      rw [HG.out]
      exact ⟨_, rfl, HFIN.out.1, HFIN.out.2⟩
    · have HG := Lib.hid (pend_some (n := n) hge hz)
      have hzb : (e.node == 0) = false := by simp [hz]
      clear hge hz FW FF hre
      go_wp2_with (first
        | (refine wpList_row 51 (.tmp 2) rfl rfl gp 0 rfl (arrR n s.now (.slice (some ⟨b, o, none⟩) M cp) s.c) _ HRP.out Tryz.underlying51 rfl infR ?_)
        | (refine wpList_store_blk (vs := arrR n s.now (.slice (some ⟨b, o, none⟩) M cp) s.c) rfl 51 (.tmp 4) (.tmp 23) rfl rfl hBr3 rfl rfl rfl infR arrR_one ?_; intro w5 hB5 hc5)
        | fail)
      refine bodyPost_ret (results_blk2 rfl rfl hB5 _ Tryz.underlying51 rfl (by kernel_rfl)) rfl ?_
      rw [HG.out]
      exact ⟨_, rfl, HR3.out.far hBr3 tR_ne hc5, HC3.out.trans' hc5 (by intro y hy; simp at hy; subst hy; exact .inr (by omega))⟩
end Go.Proofs.YtldgdpekhjignaaGreat.Ft
namespace Go.Proofs.YtldgdpekhjignaaGreat.Ft
open Go.RowKit Go.Maps

theorem nd_same {s : Sx} {e : En} {f : Fl} {node : Int} (h : e.fl = f) : nowE s.now (ndE e node) = nowE s.now ⟨f, node, 1, 0⟩ := by
  obtain ⟨_, _, _, _⟩ := e
  subst h
  rfl
set_option maxRecDepth 100000 in
set_option maxHeartbeats 4000000 in
theorem rlearn_any {w : World} {v : Value} {n : Nat} {s : Sx} (h : RL w v s.L) (hS : okS n s) {f : Fl} (hf : okF f) (node : Int) :
    Calls Tryz.prog 33 #[.agg (arrR n s.now v s.c), f.v, .int .i64 node] w fun e w' => ∃ v', e = .returned (.tuple #[.agg (arrR n s.now v' (learnS n s f node).1.c), .int .i64 (learnS n s f node).2]) ∧ RL w' v' (learnS n s f node).1.L ∧ Chg [] w w' := by
  obtain ⟨A, cp, rfl⟩ := h.form
  have hlen : s.L.length ≤ 64 := by have := hS.len; have := hS.hi; omega
  have HLT0 := Lib.hid (fun y hy => (own_lt h y hy).2)
  have hA2 := (((Chg.refl [] w).alloc (.cells (arrR n s.now (.slice A s.L.length cp) s.c) 51)).alloc (.cells (arrF f) 38)).alloc (.cells (arrR 0 0 (.slice none 0 0) ⟨0, 0, 0, 0, 0, 0⟩) 51)
  have hBp2 : Blk (((w.alloc (.cells (arrR n s.now (.slice A s.L.length cp) s.c) 51)).alloc (.cells (arrF f) 38)).alloc (.cells (arrR 0 0 (.slice none 0 0) ⟨0, 0, 0, 0, 0, 0⟩) 51)) w.heap.size 51 (arrR n s.now (.slice A s.L.length cp) s.c) := ((Blk.new _ _ _).alloc _).alloc _
  have hBf2 : Blk (((w.alloc (.cells (arrR n s.now (.slice A s.L.length cp) s.c) 51)).alloc (.cells (arrF f) 38)).alloc (.cells (arrR 0 0 (.slice none 0 0) ⟨0, 0, 0, 0, 0, 0⟩) 51)) (w.heap.size + 1) 38 (arrF f) := (Blk.new' (by simp)).alloc _
  have hBr2 : Blk (((w.alloc (.cells (arrR n s.now (.slice A s.L.length cp) s.c) 51)).alloc (.cells (arrF f) 38)).alloc (.cells (arrR 0 0 (.slice none 0 0) ⟨0, 0, 0, 0, 0, 0⟩) 51)) (w.heap.size + 1 + 1) 51 (arrR 0 0 (.slice none 0 0) ⟨0, 0, 0, 0, 0, 0⟩) := Blk.new' (by simp)
  have hRL2 := h.chg0 hA2
  have FF := Lib.hid (rfind_any (n := n) (now := s.now) (c := s.c) hRL2 (fun e he => (hS.ok e he).fl) hlen hf)
  have HI := Lib.hid (And.intro hA2 (And.intro hBp2 (And.intro hBf2 (And.intro hBr2 hRL2))))
  have HS := Lib.hid hS
  have HC := Lib.hid hS.c
  have hrp := hBp2.rangeQ
  have hrf := hBf2.rangeQ
  clear h hA2 hBp2 hBf2 hBr2 hRL2 hS
  generalize hM : s.L.length = M at *
  have HM := Lib.hid hM
  clear hM
  go_enter Tryz.func33, Tryz.ntmps33
  go_upto_region 1 with fail
  generalize hw2 : (((w.alloc (.cells (arrR n s.now (.slice A M cp) s.c) 51)).alloc (.cells (arrF f) 38)).alloc (.cells (arrR 0 0 (.slice none 0 0) ⟨0, 0, 0, 0, 0, 0⟩) 51)) = w2 at *
  generalize hgp : w.heap.size = gp at *
  clear hw2
  by_cases hbad : node < 1 ∨ 65535 < node
  · have HG := Lib.hid (learn_bad (n := n) (s := s) (f := f) hbad)
    obtain ⟨hA2, hBp2, hBf2, hBr2, hRL2⟩ := HI.out
    clear FF hrf HI
    rcases (show node < 1 ∨ (¬ node < 1 ∧ 65535 < node) by omega) with h1 | ⟨h1, h2⟩
    all_goals
      clear hbad
      go_wp2_with (first
        | (refine wpList_row 51 (.tmp 3) rfl rfl gp 0 rfl _ _ hrp Tryz.underlying51 rfl infR ?_)
        | (refine wpList_store_blk (vs := arrR n s.now (.slice A M cp) s.c) rfl 51 (.tmp 6) (.tmp 16) rfl rfl hBr2 rfl rfl rfl infR arrR_one ?_; intro w5 hB5 hc5)
        | fail)
      refine bodyPost_ret (results_blk2 rfl rfl hB5 _ Tryz.underlying51 rfl (by kernel_rfl)) rfl ?_
      rw [HG.out]
      exact ⟨_, rfl, hRL2.far hBr2 tR_ne hc5, hA2.trans' hc5 (by intro y hy; simp at hy; subst hy; exact .inr (by omega))⟩
  have hb1 : ¬ node < 1 := by omega
  have hb2 : ¬ 65535 < node := by omega
  have HBAD := Lib.hid hbad
  clear hbad
  go_wp2_with (first
    | (refine wpList_row 51 (.tmp 3) rfl rfl gp 0 rfl _ _ hrp Tryz.underlying51 rfl infR ?_)
    | (refine wpList_row 38 (.tmp 4) rfl rfl (gp + 1) 0 rfl (arrF f) _ hrf Tryz.underlying38 rfl infF ?_)
    | fail)
  refine FF.out.mono ?_
  rintro e w3 ⟨rfl, hc3⟩
  have HC3 := Lib.hid (HI.out.1.trans hc3)
  have hBp3 := HI.out.2.1.chg hc3 (by simp)
  have hBf3 := HI.out.2.2.1.chg hc3 (by simp)
  have hBr3 := HI.out.2.2.2.1.chg hc3 (by simp)
  have HR3 := Lib.hid (HI.out.2.2.2.2.chg0 hc3)
  have HRP := Lib.hid hBp3.rangeQ
  have HRF := Lib.hid hBf3.rangeQ
  clear hc3 FF hrp hrf HI
  cases hidx : idxE s.L f with
  | none =>
    have HG := Lib.hid (learn_none (n := n) HBAD.out (idx_get_none hidx))
    have hlt2 : decide (0 ≤ idxV none) = false := rfl
    clear hidx
    have hwl : IntKind.i64.wrap (s.c.learnt + 1) = s.c.learnt + 1 := by have := HC.out.learnt; unfold bN at this; rw [IntKind.wrap_i64]; omega
    have c5 : w3.cell? ⟨gp, 5, none⟩ = some (.int .i64 s.c.learnt) := hBp3.cell 5
    have f5 := hBp3.frozen 5
    have h4 : Chg [gp] w3 (w3.setCell ⟨gp, 5, none⟩ (.int .i64 (s.c.learnt + 1))) := (Chg.refl _ _).setCell (p := ⟨gp, 5, none⟩) (.inl (by simp)) _
    have hBp4 : Blk (w3.setCell ⟨gp, 5, none⟩ (.int .i64 (s.c.learnt + 1))) gp 51 (arrR n s.now (.slice A M cp) (learnC s.c)) := hBp3.set_ 5 (.int .i64 (s.c.learnt + 1))
    have hBf4 := hBf3.chg h4 (by simp)
    have hBr4 := hBr3.chg h4 (by simp; omega)
    have HR4 := Lib.hid (HR3.out.far hBp3 tR_ne h4)
    have HC4 := Lib.hid (HC3.out.trans' h4 (by intro y hy; simp at hy; subst hy; exact .inr (by omega)))
    have HRF4 := Lib.hid hBf4.rangeQ
    clear h4 hBp3 hBf3 hBr3 HR3 HC3 HRP HRF
    go_upto_region 10 with fail
    generalize (w3.setCell ⟨gp, 5, none⟩ (.int .i64 (s.c.learnt + 1))) = w4 at *
    clear c5 f5
    have hBx : Blk (w4.alloc (.cells arrE0 54)) w4.heap.size 54 arrE0 := Blk.new _ _ _
    have hcx := (Chg.refl [] w4).alloc (.cells arrE0 54)
    have hzp := hBp4.lt
    have hzr := hBr4.lt
    go_upto_region 11 with (first
      | (refine wpList_row 38 (.tmp 4) rfl rfl (gp + 1) 0 rfl (arrF f) _ HRF4.out Tryz.underlying38 rfl infF ?_)
      | (refine wpList_store_blk (vs := arrE ⟨f, node, 1, 0⟩) rfl 54 (.tmp 9) (.tmp 67) rfl rfl hBx rfl rfl rfl infE2 (arrE_one _) ?_; intro w5 hB5 hc5)
      | fail)
    have hC5 : Chg [] w4 w5 := hcx.trans' hc5 (by intro y hy; simp at hy; subst hy; exact .inr (Nat.le_refl _))
    have hBp5 := hBp4.chg hC5 (by simp)
    have hBr5 := hBr4.chg hC5 (by simp)
    have HR5 := Lib.hid (HR4.out.chg0 hC5)
    have HC5 := Lib.hid (HC4.out.trans hC5)
    clear hBx hcx hc5 hC5 hBp4 hBf4 hBr4 HR4 HC4 HRF4
    generalize hgx : w4.heap.size = gx at *
    have FA := Lib.hid (radd_any (n := n) (now := s.now) (c := learnC s.c) HR5.out HS.out.len HS.out.hi HS.out.lo (x := ⟨f, node, 1, 0⟩) ⟨by show (0 : Int) ≤ 1; omega, by show (1 : Int) ≤ 4; omega⟩ HS.out.now.1 (by have := HS.out.now.2; omega) HC.out.evicted.1 HC.out.evicted.2)
    have HRP5 := Lib.hid hBp5.rangeQ
    have HRX5 := Lib.hid hB5.rangeQ
    go_wp2_with (first
      | (refine wpList_row 51 (.tmp 3) rfl rfl gp 0 rfl (arrR n s.now (.slice A M cp) (learnC s.c)) _ HRP5.out Tryz.underlying51 rfl infR ?_)
      | (refine wpList_row 54 (.tmp 9) rfl rfl gx 0 rfl (arrE ⟨f, node, 1, 0⟩) _ HRX5.out Tryz.underlying54 rfl infE2 ?_)
      | fail)
    refine FA.out.mono ?_
    rintro e' w6 ⟨v6, rfl, hr6, hc6⟩
    obtain ⟨A6, c6, rfl⟩ := hr6.form
    have hBr6 := hBr5.chg hc6 (by simp)
    have HR6 := Lib.hid hr6
    have HC6 := Lib.hid (HC5.out.trans hc6)
    clear hr6 hc6 FA
    generalize hl4 : (nowE s.now ⟨f, node, 1, 0⟩ :: addL n s.L).length = M4 at *
    go_wp2_with (first
      | (refine wpList_store_blk (vs := arrR n s.now (.slice A6 M4 c6) (addC n s.L (learnC s.c))) rfl 51 (.tmp 6) (.tmp 77) rfl rfl hBr6 rfl rfl rfl infR arrR_one ?_; intro w7 hB7 hc7)
      | fail)
    refine bodyPost_ret (results_blk2 rfl rfl hB7 _ Tryz.underlying51 rfl (by kernel_rfl)) rfl ?_
    rw [HG.out]
    have hac : addC n s.L (learnC s.c) = learnC (addC n s.L s.c) := by unfold addC learnC; split <;> rfl
    rw [hac]
    exact ⟨_, rfl, HR6.out.far hBr6 tR_ne hc7, HC6.out.trans' hc7 (by intro y hy; simp at hy; subst hy; exact .inr (by omega))⟩
  | some i =>
    obtain ⟨e, he, hfe⟩ := idx_some hidx
    have hge : getE s.L f = some e := by rw [← hfe]; exact getE_of HS.out.nd (List.mem_of_getElem? he)
    have hlt : decide (idxV (some i) < 0) = false := by show decide ((i : Int) < 0) = false; simp
    have hlt2 : decide (0 ≤ idxV (some i)) = true := by show decide (0 ≤ (i : Int)) = true; simp
    have hidV : idxV (some i) = (i : Int) := rfl
    have hiL : i < s.L.length := (List.getElem?_eq_some_iff.1 he).1
    obtain ⟨b, o, rfl, hre⟩ := HR3.out.one he
    have HBL : Hid (b < gp) := Lib.hid (HLT0.out b (by simp [Value.ownBlock]))
    have c2 : w3.cell? ⟨gp, 2, none⟩ = some (.slice (some ⟨b, o, none⟩) M cp) := hBp3.cell 2
    have hiM : i < M := by rw [← HM.out]; exact hiL
    have hiI : (i : Int) < (M : Int) := by omega
    have k34 : w3.cell? ⟨b, o + i * 37 + 34, none⟩ = some (.int .i64 e.node) := hre 34 _ rfl
    have HWO : Hid (woL s.L i = outE s.L f) := Lib.hid (by rw [← hfe, out_idx HS.out.nd he])
    have HOE := Lib.hid (HS.out.ok e (List.mem_of_getElem? he))
    have HWL : Hid ((outE s.L f).length ≤ 64) := Lib.hid (by rw [← HWO.out, woL_len hiL, HM.out]; omega)
    have FW := Lib.hid (fun W c (hr : RL W (.slice (some ⟨b, o, none⟩) M cp) s.L) => rwo_any (n := n) (now := s.now) (c := c) hr (by rw [HM.out]; exact hlen) (i := i) hiL)
    have FF := Lib.hid (fun W v c x (hx : okE x) (hr : RL W v (outE s.L f)) => rfront_any (n := n) (now := s.now) (c := c) hr HWL.out (x := x) hx.st HS.out.now.1 (by have := HS.out.now.2; omega))
    rw [HWO.out] at FW
    rw [hidV]
    rw [hidV] at hlt hlt2
    clear hidx hidV hfe hiL he
    by_cases hz : e.node = node
    · have HG := Lib.hid (learn_same (n := n) HBAD.out hge hz)
      have hzb : (e.node == node) = true := by simp [hz]
      clear hge hz
      go_upto_region 5 with fail
      have HC3d := Lib.hid (HC3.out.drew)
      have HBr := Lib.hid (hBr3.drew)
      have hR3d : RL w3.drew (.slice (some ⟨b, o, none⟩) M cp) s.L := HR3.out.chg0 (Chg.refl [] w3).drew
      have hS0 : (fun W : World => Blk W gp 51 (arrR n s.now (.slice (some ⟨b, o, none⟩) M cp) s.c) ∧ W.rangeAt b (o + i * 37) (arrE e).toList) w3.drew := ⟨hBp3.drew, rangeAt_chg hre (Chg.refl [] w3).drew (by simp)⟩
      have HS1 : ∀ W : World, (fun W : World => Blk W gp 51 (arrR n s.now (.slice (some ⟨b, o, none⟩) M cp) s.c) ∧ W.rangeAt b (o + i * 37) (arrE e).toList) W → W.rangeAt gp 0 (arrR n s.now (.slice (some ⟨b, o, none⟩) M cp) s.c).toList := fun W h => h.1.rangeQ
      have HS2 : ∀ W : World, (fun W : World => Blk W gp 51 (arrR n s.now (.slice (some ⟨b, o, none⟩) M cp) s.c) ∧ W.rangeAt b (o + i * 37) (arrE e).toList) W → W.cell? ⟨gp, 2, none⟩ = some (.slice (some ⟨b, o, none⟩) M cp) := fun W h => h.1.cell 2
      have HS3 : ∀ W : World, (fun W : World => Blk W gp 51 (arrR n s.now (.slice (some ⟨b, o, none⟩) M cp) s.c) ∧ W.rangeAt b (o + i * 37) (arrE e).toList) W → W.rangeAt b (o + i * 37) (arrE e).toList := fun W h => h.2
      have FW1 := Lib.hid (FW.out _ s.c hR3d)
      clear FW
      refine wp_region_noPanic ?_
      refine wp_region_held_drew (S := fun W : World => Blk W gp 51 (arrR n s.now (.slice (some ⟨b, o, none⟩) M cp) s.c) ∧ W.rangeAt b (o + i * 37) (arrE e).toList) (by kernel_rfl) hS0 (fun _ => ?_)
      generalize w3.drew = w8 at *
      refine wpAnyH_take (i := 0) rfl (by kernel_rfl) (by kernel_rfl) (by kernel_rfl) (fun _ _ _ h => h) (yields_row (by rfl) 51 (.tmp 3) rfl gp 0 rfl (arrR n s.now (.slice (some ⟨b, o, none⟩) M cp) s.c) _ HS1 Tryz.underlying51 rfl infR) (by with_reducible assumption) ?_
      try simp only [List.getElem_toArray, List.getElem_cons_succ, List.getElem_cons_zero, Act.put, List.setIfInBounds_toArray, List.set_cons_zero, List.set_cons_succ]
      refine wpAnyH_take (i := 1) (v := ?_) rfl (by kernel_rfl) (by kernel_rfl) (by kernel_rfl) (fun _ _ _ h => h) (yields_pure (by rfl) (fun w => ?_)) (by with_reducible assumption) ?_
      rotate_left
      · (go_simp <;> with_reducible rfl)
      try simp only [List.getElem_toArray, List.getElem_cons_succ, List.getElem_cons_zero, Act.put, List.setIfInBounds_toArray, List.set_cons_zero, List.set_cons_succ]
      refine wpAnyH_take (i := 3) (v := ?_) rfl (by kernel_rfl) (by kernel_rfl) (by kernel_rfl) (fun _ _ _ h => h) (yields_pure (by rfl) (fun w => ?_)) (by with_reducible assumption) ?_
      rotate_left
      · (go_simp <;> with_reducible rfl)
      try simp only [List.getElem_toArray, List.getElem_cons_succ, List.getElem_cons_zero, Act.put, List.setIfInBounds_toArray, List.set_cons_zero, List.set_cons_succ]
      refine wpAnyH_take (i := 4) rfl (by kernel_rfl) (by kernel_rfl) (by kernel_rfl) (fun _ _ _ h => h) (yields_cell (by rfl) 48 (.tmp 35) rfl gp 2 rfl (.slice (some ⟨b, o, none⟩) M cp) _ HS2 Tryz.underlying48 rfl) (by with_reducible assumption) ?_
      try simp only [List.getElem_toArray, List.getElem_cons_succ, List.getElem_cons_zero, Act.put, List.setIfInBounds_toArray, List.set_cons_zero, List.set_cons_succ]
      refine wpAnyH_take (i := 5) (v := ?_) rfl (by kernel_rfl) (by kernel_rfl) (by kernel_rfl) (fun _ _ _ h => h) (yields_pure (by rfl) (fun w => ?_)) (by with_reducible assumption) ?_
      rotate_left
      · (go_simp <;> with_reducible rfl)
      try simp only [List.getElem_toArray, List.getElem_cons_succ, List.getElem_cons_zero, Act.put, List.setIfInBounds_toArray, List.set_cons_zero, List.set_cons_succ]
      refine wpAnyH_take (i := 6) (v := ?_) rfl (by kernel_rfl) (by kernel_rfl) (by kernel_rfl) (fun _ _ _ h => h) (yields_pure (by rfl) (fun w => ?_)) (by with_reducible assumption) ?_
      rotate_left
      · (go_simp <;> with_reducible rfl)
      try simp only [List.getElem_toArray, List.getElem_cons_succ, List.getElem_cons_zero, Act.put, List.setIfInBounds_toArray, List.set_cons_zero, List.set_cons_succ]
      refine wpAnyH_take (i := 7) rfl (by kernel_rfl) (by kernel_rfl) (by kernel_rfl) (fun _ _ _ h => h) (yields_row (by rfl) 54 (.tmp 38) rfl b (o + i * 37) rfl (arrE e) _ HS3 Tryz.underlying54 rfl infE2) (by with_reducible assumption) ?_
      try simp only [List.getElem_toArray, List.getElem_cons_succ, List.getElem_cons_zero, Act.put, List.setIfInBounds_toArray, List.set_cons_zero, List.set_cons_succ]
      refine wpAnyH_ready (rs := [2]) (by kernel_rfl) (by simp) (AllReadyH.cons rfl (fun K hK => ?_) AllReadyH.nil)
      go_simp
      refine FW1.out.mono ?_
      rintro e' w9 ⟨v9, rfl, hr9, hc9⟩
      have FF1 := Lib.hid (FF.out _ _ s.c e HOE.out hr9)
      have HC9 := Lib.hid (HC3d.out.trans hc9)
      have HB9 := Lib.hid (HBr.out.chg hc9 (by simp))
      have hS9 : (fun W : World => Blk W gp 51 (arrR n s.now (.slice (some ⟨b, o, none⟩) M cp) s.c) ∧ W.rangeAt b (o + i * 37) (arrE e).toList) w9 := ⟨hS0.1.chg hc9 (by simp), rangeAt_chg hS0.2 hc9 (by simp)⟩
      clear hr9 hc9
      refine hK.out _ _ (by with_reducible assumption) (fun _ => ?_)
      clear hK K
      try simp only [List.getElem_toArray, List.getElem_cons_succ, List.getElem_cons_zero, Act.put, List.setIfInBounds_toArray, List.set_cons_zero, List.set_cons_succ]
      refine wpAnyH_ready (rs := [8]) (by kernel_rfl) (by simp) (AllReadyH.cons rfl (fun K hK => ?_) AllReadyH.nil)
      go_simp
      refine FF1.out.mono ?_
      rintro e' w10 ⟨v10, rfl, hr10, hc10⟩
      obtain ⟨A10, c10, rfl⟩ := hr10.form
      have HR10 := Lib.hid hr10
      have HC10 := Lib.hid (HC9.out.trans hc10)
      have HB10 := Lib.hid (HB9.out.chg hc10 (by simp))
      have hS10 : (fun W : World => Blk W gp 51 (arrR n s.now (.slice (some ⟨b, o, none⟩) M cp) s.c) ∧ W.rangeAt b (o + i * 37) (arrE e).toList) w10 := ⟨hS9.1.chg hc10 (by simp), rangeAt_chg hS9.2 hc10 (by simp)⟩
      clear hr10 hc10
      refine hK.out _ _ (by with_reducible assumption) (fun _ => ?_)
      clear hK K
      try simp only [List.getElem_toArray, List.getElem_cons_succ, List.getElem_cons_zero, Act.put, List.setIfInBounds_toArray, List.set_cons_zero, List.set_cons_succ]
      refine wpAnyH_ready (rs := [9]) (by kernel_rfl) (by simp) (AllReadyH.cons rfl (fun K hK => ?_) AllReadyH.nil)
      refine step_store_blk (vs := arrR n s.now (.slice A10 (nowE s.now e :: outE s.L f).length c10) s.c) rfl 51 (.tmp 6) (.tmp 40) rfl HB10.out rfl rfl rfl infR arrR_one ?_
      intro w11 hB11 hc11
      have hS11 : (fun W : World => Blk W gp 51 (arrR n s.now (.slice (some ⟨b, o, none⟩) M cp) s.c) ∧ W.rangeAt b (o + i * 37) (arrE e).toList) w11 := ⟨hS10.1.chg hc11 (by simp; omega), rangeAt_chg hS10.2 hc11 (by have := HBL.out; simp; omega)⟩
      refine hK.out _ _ (by with_reducible assumption) (fun _ => ?_)
      clear hK K
      try simp only [List.getElem_toArray, List.getElem_cons_succ, List.getElem_cons_zero, Act.put, List.setIfInBounds_toArray, List.set_cons_zero, List.set_cons_succ]
      refine wpAnyH_take (i := 10) (v := ?_) rfl (by kernel_rfl) (by kernel_rfl) (by kernel_rfl) (fun _ _ _ h => h) (yields_pure (by rfl) (fun w => ?_)) (by with_reducible assumption) ?_
      rotate_left
      · (go_simp <;> with_reducible rfl)
      try simp only [List.getElem_toArray, List.getElem_cons_succ, List.getElem_cons_zero, Act.put, List.setIfInBounds_toArray, List.set_cons_zero, List.set_cons_succ]
      refine wpAnyH_done (by kernel_rfl) ?_ _
      refine NoPanic.normal ?_
      have HFIN : Hid (RL w11 (.slice A10 (nowE s.now e :: outE s.L f).length c10) (nowE s.now e :: outE s.L f) ∧ Chg [] w w11) := Lib.hid ⟨HR10.out.far HB10.out tR_ne hc11, HC10.out.trans' hc11 (by intro y hy; simp at hy; subst hy; exact .inr (by omega))⟩
      clear hS0 hS9 hS10 hS11 HS1 HS2 HS3 FF FW1 FF1 hc11
      go_wp2_with fail
      refine bodyPost_ret (results_blk2 rfl rfl hB11 _ Tryz.underlying51 rfl (by kernel_rfl)) rfl ?_
      rw [HG.out]
      exact ⟨_, rfl, HFIN.out.1, HFIN.out.2⟩
    · have hzb : (e.node == node) = false := by simp [hz]
      by_cases h0 : e.node = 0
      · have HG := Lib.hid (learn_zero (n := n) HBAD.out hge hz h0)
        have HND : Hid (nowE s.now (ndE e node) = nowE s.now ⟨f, node, 1, 0⟩) := Lib.hid (nd_same (getE_mem hge).2)
        rw [h0] at k34 hzb
        clear hge hz h0 hre
        have hwl : IntKind.i64.wrap (s.c.learnt + 1) = s.c.learnt + 1 := by have := HC.out.learnt; unfold bN at this; rw [IntKind.wrap_i64]; omega
        have c5 : w3.cell? ⟨gp, 5, none⟩ = some (.int .i64 s.c.learnt) := hBp3.cell 5
        have f5 := hBp3.frozen 5
        have h4 : Chg [gp] w3 (w3.setCell ⟨gp, 5, none⟩ (.int .i64 (s.c.learnt + 1))) := (Chg.refl _ _).setCell (p := ⟨gp, 5, none⟩) (.inl (by simp)) _
        have hBp4 : Blk (w3.setCell ⟨gp, 5, none⟩ (.int .i64 (s.c.learnt + 1))) gp 51 (arrR n s.now (.slice (some ⟨b, o, none⟩) M cp) (learnC s.c)) := hBp3.set_ 5 (.int .i64 (s.c.learnt + 1))
        have hBf4 := hBf3.chg h4 (by simp)
        have hBr4 := hBr3.chg h4 (by simp; omega)
        have HR4 := Lib.hid (HR3.out.far hBp3 tR_ne h4)
        have HC4 := Lib.hid (HC3.out.trans' h4 (by intro y hy; simp at hy; subst hy; exact .inr (by omega)))
        have HRF4 := Lib.hid hBf4.rangeQ
        clear h4 hBp3 hBf3 hBr3 HR3 HC3 HRP HRF
        go_upto_region 10 with fail
        generalize (w3.setCell ⟨gp, 5, none⟩ (.int .i64 (s.c.learnt + 1))) = w4 at *
        clear c5 f5
        have hBx : Blk (w4.alloc (.cells arrE0 54)) w4.heap.size 54 arrE0 := Blk.new _ _ _
        have hcx := (Chg.refl [] w4).alloc (.cells arrE0 54)
        have hzp := hBp4.lt
        have hzr := hBr4.lt
        go_upto_region 11 with (first
          | (refine wpList_row 38 (.tmp 4) rfl rfl (gp + 1) 0 rfl (arrF f) _ HRF4.out Tryz.underlying38 rfl infF ?_)
          | (refine wpList_store_blk (vs := arrE ⟨f, node, 1, 0⟩) rfl 54 (.tmp 9) (.tmp 67) rfl rfl hBx rfl rfl rfl infE2 (arrE_one _) ?_; intro w5 hB5 hc5)
          | fail)
        have hC5 : Chg [] w4 w5 := hcx.trans' hc5 (by intro y hy; simp at hy; subst hy; exact .inr (Nat.le_refl _))
        have hBp5 := hBp4.chg hC5 (by simp)
        have hBr5 := hBr4.chg hC5 (by simp)
        have HR5 := Lib.hid (HR4.out.chg0 hC5)
        have HC5 := Lib.hid (HC4.out.trans hC5)
        clear hBx hcx hc5 hC5 hBp4 hBf4 hBr4 HR4 HC4 HRF4
        generalize hgx : w4.heap.size = gx at *
        go_upto_region 12 with fail
        have hR5d : RL w5.drew (.slice (some ⟨b, o, none⟩) M cp) s.L := HR5.out.chg0 (Chg.refl [] w5).drew
        have HC5d := Lib.hid (HC5.out.drew)
        have HBr := Lib.hid (hBr5.drew)
        have hS0 : (fun W : World => Blk W gp 51 (arrR n s.now (.slice (some ⟨b, o, none⟩) M cp) (learnC s.c)) ∧ Blk W gx 54 (arrE ⟨f, node, 1, 0⟩)) w5.drew := ⟨hBp5.drew, hB5.drew⟩
        have HS1 : ∀ W : World, (fun W : World => Blk W gp 51 (arrR n s.now (.slice (some ⟨b, o, none⟩) M cp) (learnC s.c)) ∧ Blk W gx 54 (arrE ⟨f, node, 1, 0⟩)) W → W.rangeAt gp 0 (arrR n s.now (.slice (some ⟨b, o, none⟩) M cp) (learnC s.c)).toList := fun W h => h.1.rangeQ
        have HS2 : ∀ W : World, (fun W : World => Blk W gp 51 (arrR n s.now (.slice (some ⟨b, o, none⟩) M cp) (learnC s.c)) ∧ Blk W gx 54 (arrE ⟨f, node, 1, 0⟩)) W → W.rangeAt gx 0 (arrE ⟨f, node, 1, 0⟩).toList := fun W h => h.2.rangeQ
        have FW1 := Lib.hid (FW.out _ (learnC s.c) hR5d)
        have hox : okE ⟨f, node, 1, 0⟩ := ⟨hf, by show 0 ≤ node ∧ node ≤ 65535; omega, by show (0 : Int) ≤ 1 ∧ (1 : Int) ≤ 4; omega⟩
        have HOX := Lib.hid hox
        clear FW hox
        refine wp_region_noPanic ?_
        refine wp_region_held_drew (S := fun W : World => Blk W gp 51 (arrR n s.now (.slice (some ⟨b, o, none⟩) M cp) (learnC s.c)) ∧ Blk W gx 54 (arrE ⟨f, node, 1, 0⟩)) (by kernel_rfl) hS0 (fun _ => ?_)
        generalize w5.drew = w8 at *
        refine wpAnyH_take (i := 0) rfl (by kernel_rfl) (by kernel_rfl) (by kernel_rfl) (fun _ _ _ h => h) (yields_row (by rfl) 51 (.tmp 3) rfl gp 0 rfl (arrR n s.now (.slice (some ⟨b, o, none⟩) M cp) (learnC s.c)) _ HS1 Tryz.underlying51 rfl infR) (by with_reducible assumption) ?_
        try simp only [List.getElem_toArray, List.getElem_cons_succ, List.getElem_cons_zero, Act.put, List.setIfInBounds_toArray, List.set_cons_zero, List.set_cons_succ]
        refine wpAnyH_take (i := 1) (v := ?_) rfl (by kernel_rfl) (by kernel_rfl) (by kernel_rfl) (fun _ _ _ h => h) (yields_pure (by rfl) (fun w => ?_)) (by with_reducible assumption) ?_
        rotate_left
        · (go_simp <;> with_reducible rfl)
        try simp only [List.getElem_toArray, List.getElem_cons_succ, List.getElem_cons_zero, Act.put, List.setIfInBounds_toArray, List.set_cons_zero, List.set_cons_succ]
        refine wpAnyH_take (i := 3) rfl (by kernel_rfl) (by kernel_rfl) (by kernel_rfl) (fun _ _ _ h => h) (yields_row (by rfl) 54 (.tmp 9) rfl gx 0 rfl (arrE ⟨f, node, 1, 0⟩) _ HS2 Tryz.underlying54 rfl infE2) (by with_reducible assumption) ?_
        try simp only [List.getElem_toArray, List.getElem_cons_succ, List.getElem_cons_zero, Act.put, List.setIfInBounds_toArray, List.set_cons_zero, List.set_cons_succ]
        refine wpAnyH_ready (rs := [2]) (by kernel_rfl) (by simp) (AllReadyH.cons rfl (fun K hK => ?_) AllReadyH.nil)
        go_simp
        refine FW1.out.mono ?_
        rintro e' w9 ⟨v9, rfl, hr9, hc9⟩
        have FF1 := Lib.hid (FF.out _ _ (learnC s.c) ⟨f, node, 1, 0⟩ HOX.out hr9)
        have HC9 := Lib.hid (HC5d.out.trans hc9)
        have HB9 := Lib.hid (HBr.out.chg hc9 (by simp))
        have hS9 : (fun W : World => Blk W gp 51 (arrR n s.now (.slice (some ⟨b, o, none⟩) M cp) (learnC s.c)) ∧ Blk W gx 54 (arrE ⟨f, node, 1, 0⟩)) w9 := ⟨hS0.1.chg hc9 (by simp), hS0.2.chg hc9 (by simp)⟩
        clear hr9 hc9
        refine hK.out _ _ (by with_reducible assumption) (fun _ => ?_)
        clear hK K
        try simp only [List.getElem_toArray, List.getElem_cons_succ, List.getElem_cons_zero, Act.put, List.setIfInBounds_toArray, List.set_cons_zero, List.set_cons_succ]
        refine wpAnyH_ready (rs := [4]) (by kernel_rfl) (by simp) (AllReadyH.cons rfl (fun K hK => ?_) AllReadyH.nil)
        go_simp
        refine FF1.out.mono ?_
        rintro e' w10 ⟨v10, rfl, hr10, hc10⟩
        obtain ⟨A10, c10, rfl⟩ := hr10.form
        have HR10 := Lib.hid hr10
        have HC10 := Lib.hid (HC9.out.trans hc10)
        have HB10 := Lib.hid (HB9.out.chg hc10 (by simp))
        have hS10 : (fun W : World => Blk W gp 51 (arrR n s.now (.slice (some ⟨b, o, none⟩) M cp) (learnC s.c)) ∧ Blk W gx 54 (arrE ⟨f, node, 1, 0⟩)) w10 := ⟨hS9.1.chg hc10 (by simp), hS9.2.chg hc10 (by simp)⟩
        clear hr10 hc10
        refine hK.out _ _ (by with_reducible assumption) (fun _ => ?_)
        clear hK K
        try simp only [List.getElem_toArray, List.getElem_cons_succ, List.getElem_cons_zero, Act.put, List.setIfInBounds_toArray, List.set_cons_zero, List.set_cons_succ]
        refine wpAnyH_ready (rs := [5]) (by kernel_rfl) (by simp) (AllReadyH.cons rfl (fun K hK => ?_) AllReadyH.nil)
        refine step_store_blk (vs := arrR n s.now (.slice A10 (nowE s.now ⟨f, node, 1, 0⟩ :: outE s.L f).length c10) (learnC s.c)) rfl 51 (.tmp 6) (.tmp 74) rfl HB10.out rfl rfl rfl infR arrR_one ?_
        intro w11 hB11 hc11
        have hS11 : (fun W : World => Blk W gp 51 (arrR n s.now (.slice (some ⟨b, o, none⟩) M cp) (learnC s.c)) ∧ Blk W gx 54 (arrE ⟨f, node, 1, 0⟩)) w11 := ⟨hS10.1.chg hc11 (by simp; omega), hS10.2.chg hc11 (by simp; omega)⟩
        refine hK.out _ _ (by with_reducible assumption) (fun _ => ?_)
        clear hK K
        try simp only [List.getElem_toArray, List.getElem_cons_succ, List.getElem_cons_zero, Act.put, List.setIfInBounds_toArray, List.set_cons_zero, List.set_cons_succ]
        refine wpAnyH_take (i := 6) (v := ?_) rfl (by kernel_rfl) (by kernel_rfl) (by kernel_rfl) (fun _ _ _ h => h) (yields_pure (by rfl) (fun w => ?_)) (by with_reducible assumption) ?_
        rotate_left
        · (go_simp <;> with_reducible rfl)
        try simp only [List.getElem_toArray, List.getElem_cons_succ, List.getElem_cons_zero, Act.put, List.setIfInBounds_toArray, List.set_cons_zero, List.set_cons_succ]
        refine wpAnyH_done (by kernel_rfl) ?_ _
        refine NoPanic.normal ?_
        have HFIN : Hid (RL w11 (.slice A10 (nowE s.now ⟨f, node, 1, 0⟩ :: outE s.L f).length c10) (nowE s.now ⟨f, node, 1, 0⟩ :: outE s.L f) ∧ Chg [] w w11) := Lib.hid ⟨HR10.out.far HB10.out tR_ne hc11, HC10.out.trans' hc11 (by intro y hy; simp at hy; subst hy; exact .inr (by omega))⟩
        clear hS0 hS9 hS10 hS11 HS1 HS2 FF FW1 FF1 hc11
        go_wp2_with fail
        refine bodyPost_ret (results_blk2 rfl rfl hB11 _ Tryz.underlying51 rfl (by kernel_rfl)) rfl ?_
        rw [HG.out]
        refine ⟨_, rfl, ?_, HFIN.out.2⟩
        show RL w11 _ (nowE s.now (ndE e node) :: outE s.L f)
        rw [HND.out]
        exact HFIN.out.1
      · have HG := Lib.hid (learn_clash (n := n) HBAD.out hge hz h0)
        have hz0 : (e.node == 0) = false := by simp [h0]
        have hwl : IntKind.i64.wrap (s.c.clashes + 1) = s.c.clashes + 1 := by have := HC.out.clashes; unfold bN at this; rw [IntKind.wrap_i64]; omega
        have c8 : w3.cell? ⟨gp, 8, none⟩ = some (.int .i64 s.c.clashes) := hBp3.cell 8
        have f8 := hBp3.frozen 8
        have h4 : Chg [gp] w3 (w3.setCell ⟨gp, 8, none⟩ (.int .i64 (s.c.clashes + 1))) := (Chg.refl _ _).setCell (p := ⟨gp, 8, none⟩) (.inl (by simp)) _
        have hBp4 : Blk (w3.setCell ⟨gp, 8, none⟩ (.int .i64 (s.c.clashes + 1))) gp 51 (arrR n s.now (.slice (some ⟨b, o, none⟩) M cp) { s.c with clashes := s.c.clashes + 1 }) := hBp3.set_ 8 (.int .i64 (s.c.clashes + 1))
        have hBr4 := hBr3.chg h4 (by simp; omega)
        have HRP4 := Lib.hid hBp4.rangeQ
        have HFIN : Hid (∀ w5, Chg [gp + 1 + 1] (w3.setCell ⟨gp, 8, none⟩ (.int .i64 (s.c.clashes + 1))) w5 → RL w5 (.slice (some ⟨b, o, none⟩) M cp) s.L ∧ Chg [] w w5) := Lib.hid (fun w5 hc5 => ⟨(HR3.out.far hBp3 tR_ne h4).far hBr4 tR_ne hc5, (HC3.out.trans' h4 (by intro y hy; simp at hy; subst hy; exact .inr (by omega))).trans' hc5 (by intro y hy; simp at hy; subst hy; exact .inr (by omega))⟩)
        clear hge hz h0 FW FF hre
        go_wp2_with (first
          | (refine wpList_row 51 (.tmp 3) rfl rfl gp 0 rfl (arrR n s.now (.slice (some ⟨b, o, none⟩) M cp) { s.c with clashes := s.c.clashes + 1 }) _ HRP4.out Tryz.underlying51 rfl infR ?_)
          | (refine wpList_store_blk (vs := arrR n s.now (.slice (some ⟨b, o, none⟩) M cp) { s.c with clashes := s.c.clashes + 1 }) rfl 51 (.tmp 6) (.tmp 58) rfl rfl hBr4 rfl rfl rfl infR arrR_one ?_; intro w5 hB5 hc5)
          | fail)
        refine bodyPost_ret (results_blk2 rfl rfl hB5 _ Tryz.underlying51 rfl (by kernel_rfl)) rfl ?_
        rw [HG.out]
        exact ⟨_, rfl, HFIN.out w5 hc5⟩
end Go.Proofs.YtldgdpekhjignaaGreat.Ft
