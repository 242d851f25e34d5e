/-
  PLAIN: changes of a pool; WALKS: package pool. Condition: as many versions as may be; ticks up to a million.
-/
import Derived.Test.YtecblclpchndiaaGreatPool3
set_option linter.unusedVariables false
set_option linter.unusedSimpArgs false
namespace Go.Proofs.YtecblclpchndiaaGreat
open Go.RowKit

theorem pr61 : IsPr 61 := by
  refine (IsPr.nat (N := 61)).2 ⟨by omega, by omega, by omega, fun d h1 h2 => ?_⟩
  have h3 : d ≤ 7 := by
    rcases Nat.lt_or_ge 7 d with h | h
    · have := Nat.mul_le_mul h h
      omega
    · exact h
  have : d = 2 ∨ d = 3 ∨ d = 4 ∨ d = 5 ∨ d = 6 ∨ d = 7 := by omega
  rcases this with rfl | rfl | rfl | rfl | rfl | rfl <;> omega
/-- Backends, versions, the number of the last version. -/
structure PS where
  L : List Bk
  V : List Vs
  last : Int
/-- The table of backends. -/
def tabP (ka kb : Int) (L : List Bk) : List Int := tableS ka kb 61 (membersP L)
theorem tabP_len (ka kb : Int) (L : List Bk) : (tabP ka kb L).length = 61 := table_len _ _ _ _
theorem membersP_nodes (L : List Bk) : nodesM (membersP L) = nodesB L := by
  unfold membersP nodesM nodesB
  rw [List.map_map]
  rfl
theorem OkB.mem {L : List Bk} (h : OkB L) : OkM (membersP L) := by
  refine ⟨fun x hx => ?_, ?_, by rw [membersP_len]; exact h.len⟩
  · obtain ⟨y, hy, rfl⟩ := List.mem_map.1 hx
    have := h.ok y hy
    unfold mbB
    simp only
    split <;> omega
  · rw [membersP_nodes]
    exact h.srt.imp (fun h => Int.ne_of_lt h)
theorem OkB.srtM {L : List Bk} (h : OkB L) : SrtM (membersP L) := by
  unfold SrtM
  rw [membersP_nodes]
  exact h.srt
/-- Backends that can be always have their table. -/
theorem tabP_of {ka kb : Int} {L : List Bk} (h : OkB L) {t : List Int} {e : Int} (ht : TB ka kb 61 (membersP L) t e) : e = 0 ∧ t = tabP ka kb L := by
  have hr := h.mem.right
  rcases ht with ⟨h1, _⟩ | ⟨h1, h2, _⟩ | ⟨h1, h2, h3, L', h4, h5, h6⟩
  · exact absurd ⟨by omega, pr61⟩ h1
  · exact absurd hr h2
  · refine ⟨h3, ?_⟩
    rw [h6, srtM_one h5 h.srtM h4]
    rfl
/-- Is a table the newest one? -/
def newV (V : List Vs) (t : List Int) : Bool := match V[V.length - 1]? with | some y => decide (y.tab = t) | none => false
/-- Other backends, at a tick. -/
def setP (ka kb now : Int) (s : PS) (L' : List Bk) : Int × PS :=
  if newV s.V (tabP ka kb L') then (0, ⟨L', s.V, s.last⟩) else if mayV s.V now ≠ 0 then (mayV s.V now, s) else (0, ⟨L', pushV s.V s.last now (tabP ka kb L'), s.last + 1⟩)
/-- A change, that may be refused. -/
def chP (ka kb now : Int) (s : PS) (r : Int × List Bk) : Int × PS := if r.1 ≠ 0 then (r.1, s) else setP ka kb now s r.2
/-- What each change makes of backends. -/
def addL (n wt : Int) (L : List Bk) : Int × List Bk :=
  if n < 1 ∨ 65535 < n ∨ wt < 0 ∨ 4 < wt then (2, []) else if n ∈ nodesB L then (9, []) else if 16 ≤ L.length then (8, []) else (0, L.take (cntB L n) ++ ⟨n, wt, false, false⟩ :: L.drop (cntB L n))
def oneL (n : Int) (f : Bk → Int × Bk) (L : List Bk) : Int × List Bk :=
  if n ∈ nodesB L then (match L[cntB L n]? with | some x => ((f x).1, L.set (cntB L n) (f x).2) | none => (10, [])) else (10, [])
def weighF (wt : Int) (x : Bk) : Int × Bk := if wt < 0 ∨ 4 < wt then (2, x) else (0, { x with w := wt })
def drainF (x : Bk) : Int × Bk := (0, { x with dr := true })
def healthF (up : Bool) (x : Bk) : Int × Bk := (0, { x with dn := !up })
def removeL (n : Int) (L : List Bk) : Int × List Bk := if n ∈ nodesB L then (0, L.take (cntB L n) ++ L.drop (cntB L n + 1)) else (10, [])

/-! What stays so. -/
/-- A state that can be, behind k changes, at a tick. -/
structure OkS (s : PS) (now : Int) : Prop where
  bk : OkB s.L
  vs : OkV s.V
  last : 0 ≤ s.last
  low : ∀ x ∈ s.V, x.num ≤ s.last ∧ x.frm ≤ now
theorem OkB.nil : OkB [] := ⟨by simp, by simp [SrtB, nodesB], by simp⟩
theorem OkV.nil : OkV [] := ⟨by simp, by simp, by simp⟩
theorem SrtB.sub {l l' : List Bk} (h : SrtB l) (hs : l'.Sublist l) : SrtB l' := List.Pairwise.sublist (hs.map _) h
theorem cntB_take {l : List Bk} {n : Int} (h : SrtB l) : ∀ x ∈ l.take (cntB l n), x.node < n := fun x hx => by
  obtain ⟨i, hi, rfl⟩ := List.mem_iff_getElem.1 hx
  rw [List.length_take] at hi
  rw [List.getElem_take]
  exact (cntB_lt h (List.getElem?_eq_getElem (by omega))).1 (by omega)
theorem cntB_drop {l : List Bk} {n : Int} (h : SrtB l) : ∀ x ∈ l.drop (cntB l n), n ≤ x.node := fun x hx => by
  obtain ⟨i, hi, rfl⟩ := List.mem_iff_getElem.1 hx
  rw [List.length_drop] at hi
  rw [List.getElem_drop]
  have := cntB_lt (n := n) h (List.getElem?_eq_getElem (show cntB l n + i < l.length by omega))
  rcases Int.lt_or_le (l[cntB l n + i]).node n with h2 | h2
  · have := this.2 h2; omega
  · exact h2
theorem addL_ok {n wt : Int} {L : List Bk} (h : OkB L) : (addL n wt L).1 = 0 → OkB (addL n wt L).2 := by
  unfold addL
  split
  · intro e; simp at e
  · next h1 =>
    split
    · intro e; simp at e
    · next h2 =>
      split
      · intro e; simp at e
      · next h3 =>
        intro _
        refine ⟨fun x hx => ?_, ?_, ?_⟩
        · rcases List.mem_append.1 hx with hx | hx
          · exact h.ok x (List.mem_of_mem_take hx)
          · rcases List.mem_cons.1 hx with rfl | hx
            · simp only; omega
            · exact h.ok x (List.mem_of_mem_drop hx)
        · unfold SrtB nodesB
          rw [List.map_append, List.map_cons, List.pairwise_append, List.pairwise_cons]
          refine ⟨h.srt.sub (List.take_sublist ..), ⟨fun a ha => ?_, h.srt.sub (List.drop_sublist ..)⟩, fun a ha b hb => ?_⟩
          · obtain ⟨y, hy, rfl⟩ := List.mem_map.1 ha
            have h4 := cntB_drop h.srt y hy
            have h5 : y.node ≠ n := fun e => h2 (List.mem_map.2 ⟨y, List.mem_of_mem_drop hy, e⟩)
            simp only; omega
          · obtain ⟨y, hy, rfl⟩ := List.mem_map.1 ha
            have h4 := cntB_take h.srt y hy
            rcases List.mem_cons.1 hb with rfl | hb
            · exact h4
            · obtain ⟨z, hz, rfl⟩ := List.mem_map.1 hb
              have := cntB_drop h.srt z hz
              omega
        · rw [List.length_append, List.length_take, List.length_cons, List.length_drop]
          omega
theorem removeL_ok {n : Int} {L : List Bk} (h : OkB L) : (removeL n L).1 = 0 → OkB (removeL n L).2 := by
  unfold removeL
  split
  · intro _
    have hs : (L.take (cntB L n) ++ L.drop (cntB L n + 1)).Sublist L := by
      have h1 : (L.take (cntB L n) ++ L.drop (cntB L n + 1)).Sublist (L.take (cntB L n) ++ L.drop (cntB L n)) := (List.Sublist.refl _).append (by rw [← List.drop_drop]; exact List.drop_sublist _ _)
      rwa [List.take_append_drop] at h1
    exact ⟨fun x hx => h.ok x (hs.subset hx), h.srt.sub hs, Nat.le_trans hs.length_le h.len⟩
  · intro e; simp at e
theorem oneL_ok {n : Int} {f : Bk → Int × Bk} {L : List Bk} (h : OkB L) (hf : ∀ x, 0 ≤ x.w ∧ x.w ≤ 4 → (f x).1 = 0 → (f x).2.node = x.node ∧ 0 ≤ (f x).2.w ∧ (f x).2.w ≤ 4) : (oneL n f L).1 = 0 → OkB (oneL n f L).2 := by
  unfold oneL
  split
  · split
    · next x hx =>
      intro e
      simp only at e ⊢
      have hxo := h.ok x (List.mem_of_getElem? hx)
      obtain ⟨h1, h2, h3⟩ := hf x ⟨hxo.2.2.1, hxo.2.2.2⟩ e
      refine ⟨fun y hy => ?_, ?_, by rw [List.length_set]; exact h.len⟩
      · rcases List.mem_or_eq_of_mem_set hy with hy | rfl
        · exact h.ok y hy
        · rw [h1]; omega
      · have e1 : nodesB (L.set (cntB L n) (f x).2) = nodesB L := by
          unfold nodesB
          rw [List.map_set, h1]
          apply List.ext_getElem?
          intro i
          by_cases hi : cntB L n = i
          · subst hi
            have hl : cntB L n < (L.map (·.node)).length := by rw [List.length_map]; exact (List.getElem?_eq_some_iff.1 hx).1
            rw [List.getElem?_set_self hl, List.getElem?_map, hx]
            rfl
          · rw [List.getElem?_set_ne hi]
        unfold SrtB
        rw [e1]
        exact h.srt
    · intro e; simp at e
  · intro e; simp at e
theorem closeV_mem {V : List Vs} {now : Int} {x : Vs} (h : x ∈ closeV V now) : x ∈ V ∨ ∃ y ∈ V, x = endV now y := by
  unfold closeV at h
  split at h
  · next y hy =>
    rcases List.mem_or_eq_of_mem_set h with h | h
    · exact .inl h
    · exact .inr ⟨y, List.mem_of_getElem? hy, h⟩
  · exact .inl h
theorem closeV_len (V : List Vs) (now : Int) : (closeV V now).length = V.length := by
  unfold closeV
  split
  · rw [List.length_set]
  · rfl
theorem setP_ok {ka kb now k : Int} {s : PS} {L' : List Bk} (h : OkS s now) (hL : OkB L') (hn : 0 ≤ now ∧ now ≤ 1000000) (hk : s.last ≤ k) (hk2 : k < 1000000) : OkS (setP ka kb now s L').2 now ∧ (setP ka kb now s L').2.last ≤ k + 1 := by
  unfold setP
  split
  · exact ⟨⟨hL, h.vs, h.last, h.low⟩, by simp only; omega⟩
  · split
    · exact ⟨h, by simp only; omega⟩
    · have hsub : ∀ x, x ∈ (if 4 ≤ s.V.length then s.V.drop 1 else s.V) → x ∈ s.V := fun x hx => by
        split at hx
        · exact List.mem_of_mem_drop hx
        · exact hx
      have hmem : ∀ x, x ∈ pushV s.V s.last now (tabP ka kb L') → (∃ y ∈ s.V, x = y ∨ x = endV now y) ∨ x = ⟨s.last + 1, now, -1, tabP ka kb L'⟩ := fun x hx => by
        unfold pushV at hx
        rcases List.mem_append.1 hx with hx | hx
        · rcases closeV_mem hx with hx | ⟨y, hy, hx⟩
          · exact .inl ⟨x, hsub x hx, .inl rfl⟩
          · exact .inl ⟨y, hsub y hy, .inr hx⟩
        · exact .inr (by simpa using hx)
      refine ⟨⟨hL, ⟨?_, fun x hx => ?_, fun x hx => ?_⟩, by simp only; have := h.last; omega, fun x hx => ?_⟩, by simp only; omega⟩
      · unfold pushV
        rw [List.length_append, closeV_len]
        have := h.vs.len
        simp only [List.length_singleton]
        split
        · rw [List.length_drop]; omega
        · omega
      · rcases hmem x hx with ⟨y, hy, rfl | rfl⟩ | rfl
        · exact h.vs.rng _ hy
        · have := h.vs.rng _ hy
          unfold endV; simp only; omega
        · have := h.last; simp only; omega
      · rcases hmem x hx with ⟨y, hy, rfl | rfl⟩ | rfl
        · exact h.vs.tab _ hy
        · exact h.vs.tab y hy
        · simp only; rw [tabP_len]; omega
      · rcases hmem x hx with ⟨y, hy, rfl | rfl⟩ | rfl
        · have := h.low _ hy; simp only; omega
        · have := h.low _ hy; unfold endV; simp only; omega
        · simp only; omega
theorem chP_ok {ka kb now k : Int} {s : PS} {r : Int × List Bk} (h : OkS s now) (hL : r.1 = 0 → OkB r.2) (hn : 0 ≤ now ∧ now ≤ 1000000) (hk : s.last ≤ k) (hk2 : k < 1000000) : OkS (chP ka kb now s r).2 now ∧ (chP ka kb now s r).2.last ≤ k + 1 := by
  unfold chP
  split
  · exact ⟨h, by simp only; omega⟩
  · next h1 => exact setP_ok h (hL (by omega)) hn hk hk2
theorem OkS.later {s : PS} {now now' : Int} (h : OkS s now) (hn : now ≤ now') : OkS s now' := ⟨h.bk, h.vs, h.last, fun x hx => by have := h.low x hx; omega⟩
end Go.Proofs.YtecblclpchndiaaGreat
namespace Go.Proofs.YtecblclpchndiaaGreat
open Go.RowKit

/-- A pool in memory: its block, its row of backends, its history; S: blocks in which no table lies. -/
structure PlR (w : World) (N p hp : Nat) (ka kb : Int) (lv rv : Value) (S : List Nat) (es : List Ve) (s : PS) : Prop where
  blk : Blk w p 67 #[.int .u64 ka, .int .u64 kb, lv, .pointer (some ⟨hp, 0, none⟩)]
  row : OwB 37 w N lv s.L
  his : HiR w N hp rv S es s.V s.last
  pS : p ∈ S
  lS : ∀ x ∈ lv.ownBlock.toList, x ∈ S
  pf : p ∉ footH hp rv
  pl : p ∉ lv.ownBlock.toList
  lf : ∀ x ∈ lv.ownBlock.toList, x ∉ footH hp rv
  low : N ≤ p
  sl : ∀ x ∈ S, x < w.heap.size
theorem PlR.chg0 {w w' : World} {N p hp : Nat} {ka kb : Int} {lv rv : Value} {S : List Nat} {es : List Ve} {s : PS} (h : PlR w N p hp ka kb lv rv S es s) (hc : Chg [] w w') : PlR w' N p hp ka kb lv rv S es s :=
  ⟨h.blk.chg hc (by simp), own_chg h.row hc (by simp), h.his.chg0 hc, h.pS, h.lS, h.pf, h.pl, h.lf, h.low, fun x hx => Nat.lt_of_lt_of_le (h.sl x hx) hc.size⟩

set_option maxRecDepth 100000 in
set_option maxHeartbeats 1000000 in
theorem isP_any {w : World} {N p hp : Nat} {ka kb : Int} {lv rv : Value} {S : List Nat} {es : List Ve} {s : PS} (h : PlR w N p hp ka kb lv rv S es s) :
    Calls Tryz.prog 20 #[.pointer (some ⟨p, 0, none⟩)] w fun e w' => e = .returned (.bool true) ∧ w = w' := by
  have c3 := h.blk.cell 3
  simp only [List.getElem?_toArray, List.getElem?_cons_succ, List.getElem?_cons_zero] at c3
  clear h
  go_enter Tryz.func20, Tryz.ntmps20
  go_wp2_with fail
  go_ret
  exact ⟨rfl, rfl⟩
set_option maxRecDepth 100000 in
set_option maxHeartbeats 2000000 in
theorem newestP_any {w : World} {N p hp : Nat} {ka kb : Int} {lv rv : Value} {S : List Nat} {es : List Ve} {s : PS} (h : PlR w N p hp ka kb lv rv S es s) (hok : OkV s.V) {B : Nat} {tv : Value} {t : List Int} (ht : SlZ w B tv t) (htl : t.length ≤ 300) :
    Calls Tryz.prog 62 #[.pointer (some ⟨p, 0, none⟩), tv] w fun e w' => e = .returned (.bool (newV s.V t)) ∧ Chg [] w w' := by
  have c3 := h.blk.cell 3
  simp only [List.getElem?_toArray, List.getElem?_cons_succ, List.getElem?_cons_zero] at c3
  have FN := Lib.hid (newestH_any h.his hok h.sl)
  obtain ⟨A, c, rfl⟩ := Sl.form ht
  have HT := Lib.hid (fun W (hW : Chg [] w W) => ht.chg0 hW)
  have HV : Hid (∀ y, s.V[s.V.length - 1]? = some y → newV s.V t = decide (y.tab = t) ∧ y.tab.length ≤ 1000) := Lib.hid fun y hy => by
    unfold newV
    rw [hy]
    have := hok.tab y (List.mem_of_getElem? hy)
    exact ⟨rfl, by omega⟩
  have HE : Hid (s.V = [] → newV s.V t = false) := Lib.hid fun e => by rw [e]; rfl
  clear h ht hok
  go_enter Tryz.func62, Tryz.ntmps62
  go_wp2_with fail
  refine FN.out.mono ?_
  rintro e w1 ⟨⟨⟨num, frm, unt, tv'⟩, b, rfl, hn⟩, hc1⟩
  rcases hn with ⟨h1, h2, rfl⟩ | ⟨y, hy, hv, rfl⟩
  · simp only [zeroVe, Ve.mk.injEq] at h2
    obtain ⟨rfl, rfl, rfl, rfl⟩ := h2
    have HE2 := Lib.hid (HE.out h1)
    have HC := Lib.hid (hc1.alloc (.cells #[.int .i64 0, .int .i64 0, .int .i64 0, .slice none 0 0] 46))
    clear h1 HE HV FN hc1
    go_wp2_with fail
    go_ret
    exact ⟨by rw [HE2.out]; rfl, HC.out⟩
  · obtain ⟨T, tc, et⟩ := Sl.form hv.tab.1
    simp only at et
    subst et
    have hA := hc1.alloc (.cells #[.int .i64 num, .int .i64 frm, .int .i64 unt, .slice T y.tab.length tc] 46)
    obtain ⟨p1, p2⟩ := HV.out y hy
    have F2 := (equalZ_any (SlZ.chg0 hv.tab.1 ((Chg.refl [] w1).alloc (.cells #[.int .i64 num, .int .i64 frm, .int .i64 unt, .slice T y.tab.length tc] 46))) (HT.out _ hA) p2)
    rw [← p1] at F2
    have F2 := Lib.hid F2
    have HA := Lib.hid hA
    clear hy hv HV HE FN hc1 hA p1 p2 HT
    go_wp2_with fail
    refine F2.out.mono ?_
    rintro e w2 ⟨rfl, hc2⟩
    have HC := Lib.hid (HA.out.trans hc2)
    clear hc2 HA F2
    go_wp2_with fail
    go_ret
    exact ⟨rfl, HC.out⟩
end Go.Proofs.YtecblclpchndiaaGreat
namespace Go.Proofs.YtecblclpchndiaaGreat
open Go.RowKit

/-- A closure that makes other backends of a row of one's own. -/
def HowR (w : World) (f : Nat) (caps : Array Value) (L : List Bk) (r : Int × List Bk) : Prop :=
  ∀ (W : World) (lv : Value), Chg [] w W → OwB 37 W w.heap.size lv L → Calls Tryz.prog f (#[lv] ++ caps) W fun e w' => ∃ v', e = .returned (.tuple #[v', .int .i64 r.1]) ∧ (r.1 = 0 → OwB 37 w' w.heap.size v' r.2) ∧ Chg lv.ownBlock.toList W w'
theorem HiR.addSs {w : World} {N hp : Nat} {rv : Value} {S T : List Nat} {es : List Ve} {V : List Vs} {last : Int} (h : HiR w N hp rv S es V last) (hT : ∀ x ∈ T, w.heap.size ≤ x) : HiR w N hp rv (T ++ S) es V last :=
  ⟨h.blk, h.row, h.apart, fun x hx => List.mem_append_right _ (h.foot x hx), h.low, h.vers.step (Chg.refl _ _) (fun x hx => by
    rcases List.mem_append.1 hx with hx | hx
    · exact .inr (hT x hx)
    · exact .inl hx)⟩
/-- A version that may not be pushed. -/
theorem pushH_err {w : World} {N hp : Nat} {rv : Value} {S : List Nat} {es : List Ve} {V : List Vs} {last : Int} (h : HiR w N hp rv S es V last) (hok : OkV V) (now : Int) (hn : 0 ≤ now ∧ now ≤ 1000000) (tv : Value) (hm : mayV V now ≠ 0) :
    Calls Tryz.prog 63 #[.pointer (some ⟨hp, 0, none⟩), .int .i64 now, tv] w fun e w' => e = .returned (.int .i64 (mayV V now)) ∧ Chg [] w w' := by
  have F1 := Lib.hid (mayH_any h hok now hn)
  generalize mayV V now = m at *
  clear h hok
  go_enter Tryz.func63, Tryz.ntmps63
  go_wp2_with fail
  refine F1.out.mono ?_
  rintro e w1 ⟨rfl, hc1⟩
  go_wp2_with fail
  go_ret
  exact ⟨rfl, hc1⟩
theorem fin_pool {w w7 : World} {N p hp : Nat} {ka kb : Int} {lv v rv : Value} {S : List Nat} {es : List Ve} {L : List Bk} {V : List Vs} {last : Int} (hb : Blk w7 p 67 #[.int .u64 ka, .int .u64 kb, lv, .pointer (some ⟨hp, 0, none⟩)])
    (ho : OwB 37 w7 w.heap.size v L) (hi : HiR w7 N hp rv S es V last) (hp1 : p ∈ S) (hv1 : ∀ x ∈ v.ownBlock.toList, x ∈ S) (hpf : p ∉ footH hp rv) (hvf : ∀ x ∈ v.ownBlock.toList, x ∉ footH hp rv) (hN : N ≤ p) (hpw : p < w.heap.size) (hSl : ∀ x ∈ S, x < w7.heap.size) :
    PlR (w7.setCell ⟨p, 2, none⟩ v) N p hp ka kb v rv S es ⟨L, V, last⟩ ∧ Chg [p] w7 (w7.setCell ⟨p, 2, none⟩ v) := by
  have hs : Chg [p] w7 (w7.setCell ⟨p, 2, none⟩ v) := (Chg.refl [p] w7).setCell (p := ⟨p, 2, none⟩) (.inl (by simp)) v
  have hpv : p ∉ v.ownBlock.toList := fun hm => by have := (own_lt ho p hm).1; omega
  refine ⟨⟨hb.set_ 2 v, own_chg (own_less ho (by omega)) hs (fun x hx e => by simp at e; subst e; exact hpv hx), hi.stepX hs hpf hp1, hp1, hv1, hpf, hpv, hvf, hN, fun x hx => Nat.lt_of_lt_of_le (hSl x hx) hs.size⟩, hs⟩
def ChR (w w' : World) (N p hp : Nat) (ka kb : Int) (rv : Value) (S : List Nat) (s : PS) (r : Int × PS) (e : Ending) : Prop :=
  ∃ lv' rv' S' es', e = .returned (.int .i64 r.1) ∧ PlR w' N p hp ka kb lv' rv' S' es' r.2 ∧ Chg (p :: footH hp rv) w w' ∧ ∀ x ∈ S', x ∈ S ∨ w.heap.size ≤ x

set_option maxRecDepth 100000 in
set_option maxHeartbeats 4000000 in
theorem change_any {w : World} {N p hp : Nat} {ka kb : Int} {lv rv : Value} {S : List Nat} {es : List Ve} {s : PS} (h : PlR w N p hp ka kb lv rv S es s) (hN : N ≤ w.heap.size) (now : Int) (hok : OkS s now) (hn : 0 ≤ now ∧ now ≤ 1000000) (hl : s.last < 1000000)
    {f : Nat} {caps : Array Value} {r : Int × List Bk} (hr : r.1 = 0 → OkB r.2) (how : HowR w f caps s.L r) (he : ∀ args W, (callFunc f args).run Tryz.prog W = .ok (.enter f args) W) :
    Calls Tryz.prog 43 #[.pointer (some ⟨p, 0, none⟩), .int .i64 now, .func (.func f) #[] caps] w fun e w' => ChR w w' N p hp ka kb rv S s (chP ka kb now s r) e := by
  have F1 := Lib.hid (isP_any h)
  have c2 := h.blk.cell 2
  simp only [List.getElem?_toArray, List.getElem?_cons_succ, List.getElem?_cons_zero] at c2
  have HH := Lib.hid h
  have HOK := Lib.hid hok
  have FC := Lib.hid (cloneB_any h.row.sl (by have := hok.bk.len; omega))
  have HW := Lib.hid how
  have HR := Lib.hid hr
  obtain ⟨Al, nl, cl, rfl⟩ : ∃ A n c, lv = .slice A n c := by
    obtain ⟨A, c, e⟩ := Sl.form (h.row.sl)
    exact ⟨A, _, c, e⟩
  have hpw := h.blk.lt
  obtain ⟨er, L'⟩ := r
  simp only at HR
  clear h hok hr how
  go_enter Tryz.func43, Tryz.ntmps43
  go_wp2_with fail
  refine F1.out.mono ?_
  rintro e w1 ⟨rfl, rfl⟩
  go_wp2_with fail
  refine FC.out.mono ?_
  rintro e w2 ⟨v2, rfl, hown2, hc2⟩
  have FH := Lib.hid (HW.out w2 v2 hc2 hown2)
  have HC2 := Lib.hid hc2
  have HL2 := Lib.hid (own_lt hown2)
  clear hc2 hown2 FC F1 HW
  go_wp2_with fail
  refine FH.out.mono ?_
  rintro e w3 ⟨v3, rfl, ho3, hc3⟩
  have HC3 := Lib.hid (HC2.out.trans' hc3 (fun x hx => .inr (HL2.out x hx).1))
  by_cases her : er = 0
  · subst her
    have ho := ho3 rfl
    have HB := Lib.hid (HR.out rfl)
    have HS : Hid (chP ka kb now s ((0 : Int), L') = setP ka kb now s L') := Lib.hid (by unfold chP; rw [if_neg (by simp)])
    have FM := Lib.hid (members_any ho.sl (by have := HB.out.len; omega))
    have hkr : w3.rangeAt p 0 [.int .u64 ka, .int .u64 kb] := by
      have h3 := HH.out.chg0 HC3.out
      have c0 := h3.blk.cell 0
      have c1 := h3.blk.cell 1
      simp only [List.getElem?_toArray, List.getElem?_cons_succ, List.getElem?_cons_zero] at c0 c1
      intro j v hj
      rw [Nat.zero_add]
      match j, hj with
      | 0, hj => simp at hj; subst hj; exact c0
      | 1, hj => simp at hj; subst hj; exact c1
    have HO := Lib.hid ho
    obtain ⟨A3, c3, e3⟩ := Sl.form ho.sl
    have HE3 := Lib.hid e3
    have HMl : Hid ((membersP L').length ≤ 1000) := Lib.hid (by rw [membersP_len]; have := HB.out.len; omega)
    clear ho ho3 HR FH HC2 HL2 hc3 c2
    subst e3
    go_upto_region 6 with fail
    refine wp_region_noPanic ?_
    have hS0 : (fun W : World => W.rangeAt p 0 [.int .u64 ka, .int .u64 kb]) w3.drew := hkr
    have HSR : ∀ W : World, (fun W : World => W.rangeAt p 0 [.int .u64 ka, .int .u64 kb]) W → W.rangeAt p 0 (#[.int .u64 ka, .int .u64 kb] : Array Value).toList := fun _ h => h
    refine wp_region_held_drew (S := fun W : World => W.rangeAt p 0 [.int .u64 ka, .int .u64 kb]) (by kernel_rfl) hS0 (fun _ => ?_)
    refine wpAnyH_take (i := 0) (v := ?_) rfl (by kernel_rfl) (by kernel_rfl) (by kernel_rfl) (fun _ _ _ h => h) (yields_pure (by rfl) (fun w => ?_)) (by with_reducible assumption) ?_
    rotate_left
    · (go_simp <;> with_reducible rfl)
    try simp only [List.getElem_toArray, List.getElem_cons_succ, List.getElem_cons_zero, Act.put, List.setIfInBounds_toArray, List.set_cons_zero, List.set_cons_succ]
    refine wpAnyH_take (i := 1) (v := ?_) rfl (by kernel_rfl) (by kernel_rfl) (by kernel_rfl) (fun _ _ _ h => h) (yields_pure (by rfl) (fun w => ?_)) (by with_reducible assumption) ?_
    rotate_left
    · (go_simp <;> with_reducible rfl)
    try simp only [List.getElem_toArray, List.getElem_cons_succ, List.getElem_cons_zero, Act.put, List.setIfInBounds_toArray, List.set_cons_zero, List.set_cons_succ]
    refine wpAnyH_take (i := 2) (v := ?_) rfl (by kernel_rfl) (by kernel_rfl) (by kernel_rfl) (fun _ _ _ h => h) (yields_pure (by rfl) (fun w => ?_)) (by with_reducible assumption) ?_
    rotate_left
    · (go_simp <;> with_reducible rfl)
    try simp only [List.getElem_toArray, List.getElem_cons_succ, List.getElem_cons_zero, Act.put, List.setIfInBounds_toArray, List.set_cons_zero, List.set_cons_succ]
    refine wpAnyH_take (i := 4) (v := ?_) rfl (by kernel_rfl) (by kernel_rfl) (by kernel_rfl) (fun _ _ _ h => h) (yields_pure (by rfl) (fun w => ?_)) (by with_reducible assumption) ?_
    rotate_left
    · (go_simp <;> with_reducible rfl)
    try simp only [List.getElem_toArray, List.getElem_cons_succ, List.getElem_cons_zero, Act.put, List.setIfInBounds_toArray, List.set_cons_zero, List.set_cons_succ]
    refine wpAnyH_take (i := 3) rfl (by kernel_rfl) (by kernel_rfl) (by kernel_rfl) (fun _ _ _ h => h) (yields_row (by rfl) 24 (.tmp 30) rfl p 0 rfl (#[.int .u64 ka, .int .u64 kb]) _ HSR Tryz.underlying24 rfl (by kernel_rfl)) (by with_reducible assumption) ?_
    try simp only [List.getElem_toArray, List.getElem_cons_succ, List.getElem_cons_zero, Act.put, List.setIfInBounds_toArray, List.set_cons_zero, List.set_cons_succ]
    refine wpAnyH_ready (rs := [5]) (by kernel_rfl) (by simp) (AllReadyH.cons rfl (fun K hK => ?_) AllReadyH.nil)
    go_simp
    refine (members_any (HO.out.sl.chg0 ((Chg.refl [] w3).drew)) (by have := HB.out.len; omega)).mono ?_
    rintro e w4 ⟨v4, rfl, hm4, hc4⟩
    have hS4 : (fun W : World => W.rangeAt p 0 [.int .u64 ka, .int .u64 kb]) w4 := rangeAt_chg hS0 hc4 (by simp)
    refine hK.out _ _ (by with_reducible assumption) (fun _ => ?_)
    clear hK K
    try simp only [List.getElem_toArray, List.getElem_cons_succ, List.getElem_cons_zero, Act.put, List.setIfInBounds_toArray, List.set_cons_zero, List.set_cons_succ]
    refine wpAnyH_ready (rs := [6]) (by kernel_rfl) (by simp) (AllReadyH.cons rfl (fun K hK => ?_) AllReadyH.nil)
    go_simp
    refine (build_any ka kb 61 hm4 HMl.out).mono ?_
    rintro e w5 ⟨v5, q, rfl, hb5, hc5⟩
    have hS5 : (fun W : World => W.rangeAt p 0 [.int .u64 ka, .int .u64 kb]) w5 := rangeAt_chg hS4 hc5 (by simp)
    obtain ⟨tl, ht5, htb⟩ := hb5.tb
    obtain ⟨rfl, rfl⟩ := tabP_of HB.out htb
    refine hK.out _ _ (by with_reducible assumption) (fun _ => ?_)
    clear hK K
    try simp only [List.getElem_toArray, List.getElem_cons_succ, List.getElem_cons_zero, Act.put, List.setIfInBounds_toArray, List.set_cons_zero, List.set_cons_succ]
    refine wpAnyH_take (i := 7) (v := ?_) rfl (by kernel_rfl) (by kernel_rfl) (by kernel_rfl) (fun _ _ _ h => h) (yields_pure (by rfl) (fun w => ?_)) (by with_reducible assumption) ?_
    rotate_left
    · (go_simp <;> with_reducible rfl)
    try simp only [List.getElem_toArray, List.getElem_cons_succ, List.getElem_cons_zero, Act.put, List.setIfInBounds_toArray, List.set_cons_zero, List.set_cons_succ]
    refine wpAnyH_take (i := 8) (v := ?_) rfl (by kernel_rfl) (by kernel_rfl) (by kernel_rfl) (fun _ _ _ h => h) (yields_pure (by rfl) (fun w => ?_)) (by with_reducible assumption) ?_
    rotate_left
    · (go_simp <;> with_reducible rfl)
    try simp only [List.getElem_toArray, List.getElem_cons_succ, List.getElem_cons_zero, Act.put, List.setIfInBounds_toArray, List.set_cons_zero, List.set_cons_succ]
    refine wpAnyH_take (i := 9) (v := ?_) rfl (by kernel_rfl) (by kernel_rfl) (by kernel_rfl) (fun _ _ _ h => h) (yields_pure (by rfl) (fun w => ?_)) (by with_reducible assumption) ?_
    rotate_left
    · (go_simp <;> with_reducible rfl)
    try simp only [List.getElem_toArray, List.getElem_cons_succ, List.getElem_cons_zero, Act.put, List.setIfInBounds_toArray, List.set_cons_zero, List.set_cons_succ]
    refine wpAnyH_take (i := 10) (v := ?_) rfl (by kernel_rfl) (by kernel_rfl) (by kernel_rfl) (fun _ _ _ h => h) (yields_pure (by rfl) (fun w => ?_)) (by with_reducible assumption) ?_
    rotate_left
    · (go_simp <;> with_reducible rfl)
    try simp only [List.getElem_toArray, List.getElem_cons_succ, List.getElem_cons_zero, Act.put, List.setIfInBounds_toArray, List.set_cons_zero, List.set_cons_succ]
    refine wpAnyH_take (i := 11) (v := ?_) rfl (by kernel_rfl) (by kernel_rfl) (by kernel_rfl) (fun _ _ _ h => h) (yields_pure (by rfl) (fun w => ?_)) (by with_reducible assumption) ?_
    rotate_left
    · (go_simp <;> with_reducible rfl)
    try simp only [List.getElem_toArray, List.getElem_cons_succ, List.getElem_cons_zero, Act.put, List.setIfInBounds_toArray, List.set_cons_zero, List.set_cons_succ]
    refine wpAnyH_done (by kernel_rfl) ?_ _
    refine NoPanic.normal ?_
    have hC35 : Chg [] w3 w5 := ((Chg.refl [] w3).drew.trans hc4).trans hc5
    have hC5 : Chg [] w w5 := HC3.out.trans hC35
    have F3 := Lib.hid (newestP_any (HH.out.chg0 hC5) HOK.out.vs ht5 (by rw [tabP_len]; omega))
    have HC5 := Lib.hid hC5
    have HC35 := Lib.hid hC35
    have HT5 := Lib.hid ht5
    have HT5o : Hid (∀ x ∈ v5.ownBlock.toList, w.heap.size ≤ x) := Lib.hid (by
      obtain ⟨b, o, c, hv, hb, _⟩ := SlZ.all ht5 (by rw [tabP_len]; omega)
      intro x hx
      rw [hv] at hx
      simp [Value.ownBlock] at hx
      have h1 := HC3.out.size
      have h2 := ((Chg.refl [] w3).drew.trans hc4).size
      omega)
    clear hS0 HSR hkr hS4 hS5 hb5 htb FM hC35 hC5 hc4 hc5 hm4 ht5 HMl
    go_wp2_with fail
    refine F3.out.mono ?_
    rintro e w6 ⟨rfl, hc6⟩
    have HC6 := Lib.hid (HC5.out.trans hc6)
    have h6 := HH.out.chg0 HC6.out
    have k2 := h6.blk.cell 2
    have f2 := h6.blk.frozen 2
    have k3 := h6.blk.cell 3
    simp only [List.getElem?_toArray, List.getElem?_cons_succ, List.getElem?_cons_zero] at k2 k3
    have ho6 := own_chg HO.out (HC35.out.trans hc6) (by simp)
    have hvw := own_lt HO.out
    have hfw : ∀ x ∈ footH hp rv, x < w.heap.size := fun x hx => HH.out.sl x (HH.out.his.foot x hx)
    have hbig := HC6.out.size
    have h36 : w3.heap.size ≤ w6.heap.size := (HC35.out.trans hc6).size
    have HI6 := Lib.hid ((HH.out.his.addSs (T := (Value.slice A3 L'.length c3).ownBlock.toList) (fun x hx => (hvw x hx).1)).chg0 HC6.out)
    have HT6 := Lib.hid (HT5.out.chg0 hc6)
    have HO6 := Lib.hid ho6
    have H6 := Lib.hid h6
    have HVW := Lib.hid hvw
    have HFW := Lib.hid hfw
    have hSl6 : Hid (∀ x ∈ (Value.slice A3 L'.length c3).ownBlock.toList ++ S, x < w6.heap.size) := Lib.hid fun x hx => by
      rcases List.mem_append.1 hx with hx | hx
      · have := (hvw x hx).2; omega
      · have := HH.out.sl x hx; omega
    clear h6 ho6 hvw hfw HO HC5 HC35 HT5 hc6 F3
    cases hnv : newV s.V (tabP ka kb L') with
    | true =>
      have HFIN := Lib.hid (fin_pool H6.out.blk HO6.out HI6.out (List.mem_append_right _ HH.out.pS) (fun x hx => List.mem_append_left _ hx) HH.out.pf (fun x hx hm => by have := (HVW.out x hx).1; have := HFW.out x hm; omega) HH.out.low hpw hSl6.out)
      have HST : Hid (setP ka kb now s L' = (0, ⟨L', s.V, s.last⟩)) := Lib.hid (by unfold setP; rw [if_pos hnv])
      clear hnv
      go_wp2_with fail
      go_ret
      unfold ChR
      rw [HS.out, HST.out]
      refine ⟨_, rv, _, es, rfl, HFIN.out.1, (HC6.out.more (by simp)).trans (HFIN.out.2.more (fun x hx => by simp at hx; subst hx; exact List.mem_cons_self ..)), fun x hx => ?_⟩
      rcases List.mem_append.1 hx with hx | hx
      · exact .inr (HVW.out x hx).1
      · exact .inl hx
    | false =>
      by_cases hm : mayV s.V now = 0
      · have HST : Hid (setP ka kb now s L' = (0, ⟨L', pushV s.V s.last now (tabP ka kb L'), s.last + 1⟩)) := Lib.hid (by unfold setP; rw [if_neg (by rw [hnv]; simp), if_neg (by simp [hm])])
        have FP := Lib.hid (pushH_any HI6.out HOK.out.vs (Nat.le_trans hN hbig) now hn ⟨HOK.out.last, hl⟩ HT6.out (fun g hg hmm => by have := HT5o.out g hg; have := HFW.out g hmm; omega) (by rw [tabP_len]; omega) hm hSl6.out)
        clear hnv hm
        go_wp2_with fail
        refine FP.out.mono ?_
        rintro e w7 ⟨rfl, rv', es', hi7, hc7, hsub⟩
        have hb7 := H6.out.blk.chg hc7 HH.out.pf
        have ho7 := own_chg HO6.out hc7 (fun x hx hmm => by have := (HVW.out x hx).1; have := HFW.out x hmm; omega)
        have hrv6 := own_lt HI6.out.row
        have hpf7 : p ∉ footH hp rv' := fun hmm => by
          rcases List.mem_cons.1 hmm with e | hmm
          · exact HH.out.pf (by rw [e]; exact List.mem_cons_self ..)
          · rcases hsub _ hmm with h | h
            · exact HH.out.pf (List.mem_cons_of_mem _ h)
            · omega
        have h67 := hc7.size
        have hrv7 := own_lt hi7.row
        have HFIN := Lib.hid (fin_pool hb7 ho7 hi7 (List.mem_append_right _ (List.mem_append_right _ HH.out.pS)) (fun x hx => List.mem_append_right _ (List.mem_append_left _ hx)) hpf7 (fun x hx hmm => by
          have hx1 := HVW.out x hx
          rcases List.mem_cons.1 hmm with e | hmm
          · have := HFW.out hp (List.mem_cons_self ..); omega
          · rcases hsub _ hmm with h | h
            · have := HFW.out x (List.mem_cons_of_mem _ h); omega
            · omega) HH.out.low hpw (fun x hx => by
          rcases List.mem_append.1 hx with hx | hx
          · exact (hrv7 x hx).2
          · have := hSl6.out x hx; omega))
        have q2 := hb7.cell 2
        have g2 := hb7.frozen 2
        simp only [List.getElem?_toArray, List.getElem?_cons_succ, List.getElem?_cons_zero] at q2
        have HC7 := Lib.hid hc7
        have HSUB := Lib.hid hsub
        clear hb7 ho7 hi7 hc7 hsub hpf7 hrv6 hrv7 FP
        go_wp2_with fail
        go_ret
        unfold ChR
        rw [HS.out, HST.out]
        refine ⟨_, rv', _, es', rfl, HFIN.out.1, ((HC6.out.more (by simp)).trans (HC7.out.more (fun x hx => List.mem_cons_of_mem _ hx))).trans (HFIN.out.2.more (fun x hx => by simp at hx; subst hx; exact List.mem_cons_self ..)), fun x hx => ?_⟩
        rcases List.mem_append.1 hx with hx | hx
        · rcases HSUB.out x hx with h | h
          · exact .inl (HH.out.his.foot x (List.mem_cons_of_mem _ h))
          · exact .inr (by omega)
        · rcases List.mem_append.1 hx with hx | hx
          · exact .inr (HVW.out x hx).1
          · exact .inl hx
      · have HST : Hid (setP ka kb now s L' = (mayV s.V now, s)) := Lib.hid (by unfold setP; rw [if_neg (by rw [hnv]; simp), if_pos hm])
        have FP := Lib.hid (pushH_err HI6.out HOK.out.vs now hn v5 hm)
        clear hnv
        generalize hmv : mayV s.V now = m at *
        have HMV := Lib.hid hmv
        clear hmv
        go_wp2_with fail
        refine FP.out.mono ?_
        rintro e w7 ⟨rfl, hc7⟩
        have HF := Lib.hid (H6.out.chg0 hc7)
        have HC7 := Lib.hid (HC6.out.trans hc7)
        clear hc7 FP
        go_wp2_with fail
        go_ret
        unfold ChR
        rw [HS.out, HST.out]
        exact ⟨_, rv, S, es, rfl, HF.out, HC7.out.more (by simp), fun x hx => .inl hx⟩
  · have HS : Hid (chP ka kb now s (er, L') = (er, s)) := Lib.hid (by unfold chP; rw [if_pos her])
    have HF := Lib.hid (HH.out.chg0 HC3.out)
    clear ho3 HR FH HC2 HL2 hc3 c2
    go_wp2_with fail
    go_ret
    unfold ChR
    rw [HS.out]
    exact ⟨_, rv, S, es, rfl, HF.out, HC3.out.more (by simp), fun x hx => .inl hx⟩
end Go.Proofs.YtecblclpchndiaaGreat
namespace Go.Proofs.YtecblclpchndiaaGreat
open Go.RowKit

set_option maxRecDepth 100000 in
set_option maxHeartbeats 1000000 in
theorem weighs_any (n : Int) (w : World) : Calls Tryz.prog 45 #[.int .i64 n] w fun e w' => e = .returned (.bool (decide (0 ≤ n ∧ n ≤ 4))) ∧ w = w' := by
  by_cases h1 : 0 ≤ n
  · by_cases h2 : n ≤ 4
    · have hd : decide (0 ≤ n ∧ n ≤ 4) = true := decide_eq_true ⟨h1, h2⟩
      rw [hd]
      go_enter Tryz.func45, Tryz.ntmps45
      go_wp2_with fail
      go_ret
      exact ⟨rfl, rfl⟩
    · have hd : decide (0 ≤ n ∧ n ≤ 4) = false := decide_eq_false fun h => h2 h.2
      rw [hd]
      go_enter Tryz.func45, Tryz.ntmps45
      go_wp2_with fail
      go_ret
      exact ⟨rfl, rfl⟩
  · have hd : decide (0 ≤ n ∧ n ≤ 4) = false := decide_eq_false fun h => h1 h.1
    rw [hd]
    go_enter Tryz.func45, Tryz.ntmps45
    go_wp2_with fail
    go_ret
    exact ⟨rfl, rfl⟩
/-- What a closure on backends says. -/
def HowE (W : World) (w0 : Nat) (lv : Value) (r : Int × List Bk) (e : Ending) (w' : World) : Prop := ∃ v', e = .returned (.tuple #[v', .int .i64 r.1]) ∧ (r.1 = 0 → OwB 37 w' w0 v' r.2) ∧ Chg lv.ownBlock.toList W w'

set_option maxRecDepth 100000 in
set_option maxHeartbeats 4000000 in
theorem add1_any {w : World} {b1 b2 : Nat} {n wt : Int} (c1 : w.cell? ⟨b1, 0, none⟩ = some (.int .i64 n)) (c2 : w.cell? ⟨b2, 0, none⟩ = some (.int .i64 wt)) {L : List Bk} (hok : OkB L) :
    HowR w 44 #[.pointer (some ⟨b1, 0, none⟩), .pointer (some ⟨b2, 0, none⟩)] L (addL n wt L) := by
  intro W lv hc hown
  have c1 := hc.cell c1 (by simp)
  have c2 := hc.cell c2 (by simp)
  show Calls _ _ #[lv, .pointer (some ⟨b1, 0, none⟩), .pointer (some ⟨b2, 0, none⟩)] W (HowE W w.heap.size lv (addL n wt L))
  have hwz := hc.size
  clear hc
  by_cases h1 : n < 1
  · have HA : Hid (addL n wt L = (2, [])) := Lib.hid (by unfold addL; rw [if_pos (.inl h1)])
    clear hown
    go_enter Tryz.func44, Tryz.ntmps44
    go_wp2_with fail
    go_ret2
    unfold HowE
    rw [HA.out]
    exact ⟨_, rfl, by simp, Chg.refl _ _⟩
  · by_cases h2 : 65535 < n
    · have HA : Hid (addL n wt L = (2, [])) := Lib.hid (by unfold addL; rw [if_pos (.inr (.inl h2))])
      clear hown
      go_enter Tryz.func44, Tryz.ntmps44
      go_wp2_with fail
      go_ret2
      unfold HowE
      rw [HA.out]
      exact ⟨_, rfl, by simp, Chg.refl _ _⟩
    · have FW := Lib.hid (weighs_any wt)
      by_cases h3 : 0 ≤ wt ∧ wt ≤ 4
      · have hd : decide (0 ≤ wt ∧ wt ≤ 4) = true := decide_eq_true h3
        rw [hd] at FW
        have FP := Lib.hid (place_any hown.sl hok n (by omega))
        have hlen := hok.len
        have HOW := Lib.hid hown
        obtain ⟨A, c, e⟩ := Sl.form hown.sl
        subst e
        have h30 : ¬ (n < 1 ∨ 65535 < n ∨ wt < 0 ∨ 4 < wt) := by omega
        clear hown hd h3
        by_cases h4 : n ∈ nodesB L
        · have HA : Hid (addL n wt L = (9, [])) := Lib.hid (by unfold addL; rw [if_neg h30, if_pos h4])
          have hd4 : decide (n ∈ nodesB L) = true := decide_eq_true h4
          rw [hd4] at FP
          clear hd4 h4 h30
          go_enter Tryz.func44, Tryz.ntmps44
          go_wp2_with fail
          refine (FW.out _).mono ?_
          rintro e w1 ⟨rfl, rfl⟩
          go_wp2_with fail
          refine FP.out.mono ?_
          rintro e w2 ⟨i, rfl, hp, hc2⟩
          have HC := Lib.hid hc2
          clear hp hc2
          go_wp2_with fail
          go_ret2
          unfold HowE
          rw [HA.out]
          exact ⟨_, rfl, by simp, HC.out.more (by simp)⟩
        · have hd4 : decide (n ∈ nodesB L) = false := decide_eq_false h4
          rw [hd4] at FP
          by_cases h5 : 16 ≤ L.length
          · have HA : Hid (addL n wt L = (8, [])) := Lib.hid (by unfold addL; rw [if_neg h30, if_neg h4, if_pos h5])
            have h5' : (16 : Int) ≤ (L.length : Int) := by omega
            clear hd4 h4 h30
            go_enter Tryz.func44, Tryz.ntmps44
            go_wp2_with fail
            refine (FW.out _).mono ?_
            rintro e w1 ⟨rfl, rfl⟩
            go_wp2_with fail
            refine FP.out.mono ?_
            rintro e w2 ⟨i, rfl, hp, hc2⟩
            have HC := Lib.hid hc2
            clear hp hc2
            go_wp2_with fail
            go_ret2
            unfold HowE
            rw [HA.out]
            exact ⟨_, rfl, by simp, HC.out.more (by simp)⟩
          · have HA : Hid (addL n wt L = (0, L.take (cntB L n) ++ ⟨n, wt, false, false⟩ :: L.drop (cntB L n))) := Lib.hid (by unfold addL; rw [if_neg h30, if_neg h4, if_neg h5])
            have h5' : ¬ (16 : Int) ≤ (L.length : Int) := by omega
            clear hd4 h4 h30
            go_enter Tryz.func44, Tryz.ntmps44
            go_wp2_with fail
            refine (FW.out _).mono ?_
            rintro e w1 ⟨rfl, rfl⟩
            go_wp2_with fail
            refine FP.out.mono ?_
            rintro e w2 ⟨i, rfl, hp, hc2⟩
            have hi : i = cntB L n := hp.2 (by omega) (by omega)
            have k1 := hc2.cell c1 (by simp)
            have k2 := hc2.cell c2 (by simp)
            have hA2 := (Chg.refl [] w2).alloc (.cells #[.int .i64 n, .int .i64 wt, .bool false, .bool false] 37)
            have hb2 : Blk (w2.alloc (.cells #[.int .i64 n, .int .i64 wt, .bool false, .bool false] 37)) w2.heap.size 37 (encB ⟨n, wt, false, false⟩).toArray := Blk.new _ _ _
            have hlo := own_lt HOW.out
            have hsz2 := hc2.size
            have FI := Lib.hid (insertB_any (own_chg HOW.out (hc2.trans hA2) (by simp)) hp.1 (by omega) (by rw [World.size_alloc]; omega) hb2 (fun hm => by have := (hlo _ hm).2; omega))
            have HI := Lib.hid hi
            have HC := Lib.hid (hc2.trans hA2)
            clear hp hc2 hi hA2 hb2 hlo hsz2 HOW FP FW
            go_wp2_with fail
            refine FI.out.mono ?_
            rintro e w3 ⟨v3, rfl, ho3, hc3⟩
            have HO3 := Lib.hid ho3
            have HC3 := Lib.hid ((HC.out.more (by simp)).trans hc3)
            clear ho3 hc3 FI HC
            go_wp2_with fail
            go_ret2
            unfold HowE
            rw [HA.out]
            refine ⟨v3, rfl, fun _ => ?_, HC3.out⟩
            rw [← HI.out]
            exact HO3.out
      · have HA : Hid (addL n wt L = (2, [])) := Lib.hid (by unfold addL; rw [if_pos (by omega)])
        have hd : decide (0 ≤ wt ∧ wt ≤ 4) = false := decide_eq_false h3
        rw [hd] at FW
        clear hown h3 hd
        go_enter Tryz.func44, Tryz.ntmps44
        go_wp2_with fail
        refine (FW.out _).mono ?_
        rintro e w1 ⟨rfl, rfl⟩
        go_wp2_with fail
        go_ret2
        unfold HowE
        rw [HA.out]
        exact ⟨_, rfl, by simp, Chg.refl _ _⟩
end Go.Proofs.YtecblclpchndiaaGreat
namespace Go.Proofs.YtecblclpchndiaaGreat
open Go.RowKit

/-- A closure that changes the backend at an address. -/
def OneR (w : World) (f : Nat) (caps : Array Value) (F : Bk → Int × Bk) : Prop :=
  ∀ (W : World) (g off : Nat) (x : Bk), Chg [] w W → w.heap.size ≤ g → (∀ j u, (encB x)[j]? = some u → W.cell? ⟨g, off + j, none⟩ = some u ∧ W.frozen? ⟨g, off + j, none⟩ = false) →
    Calls Tryz.prog f (#[.pointer (some ⟨g, off, none⟩)] ++ caps) W fun e w' => e = .returned (.int .i64 (F x).1) ∧ ((w' = W ∧ (F x).2 = x) ∨ ∃ j u, j < 4 ∧ w' = W.setCell ⟨g, off + j, none⟩ u ∧ encB (F x).2 = (encB x).set j u)
theorem enc_cells {W : World} {g off : Nat} {x : Bk} (h : ∀ j u, (encB x)[j]? = some u → W.cell? ⟨g, off + j, none⟩ = some u ∧ W.frozen? ⟨g, off + j, none⟩ = false) :
    (W.cell? ⟨g, off + 1, none⟩ = some (.int .i64 x.w) ∧ W.frozen? ⟨g, off + 1, none⟩ = false) ∧ (W.cell? ⟨g, off + 2, none⟩ = some (.bool x.dr) ∧ W.frozen? ⟨g, off + 2, none⟩ = false) ∧ (W.cell? ⟨g, off + 3, none⟩ = some (.bool x.dn) ∧ W.frozen? ⟨g, off + 3, none⟩ = false) :=
  ⟨h 1 _ rfl, h 2 _ rfl, h 3 _ rfl⟩
def OneE (W : World) (g off : Nat) (x : Bk) (r : Int × Bk) (e : Ending) (w' : World) : Prop := e = .returned (.int .i64 r.1) ∧ ((w' = W ∧ r.2 = x) ∨ ∃ j u, j < 4 ∧ w' = W.setCell ⟨g, off + j, none⟩ u ∧ encB r.2 = (encB x).set j u)

set_option maxRecDepth 100000 in
set_option maxHeartbeats 1000000 in
theorem weigh1_any {w : World} {b : Nat} {wt : Int} (c1 : w.cell? ⟨b, 0, none⟩ = some (.int .i64 wt)) : OneR w 48 #[.pointer (some ⟨b, 0, none⟩)] (weighF wt) := by
  intro W g off x hc hg hx
  have c1 := hc.cell c1 (by simp)
  obtain ⟨⟨k1, f1⟩, _, _⟩ := enc_cells hx
  show Calls _ _ #[.pointer (some ⟨g, off, none⟩), .pointer (some ⟨b, 0, none⟩)] W (OneE W g off x (weighF wt x))
  have FW := Lib.hid (weighs_any wt)
  have hbW := World.block_lt_of_cell? W _ c1
  clear hx hc
  by_cases h3 : 0 ≤ wt ∧ wt ≤ 4
  · have hd : decide (0 ≤ wt ∧ wt ≤ 4) = true := decide_eq_true h3
    rw [hd] at FW
    have HA : Hid (weighF wt x = (0, { x with w := wt })) := Lib.hid (by unfold weighF; rw [if_neg (by omega)])
    clear h3 hd
    go_enter Tryz.func48, Tryz.ntmps48
    go_wp2_with fail
    refine (FW.out _).mono ?_
    rintro e w1 ⟨rfl, rfl⟩
    go_wp2_with fail
    go_ret
    unfold OneE
    rw [HA.out]
    exact ⟨rfl, .inr ⟨1, .int .i64 wt, by omega, rfl, rfl⟩⟩
  · have hd : decide (0 ≤ wt ∧ wt ≤ 4) = false := decide_eq_false h3
    rw [hd] at FW
    have HA : Hid (weighF wt x = (2, x)) := Lib.hid (by unfold weighF; rw [if_pos (by omega)])
    clear h3 hd
    go_enter Tryz.func48, Tryz.ntmps48
    go_wp2_with fail
    refine (FW.out _).mono ?_
    rintro e w1 ⟨rfl, rfl⟩
    go_wp2_with fail
    go_ret
    unfold OneE
    rw [HA.out]
    exact ⟨rfl, .inl ⟨rfl, rfl⟩⟩
set_option maxRecDepth 100000 in
set_option maxHeartbeats 1000000 in
theorem drain1_any (w : World) : OneR w 49 #[] drainF := by
  intro W g off x hc hg hx
  obtain ⟨_, ⟨k2, f2⟩, _⟩ := enc_cells hx
  show Calls _ _ #[.pointer (some ⟨g, off, none⟩)] W (OneE W g off x (drainF x))
  clear hx hc
  go_enter Tryz.func49, Tryz.ntmps49
  go_wp2_with fail
  go_ret
  exact ⟨rfl, .inr ⟨2, .bool true, by omega, rfl, rfl⟩⟩
set_option maxRecDepth 100000 in
set_option maxHeartbeats 1000000 in
theorem health1_any {w : World} {b : Nat} {up : Bool} (c1 : w.cell? ⟨b, 0, none⟩ = some (.bool up)) : OneR w 52 #[.pointer (some ⟨b, 0, none⟩)] (healthF up) := by
  intro W g off x hc hg hx
  have c1 := hc.cell c1 (by simp)
  obtain ⟨_, _, ⟨k3, f3⟩⟩ := enc_cells hx
  show Calls _ _ #[.pointer (some ⟨g, off, none⟩), .pointer (some ⟨b, 0, none⟩)] W (OneE W g off x (healthF up x))
  clear hx hc
  go_enter Tryz.func52, Tryz.ntmps52
  go_wp2_with fail
  go_ret
  exact ⟨rfl, .inr ⟨3, .bool (!up), by omega, rfl, rfl⟩⟩
theorem nodes_at {L : List Bk} {n : Int} (hs : SrtB L) (h : n ∈ nodesB L) : ∃ x, L[cntB L n]? = some x ∧ x.node = n := cntB_at hs h

set_option maxRecDepth 100000 in
set_option maxHeartbeats 4000000 in
theorem remove1_any {w : World} {b1 : Nat} {n : Int} (c1 : w.cell? ⟨b1, 0, none⟩ = some (.int .i64 n)) (hn : -9223372036854775808 ≤ n ∧ n ≤ 9223372036854775807) {L : List Bk} (hok : OkB L) :
    HowR w 50 #[.pointer (some ⟨b1, 0, none⟩)] L (removeL n L) := by
  intro W lv hc hown
  have c1 := hc.cell c1 (by simp)
  show Calls _ _ #[lv, .pointer (some ⟨b1, 0, none⟩)] W (HowE W w.heap.size lv (removeL n L))
  clear hc
  have FP := Lib.hid (place_any hown.sl hok n hn)
  obtain ⟨A, c, e⟩ := Sl.form hown.sl
  subst e
  have HOW := Lib.hid hown
  clear hown
  by_cases h4 : n ∈ nodesB L
  · have HA : Hid (removeL n L = (0, L.take (cntB L n) ++ L.drop (cntB L n + 1))) := Lib.hid (by unfold removeL; rw [if_pos h4])
    have hd4 : decide (n ∈ nodesB L) = true := decide_eq_true h4
    rw [hd4] at FP
    obtain ⟨x, hx, hxn⟩ := cntB_at hok.srt h4
    have hxo := hok.ok x (List.mem_of_getElem? hx)
    have hlt := (List.getElem?_eq_some_iff.1 hx).1
    have hlen := hok.len
    have HRG : Hid (1 ≤ n ∧ n ≤ 65535) := Lib.hid (by omega)
    clear hd4 h4 hx hxn hxo
    go_enter Tryz.func50, Tryz.ntmps50
    go_wp2_with fail
    refine FP.out.mono ?_
    rintro e w2 ⟨i, rfl, hp, hc2⟩
    obtain rfl : i = cntB L n := hp.2 HRG.out.1 HRG.out.2
    have FD := Lib.hid (deleteB_any (own_chg HOW.out hc2 (by simp)) hlt (by omega))
    have HC := Lib.hid hc2
    clear hp hc2 HOW FP
    generalize cntB L n = i at *
    have hw1 : IntKind.i64.wrap ((i : Int) + 1) = (i : Int) + 1 := by rw [IntKind.wrap_i64]; omega
    go_wp2_with fail
    refine FD.out.mono ?_
    rintro e w3 ⟨v3, rfl, ho3, hc3⟩
    have HO3 := Lib.hid ho3
    have HC3 := Lib.hid ((HC.out.more (by simp)).trans hc3)
    clear ho3 hc3 FD HC
    go_wp2_with fail
    go_ret2
    unfold HowE
    rw [HA.out]
    exact ⟨v3, rfl, fun _ => HO3.out, HC3.out⟩
  · have HA : Hid (removeL n L = (10, [])) := Lib.hid (by unfold removeL; rw [if_neg h4])
    have hd4 : decide (n ∈ nodesB L) = false := decide_eq_false h4
    rw [hd4] at FP
    clear hd4 h4
    go_enter Tryz.func50, Tryz.ntmps50
    go_wp2_with fail
    refine FP.out.mono ?_
    rintro e w2 ⟨i, rfl, hp, hc2⟩
    have HC := Lib.hid hc2
    clear hp hc2
    go_wp2_with fail
    go_ret2
    unfold HowE
    rw [HA.out]
    exact ⟨_, rfl, by simp, HC.out.more (by simp)⟩
/-- One backend of a row of one's own, changed. -/
theorem own_one {t : TypeId} {W w' : World} {B g i : Nat} {cap : Nat} {L : List Bk} {x : Bk} {r : Int × Bk} (h : OwB t W B (.slice (some ⟨g, 0, none⟩) L.length cap) L) (hx : L[i]? = some x) (hw : (w' = W ∧ r.2 = x) ∨ ∃ j u, j < 4 ∧ w' = W.setCell ⟨g, i * 4 + j, none⟩ u ∧ encB r.2 = (encB x).set j u) :
    OwB t w' B (.slice (some ⟨g, 0, none⟩) L.length cap) (L.set i r.2) ∧ Chg [g] W w' := by
  rcases hw with ⟨rfl, h2⟩ | ⟨j, u, hj, rfl, he⟩
  · rw [h2]
    have : L.set i x = L := by
      apply List.ext_getElem?
      intro k
      by_cases hk : i = k
      · subst hk
        rw [List.getElem?_set_self (List.getElem?_eq_some_iff.1 hx).1, hx]
      · rw [List.getElem?_set_ne hk]
    rw [this]
    exact ⟨h, Chg.refl _ _⟩
  · refine ⟨?_, (Chg.refl [g] W).setCell (p := ⟨g, i * 4 + j, none⟩) (.inl (by simp)) u⟩
    have h1 := own_set h (i * 4 + j) u
    unfold OwB
    rw [List.length_set, ← flat_set encB_len L i j x r.2 u hj hx he]
    exact h1

set_option maxRecDepth 100000 in
set_option maxHeartbeats 4000000 in
theorem one1_any {w : World} {b1 b2 f : Nat} {caps : Array Value} {F : Bk → Int × Bk} {n : Int} (c1 : w.cell? ⟨b1, 0, none⟩ = some (.int .i64 n)) (c2 : w.cell? ⟨b2, 0, none⟩ = some (.func (.func f) #[] caps)) (hn : -9223372036854775808 ≤ n ∧ n ≤ 9223372036854775807) {L : List Bk} (hok : OkB L)
    (hF : OneR w f caps F) (hen : ∀ args W, (callFunc f args).run Tryz.prog W = .ok (.enter f args) W) :
    HowR w 66 #[.pointer (some ⟨b1, 0, none⟩), .pointer (some ⟨b2, 0, none⟩)] L (oneL n F L) := by
  intro W lv hc hown
  have hb2 := World.block_lt_of_cell? w _ c2
  have c1 := hc.cell c1 (by simp)
  have c2 := hc.cell c2 (by simp)
  show Calls _ _ #[lv, .pointer (some ⟨b1, 0, none⟩), .pointer (some ⟨b2, 0, none⟩)] W (HowE W w.heap.size lv (oneL n F L))
  have FP := Lib.hid (place_any hown.sl hok n hn)
  have HOW := Lib.hid hown
  have HFF := Lib.hid hF
  have HC0 := Lib.hid hc
  have HB2 := Lib.hid hb2
  clear hF hc
  by_cases h4 : n ∈ nodesB L
  · have hd4 : decide (n ∈ nodesB L) = true := decide_eq_true h4
    rw [hd4] at FP
    obtain ⟨x, hx, hxn⟩ := cntB_at hok.srt h4
    have HA : Hid (oneL n F L = ((F x).1, L.set (cntB L n) (F x).2)) := Lib.hid (by unfold oneL; rw [if_pos h4, hx])
    have hxo := hok.ok x (List.mem_of_getElem? hx)
    have hlt := (List.getElem?_eq_some_iff.1 hx).1
    have hlen := hok.len
    have HRG : Hid (1 ≤ n ∧ n ≤ 65535) := Lib.hid (by omega)
    have HX := Lib.hid hx
    obtain ⟨g, cap, cur, rfl, hg, hh, hcap, hmx, hcs, htk⟩ := hown.2.resolve_left (by rintro ⟨_, h0⟩; omega)
    have HBK : Hid (Blk W g 37 cur) := Lib.hid hh
    have HCE : Hid (∀ j u, (encB x)[j]? = some u → cur[cntB L n * 4 + j]? = some u) := Lib.hid fun j u hu => by
      have h1 := flat_at encB_len L (cntB L n) j (by have := (List.getElem?_eq_some_iff.1 hu).1; rw [encB_len] at this; omega)
      rw [hx] at h1
      rw [← htk] at h1
      simp only [Option.bind_some] at h1
      rw [hu, List.getElem?_take] at h1
      split at h1
      · simpa using h1
      · simp at h1
    clear hd4 h4 hx hxn hxo hown hh htk hcs hmx
    go_enter Tryz.func66, Tryz.ntmps66
    go_wp2_with fail
    refine FP.out.mono ?_
    rintro e w2 ⟨i, rfl, hp, hc2⟩
    obtain rfl : i = cntB L n := hp.2 HRG.out.1 HRG.out.2
    have HC2 := Lib.hid hc2
    clear hp hc2 FP
    generalize cntB L n = i at *
    have hltI : (i : Int) < (L.length : Int) := by omega
    go_upto_region 4 with fail
    refine wp_region_noPanic ?_
    have hS0 : (fun W : World => W.cell? ⟨b2, 0, none⟩ = some (.func (.func f) #[] caps)) w2.drew := HC2.out.cell c2 (by simp)
    have HS2 : ∀ W : World, (fun W : World => W.cell? ⟨b2, 0, none⟩ = some (.func (.func f) #[] caps)) W → W.cell? ⟨b2, 0, none⟩ = some (.func (.func f) #[] caps) := fun _ h => h
    refine wp_region_held_drew (S := fun W : World => W.cell? ⟨b2, 0, none⟩ = some (.func (.func f) #[] caps)) (by kernel_rfl) hS0 (fun _ => ?_)
    refine wpAnyH_take (i := 0) (v := ?_) rfl (by kernel_rfl) (by kernel_rfl) (by kernel_rfl) (fun _ _ _ h => h) (yields_pure (by rfl) (fun w => ?_)) (by with_reducible assumption) ?_
    rotate_left
    · (go_simp <;> with_reducible rfl)
    try simp only [List.getElem_toArray, List.getElem_cons_succ, List.getElem_cons_zero, Act.put, List.setIfInBounds_toArray, List.set_cons_zero, List.set_cons_succ]
    refine wpAnyH_take (i := 1) rfl (by kernel_rfl) (by kernel_rfl) (by kernel_rfl) (fun _ _ _ h => h) (yields_cell (by rfl) 95 (.tmp 2) rfl b2 0 rfl (.func (.func f) #[] caps) _ HS2 Tryz.underlying95 rfl) (by with_reducible assumption) ?_
    try simp only [List.getElem_toArray, List.getElem_cons_succ, List.getElem_cons_zero, Act.put, List.setIfInBounds_toArray, List.set_cons_zero, List.set_cons_succ]
    refine wpAnyH_take (i := 2) (v := ?_) rfl (by kernel_rfl) (by kernel_rfl) (by kernel_rfl) (fun _ _ _ h => h) (yields_pure (by rfl) (fun w => ?_)) (by with_reducible assumption) ?_
    rotate_left
    · (go_simp <;> with_reducible rfl)
    try simp only [List.getElem_toArray, List.getElem_cons_succ, List.getElem_cons_zero, Act.put, List.setIfInBounds_toArray, List.set_cons_zero, List.set_cons_succ]
    refine wpAnyH_take (i := 3) (v := ?_) rfl (by kernel_rfl) (by kernel_rfl) (by kernel_rfl) (fun _ _ _ h => h) (yields_pure (by rfl) (fun w => ?_)) (by with_reducible assumption) ?_
    rotate_left
    · (go_simp <;> with_reducible rfl)
    try simp only [List.getElem_toArray, List.getElem_cons_succ, List.getElem_cons_zero, Act.put, List.setIfInBounds_toArray, List.set_cons_zero, List.set_cons_succ]
    refine wpAnyH_take (i := 4) (v := ?_) rfl (by kernel_rfl) (by kernel_rfl) (by kernel_rfl) (fun _ _ _ h => h) (yields_pure (by rfl) (fun w => ?_)) (by with_reducible assumption) ?_
    rotate_left
    · (go_simp <;> with_reducible rfl)
    try simp only [List.getElem_toArray, List.getElem_cons_succ, List.getElem_cons_zero, Act.put, List.setIfInBounds_toArray, List.set_cons_zero, List.set_cons_succ]
    refine wpAnyH_ready (rs := [5]) (by kernel_rfl) (by simp) (AllReadyH.cons rfl (fun K hK => ?_) AllReadyH.nil)
    go_simp
    have hC2d : Chg [] W w2.drew := HC2.out.drew
    have hbd := HBK.out.chg hC2d (by simp)
    have hb2g : b2 < w.heap.size := HB2.out
    refine (HFF.out w2.drew g (i * 4) x (HC0.out.trans hC2d) hg (fun j u hu => ⟨by rw [hbd.cell]; exact HCE.out j u hu, hbd.frozen _⟩)).mono ?_
    rintro e w3 ⟨rfl, hw3⟩
    obtain ⟨ho3, hc3⟩ := own_one (own_chg HOW.out hC2d (by simp)) HX.out hw3
    have hS3 : (fun W : World => W.cell? ⟨b2, 0, none⟩ = some (.func (.func f) #[] caps)) w3 := hc3.cell hS0 (by simp; omega)
    refine hK.out _ _ (by with_reducible assumption) (fun _ => ?_)
    clear hK K
    try simp only [List.getElem_toArray, List.getElem_cons_succ, List.getElem_cons_zero, Act.put, List.setIfInBounds_toArray, List.set_cons_zero, List.set_cons_succ]
    refine wpAnyH_take (i := 6) (v := ?_) rfl (by kernel_rfl) (by kernel_rfl) (by kernel_rfl) (fun _ _ _ h => h) (yields_pure (by rfl) (fun w => ?_)) (by with_reducible assumption) ?_
    rotate_left
    · (go_simp <;> with_reducible rfl)
    try simp only [List.getElem_toArray, List.getElem_cons_succ, List.getElem_cons_zero, Act.put, List.setIfInBounds_toArray, List.set_cons_zero, List.set_cons_succ]
    refine wpAnyH_take (i := 7) (v := ?_) rfl (by kernel_rfl) (by kernel_rfl) (by kernel_rfl) (fun _ _ _ h => h) (yields_pure (by rfl) (fun w => ?_)) (by with_reducible assumption) ?_
    rotate_left
    · (go_simp <;> with_reducible rfl)
    try simp only [List.getElem_toArray, List.getElem_cons_succ, List.getElem_cons_zero, Act.put, List.setIfInBounds_toArray, List.set_cons_zero, List.set_cons_succ]
    refine wpAnyH_done (by kernel_rfl) ?_ _
    refine NoPanic.normal ?_
    have HO3 := Lib.hid ho3
    have HC3 := Lib.hid ((hC2d.more (T := [g]) (by simp)).trans hc3)
    clear hw3 ho3 hc3 hS3 hS0 HS2 hbd
    go_wp2_with fail
    go_ret2
    unfold HowE
    rw [HA.out]
    exact ⟨_, rfl, fun _ => HO3.out, HC3.out⟩
  · have HA : Hid (oneL n F L = (10, [])) := Lib.hid (by unfold oneL; rw [if_neg h4])
    have hd4 : decide (n ∈ nodesB L) = false := decide_eq_false h4
    rw [hd4] at FP
    obtain ⟨A, c, e⟩ := Sl.form hown.sl
    subst e
    clear hd4 h4 hown
    go_enter Tryz.func66, Tryz.ntmps66
    go_wp2_with fail
    refine FP.out.mono ?_
    rintro e w2 ⟨i, rfl, hp, hc2⟩
    have HC := Lib.hid hc2
    clear hp hc2
    go_wp2_with fail
    go_ret2
    unfold HowE
    rw [HA.out]
    exact ⟨_, rfl, by simp, HC.out.more (by simp)⟩
end Go.Proofs.YtecblclpchndiaaGreat
namespace Go.Proofs.YtecblclpchndiaaGreat
open Go.RowKit

theorem OneR.from {w w2 : World} {f : Nat} {caps : Array Value} {F : Bk → Int × Bk} (h : OneR w f caps F) (hc : Chg [] w w2) : OneR w2 f caps F := fun W g off x hW hg hx => h W g off x (hc.trans hW) (Nat.le_trans hc.size hg) hx
theorem ChR.from {w w2 w' : World} {N p hp : Nat} {ka kb : Int} {rv : Value} {S : List Nat} {s : PS} {r : Int × PS} {e : Ending} (h : ChR w2 w' N p hp ka kb rv S s r e) (hc : Chg [] w w2) : ChR w w' N p hp ka kb rv S s r e := by
  obtain ⟨lv', rv', S', es', a, b, c, d⟩ := h
  exact ⟨lv', rv', S', es', a, b, (hc.more (by simp)).trans c, fun x hx => (d x hx).imp id (fun h => Nat.le_trans hc.size h)⟩
theorem ChR.ret {w w' : World} {N p hp : Nat} {ka kb : Int} {rv : Value} {S : List Nat} {s : PS} {r : Int × PS} {e : Ending} (h : ChR w w' N p hp ka kb rv S s r e) : e = .returned (.int .i64 r.1) := by
  obtain ⟨_, _, _, _, a, _⟩ := h
  exact a

section
variable {w : World} {N p hp : Nat} {ka kb : Int} {lv rv : Value} {S : List Nat} {es : List Ve} {s : PS} (h : PlR w N p hp ka kb lv rv S es s) (hN : N ≤ w.heap.size) (now : Int) (hok : OkS s now) (hn : 0 ≤ now ∧ now ≤ 1000000) (hl : s.last < 1000000)
include h hN hok hn hl
set_option maxRecDepth 100000 in
set_option maxHeartbeats 2000000 in
theorem addP_any (n wt : Int) : Calls Tryz.prog 22 #[.pointer (some ⟨p, 0, none⟩), .int .i64 now, .int .i64 n, .int .i64 wt] w fun e w' => ChR w w' N p hp ka kb rv S s (chP ka kb now s (addL n wt s.L)) e := by
  have hA := ((Chg.refl [] w).alloc (.cells #[.int .i64 n] 3)).alloc (.cells #[.int .i64 wt] 3)
  have b1 : Blk ((w.alloc (.cells #[.int .i64 n] 3)).alloc (.cells #[.int .i64 wt] 3)) w.heap.size 3 #[.int .i64 n] := (Blk.new _ _ _).alloc _
  have b2 : Blk ((w.alloc (.cells #[.int .i64 n] 3)).alloc (.cells #[.int .i64 wt] 3)) (w.heap.size + 1) 3 #[.int .i64 wt] := Blk.new' (by simp)
  have F := Lib.hid (change_any (h.chg0 hA) (Nat.le_trans hN hA.size) now hok hn hl (addL_ok (n := n) (wt := wt) hok.bk) (add1_any (b1.cell 0) (b2.cell 0) hok.bk) (enters_of Tryz.func44 (by kernel_rfl) rfl))
  have HA := Lib.hid hA
  clear h hok hA b1 b2
  go_enter Tryz.func22, Tryz.ntmps22
  go_wp2_with fail
  refine F.out.mono ?_
  intro e w2 hr
  have HR := Lib.hid (hr.from HA.out)
  obtain rfl := hr.ret
  clear F hr
  go_wp2_with fail
  go_ret
  exact HR.out
set_option maxRecDepth 100000 in
set_option maxHeartbeats 2000000 in
theorem removeP_any (n : Int) (hnn : -9223372036854775808 ≤ n ∧ n ≤ 9223372036854775807) : Calls Tryz.prog 25 #[.pointer (some ⟨p, 0, none⟩), .int .i64 now, .int .i64 n] w fun e w' => ChR w w' N p hp ka kb rv S s (chP ka kb now s (removeL n s.L)) e := by
  have hA := ((Chg.refl [] w).alloc (.cells #[.int .i64 n] 3))
  have b1 : Blk (w.alloc (.cells #[.int .i64 n] 3)) w.heap.size 3 #[.int .i64 n] := (Blk.new _ _ _)
  have F := Lib.hid (change_any (h.chg0 hA) (Nat.le_trans hN hA.size) now hok hn hl (removeL_ok (n := n) hok.bk) (remove1_any (b1.cell 0) hnn hok.bk) (enters_of Tryz.func50 (by kernel_rfl) rfl))
  have HA := Lib.hid hA
  clear h hok hA b1
  go_enter Tryz.func25, Tryz.ntmps25
  go_wp2_with fail
  refine F.out.mono ?_
  intro e w2 hr
  have HR := Lib.hid (hr.from HA.out)
  obtain rfl := hr.ret
  clear F hr
  go_wp2_with fail
  go_ret
  exact HR.out
set_option maxRecDepth 100000 in
set_option maxHeartbeats 2000000 in
theorem oneP_any (n : Int) (hnn : -9223372036854775808 ≤ n ∧ n ≤ 9223372036854775807) {f : Nat} {caps : Array Value} {F : Bk → Int × Bk} (hF : OneR w f caps F) (hf : ∀ x : Bk, 0 ≤ x.w ∧ x.w ≤ 4 → (F x).1 = 0 → (F x).2.node = x.node ∧ 0 ≤ (F x).2.w ∧ (F x).2.w ≤ 4) (hen : ∀ args W, (callFunc f args).run Tryz.prog W = .ok (.enter f args) W) :
    Calls Tryz.prog 47 #[.pointer (some ⟨p, 0, none⟩), .int .i64 now, .int .i64 n, .func (.func f) #[] caps] w fun e w' => ChR w w' N p hp ka kb rv S s (chP ka kb now s (oneL n F s.L)) e := by
  have hA := ((Chg.refl [] w).alloc (.cells #[.int .i64 n] 3)).alloc (.cells #[.func (.func f) #[] caps] 95)
  have b1 : Blk ((w.alloc (.cells #[.int .i64 n] 3)).alloc (.cells #[.func (.func f) #[] caps] 95)) w.heap.size 3 #[.int .i64 n] := (Blk.new _ _ _).alloc _
  have b2 : Blk ((w.alloc (.cells #[.int .i64 n] 3)).alloc (.cells #[.func (.func f) #[] caps] 95)) (w.heap.size + 1) 95 #[.func (.func f) #[] caps] := Blk.new' (by simp)
  have FF := Lib.hid (change_any (h.chg0 hA) (Nat.le_trans hN hA.size) now hok hn hl (oneL_ok (n := n) hok.bk hf) (one1_any (b1.cell 0) (b2.cell 0) hnn hok.bk (hF.from hA) hen) (enters_of Tryz.func66 (by kernel_rfl) rfl))
  have HA := Lib.hid hA
  clear h hok hA b1 b2 hF hf
  go_enter Tryz.func47, Tryz.ntmps47
  go_wp2_with fail
  refine FF.out.mono ?_
  intro e w2 hr
  have HR := Lib.hid (hr.from HA.out)
  obtain rfl := hr.ret
  clear FF hr
  go_wp2_with fail
  go_ret
  exact HR.out
set_option maxRecDepth 100000 in
set_option maxHeartbeats 2000000 in
theorem weighP_any (n wt : Int) (hnn : -9223372036854775808 ≤ n ∧ n ≤ 9223372036854775807) : Calls Tryz.prog 23 #[.pointer (some ⟨p, 0, none⟩), .int .i64 now, .int .i64 n, .int .i64 wt] w fun e w' => ChR w w' N p hp ka kb rv S s (chP ka kb now s (oneL n (weighF wt) s.L)) e := by
  have hA := ((Chg.refl [] w).alloc (.cells #[.int .i64 wt] 3))
  have b1 : Blk (w.alloc (.cells #[.int .i64 wt] 3)) w.heap.size 3 #[.int .i64 wt] := (Blk.new _ _ _)
  have F := Lib.hid (oneP_any (h.chg0 hA) (Nat.le_trans hN hA.size) now hok hn hl n hnn (weigh1_any (b1.cell 0)) (fun x hx => by
    unfold weighF
    split
    · intro e; simp at e
    · next hw => intro _; exact ⟨rfl, by show 0 ≤ wt; omega, by show wt ≤ 4; omega⟩) (enters_of Tryz.func48 (by kernel_rfl) rfl))
  have HA := Lib.hid hA
  clear h hok hA b1
  go_enter Tryz.func23, Tryz.ntmps23
  go_wp2_with fail
  refine F.out.mono ?_
  intro e w2 hr
  have HR := Lib.hid (hr.from HA.out)
  obtain rfl := hr.ret
  clear F hr
  go_wp2_with fail
  go_ret
  exact HR.out
set_option maxRecDepth 100000 in
set_option maxHeartbeats 2000000 in
theorem healthP_any (n : Int) (up : Bool) (hnn : -9223372036854775808 ≤ n ∧ n ≤ 9223372036854775807) : Calls Tryz.prog 26 #[.pointer (some ⟨p, 0, none⟩), .int .i64 now, .int .i64 n, .bool up] w fun e w' => ChR w w' N p hp ka kb rv S s (chP ka kb now s (oneL n (healthF up) s.L)) e := by
  have hA := ((Chg.refl [] w).alloc (.cells #[.bool up] 4))
  have b1 : Blk (w.alloc (.cells #[.bool up] 4)) w.heap.size 4 #[.bool up] := (Blk.new _ _ _)
  have F := Lib.hid (oneP_any (h.chg0 hA) (Nat.le_trans hN hA.size) now hok hn hl n hnn (health1_any (b1.cell 0)) (fun x hx _ => ⟨rfl, hx⟩) (enters_of Tryz.func52 (by kernel_rfl) rfl))
  have HA := Lib.hid hA
  clear h hok hA b1
  go_enter Tryz.func26, Tryz.ntmps26
  go_wp2_with fail
  refine F.out.mono ?_
  intro e w2 hr
  have HR := Lib.hid (hr.from HA.out)
  obtain rfl := hr.ret
  clear F hr
  go_wp2_with fail
  go_ret
  exact HR.out
set_option maxRecDepth 100000 in
set_option maxHeartbeats 2000000 in
theorem drainP_any (n : Int) (hnn : -9223372036854775808 ≤ n ∧ n ≤ 9223372036854775807) : Calls Tryz.prog 24 #[.pointer (some ⟨p, 0, none⟩), .int .i64 now, .int .i64 n] w fun e w' => ChR w w' N p hp ka kb rv S s (chP ka kb now s (oneL n drainF s.L)) e := by
  have F := Lib.hid (oneP_any h hN now hok hn hl n hnn (drain1_any w) (fun x hx _ => ⟨rfl, hx⟩) (enters_of Tryz.func49 (by kernel_rfl) rfl))
  clear h hok
  go_enter Tryz.func24, Tryz.ntmps24
  go_wp2_with fail
  refine F.out.mono ?_
  intro e w2 hr
  have HR := Lib.hid hr
  obtain rfl := hr.ret
  clear F hr
  go_wp2_with fail
  go_ret
  exact HR.out
end
section
variable {w : World} {N p hp : Nat} {ka kb : Int} {lv rv : Value} {S : List Nat} {es : List Ve} {s : PS} (h : PlR w N p hp ka kb lv rv S es s)
include h
set_option maxRecDepth 100000 in
set_option maxHeartbeats 2000000 in
theorem hasP_any (hok : OkB s.L) (n : Int) (hnn : -9223372036854775808 ≤ n ∧ n ≤ 9223372036854775807) : Calls Tryz.prog 17 #[.pointer (some ⟨p, 0, none⟩), .int .i64 n] w fun e w' => e = .returned (.bool (decide (n ∈ nodesB s.L))) ∧ Chg [] w w' := by
  have F1 := Lib.hid (isP_any h)
  have c2 := h.blk.cell 2
  simp only [List.getElem?_toArray, List.getElem?_cons_succ, List.getElem?_cons_zero] at c2
  have FP := Lib.hid (place_any h.row.sl hok n hnn)
  obtain ⟨A, c, e⟩ := Sl.form h.row.sl
  subst e
  clear h hok
  go_enter Tryz.func17, Tryz.ntmps17
  go_wp2_with fail
  refine F1.out.mono ?_
  rintro e w1 ⟨rfl, rfl⟩
  go_wp2_with fail
  refine FP.out.mono ?_
  rintro e w2 ⟨i, rfl, hp, hc2⟩
  have HC := Lib.hid hc2
  clear hp hc2 FP
  go_wp2_with fail
  go_ret
  exact ⟨rfl, HC.out⟩
set_option maxRecDepth 100000 in
set_option maxHeartbeats 2000000 in
theorem allP_any (hok : OkB s.L) : Calls Tryz.prog 6 #[.pointer (some ⟨p, 0, none⟩)] w fun e w' => ∃ v', e = .returned v' ∧ OwB 37 w' w.heap.size v' s.L ∧ Chg [] w w' := by
  have F1 := Lib.hid (isP_any h)
  have c2 := h.blk.cell 2
  simp only [List.getElem?_toArray, List.getElem?_cons_succ, List.getElem?_cons_zero] at c2
  have FC := Lib.hid (cloneB_any h.row.sl (by have := hok.len; omega))
  obtain ⟨A, c, e⟩ := Sl.form h.row.sl
  subst e
  clear h hok
  go_enter Tryz.func6, Tryz.ntmps6
  go_wp2_with fail
  refine F1.out.mono ?_
  rintro e w1 ⟨rfl, rfl⟩
  go_wp2_with fail
  refine FC.out.mono ?_
  rintro e w2 ⟨v, rfl, ho, hc2⟩
  have HC := Lib.hid (And.intro ho hc2)
  clear ho hc2 FC
  go_wp2_with fail
  go_ret
  exact ⟨v, rfl, HC.out⟩
set_option maxRecDepth 100000 in
set_option maxHeartbeats 2000000 in
theorem membersPl_any (hok : OkB s.L) : Calls Tryz.prog 10 #[.pointer (some ⟨p, 0, none⟩)] w fun e w' => ∃ v', e = .returned v' ∧ SlM w' w.heap.size v' (membersP s.L) ∧ Chg [] w w' := by
  have F1 := Lib.hid (allP_any h hok)
  have HLN : Hid (s.L.length ≤ 1000) := Lib.hid (by have := hok.len; omega)
  clear h hok
  go_enter Tryz.func10, Tryz.ntmps10
  go_wp2_with fail
  refine F1.out.mono ?_
  rintro e w1 ⟨v, rfl, ho, hc⟩
  have FM := Lib.hid (members_any ho.sl HLN.out)
  have HC := Lib.hid hc
  clear ho hc F1
  go_wp2_with fail
  refine FM.out.mono ?_
  rintro e w2 ⟨v2, rfl, hm, hc2⟩
  have HM := Lib.hid (And.intro (Sl.less hm HC.out.size) (HC.out.trans hc2))
  clear hm hc2 FM
  go_wp2_with fail
  go_ret
  exact ⟨v2, rfl, HM.out⟩
set_option maxRecDepth 100000 in
set_option maxHeartbeats 2000000 in
theorem versionsP_any (hok : OkV s.V) : Calls Tryz.prog 8 #[.pointer (some ⟨p, 0, none⟩)] w fun e w' => ∃ (v' : Value) (es' : List Ve), e = .returned v' ∧ w'.ownsRow w.heap.size 46 4 v' es'.length (es'.flatMap encV) ∧ VesR w' (v'.ownBlock.toList ++ S) es' s.V ∧ Chg [] w w' := by
  have F1 := Lib.hid (isP_any h)
  have c3 := h.blk.cell 3
  simp only [List.getElem?_toArray, List.getElem?_cons_succ, List.getElem?_cons_zero] at c3
  have FA := Lib.hid (allH_any h.his hok h.sl)
  clear h hok
  go_enter Tryz.func8, Tryz.ntmps8
  go_wp2_with fail
  refine F1.out.mono ?_
  rintro e w1 ⟨rfl, rfl⟩
  go_wp2_with fail
  refine FA.out.mono ?_
  rintro e w2 ⟨v, es', rfl, h1, h2, h3⟩
  have HC := Lib.hid (And.intro h1 (And.intro h2 h3))
  clear h1 h2 h3 FA
  go_wp2_with fail
  go_ret
  exact ⟨v, es', rfl, HC.out⟩
set_option maxRecDepth 100000 in
set_option maxHeartbeats 2000000 in
theorem pairsP_any (hok : OkV s.V) (u : Nat) (hu : u < 18446744073709551616) : Calls Tryz.prog 14 #[.pointer (some ⟨p, 0, none⟩), .int .u64 u] w fun e w' => ∃ v', e = .returned v' ∧ Sl w' w.heap.size 2 v' s.V.length ((prV s.V u).flatMap encP) ∧ Chg [] w w' := by
  have F1 := Lib.hid (isP_any h)
  have c3 := h.blk.cell 3
  simp only [List.getElem?_toArray, List.getElem?_cons_succ, List.getElem?_cons_zero] at c3
  have FA := Lib.hid (pairsH_any h.his hok h.sl u hu)
  clear h hok
  go_enter Tryz.func14, Tryz.ntmps14
  go_wp2_with fail
  refine F1.out.mono ?_
  rintro e w1 ⟨rfl, rfl⟩
  go_wp2_with fail
  refine FA.out.mono ?_
  rintro e w2 ⟨v, rfl, h1, h3⟩
  have HC := Lib.hid (And.intro h1 h3)
  clear h1 h3 FA
  go_wp2_with fail
  go_ret
  exact ⟨v, rfl, HC.out⟩
end
set_option maxRecDepth 100000 in
set_option maxHeartbeats 2000000 in
theorem newP_any (ka kb : Int) (w : World) : Calls Tryz.prog 5 #[.agg #[.int .u64 ka, .int .u64 kb]] w fun e w' => ∃ p hp, e = .returned (.pointer (some ⟨p, 0, none⟩)) ∧ PlR w' w.heap.size p hp ka kb (.slice none 0 0) (.slice none 0 0) [p, hp] [] ⟨[], [], 0⟩ ∧ w.heap.size ≤ p ∧ w.heap.size ≤ hp ∧ Chg [] w w' := by
  have hA := (Chg.refl [] w).alloc (.cells #[.int .u64 ka, .int .u64 kb] 24)
  have hb := Blk.new w 24 #[.int .u64 ka, .int .u64 kb]
  have HI := Lib.hid (And.intro hA hb)
  clear hA hb
  go_enter Tryz.func5, Tryz.ntmps5
  go_upto_region 1 with fail
  obtain ⟨hA, hb⟩ := HI.out
  generalize w.alloc (.cells #[.int .u64 ka, .int .u64 kb] 24) = w1 at *
  have HSR : ∀ W : World, Blk W w.heap.size 24 #[.int .u64 ka, .int .u64 kb] → W.rangeAt w.heap.size 0 (#[.int .u64 ka, .int .u64 kb] : Array Value).toList := fun W h => h.rangeQ
  have hS0 := hb.drew
  have hA2 := hA.drew
  refine wp_region_noPanic ?_
  refine wp_region_held_drew (S := fun W : World => Blk W w.heap.size 24 #[.int .u64 ka, .int .u64 kb]) (by kernel_rfl) hS0 (fun _ => ?_)
  generalize w1.drew = w2 at *
  refine wpAnyH_take (i := 0) rfl (by kernel_rfl) (by kernel_rfl) (by kernel_rfl) (fun _ _ _ h => h) (yields_row (by rfl) 24 (.tmp 1) rfl w.heap.size 0 rfl (#[.int .u64 ka, .int .u64 kb]) _ HSR Tryz.underlying24 rfl (by kernel_rfl)) (by with_reducible assumption) ?_
  try simp only [List.getElem_toArray, List.getElem_cons_succ, List.getElem_cons_zero, Act.put, List.setIfInBounds_toArray, List.set_cons_zero, List.set_cons_succ]
  refine wpAnyH_ready (rs := [1]) (by kernel_rfl) (by simp) (AllReadyH.cons rfl (fun K hK => ?_) AllReadyH.nil)
  go_simp
  refine (newH_any _).mono ?_
  rintro e w3 ⟨rfl, rfl⟩
  have hS3 : (fun W : World => Blk W w.heap.size 24 #[.int .u64 ka, .int .u64 kb]) (w2.alloc (.cells #[.bool true, .slice none 0 0, .int .i64 0] 89)) := hS0.alloc _
  refine hK.out _ _ (by with_reducible assumption) (fun _ => ?_)
  clear hK K
  try simp only [List.getElem_toArray, List.getElem_cons_succ, List.getElem_cons_zero, Act.put, List.setIfInBounds_toArray, List.set_cons_zero, List.set_cons_succ]
  refine wpAnyH_take (i := 2) (v := ?_) rfl (by kernel_rfl) (by kernel_rfl) (by kernel_rfl) (fun _ _ _ h => h) (yields_pure (by rfl) (fun w => ?_)) (by with_reducible assumption) ?_
  rotate_left
  · (go_simp <;> with_reducible rfl)
  try simp only [List.getElem_toArray, List.getElem_cons_succ, List.getElem_cons_zero, Act.put, List.setIfInBounds_toArray, List.set_cons_zero, List.set_cons_succ]
  have hS4 : (fun W : World => Blk W w.heap.size 24 #[.int .u64 ka, .int .u64 kb]) ((w2.alloc (.cells #[.bool true, .slice none 0 0, .int .i64 0] 89)).alloc (.cells #[.int .u64 ka, .int .u64 kb, .slice none 0 0, .pointer (some ⟨w2.heap.size, 0, none⟩)] 67)) := hS3.alloc _
  refine wpAnyH_ready (rs := [3]) (by kernel_rfl) (by simp) (AllReadyH.cons rfl (fun K hK => ?_) AllReadyH.nil)
  go_simp
  refine hK.out _ _ (by with_reducible assumption) (fun _ => ?_)
  clear hK K
  try simp only [List.getElem_toArray, List.getElem_cons_succ, List.getElem_cons_zero, Act.put, List.setIfInBounds_toArray, List.set_cons_zero, List.set_cons_succ]
  refine wpAnyH_take (i := 4) (v := ?_) rfl (by kernel_rfl) (by kernel_rfl) (by kernel_rfl) (fun _ _ _ h => h) (yields_pure (by rfl) (fun w => ?_)) (by with_reducible assumption) ?_
  rotate_left
  · (go_simp <;> with_reducible rfl)
  try simp only [List.getElem_toArray, List.getElem_cons_succ, List.getElem_cons_zero, Act.put, List.setIfInBounds_toArray, List.set_cons_zero, List.set_cons_succ]
  refine wpAnyH_done (by kernel_rfl) ?_ _
  refine NoPanic.normal ?_
  have hbh : Blk ((w2.alloc (.cells #[.bool true, .slice none 0 0, .int .i64 0] 89)).alloc (.cells #[.int .u64 ka, .int .u64 kb, .slice none 0 0, .pointer (some ⟨w2.heap.size, 0, none⟩)] 67)) w2.heap.size 89 #[.bool true, .slice none 0 0, .int .i64 0] := (Blk.new _ _ _).alloc _
  have hbp : Blk ((w2.alloc (.cells #[.bool true, .slice none 0 0, .int .i64 0] 89)).alloc (.cells #[.int .u64 ka, .int .u64 kb, .slice none 0 0, .pointer (some ⟨w2.heap.size, 0, none⟩)] 67)) (w2.heap.size + 1) 67 #[.int .u64 ka, .int .u64 kb, .slice none 0 0, .pointer (some ⟨w2.heap.size, 0, none⟩)] := Blk.new' (by simp)
  have hcc := (hA2.alloc (.cells #[.bool true, .slice none 0 0, .int .i64 0] 89)).alloc (.cells #[.int .u64 ka, .int .u64 kb, .slice none 0 0, .pointer (some ⟨w2.heap.size, 0, none⟩)] 67)
  have hz2 := hA2.size
  have HF := Lib.hid (And.intro hbh (And.intro hbp hcc))
  clear hbh hbp hcc hS0 hS3 hS4 HSR hb HI hA hA2
  go_wp2_with fail
  go_ret
  obtain ⟨hbh, hbp, hcc⟩ := HF.out
  refine ⟨w2.heap.size + 1, w2.heap.size, rfl, ⟨hbp, World.ownsRow_nil .., ⟨hbh, World.ownsRow_nil .., by simp [Value.ownBlock], ?_, hz2, ⟨rfl, fun i e x a => by simp at a⟩⟩, by simp, by simp [Value.ownBlock], by simp [footH, Value.ownBlock], by simp [Value.ownBlock], by simp [Value.ownBlock], by omega, ?_⟩, by omega, hz2, hcc⟩
  · intro x hx
    simp [footH, Value.ownBlock] at hx
    simp [hx]
  · intro x hx
    simp at hx
    simp
    omega
end Go.Proofs.YtecblclpchndiaaGreat
