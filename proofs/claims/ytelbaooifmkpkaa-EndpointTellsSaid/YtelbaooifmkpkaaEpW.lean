/-
  WALKS over package endpoint and its segments. Condition: the payload reads as bytes.
-/
import Derived.Test.YtelbaooifmkpkaaStruct
import Derived.Test.YtelbaooifmkpkaaEpPlain
set_option linter.unusedVariables false
set_option linter.unusedSimpArgs false
namespace Go.Proofs.Ytelbaooifmkpkaa
open Go.RowKit

set_option maxHeartbeats 400000 in
theorem has_any (t : TC) (o p : Value) (m : Int) (w : World) :
    Calls Try.prog 39 #[.agg (enT t o p), .int .i64 m] w fun e w' => e = .returned (.bool (hasF t.flags m)) ∧ Chg [] w w' := by
  unfold enT hasF
  go_enter Try.func39, Try.ntmps39
  go_wp2_with fail
  go_ret
  exact ⟨rfl, (Chg.refl _ _).alloc _⟩

set_option maxHeartbeats 400000 in
theorem first_any (t : TC) (o p : Value) (w : World) :
    Calls Try.prog 52 #[.agg (enT t o p)] w fun e w' => e = .returned (.bool (firstF t.flags)) ∧ Chg [] w w' := by
  unfold enT firstF
  go_enter Try.func52, Try.ntmps52
  go_wp2_with fail
  go_ret
  exact ⟨rfl, (Chg.refl _ _).alloc _⟩

set_option maxHeartbeats 400000 in
theorem seg_any (a b c : Int) (w : World) :
    Calls Try.prog 43 #[.int .u32 a, .int .u32 b, .int .i64 c] w fun e w' => e = .returned (.agg (enT (segF a b c) (.slice none 0 0) (.slice none 0 0))) ∧ Chg [] w w' := by
  unfold enT segF
  go_enter Try.func43, Try.ntmps43
  go_wp2_with fail
  exact bodyPost_ret (v := .agg #[.int .i64 0, .int .i64 0, .int .u32 a, .int .u32 b, .int .i64 c, .int .i64 4096, .int .i64 0, .int .i64 0, .slice none 0 0, .slice none 0 0]) (by simp [results, Try.results43, go_sem]) rfl ⟨rfl, (Chg.refl _ _).alloc _⟩

set_option maxHeartbeats 400000 in
theorem start_any (a b : Int) (w : World) :
    Calls Try.prog 20 #[.int .u32 a, .int .u32 b] w fun e w' => e = .returned (.agg (enC (startF a b))) ∧ Chg [] w w' := by
  unfold enC startF u32w
  go_enter Try.func20, Try.ntmps20
  go_wp2_with fail
  exact bodyPost_ret (v := .agg #[.int .i64 1, .int .u32 a, .int .u32 b, .int .u32 ((a + 1) % 4294967296), .int .u32 ((b + 1) % 4294967296), .int .i64 0, .int .u32 0]) (by simp [results, Try.results20, go_sem]) rfl ⟨rfl, (Chg.refl _ _).alloc _⟩

set_option maxHeartbeats 400000 in
theorem span_any (t : TC) (o : Value) (A : Option Addr) (n c : Nat) (w : World) :
    Calls Try.prog 44 #[.agg (enT t o (.slice A n c))] w fun e w' => e = .returned (.int .u32 (spanF t.flags n)) ∧ Chg [] w w' := by
  cases h2 : hasF t.flags 2 <;> cases h1 : hasF t.flags 1
  all_goals
    have hs : spanF t.flags n = spanF t.flags n := rfl
    conv at hs => rhs; unfold spanF; simp only [h1, h2]
    have HS := Lib.hid hs
    have H1 := Lib.hid h1
    have H2 := Lib.hid h2
    clear hs h1 h2
    have hc0 : Chg [] w (w.alloc (.cells (enT t o (.slice A n c)) 52)) := (Chg.refl _ _).alloc _
    have hb0 : Blk (w.alloc (.cells (enT t o (.slice A n c)) 52)) w.heap.size 52 (enT t o (.slice A n c)) := Blk.new _ _ _
    unfold enT at *
    have i0 : ∀ w, (Instr.index 87 (.agg #[.int .i64 2, .int .i64 1]) (.int .i64 0)).run Try.prog w = .ok (.int .i64 2) w := fun _ => by kernel_rfl
    have i1 : ∀ w, (Instr.index 87 (.agg #[.int .i64 2, .int .i64 1]) (.int .i64 1)).run Try.prog w = .ok (.int .i64 1) w := fun _ => by kernel_rfl
    go_enter Try.func44, Try.ntmps44
    go_wp2_with fail
    refine wp_loop_rounds 3 ?_
    rw [rounds_succ]
    go_wp2_with fail
    refine (has_any t o (.slice A n c) 2 _).mono ?_
    rw [H2.out]
    rintro e w1 ⟨rfl, hc1⟩
    have hb1 := hb0.chg hc1 (by simp)
    have x0 := hb1.cell 0
    have x1 := hb1.cell 1
    have x2 := hb1.cell 2
    have x3 := hb1.cell 3
    have x4 := hb1.cell 4
    have x5 := hb1.cell 5
    have x6 := hb1.cell 6
    have x7 := hb1.cell 7
    have x8 := hb1.cell 8
    have x9 := hb1.cell 9
    simp only [List.getElem?_toArray, List.getElem?_cons_succ, List.getElem?_cons_zero] at x0 x1 x2 x3 x4 x5 x6 x7 x8 x9
    go_wp2_with fail
    rw [rounds_succ]
    go_wp2_with fail
    refine (has_any t o (.slice A n c) 1 _).mono ?_
    rw [H1.out]
    rintro e w2 ⟨rfl, hc2⟩
    go_wp2_with fail
    rw [rounds_succ]
    go_wp2_with fail
    go_ret
    rw [HS.out]
    exact ⟨by simp [u32w], (hc0.trans hc1).trans hc2⟩

set_option maxHeartbeats 400000 in
theorem greet_any (c : CN) (w : World) :
    Calls Try.prog 29 #[.agg (enC c)] w fun e w' => e = .returned (.agg (enT (greetF c) (.slice none 0 0) (.slice none 0 0))) ∧ Chg [] w w' := by
  unfold enC
  go_enter Try.func29, Try.ntmps29
  go_wp2_with fail
  refine (seg_any _ _ _ _).mono ?_
  rintro e w1 ⟨rfl, hc1⟩
  have h0 : Blk ((w.alloc (.cells #[.int .i64 c.st, .int .u32 c.first, .int .u32 c.own, .int .u32 c.next, .int .u32 c.sent, .int .i64 c.got, .int .u32 c.sum] 46)).alloc (.cells #[.int .i64 0, .int .i64 0, .int .u32 0, .int .u32 0, .int .i64 0, .int .i64 0, .int .i64 0, .int .i64 0, .slice none 0 0, .slice none 0 0] 52)) (w.heap.size + 1) 52 #[.int .i64 0, .int .i64 0, .int .u32 0, .int .u32 0, .int .i64 0, .int .i64 0, .int .i64 0, .int .i64 0, .slice none 0 0, .slice none 0 0] := Blk.new' (by simp)
  have hb := h0.chg hc1 (by simp)
  have hcg : Chg [] w w1 := (((Chg.refl [] w).alloc _).alloc _).trans hc1
  clear h0
  go_wp2_with (refine wpList_store_blk rfl 52 (.tmp 2) (.tmp 7) rfl rfl hb rfl rfl rfl (by kernel_rfl) rfl ?_; intro w2 hb2 hc2)
  exact bodyPost_ret (results_blk rfl rfl hb2 _ Try.underlying52 rfl (by kernel_rfl)) rfl ⟨rfl, hcg.trans' hc2 (by simp)⟩

set_option maxHeartbeats 400000 in
theorem bare_any (c : CN) (w : World) :
    Calls Try.prog 31 #[.agg (enC c)] w fun e w' => e = .returned (.agg (enT (bareF c) (.slice none 0 0) (.slice none 0 0))) ∧ Chg [] w w' := by
  unfold enC
  go_enter Try.func31, Try.ntmps31
  go_wp2_with fail
  refine (seg_any _ _ _ _).mono ?_
  rintro e w1 ⟨rfl, hc1⟩
  have h0 : Blk ((w.alloc (.cells #[.int .i64 c.st, .int .u32 c.first, .int .u32 c.own, .int .u32 c.next, .int .u32 c.sent, .int .i64 c.got, .int .u32 c.sum] 46)).alloc (.cells #[.int .i64 0, .int .i64 0, .int .u32 0, .int .u32 0, .int .i64 0, .int .i64 0, .int .i64 0, .int .i64 0, .slice none 0 0, .slice none 0 0] 52)) (w.heap.size + 1) 52 #[.int .i64 0, .int .i64 0, .int .u32 0, .int .u32 0, .int .i64 0, .int .i64 0, .int .i64 0, .int .i64 0, .slice none 0 0, .slice none 0 0] := Blk.new' (by simp)
  have hb := h0.chg hc1 (by simp)
  have hcg : Chg [] w w1 := (((Chg.refl [] w).alloc _).alloc _).trans hc1
  clear h0
  go_wp2_with (refine wpList_store_blk rfl 52 (.tmp 2) (.tmp 7) rfl rfl hb rfl rfl rfl (by kernel_rfl) rfl ?_; intro w2 hb2 hc2)
  exact bodyPost_ret (results_blk rfl rfl hb2 _ Try.underlying52 rfl (by kernel_rfl)) rfl ⟨rfl, hcg.trans' hc2 (by simp)⟩

set_option maxHeartbeats 400000 in
theorem fin_any (c : CN) (w : World) :
    Calls Try.prog 33 #[.agg (enC c)] w fun e w' => e = .returned (.agg (enT (finF c) (.slice none 0 0) (.slice none 0 0))) ∧ Chg [] w w' := by
  unfold enC
  go_enter Try.func33, Try.ntmps33
  go_wp2_with fail
  refine (seg_any _ _ _ _).mono ?_
  rintro e w1 ⟨rfl, hc1⟩
  have h0 : Blk ((w.alloc (.cells #[.int .i64 c.st, .int .u32 c.first, .int .u32 c.own, .int .u32 c.next, .int .u32 c.sent, .int .i64 c.got, .int .u32 c.sum] 46)).alloc (.cells #[.int .i64 0, .int .i64 0, .int .u32 0, .int .u32 0, .int .i64 0, .int .i64 0, .int .i64 0, .int .i64 0, .slice none 0 0, .slice none 0 0] 52)) (w.heap.size + 1) 52 #[.int .i64 0, .int .i64 0, .int .u32 0, .int .u32 0, .int .i64 0, .int .i64 0, .int .i64 0, .int .i64 0, .slice none 0 0, .slice none 0 0] := Blk.new' (by simp)
  have hb := h0.chg hc1 (by simp)
  have hcg : Chg [] w w1 := (((Chg.refl [] w).alloc _).alloc _).trans hc1
  clear h0
  go_wp2_with (refine wpList_store_blk rfl 52 (.tmp 2) (.tmp 8) rfl rfl hb rfl rfl rfl (by kernel_rfl) rfl ?_; intro w2 hb2 hc2)
  exact bodyPost_ret (results_blk rfl rfl hb2 _ Try.underlying52 rfl (by kernel_rfl)) rfl ⟨rfl, hcg.trans' hc2 (by simp)⟩

def encT (t : TC) : List Value := (enT t (.slice none 0 0) (.slice none 0 0)).toList
theorem encT_len (t : TC) : (encT t).length = 10 := rfl
/-- The slice v reads as bytes; as segments without options and bytes. -/
def SlB (w : World) (B : Nat) (v : Value) (l : List Int) : Prop := Sl w B 1 v l.length (l.map (Value.int .u8))
def SlT (w : World) (B : Nat) (v : Value) (l : List TC) : Prop := Sl w B 10 v l.length (l.flatMap encT)
theorem SlB.at_ {w : World} {B : Nat} {v : Value} {l : List Int} (h : SlB w B v l) {i : Nat} {x : Int} (hi : l[i]? = some x) :
    ∃ b o c, v = .slice (some ⟨b, o, none⟩) l.length c ∧ w.cell? ⟨b, o + i, none⟩ = some (.int .u8 x) := by
  have hl : i < l.length := (List.getElem?_eq_some_iff.1 hi).1
  obtain ⟨b, o, c, hv, hb, hcap, hx⟩ := Sl.at_ h hl (by omega)
  refine ⟨b, o, c, hv, ?_⟩
  have := hx 0 (by omega)
  simpa [hi] using this
theorem mixF_snoc (s : Int) (l : List Int) (x : Int) : mixF s (l ++ [x]) = u32w (u32w (mixF s l * 31) + x) := by simp [mixF]

set_option maxHeartbeats 400000 in
theorem mix_any {w : World} {B : Nat} (s : Int) {v : Value} {l : List Int} (h : SlB w B v l) (hm : l.length ≤ 9223372036854775807) (hr : ∀ x ∈ l, 0 ≤ x ∧ x ≤ 255) :
    Calls Try.prog 22 #[.int .u32 s, v] w fun e w' => e = .returned (.int .u32 (mixF s l)) ∧ w = w' := by
  obtain ⟨A, c, hv⟩ := Sl.form h
  have HV := Lib.hid hv
  rw [hv]
  clear hv
  go_enter Try.func22, Try.ntmps22
  go_wp2_with fail
  go_loop [0, 9] (fun a i => ∃ j : Nat, j ≤ l.length ∧ i = .int .i64 j ∧ a = .int .u32 (mixF s (l.take j))) (fun _ i => l.length - (intOf i).toNat)
  case atStart => exact ⟨0, by omega, rfl, rfl⟩
  case round =>
    obtain ⟨j, hj, rfl, rfl⟩ := hrel
    by_cases hlt : j < l.length
    · have hp : l[j]? = some l[j] := List.getElem?_eq_getElem hlt
      have hb := hr _ (List.getElem_mem hlt)
      generalize l[j] = x at hp hb
      obtain ⟨h0, h1⟩ := hb
      have e : mixF s (l.take (j + 1)) = u32w (u32w (mixF s (l.take j) * 31) + x) := by rw [List.take_add_one, hp]; exact mixF_snoc _ _ _
      have HE := Lib.hid e
      obtain ⟨b, o, c', hv, g0⟩ := h.at_ hp
      have hv' := HV.out.symm.trans hv
      simp only [Value.slice.injEq, true_and] at hv'
      obtain ⟨rfl, rfl⟩ := hv'
      clear e hp hv
      go_wp2_with fail
      go_round
      case rel => exact ⟨j + 1, by omega, by go_num, by rw [HE.out]; simp [u32w]⟩
      case measure => simp [intOf]; omega
    · have e : l.take j = l := List.take_of_length_le (by omega)
      have HE := Lib.hid e
      clear e
      go_wp2_with fail
      go_ret
      rw [HE.out]
      exact ⟨rfl, rfl⟩

set_option maxHeartbeats 400000 in
theorem abort_any (c : CN) (t : TC) (o p : Value) (w : World) :
    Calls Try.prog 40 #[.agg (enC c), .agg (enT t o p)] w fun e w' => e = .returned (.tuple #[.agg (enC (abortF c t)), .slice none 0 0]) ∧ Chg [] w w' := by
  have hf : abortF c t = { c with st := if t.seq = c.next then 4 else c.st } := by unfold abortF; split <;> rfl
  rw [hf]
  by_cases hs : t.seq = c.next
  · have d : (t.seq == c.next) = true := by simp [hs]
    rw [if_pos hs]
    clear hf hs
    unfold enC enT
    go_enter Try.func40, Try.ntmps40
    go_wp2_with fail
    exact bodyPost_ret (results_blk2 rfl rfl (Blk.new' (by simp)) _ Try.underlying46 rfl (by kernel_rfl)) rfl ⟨rfl, (by repeat (first | with_reducible assumption | with_reducible exact Chg.refl _ _ | with_reducible refine Chg.drew ?_ | with_reducible refine Chg.drewN ?_ _ | with_reducible refine Chg.alloc ?_ _ | (with_reducible refine Chg.setCell ?_ ?_ _; rotate_left; first | (exact .inr (by simp)) | (exact .inr (by simp; omega)) | (exact .inr (by omega)) | (exact .inl (by simp)))))⟩
  · have d : (t.seq == c.next) = false := by simp [hs]
    rw [if_neg hs]
    clear hf hs
    unfold enC enT
    go_enter Try.func40, Try.ntmps40
    go_wp2_with fail
    exact bodyPost_ret (results_blk2 rfl rfl (Blk.new' (by simp)) _ Try.underlying46 rfl (by kernel_rfl)) rfl ⟨rfl, (by repeat (first | with_reducible assumption | with_reducible exact Chg.refl _ _ | with_reducible refine Chg.drew ?_ | with_reducible refine Chg.drewN ?_ _ | with_reducible refine Chg.alloc ?_ _ | (with_reducible refine Chg.setCell ?_ ?_ _; rotate_left; first | (exact .inr (by simp)) | (exact .inr (by simp; omega)) | (exact .inr (by omega)) | (exact .inl (by simp)))))⟩

set_option maxHeartbeats 400000 in
theorem acked_any (c : CN) (t : TC) (o p : Value) (w : World) :
    Calls Try.prog 42 #[.agg (enC c), .agg (enT t o p)] w fun e w' => e = .returned (.tuple #[.agg (enC (ackedF c t).1), .bool (ackedF c t).2]) ∧ Chg [] w w' := by
  by_cases h1 : c.st = 1
  · have d1 : (c.st == 1) = true := by simp [h1]
    by_cases h2 : t.ack = c.sent
    · have hf : ackedF c t = ({ c with st := 2 }, true) := by unfold ackedF; rw [if_pos h1, if_neg (by simp [h2])]
      have d2 : (t.ack != c.sent) = false := by simp [h2]
      rw [hf]
      clear hf h1 h2
      unfold enC enT
      go_enter Try.func42, Try.ntmps42
      go_wp2_with fail
      exact bodyPost_ret (results_blk2 rfl rfl (Blk.new' (by simp)) _ Try.underlying46 rfl (by kernel_rfl)) rfl ⟨rfl, (by repeat (first | with_reducible assumption | with_reducible exact Chg.refl _ _ | with_reducible refine Chg.drew ?_ | with_reducible refine Chg.drewN ?_ _ | with_reducible refine Chg.alloc ?_ _ | (with_reducible refine Chg.setCell ?_ ?_ _; rotate_left; first | (exact .inr (by simp)) | (exact .inr (by simp; omega)) | (exact .inr (by omega)) | (exact .inl (by simp)))))⟩
    · have hf : ackedF c t = (c, false) := by unfold ackedF; rw [if_pos h1, if_pos h2]
      have d2 : (t.ack != c.sent) = true := by simp [h2]
      rw [hf]
      clear hf h1 h2
      unfold enC enT
      go_enter Try.func42, Try.ntmps42
      go_wp2_with fail
      exact bodyPost_ret (results_blk2 rfl rfl (Blk.new' (by simp)) _ Try.underlying46 rfl (by kernel_rfl)) rfl ⟨rfl, (by repeat (first | with_reducible assumption | with_reducible exact Chg.refl _ _ | with_reducible refine Chg.drew ?_ | with_reducible refine Chg.drewN ?_ _ | with_reducible refine Chg.alloc ?_ _ | (with_reducible refine Chg.setCell ?_ ?_ _; rotate_left; first | (exact .inr (by simp)) | (exact .inr (by simp; omega)) | (exact .inr (by omega)) | (exact .inl (by simp)))))⟩
  · have d1 : (c.st == 1) = false := by simp [h1]
    by_cases h3 : c.st = 3
    · have d3 : (c.st == 3) = true := by simp [h3]
      by_cases h2 : t.ack = c.sent
      · have hf : ackedF c t = ({ c with st := 4 }, true) := by unfold ackedF; rw [if_neg h1, if_pos ⟨h3, h2⟩]
        have d2 : (t.ack == c.sent) = true := by simp [h2]
        rw [hf]
        clear hf h1 h2 h3
        unfold enC enT
        go_enter Try.func42, Try.ntmps42
        go_wp2_with fail
        exact bodyPost_ret (results_blk2 rfl rfl (Blk.new' (by simp)) _ Try.underlying46 rfl (by kernel_rfl)) rfl ⟨rfl, (by repeat (first | with_reducible assumption | with_reducible exact Chg.refl _ _ | with_reducible refine Chg.drew ?_ | with_reducible refine Chg.drewN ?_ _ | with_reducible refine Chg.alloc ?_ _ | (with_reducible refine Chg.setCell ?_ ?_ _; rotate_left; first | (exact .inr (by simp)) | (exact .inr (by simp; omega)) | (exact .inr (by omega)) | (exact .inl (by simp)))))⟩
      · have hf : ackedF c t = (c, true) := by unfold ackedF; rw [if_neg h1, if_neg (fun h => h2 h.2)]
        have d2 : (t.ack == c.sent) = false := by simp [h2]
        rw [hf]
        clear hf h1 h2 h3
        unfold enC enT
        go_enter Try.func42, Try.ntmps42
        go_wp2_with fail
        exact bodyPost_ret (results_blk2 rfl rfl (Blk.new' (by simp)) _ Try.underlying46 rfl (by kernel_rfl)) rfl ⟨rfl, (by repeat (first | with_reducible assumption | with_reducible exact Chg.refl _ _ | with_reducible refine Chg.drew ?_ | with_reducible refine Chg.drewN ?_ _ | with_reducible refine Chg.alloc ?_ _ | (with_reducible refine Chg.setCell ?_ ?_ _; rotate_left; first | (exact .inr (by simp)) | (exact .inr (by simp; omega)) | (exact .inr (by omega)) | (exact .inl (by simp)))))⟩
    · have d3 : (c.st == 3) = false := by simp [h3]
      have hf : ackedF c t = (c, true) := by unfold ackedF; rw [if_neg h1, if_neg (fun h => h3 h.1)]
      rw [hf]
      clear hf h1 h3
      unfold enC enT
      go_enter Try.func42, Try.ntmps42
      go_wp2_with fail
      exact bodyPost_ret (results_blk2 rfl rfl (Blk.new' (by simp)) _ Try.underlying46 rfl (by kernel_rfl)) rfl ⟨rfl, (by repeat (first | with_reducible assumption | with_reducible exact Chg.refl _ _ | with_reducible refine Chg.drew ?_ | with_reducible refine Chg.drewN ?_ _ | with_reducible refine Chg.alloc ?_ _ | (with_reducible refine Chg.setCell ?_ ?_ _; rotate_left; first | (exact .inr (by simp)) | (exact .inr (by simp; omega)) | (exact .inr (by omega)) | (exact .inl (by simp)))))⟩

theorem one_seg (w : World) (t : TC) : SlT (w.alloc (.cells (enT t (.slice none 0 0) (.slice none 0 0)) 52)) w.heap.size (.slice (some ⟨w.heap.size, 0, none⟩) 1 1) [t] := by
  have := Sl.of_own (own_lit w 52 10 1 (enT t (.slice none 0 0) (.slice none 0 0)) (Nat.le_refl _) (by simp [maxLen]) rfl)
  simpa [SlT, encT] using this
theorem one_seg' (w : World) (t : TC) {n : Nat} (h : n = w.heap.size) : SlT (w.alloc (.cells (enT t (.slice none 0 0) (.slice none 0 0)) 52)) n (.slice (some ⟨n, 0, none⟩) 1 1) [t] := by
  subst h
  exact one_seg w t
theorem no_seg (w : World) (B : Nat) : SlT w B (.slice none 0 0) [] := Sl.nil w B 10

set_option maxHeartbeats 800000 in
theorem again_any (c : CN) (t : TC) (o p : Value) (w : World) :
    Calls Try.prog 41 #[.agg (enC c), .agg (enT t o p)] w fun e w' => ∃ v, e = .returned v ∧ SlT w' w.heap.size v (againF c t) ∧ Chg [] w w' := by
  have hb0 : Blk ((w.alloc (.cells (enC c) 46)).alloc (.cells (enT t o p) 52)) w.heap.size 46 (enC c) := (Blk.new _ _ _).alloc _
  have ht0 : Blk ((w.alloc (.cells (enC c) 46)).alloc (.cells (enT t o p) 52)) (w.heap.size + 1) 52 (enT t o p) := Blk.new' (by simp)
  have hc0 : Chg [] w ((w.alloc (.cells (enC c) 46)).alloc (.cells (enT t o p) 52)) := ((Chg.refl _ _).alloc _).alloc _
  cases h1 : firstF t.flags with
  | false =>
    have hf : againF c t = [] := by unfold againF; rw [if_pos (.inl h1)]
    rw [hf]
    have H1 := Lib.hid h1
    clear hf h1
    unfold enC enT at *
    go_enter Try.func41, Try.ntmps41
    go_wp2_with fail
    refine (first_any t o p _).mono ?_
    rw [H1.out]
    rintro e w1 ⟨rfl, hc1⟩
    go_wp2_with fail
    go_ret
    exact ⟨_, rfl, no_seg _ _, hc0.trans hc1⟩
  | true =>
    have H1 := Lib.hid h1
    by_cases h2 : t.seq = c.first
    · have d2 : (t.seq != c.first) = false := by simp [h2]
      by_cases h3 : c.st = 1
      · have d3 : (c.st == 1) = true := by simp [h3]
        have hf : againF c t = [greetF c] := by unfold againF; rw [if_neg (by simp [h1, h2]), if_pos h3]
        rw [hf]
        clear hf h1 h2 h3
        unfold enC enT at *
        go_enter Try.func41, Try.ntmps41
        go_wp2_with fail
        refine (first_any t o p _).mono ?_
        rw [H1.out]
        rintro e w1 ⟨rfl, hc1⟩
        have hb1 := hb0.chg hc1 (by simp)
        have ht1 := ht0.chg hc1 (by simp)
        have x0 := hb1.cell 0
        have x1 := hb1.cell 1
        have x2 := hb1.cell 2
        have x3 := hb1.cell 3
        have x4 := hb1.cell 4
        have x5 := hb1.cell 5
        have x6 := hb1.cell 6
        simp only [List.getElem?_toArray, List.getElem?_cons_succ, List.getElem?_cons_zero] at x0 x1 x2 x3 x4 x5 x6
        have y0 := ht1.cell 0
        have y1 := ht1.cell 1
        have y2 := ht1.cell 2
        have y3 := ht1.cell 3
        have y4 := ht1.cell 4
        have y5 := ht1.cell 5
        have y6 := ht1.cell 6
        have y7 := ht1.cell 7
        have y8 := ht1.cell 8
        have y9 := ht1.cell 9
        simp only [List.getElem?_toArray, List.getElem?_cons_succ, List.getElem?_cons_zero] at y0 y1 y2 y3 y4 y5 y6 y7 y8 y9
        go_wp2_with fail
        refine (greet_any c _).mono ?_
        rintro e w2 ⟨rfl, hc2⟩
        unfold enT
        go_wp2_with fail
        go_ret
        exact ⟨_, rfl, (one_seg w2 (greetF c)).less ((hc0.trans hc1).trans hc2).size, ((hc0.trans hc1).trans hc2).alloc _⟩
      · have d3 : (c.st == 1) = false := by simp [h3]
        have hf : againF c t = [bareF c] := by unfold againF; rw [if_neg (by simp [h1, h2]), if_neg h3]
        rw [hf]
        clear hf h1 h2 h3
        unfold enC enT at *
        go_enter Try.func41, Try.ntmps41
        go_wp2_with fail
        refine (first_any t o p _).mono ?_
        rw [H1.out]
        rintro e w1 ⟨rfl, hc1⟩
        have hb1 := hb0.chg hc1 (by simp)
        have ht1 := ht0.chg hc1 (by simp)
        have x0 := hb1.cell 0
        have x1 := hb1.cell 1
        have x2 := hb1.cell 2
        have x3 := hb1.cell 3
        have x4 := hb1.cell 4
        have x5 := hb1.cell 5
        have x6 := hb1.cell 6
        simp only [List.getElem?_toArray, List.getElem?_cons_succ, List.getElem?_cons_zero] at x0 x1 x2 x3 x4 x5 x6
        have y0 := ht1.cell 0
        have y1 := ht1.cell 1
        have y2 := ht1.cell 2
        have y3 := ht1.cell 3
        have y4 := ht1.cell 4
        have y5 := ht1.cell 5
        have y6 := ht1.cell 6
        have y7 := ht1.cell 7
        have y8 := ht1.cell 8
        have y9 := ht1.cell 9
        simp only [List.getElem?_toArray, List.getElem?_cons_succ, List.getElem?_cons_zero] at y0 y1 y2 y3 y4 y5 y6 y7 y8 y9
        go_wp2_with fail
        refine (bare_any c _).mono ?_
        rintro e w2 ⟨rfl, hc2⟩
        unfold enT
        go_wp2_with fail
        go_ret
        exact ⟨_, rfl, (one_seg w2 (bareF c)).less ((hc0.trans hc1).trans hc2).size, ((hc0.trans hc1).trans hc2).alloc _⟩
    · have d2 : (t.seq != c.first) = true := by simp [h2]
      have hf : againF c t = [] := by unfold againF; rw [if_pos (.inr h2)]
      rw [hf]
      clear hf h1 h2
      unfold enC enT at *
      go_enter Try.func41, Try.ntmps41
      go_wp2_with fail
      refine (first_any t o p _).mono ?_
      rw [H1.out]
      rintro e w1 ⟨rfl, hc1⟩
      have hb1 := hb0.chg hc1 (by simp)
      have ht1 := ht0.chg hc1 (by simp)
      have x0 := hb1.cell 0
      have x1 := hb1.cell 1
      have x2 := hb1.cell 2
      have x3 := hb1.cell 3
      have x4 := hb1.cell 4
      have x5 := hb1.cell 5
      have x6 := hb1.cell 6
      simp only [List.getElem?_toArray, List.getElem?_cons_succ, List.getElem?_cons_zero] at x0 x1 x2 x3 x4 x5 x6
      have y0 := ht1.cell 0
      have y1 := ht1.cell 1
      have y2 := ht1.cell 2
      have y3 := ht1.cell 3
      have y4 := ht1.cell 4
      have y5 := ht1.cell 5
      have y6 := ht1.cell 6
      have y7 := ht1.cell 7
      have y8 := ht1.cell 8
      have y9 := ht1.cell 9
      simp only [List.getElem?_toArray, List.getElem?_cons_succ, List.getElem?_cons_zero] at y0 y1 y2 y3 y4 y5 y6 y7 y8 y9
      go_wp2_with fail
      go_ret
      exact ⟨_, rfl, no_seg _ _, hc0.trans hc1⟩
end Go.Proofs.Ytelbaooifmkpkaa
