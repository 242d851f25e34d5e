/-
  WALKS: the document's answer of chapter 23. Condition: the row is at most 256 timers.
-/
import Derived.Test.YtojkbljpjpifoaaWheelOnceP
set_option linter.unusedVariables false
set_option linter.unusedSimpArgs false
namespace Go.Proofs.Ytojkbljpjpifoaa
open Go.RowKit

theorem elT23 : El Try.prog 25 29 (.agg #[.int .i64 0, .int .i64 0]) 2 16 := ⟨Try.underlying25, by kernel_rfl, rfl, by omega⟩
def SlT (w : World) (B : Nat) (v : Value) (l : List TM) : Prop := Sl w B 2 v l.length (l.flatMap encT)
theorem SlT.one {w : World} {B : Nat} {A : Option Addr} {c : Nat} {l : List TM} {n : Nat} (h : SlT w B (.slice A n c) l) (hn : l.length = n) {i : Nat} {x : TM} (hx : l[i]? = some x) :
    ∃ b o, A = some ⟨b, o, none⟩ ∧ w.cell? ⟨b, o + i * 2, none⟩ = some (.int .i64 x.id) ∧ w.cell? ⟨b, o + i * 2 + 1, none⟩ = some (.int .i64 x.at_) := by
  obtain ⟨b, o, c', hv, _, _, hg⟩ := Sl.rec encT_len (by omega) h hx
  simp only [Value.slice.injEq] at hv
  obtain ⟨rfl, _, _⟩ := hv
  exact ⟨b, o, rfl, hg 0 (by omega), hg 1 (by omega)⟩
theorem stay_snoc (id : Int) (l : List TM) (x : TM) : stay id (l ++ [x]) = stay id l ++ (if x.id = id then [] else [x]) := by
  unfold stay; rw [List.filter_append]
  by_cases h : x.id = id <;> simp [h]
theorem take_snoc {l : List TM} {k : Nat} {x : TM} (hx : l[k]? = some x) : l.take (k + 1) = l.take k ++ [x] := by rw [List.take_add_one, hx]; rfl
theorem cat23 (w : World) (a b : Int) : Sl (w.alloc (.cells #[.int .i64 a, .int .i64 b] 29)) 0 2 (.slice (some ⟨w.heap.size, 0, none⟩) 1 1) 1 (encT ⟨a, b⟩) :=
  Sl.of_own (own_lit (base := 0) w 29 2 1 #[.int .i64 a, .int .i64 b] (Nat.zero_le _) (by simp [maxLen]) rfl)

set_option maxRecDepth 100000 in
set_option maxHeartbeats 1000000 in
theorem without_any {w : World} {B : Nat} {v : Value} {l : List TM} (id : Int) (h : SlT w B v l) (hl : l.length ≤ 256) :
    Calls Try.prog 13 #[v, .int .i64 id] w fun e w' => ∃ v', e = .returned v' ∧ w'.ownsRow w.heap.size 29 2 v' (stay id l).length ((stay id l).flatMap encT) ∧ Chg [] w w' := by
  obtain ⟨A, c, rfl⟩ := Sl.form h
  have H := Lib.hid (fun w1 (hc : Chg [] w w1) => (show SlT w1 B (.slice A l.length c) l from Sl.chg0 h hc))
  have HX : Hid (∀ i, i < l.length → ∃ x, l[i]? = some x) := Lib.hid fun i hi => ⟨_, List.getElem?_eq_getElem hi⟩
  clear h
  generalize hn : l.length = n at *
  go_enter Try.func13, Try.ntmps13
  go_wp2_with fail
  go_loopw [5, 6] (fun u iv wr => ∃ k : Nat, k ≤ n ∧ iv = .int .i64 k ∧ wr.ownsRow w.heap.size 29 2 u (stay id (l.take k)).length ((stay id (l.take k)).flatMap encT) ∧ Chg [] w wr) (fun _ iv _ => n - (intOf iv).toNat)
  case atStart => exact ⟨0, by omega, rfl, by simpa [stay] using World.ownsRow_nil .., Chg.refl _ _⟩
  case round =>
    obtain ⟨k, hk, rfl, hrow, hcw⟩ := hrel
    by_cases hlt : k < n
    · obtain ⟨x, hx⟩ := HX.out k hlt
      obtain ⟨b, o, rfl, g0, g1⟩ := (H.out wr hcw).one hn hx
      have hst := stay_snoc id (l.take k) x
      rw [← take_snoc hx] at hst
      have hsl : (stay id (l.take k)).length ≤ 256 := Nat.le_trans (List.length_filter_le _ _) (by rw [List.length_take]; omega)
      obtain ⟨xi, xa⟩ := x
      simp only at g0 g1 hst
      have HST := Lib.hid hst
      have hws := hcw.size
      clear hst H HX hx
      by_cases hxi : xi = id
      · have hb : (xi != id) = false := by simp [hxi]
        have hE : Hid (stay id (l.take (k + 1)) = stay id (l.take k)) := Lib.hid (by rw [HST.out, if_pos hxi, List.append_nil])
        go_wp2_with fail
        go_roundw
        case rel => exact ⟨k + 1, by omega, by go_num, by rw [hE.out]; exact hrow, hcw⟩
        case measure => simp [intOf]; omega
      · have hb : (xi != id) = true := by simp [hxi]
        have hE : Hid (stay id (l.take (k + 1)) = stay id (l.take k) ++ [⟨xi, xa⟩]) := Lib.hid (by rw [HST.out, if_neg hxi])
        have hcat := cat23 wr xi xa
        go_wp2_with (first | (at_builtin; refine wpList_app elT23 rfl (.tmp 20) (.tmp 25) rfl w.heap.size rfl (hrow.alloc _) rfl hcat (encT_one ⟨xi, xa⟩) (by unfold maxLen; omega) (by omega) (by simp; omega) ?_; intro v5 w5 hown5 hc5 hb5) | fail)
        have hfin : Chg [] w w5 := (hcw.alloc _).trans' hc5 (fun x hx => .inr (own_lt hrow x hx).1)
        clear hc5 hb5
        go_roundw
        case rel => exact ⟨k + 1, by omega, by go_num, by rw [hE.out, List.length_append, List.flatMap_append]; simpa using hown5, hfin⟩
        case measure => simp [intOf]; omega
    · obtain rfl : k = n := by omega
      have htk : l.take k = l := by rw [← hn, List.take_length]
      rw [htk] at hrow
      go_wp2_with fail
      go_ret
      exact ⟨_, rfl, hrow, hcw⟩

set_option maxRecDepth 100000 in
set_option maxHeartbeats 1000000 in
theorem set23_any {w : World} {B : Nat} {v : Value} {l : List TM} (now id at_ a2 : Int) (h : SlT w B v l) (hl : l.length ≤ 256) (hw0 : 0 ≤ now) (hw1 : now ≤ 100000) (ha2 : a2 = max at_ (now + 1)) :
    Calls Try.prog 11 #[v, .int .i64 now, .int .i64 id, .int .i64 at_] w fun e w' => ∃ v', e = .returned v' ∧ w'.ownsRow w.heap.size 29 2 v' (stay id l ++ ([⟨id, a2⟩] : List TM)).length ((stay id l ++ ([⟨id, a2⟩] : List TM)).flatMap encT) ∧ Chg [] w w' := by
  have F1 := Lib.hid (without_any id h hl)
  have hsl : (stay id l).length ≤ 256 := Nat.le_trans (List.length_filter_le _ _) hl
  have hwn : IntKind.i64.wrap (now + 1) = now + 1 := by rw [IntKind.wrap_i64]; omega
  clear h hl
  rcases (show at_ ≤ now ∧ a2 = now + 1 ∨ ¬ at_ ≤ now ∧ a2 = at_ by omega) with ⟨h1, e2⟩ | ⟨h1, e2⟩
  · clear ha2
    subst e2
    go_enter Try.func11, Try.ntmps11
    go_wp2_with fail
    refine F1.out.mono ?_
    rintro e w1 ⟨v1, rfl, hown1, hc1⟩
    have hws := hc1.size
    have hcat := cat23 w1 id (now + 1)
    clear F1
    go_wp2_with (first | (at_builtin; refine wpList_app elT23 rfl (.tmp 16) (.tmp 20) rfl w.heap.size rfl (hown1.alloc _) rfl hcat (encT_one ⟨id, (now + 1)⟩) (by unfold maxLen; omega) (by omega) (by simp; omega) ?_; intro v5 w5 hown5 hc5 hb5) | fail)
    go_ret
    refine ⟨_, rfl, ?_, (hc1.alloc _).trans' hc5 (fun x hx => .inr (own_lt hown1 x hx).1)⟩
    rw [List.length_append, List.flatMap_append]
    simpa using hown5
  · clear ha2
    subst e2
    go_enter Try.func11, Try.ntmps11
    go_wp2_with fail
    refine F1.out.mono ?_
    rintro e w1 ⟨v1, rfl, hown1, hc1⟩
    have hws := hc1.size
    have hcat := cat23 w1 id a2
    clear F1
    go_wp2_with (first | (at_builtin; refine wpList_app elT23 rfl (.tmp 16) (.tmp 20) rfl w.heap.size rfl (hown1.alloc _) rfl hcat (encT_one ⟨id, a2⟩) (by unfold maxLen; omega) (by omega) (by simp; omega) ?_; intro v5 w5 hown5 hc5 hb5) | fail)
    go_ret
    refine ⟨_, rfl, ?_, (hc1.alloc _).trans' hc5 (fun x hx => .inr (own_lt hown1 x hx).1)⟩
    rw [List.length_append, List.flatMap_append]
    simpa using hown5

/-- The timers that are not due. -/
def later (nw : Int) (l : List TM) : List TM := l.filter (fun t => decide (nw < t.at_))
theorem later_snoc (nw : Int) (l : List TM) (x : TM) : later nw (l ++ [x]) = later nw l ++ (if nw < x.at_ then [x] else []) := by
  unfold later; rw [List.filter_append]
  by_cases h : nw < x.at_ <;> simp [h]
/-- Those of a number that are due. -/
def hits (nw id : Int) (l : List TM) : List Int := (l.filter (fun t => t.id == id && decide (t.at_ ≤ nw))).map (fun _ => id)
theorem hits_snoc (nw id : Int) (l : List TM) (x : TM) : hits nw id (l ++ [x]) = hits nw id l ++ (if x.id = id ∧ x.at_ ≤ nw then [id] else []) := by
  unfold hits; rw [List.filter_append, List.map_append]
  by_cases h1 : x.id = id <;> by_cases h2 : x.at_ ≤ nw <;> simp [h1, h2]
def dueR (nw : Int) (l : List TM) (k : Nat) : List Int := (List.range k).flatMap (fun i : Nat => hits nw (i : Int) l)
theorem dueR_succ (nw : Int) (l : List TM) (k : Nat) : dueR nw l (k + 1) = dueR nw l k ++ hits nw k l := by simp [dueR, List.range_succ]
theorem hits_len {nw id : Int} {l : List TM} (h : (l.map TM.id).Nodup) : (hits nw id l).length ≤ 1 := by
  unfold hits
  rw [List.length_map]
  induction l with
  | nil => simp
  | cons x l ih =>
    obtain ⟨h1, h2⟩ := List.nodup_cons.1 (by simpa using h : (x.id :: l.map TM.id).Nodup)
    rw [List.filter_cons]
    split
    · next hc =>
      have e : l.filter (fun t => t.id == id && decide (t.at_ ≤ nw)) = [] := by
        rw [List.filter_eq_nil_iff]
        intro t ht hc2
        simp at hc hc2
        exact h1 (List.mem_map.2 ⟨t, ht, by rw [hc2.1, hc.1]⟩)
      rw [e]; simp
    · exact ih h2
theorem hits_take {nw id : Int} {l : List TM} (h : (l.map TM.id).Nodup) (k : Nat) : (hits nw id (l.take k)).length ≤ 1 :=
  hits_len (h.sublist (List.Sublist.map _ (List.take_sublist k l)))
theorem dueR_len {nw : Int} {l : List TM} (h : (l.map TM.id).Nodup) : ∀ k, (dueR nw l k).length ≤ k
  | 0 => by simp [dueR]
  | k + 1 => by rw [dueR_succ, List.length_append]; have := dueR_len (nw := nw) h k; have := hits_len (nw := nw) (id := (k : Int)) h; omega
theorem mem_hits {nw id x : Int} {l : List TM} : x ∈ hits nw id l ↔ x = id ∧ ∃ a, (⟨id, a⟩ : TM) ∈ l ∧ a ≤ nw := by
  unfold hits
  rw [List.mem_map]
  constructor
  · rintro ⟨t, ht, rfl⟩
    obtain ⟨h1, h2⟩ := List.mem_filter.1 ht
    simp at h2
    obtain ⟨a, b⟩ := t
    simp at h2
    obtain ⟨rfl, h2⟩ := h2
    exact ⟨rfl, b, h1, h2⟩
  · rintro ⟨rfl, a, h1, h2⟩
    exact ⟨⟨x, a⟩, List.mem_filter.2 ⟨h1, by simp [h2]⟩, rfl⟩
theorem mem_dueR {nw x : Int} {l : List TM} : ∀ k, x ∈ dueR nw l k ↔ 0 ≤ x ∧ x < k ∧ ∃ a, (⟨x, a⟩ : TM) ∈ l ∧ a ≤ nw
  | 0 => by simp [dueR]; omega
  | k + 1 => by
    rw [dueR_succ, List.mem_append, mem_dueR k, mem_hits]
    constructor
    · rintro (⟨h1, h2, h3⟩ | ⟨rfl, h3⟩)
      · exact ⟨h1, by omega, h3⟩
      · exact ⟨by omega, by omega, h3⟩
    · rintro ⟨h1, h2, h3⟩
      by_cases e : x = (k : Int)
      · exact .inr ⟨e, by rw [← e]; exact h3⟩
      · exact .inl ⟨h1, by omega, h3⟩
theorem dueR_rise {nw : Int} {l : List TM} (h : (l.map TM.id).Nodup) : ∀ k, (dueR nw l k).Pairwise (· < ·)
  | 0 => by simp [dueR]
  | k + 1 => by
    rw [dueR_succ]
    refine List.pairwise_append.2 ⟨dueR_rise h k, ?_, fun x hx y hy => ?_⟩
    · have := hits_len (nw := nw) (id := (k : Int)) h
      match hh : hits nw (k : Int) l, this with
      | [], _ => exact List.Pairwise.nil
      | [y], _ => exact List.pairwise_singleton _ _
      | a :: b :: r, h2 => simp at h2
    · have h1 := (mem_dueR k).1 hx
      have h2 := (mem_hits.1 hy).1
      omega

set_option maxRecDepth 100000 in
set_option maxHeartbeats 1000000 in
theorem due23_any {w : World} {B : Nat} {v : Value} {l : List TM} (nw : Int) (h : SlT w B v l) (hl : l.length ≤ 256) (hnd : (l.map TM.id).Nodup) :
    Calls Try.prog 14 #[v, .int .i64 nw] w fun e w' => ∃ v1 v2, e = .returned (.tuple #[v1, v2]) ∧ SlZ w' w.heap.size v1 (dueR nw l 256) ∧ w'.ownsRow w.heap.size 29 2 v2 (later nw l).length ((later nw l).flatMap encT) ∧ Chg [] w w' := by
  obtain ⟨A, c, rfl⟩ := Sl.form h
  have H := Lib.hid (fun w1 (hc : Chg [] w w1) => (show SlT w1 B (.slice A l.length c) l from Sl.chg0 h hc))
  have HX : Hid (∀ i, i < l.length → ∃ x, l[i]? = some x) := Lib.hid fun i hi => ⟨_, List.getElem?_eq_getElem hi⟩
  have HND := Lib.hid hnd
  clear h hnd
  generalize hn : l.length = n at *
  go_enter Try.func14, Try.ntmps14
  go_wp2_with fail
  go_loopw [7, 8] (fun u iv wr => ∃ k : Nat, k ≤ n ∧ iv = .int .i64 k ∧ wr.ownsRow w.heap.size 29 2 u (later nw (l.take k)).length ((later nw (l.take k)).flatMap encT) ∧ Chg [] w wr) (fun _ iv _ => n - (intOf iv).toNat)
  case atStart => exact ⟨0, by omega, rfl, by simpa [later] using World.ownsRow_nil .., Chg.refl _ _⟩
  case round =>
    obtain ⟨k, hk, rfl, hrow, hcw⟩ := hrel
    by_cases hlt : k < n
    · obtain ⟨x, hx⟩ := HX.out k hlt
      obtain ⟨b, o, rfl, g0, g1⟩ := (H.out wr hcw).one hn hx
      have hst := later_snoc nw (l.take k) x
      rw [← take_snoc hx] at hst
      have hsl : (later nw (l.take k)).length ≤ 256 := Nat.le_trans (List.length_filter_le _ _) (by rw [List.length_take]; omega)
      obtain ⟨xi, xa⟩ := x
      simp only at g0 g1 hst
      have HST := Lib.hid hst
      have hws := hcw.size
      clear hst H HX hx HND
      by_cases hxi : nw < xa
      · have hE : Hid (later nw (l.take (k + 1)) = later nw (l.take k) ++ [⟨xi, xa⟩]) := Lib.hid (by rw [HST.out, if_pos hxi])
        have hcat := cat23 wr xi xa
        go_wp2_with (first | (at_builtin; refine wpList_app elT23 rfl (.tmp 24) (.tmp 29) rfl w.heap.size rfl (hrow.alloc _) rfl hcat (encT_one ⟨xi, xa⟩) (by unfold maxLen; omega) (by omega) (by simp; omega) ?_; intro v5 w5 hown5 hc5 hb5) | fail)
        have hfin : Chg [] w w5 := (hcw.alloc _).trans' hc5 (fun x hx => .inr (own_lt hrow x hx).1)
        clear hc5 hb5
        go_roundw
        case rel => exact ⟨k + 1, by omega, by go_num, by rw [hE.out, List.length_append, List.flatMap_append]; simpa using hown5, hfin⟩
        case measure => simp [intOf]; omega
      · have hE : Hid (later nw (l.take (k + 1)) = later nw (l.take k)) := Lib.hid (by rw [HST.out, if_neg hxi, List.append_nil])
        go_wp2_with fail
        go_roundw
        case rel => exact ⟨k + 1, by omega, by go_num, by rw [hE.out]; exact hrow, hcw⟩
        case measure => simp [intOf]; omega
    · obtain rfl : k = n := by omega
      have htk : l.take k = l := by rw [← hn, List.take_length]
      rw [htk] at hrow
      have HRW := Lib.hid hrow
      have hvr := Lib.hid (fun x hx => own_lt hrow x hx)
      clear hrow
      obtain ⟨wo, rfl⟩ : ∃ wo, wo = wr := ⟨_, rfl⟩
      go_wp2_with fail
      go_loopw [6, 9] (fun u iv wr => ∃ j : Nat, j ≤ 256 ∧ iv = .int .i64 j ∧ wr.ownsRow wo.heap.size 3 1 u (dueR nw l j).length ((dueR nw l j).map (Value.int .i64)) ∧ Chg [] wo wr) (fun _ iv _ => 256 - (intOf iv).toNat)
      case atStart => exact ⟨0, by omega, rfl, by simpa [dueR] using World.ownsRow_nil .., Chg.refl _ _⟩
      case round =>
        obtain ⟨j, hj, rfl, hrow, hcj⟩ := hrel
        by_cases hjt : j < 256
        · have hdl := dueR_len (nw := nw) HND.out j
          go_wp2_with fail
          obtain ⟨wp, rfl⟩ : ∃ wp, wp = wr := ⟨_, rfl⟩
          go_loopw [6, 10] (fun u iv wr => ∃ i : Nat, i ≤ k ∧ iv = .int .i64 i ∧ wr.ownsRow wo.heap.size 3 1 u (dueR nw l j ++ hits nw j (l.take i)).length ((dueR nw l j ++ hits nw j (l.take i)).map (Value.int .i64)) ∧ Chg [] wo wr) (fun _ iv _ => k - (intOf iv).toNat)
          case atStart => exact ⟨0, by omega, rfl, by simpa [hits] using hrow, hcj⟩
          case round =>
            clear hrow hcj
            obtain ⟨i, hi, rfl, hrow, hci⟩ := hrel
            by_cases hik : i < k
            · obtain ⟨x, hx⟩ := HX.out i hik
              obtain ⟨b, o, rfl, g0, g1⟩ := (H.out wr (hcw.trans hci)).one hn hx
              have hst := hits_snoc nw j (l.take i) x
              rw [← take_snoc hx] at hst
              have hsl := hits_take (nw := nw) (id := (j : Int)) HND.out i
              obtain ⟨xi, xa⟩ := x
              simp only at g0 g1 hst
              have HST := Lib.hid hst
              have hws := hci.size
              clear hst H HX hx HND HRW hvr
              by_cases hxi : xi = (j : Int)
              · subst hxi
                by_cases hxa : xa ≤ nw
                · have hE : Hid (hits nw j (l.take (i + 1)) = hits nw j (l.take i) ++ [(j : Int)]) := Lib.hid (by rw [HST.out, if_pos ⟨rfl, hxa⟩])
                  have hcat : Sl (wr.alloc (.cells #[.int .i64 (j : Int)] 3)) 0 1 (.slice (some ⟨wr.heap.size, 0, none⟩) 1 1) 1 [.int .i64 (j : Int)] := Sl.of_own (own_lit (base := 0) wr 3 1 1 #[.int .i64 (j : Int)] (Nat.zero_le _) (by simp [maxLen]) rfl)
                  have hlen : (dueR nw l j ++ hits nw j (l.take i)).length ≤ 300 := by rw [List.length_append]; omega
                  go_wp2_with (first | (at_builtin; refine wpList_app elZ rfl (.tmp 57) (.tmp 59) rfl wo.heap.size rfl (hrow.alloc _) rfl hcat (by intro u hu; simp at hu; subst hu; rfl) (by unfold maxLen; omega) (by omega) (by simp; omega) ?_; intro v5 w5 hown5 hc5 hb5) | fail)
                  have hfin : Chg [] wo w5 := (hci.alloc _).trans' hc5 (fun x hx => .inr (own_lt hrow x hx).1)
                  clear hc5 hb5
                  go_roundw
                  case rel => exact ⟨i + 1, by omega, by go_num, by
                    have e1 : (dueR nw l j ++ hits nw j (l.take i)).length + 1 = (dueR nw l j ++ (hits nw j (l.take i) ++ [(j : Int)])).length := by simp; omega
                    have e2 : (dueR nw l j ++ hits nw j (l.take i)).map (Value.int .i64) ++ [.int .i64 (j : Int)] = (dueR nw l j ++ (hits nw j (l.take i) ++ [(j : Int)])).map (Value.int .i64) := by simp
                    rw [e1, e2, ← hE.out] at hown5
                    simpa using hown5, hfin⟩
                  case measure => simp [intOf]; omega
                · have hE : Hid (hits nw j (l.take (i + 1)) = hits nw j (l.take i)) := Lib.hid (by rw [HST.out, if_neg (fun h => hxa h.2), List.append_nil])
                  go_wp2_with fail
                  go_roundw
                  case rel => exact ⟨i + 1, by omega, by go_num, by rw [hE.out]; exact hrow, hci⟩
                  case measure => simp [intOf]; omega
              · have hb : (xi == (j : Int)) = false := by simp [hxi]
                have hE : Hid (hits nw j (l.take (i + 1)) = hits nw j (l.take i)) := Lib.hid (by rw [HST.out, if_neg (fun h => hxi h.1), List.append_nil])
                go_wp2_with fail
                go_roundw
                case rel => exact ⟨i + 1, by omega, by go_num, by rw [hE.out]; exact hrow, hci⟩
                case measure => simp [intOf]; omega
            · obtain rfl : i = k := by omega
              have htk2 : l.take i = l := by rw [← hn, List.take_length]
              rw [htk2, ← dueR_succ] at hrow
              go_wp2_with fail
              go_roundw
              case rel => exact ⟨j + 1, by omega, by go_num, hrow, hci⟩
              case measure => simp [intOf]; omega
        · obtain rfl : j = 256 := by omega
          have hws := hcw.size
          go_wp2_with fail
          go_ret2
          exact ⟨_, _, rfl, (Sl.of_own hrow).less hws, own_chg HRW.out hcj (by simp), hcw.trans hcj⟩
end Go.Proofs.Ytojkbljpjpifoaa
