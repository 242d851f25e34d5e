/-
  WALK: what a connection begins as and tells. Condition: the payload reads as bytes.
-/
import Derived.Test.YtelbaooifmkpkaaTellsW2
import Derived.Test.YtelbaooifmkpkaaLives29
set_option linter.unusedVariables false
set_option linter.unusedSimpArgs false
namespace Go.Proofs.Ytelbaooifmkpkaa
open Go.RowKit

theorem hold4 {w' w : World} {c : CN} {t rt : TC} {o : Value} {A : Option Addr} {l : List Int} {ca g1 g2 : Nat} {n0 n1 : Int} (hs : Blk w' g1 52 #[.int .i64 rt.sport, .int .i64 rt.dport, .int .u32 rt.seq, .int .u32 rt.ack, .int .i64 rt.flags, .int .i64 rt.window, .int .i64 rt.ck, .int .i64 rt.urgent, .slice none 0 0, .slice none 0 0]) (hq : Blk w' g2 52 #[.int .i64 rt.sport, .int .i64 rt.dport, .int .u32 rt.seq, .int .u32 rt.ack, .int .i64 rt.flags, .int .i64 rt.window, .int .i64 rt.ck, .int .i64 rt.urgent, .slice none 0 0, .slice none 0 0]) (ha : Blk w' (w.heap.size + 1 + 1) 64 #[.int .u32 n0, .int .u32 n1]) : w'.cell? ⟨g1, 0, none⟩ = some (.int .i64 rt.sport) ∧ w'.cell? ⟨g1, 1, none⟩ = some (.int .i64 rt.dport) ∧ w'.cell? ⟨g1, 2, none⟩ = some (.int .u32 rt.seq) ∧ w'.cell? ⟨g1, 3, none⟩ = some (.int .u32 rt.ack) ∧ w'.cell? ⟨g1, 4, none⟩ = some (.int .i64 rt.flags) ∧ w'.cell? ⟨g1, 5, none⟩ = some (.int .i64 rt.window) ∧ w'.cell? ⟨g1, 6, none⟩ = some (.int .i64 rt.ck) ∧ w'.cell? ⟨g1, 7, none⟩ = some (.int .i64 rt.urgent) ∧ w'.cell? ⟨g1, 8, none⟩ = some (.slice none 0 0) ∧ w'.cell? ⟨g1, 9, none⟩ = some (.slice none 0 0) ∧ w'.cell? ⟨g2, 0, none⟩ = some (.int .i64 rt.sport) ∧ w'.cell? ⟨g2, 1, none⟩ = some (.int .i64 rt.dport) ∧ w'.cell? ⟨g2, 2, none⟩ = some (.int .u32 rt.seq) ∧ w'.cell? ⟨g2, 3, none⟩ = some (.int .u32 rt.ack) ∧ w'.cell? ⟨g2, 4, none⟩ = some (.int .i64 rt.flags) ∧ w'.cell? ⟨g2, 5, none⟩ = some (.int .i64 rt.window) ∧ w'.cell? ⟨g2, 6, none⟩ = some (.int .i64 rt.ck) ∧ w'.cell? ⟨g2, 7, none⟩ = some (.int .i64 rt.urgent) ∧ w'.cell? ⟨g2, 8, none⟩ = some (.slice none 0 0) ∧ w'.cell? ⟨g2, 9, none⟩ = some (.slice none 0 0) ∧ w'.cell? ⟨(w.heap.size + 1 + 1), 0, none⟩ = some (.int .u32 n0) ∧ w'.cell? ⟨(w.heap.size + 1 + 1), 1, none⟩ = some (.int .u32 n1) :=
  ⟨hs.cell 0, hs.cell 1, hs.cell 2, hs.cell 3, hs.cell 4, hs.cell 5, hs.cell 6, hs.cell 7, hs.cell 8, hs.cell 9, hq.cell 0, hq.cell 1, hq.cell 2, hq.cell 3, hq.cell 4, hq.cell 5, hq.cell 6, hq.cell 7, hq.cell 8, hq.cell 9, ha.cell 0, ha.cell 1⟩
theorem hold6 {w' w : World} {c : CN} {t rt : TC} {o : Value} {A : Option Addr} {l : List Int} {ca g1 g2 : Nat} {n0 n1 : Int} (hb : Blk w' w.heap.size 46 #[.int .i64 c.st, .int .u32 c.first, .int .u32 c.own, .int .u32 c.next, .int .u32 c.sent, .int .i64 c.got, .int .u32 c.sum]) (hw : Blk w' (w.heap.size + 1 + 1 + 1) 65 #[.int .i64 c.st, .int .u32 c.first, .int .u32 c.own, .int .u32 c.next, .int .u32 c.sent, .int .i64 c.got, .int .u32 c.sum]) (ha : Blk w' (w.heap.size + 1 + 1) 64 #[.int .u32 n0, .int .u32 n1]) (ht : Blk w' (w.heap.size + 1) 52 #[.int .i64 t.sport, .int .i64 t.dport, .int .u32 t.seq, .int .u32 t.ack, .int .i64 t.flags, .int .i64 t.window, .int .i64 t.ck, .int .i64 t.urgent, o, .slice A l.length ca]) : w'.cell? ⟨w.heap.size, 0, none⟩ = some (.int .i64 c.st) ∧ w'.cell? ⟨w.heap.size, 1, none⟩ = some (.int .u32 c.first) ∧ w'.cell? ⟨w.heap.size, 2, none⟩ = some (.int .u32 c.own) ∧ w'.cell? ⟨w.heap.size, 3, none⟩ = some (.int .u32 c.next) ∧ w'.cell? ⟨w.heap.size, 4, none⟩ = some (.int .u32 c.sent) ∧ w'.cell? ⟨w.heap.size, 5, none⟩ = some (.int .i64 c.got) ∧ w'.cell? ⟨w.heap.size, 6, none⟩ = some (.int .u32 c.sum) ∧ w'.cell? ⟨(w.heap.size + 1 + 1 + 1), 0, none⟩ = some (.int .i64 c.st) ∧ w'.cell? ⟨(w.heap.size + 1 + 1 + 1), 1, none⟩ = some (.int .u32 c.first) ∧ w'.cell? ⟨(w.heap.size + 1 + 1 + 1), 2, none⟩ = some (.int .u32 c.own) ∧ w'.cell? ⟨(w.heap.size + 1 + 1 + 1), 3, none⟩ = some (.int .u32 c.next) ∧ w'.cell? ⟨(w.heap.size + 1 + 1 + 1), 4, none⟩ = some (.int .u32 c.sent) ∧ w'.cell? ⟨(w.heap.size + 1 + 1 + 1), 5, none⟩ = some (.int .i64 c.got) ∧ w'.cell? ⟨(w.heap.size + 1 + 1 + 1), 6, none⟩ = some (.int .u32 c.sum) ∧ w'.cell? ⟨(w.heap.size + 1 + 1), 0, none⟩ = some (.int .u32 n0) ∧ w'.cell? ⟨(w.heap.size + 1), 9, none⟩ = some (.slice A l.length ca) :=
  ⟨hb.cell 0, hb.cell 1, hb.cell 2, hb.cell 3, hb.cell 4, hb.cell 5, hb.cell 6, hw.cell 0, hw.cell 1, hw.cell 2, hw.cell 3, hw.cell 4, hw.cell 5, hw.cell 6, ha.cell 0, ht.cell 9⟩

set_option maxRecDepth 20000 in
set_option maxHeartbeats 20000000 in
theorem tells29 (c : CN) (t : TC) (o pv : Value) (l : List Int) (n0 n1 : Int) (w : World) (hp : SlB w 0 pv l) (hl : l.length ≤ 9223372036854775807) (hr : ∀ x ∈ l, 0 ≤ x ∧ x ≤ 255) :
    Calls Try.prog 7 #[.agg (enC c), .agg (enT t o pv), .agg #[.int .u32 n0, .int .u32 n1]] w fun e w' => e = .returned (.bool true) ∧ Chg [] w w' := by
  obtain ⟨A, ca, hv⟩ := Sl.form hp
  subst hv
  have hc0 : Chg [] w (((w.alloc (.cells (enC c) 46)).alloc (.cells (enT t o (.slice A l.length ca)) 52)).alloc (.cells #[.int .u32 n0, .int .u32 n1] 64)) := (((Chg.refl _ _).alloc _).alloc _).alloc _
  have hb0 : Blk (((w.alloc (.cells (enC c) 46)).alloc (.cells (enT t o (.slice A l.length ca)) 52)).alloc (.cells #[.int .u32 n0, .int .u32 n1] 64)) w.heap.size 46 (enC c) := ((Blk.new _ _ _).alloc _).alloc _
  have ht0 : Blk (((w.alloc (.cells (enC c) 46)).alloc (.cells (enT t o (.slice A l.length ca)) 52)).alloc (.cells #[.int .u32 n0, .int .u32 n1] 64)) (w.heap.size + 1) 52 (enT t o (.slice A l.length ca)) := (Blk.new' (by simp)).alloc _
  have ha0 : Blk (((w.alloc (.cells (enC c) 46)).alloc (.cells (enT t o (.slice A l.length ca)) 52)).alloc (.cells #[.int .u32 n0, .int .u32 n1] 64)) (w.heap.size + 1 + 1) 64 #[.int .u32 n0, .int .u32 n1] := Blk.new' (by simp)
  have hb1 := hb0.alloc (.cells (enC c) 65)
  have ht1 := ht0.alloc (.cells (enC c) 65)
  have ha1 := ha0.alloc (.cells (enC c) 65)
  have hw1 : Blk ((((w.alloc (.cells (enC c) 46)).alloc (.cells (enT t o (.slice A l.length ca)) 52)).alloc (.cells #[.int .u32 n0, .int .u32 n1] 64)).alloc (.cells (enC c) 65)) (w.heap.size + 1 + 1 + 1) 65 (enC c) := Blk.new' (by simp)
  have hc1 := hc0.alloc (.cells (enC c) 65)
  obtain ⟨rt, rb, hR⟩ : ∃ rt rb, resetF t l.length = (rt, rb) := ⟨_, _, rfl⟩
  have HR1 := fun w => reset_any t o A l.length ca w
  have HR2 := fun w => rreset_any t o A l.length ca w
  simp only [hR] at HR1 HR2
  clear hR hb0 ht0 ha0 hc0
  unfold enC enT at hb1 ht1 ha1 hw1 hc1 ⊢
  go_enter Try.func7, Try.ntmps7
  go_wp2_with fail
  refine (HR1 _).mono ?_
  rintro e w1 ⟨rfl, hd1⟩
  have hb2 := hb1.chg hd1 (by simp)
  have ht2 := ht1.chg hd1 (by simp)
  have ha2 := ha1.chg hd1 (by simp)
  have hw2 := hw1.chg hd1 (by simp)
  have hc2 := hc1.trans hd1
  clear hb1 ht1 ha1 hw1 hc1 hd1
  have hs3 : Blk (w1.alloc (.cells (enT rt (.slice none 0 0) (.slice none 0 0)) 52)) w1.heap.size 52 (enT rt (.slice none 0 0) (.slice none 0 0)) := Blk.new _ _ _
  have hb3 := hb2.alloc (.cells (enT rt (.slice none 0 0) (.slice none 0 0)) 52)
  have ht3 := ht2.alloc (.cells (enT rt (.slice none 0 0) (.slice none 0 0)) 52)
  have ha3 := ha2.alloc (.cells (enT rt (.slice none 0 0) (.slice none 0 0)) 52)
  have hw3 := hw2.alloc (.cells (enT rt (.slice none 0 0) (.slice none 0 0)) 52)
  have hc3 := hc2.alloc (.cells (enT rt (.slice none 0 0) (.slice none 0 0)) 52)
  have x0 := ht2.cell 0
  have x1 := ht2.cell 1
  have x2 := ht2.cell 2
  have x3 := ht2.cell 3
  have x4 := ht2.cell 4
  have x5 := ht2.cell 5
  have x6 := ht2.cell 6
  have x7 := ht2.cell 7
  have x8 := ht2.cell 8
  have x9 := ht2.cell 9
  simp only [List.getElem?_toArray, List.getElem?_cons_succ, List.getElem?_cons_zero] at x0 x1 x2 x3 x4 x5 x6 x7 x8 x9
  have y0 := ht3.cell 0
  have y1 := ht3.cell 1
  have y2 := ht3.cell 2
  have y3 := ht3.cell 3
  have y4 := ht3.cell 4
  have y5 := ht3.cell 5
  have y6 := ht3.cell 6
  have y7 := ht3.cell 7
  have y8 := ht3.cell 8
  have y9 := ht3.cell 9
  simp only [List.getElem?_toArray, List.getElem?_cons_succ, List.getElem?_cons_zero] at y0 y1 y2 y3 y4 y5 y6 y7 y8 y9
  unfold enT at hs3 hb3 ht3 ha3 hw3 hc3 y0 y1 y2 y3 y4 y5 y6 y7 y8 y9 ⊢
  go_wp2_with fail
  clear x0 x1 x2 x3 x4 x5 x6 x7 x8 x9 y0 y1 y2 y3 y4 y5 y6 y7 y8 y9
  clear hb2 ht2 ha2 hw2 hc2
  refine (HR2 _).mono ?_
  rintro e w2 ⟨rfl, hd2⟩
  have hb4 := hb3.chg hd2 (by simp)
  have ht4 := ht3.chg hd2 (by simp)
  have ha4 := ha3.chg hd2 (by simp)
  have hw4 := hw3.chg hd2 (by simp)
  have hs4 := hs3.chg hd2 (by simp)
  have hc4 := hc3.trans hd2
  clear hb3 ht3 ha3 hw3 hs3 hc3 hd2 HR1 HR2
  have hq5 : Blk (w2.alloc (.cells (enT rt (.slice none 0 0) (.slice none 0 0)) 52)) w2.heap.size 52 (enT rt (.slice none 0 0) (.slice none 0 0)) := Blk.new _ _ _
  have hb5 := hb4.alloc (.cells (enT rt (.slice none 0 0) (.slice none 0 0)) 52)
  have ht5 := ht4.alloc (.cells (enT rt (.slice none 0 0) (.slice none 0 0)) 52)
  have ha5 := ha4.alloc (.cells (enT rt (.slice none 0 0) (.slice none 0 0)) 52)
  have hw5 := hw4.alloc (.cells (enT rt (.slice none 0 0) (.slice none 0 0)) 52)
  have hs5 := hs4.alloc (.cells (enT rt (.slice none 0 0) (.slice none 0 0)) 52)
  have hc5 := hc4.alloc (.cells (enT rt (.slice none 0 0) (.slice none 0 0)) 52)
  clear hb4 ht4 ha4 hw4 hs4 hc4
  unfold enT at hq5 hb5 ht5 ha5 hw5 hs5 hc5 ⊢
  go_wp2_with fail
  generalize w2.heap.size = g2 at *
  generalize w1.heap.size = g1 at *
  generalize (w2.alloc (.cells #[.int .i64 rt.sport, .int .i64 rt.dport, .int .u32 rt.seq, .int .u32 rt.ack, .int .i64 rt.flags, .int .i64 rt.window, .int .i64 rt.ck, .int .i64 rt.urgent, .slice none 0 0, .slice none 0 0] 52)) = W3 at *
  have drb : (rb != rb) = false := by simp
  go_cut [44] (fun v wx => v = .bool false ∧ Chg [] W3 wx)
  case first =>
    clear hb5 ht5 hw5 hc5 hp hr hl
    have hs0 := hs5.drew
    have hq0 := hq5.drew
    have ha0 := ha5.drew
    have hz0 := (Chg.refl [] W3).drew
    clear hs5 hq5 ha5
    go_region_held3 (fun w' => w'.cell? ⟨g1, 0, none⟩ = some (.int .i64 rt.sport) ∧ w'.cell? ⟨g1, 1, none⟩ = some (.int .i64 rt.dport) ∧ w'.cell? ⟨g1, 2, none⟩ = some (.int .u32 rt.seq) ∧ w'.cell? ⟨g1, 3, none⟩ = some (.int .u32 rt.ack) ∧ w'.cell? ⟨g1, 4, none⟩ = some (.int .i64 rt.flags) ∧ w'.cell? ⟨g1, 5, none⟩ = some (.int .i64 rt.window) ∧ w'.cell? ⟨g1, 6, none⟩ = some (.int .i64 rt.ck) ∧ w'.cell? ⟨g1, 7, none⟩ = some (.int .i64 rt.urgent) ∧ w'.cell? ⟨g1, 8, none⟩ = some (.slice none 0 0) ∧ w'.cell? ⟨g1, 9, none⟩ = some (.slice none 0 0) ∧ w'.cell? ⟨g2, 0, none⟩ = some (.int .i64 rt.sport) ∧ w'.cell? ⟨g2, 1, none⟩ = some (.int .i64 rt.dport) ∧ w'.cell? ⟨g2, 2, none⟩ = some (.int .u32 rt.seq) ∧ w'.cell? ⟨g2, 3, none⟩ = some (.int .u32 rt.ack) ∧ w'.cell? ⟨g2, 4, none⟩ = some (.int .i64 rt.flags) ∧ w'.cell? ⟨g2, 5, none⟩ = some (.int .i64 rt.window) ∧ w'.cell? ⟨g2, 6, none⟩ = some (.int .i64 rt.ck) ∧ w'.cell? ⟨g2, 7, none⟩ = some (.int .i64 rt.urgent) ∧ w'.cell? ⟨g2, 8, none⟩ = some (.slice none 0 0) ∧ w'.cell? ⟨g2, 9, none⟩ = some (.slice none 0 0) ∧ w'.cell? ⟨(w.heap.size + 1 + 1), 0, none⟩ = some (.int .u32 n0) ∧ w'.cell? ⟨(w.heap.size + 1 + 1), 1, none⟩ = some (.int .u32 n1)) ((refine hold4 (w := w) (c := c) (t := t) (rt := rt) (o := o) (A := A) (l := l) (ca := ca) (g1 := g1) (g2 := g2) (n0 := n0) (n1 := n1) ?_ ?_ ?_ <;> with_reducible assumption))
      (first | (go_at_call 27; refine (same_any rt _).mono ?_; rintro e k1 ⟨rfl, hd1⟩; have hs1 := hs0.chg hd1 (by simp); have hq1 := hq0.chg hd1 (by simp); have ha1 := ha0.chg hd1 (by simp); have hz1 := hz0.trans hd1) | (go_at_call 20; refine (start_any n0 n1 _).mono ?_; rintro e k2 ⟨rfl, hd2⟩; have hs2 := hs1.chg hd2 (by simp); have hq2 := hq1.chg hd2 (by simp); have ha2 := ha1.chg hd2 (by simp); have hz2 := hz1.trans hd2; unfold enC startF u32w) | (go_at_call 28; refine (rstart_any n0 n1 _).mono ?_; rintro e k3 ⟨rfl, hd3⟩; have hs3 := hs2.chg hd3 (by simp); have hq3 := hq2.chg hd3 (by simp); have ha3 := ha2.chg hd3 (by simp); have hz3 := hz2.trans hd3; unfold enC startF u32w))
    all_goals
      go_wp2_with fail
      go_meet
      exact ⟨by simp, hz3⟩
  case rest =>
    obtain ⟨rfl, hz⟩ := hcut
    have hb0 := (hb5.chg hz (by simp)).drew
    have hw0 := (hw5.chg hz (by simp)).drew
    have ha0 := (ha5.chg hz (by simp)).drew
    have ht0 := (ht5.chg hz (by simp)).drew
    have hz0 := (hc5.trans hz).drew
    clear hb5 hw5 ha5 ht5 hs5 hq5 hc5 hz drb
    go_wp2_with fail
    go_region_held3 (fun w' => w'.cell? ⟨w.heap.size, 0, none⟩ = some (.int .i64 c.st) ∧ w'.cell? ⟨w.heap.size, 1, none⟩ = some (.int .u32 c.first) ∧ w'.cell? ⟨w.heap.size, 2, none⟩ = some (.int .u32 c.own) ∧ w'.cell? ⟨w.heap.size, 3, none⟩ = some (.int .u32 c.next) ∧ w'.cell? ⟨w.heap.size, 4, none⟩ = some (.int .u32 c.sent) ∧ w'.cell? ⟨w.heap.size, 5, none⟩ = some (.int .i64 c.got) ∧ w'.cell? ⟨w.heap.size, 6, none⟩ = some (.int .u32 c.sum) ∧ w'.cell? ⟨(w.heap.size + 1 + 1 + 1), 0, none⟩ = some (.int .i64 c.st) ∧ w'.cell? ⟨(w.heap.size + 1 + 1 + 1), 1, none⟩ = some (.int .u32 c.first) ∧ w'.cell? ⟨(w.heap.size + 1 + 1 + 1), 2, none⟩ = some (.int .u32 c.own) ∧ w'.cell? ⟨(w.heap.size + 1 + 1 + 1), 3, none⟩ = some (.int .u32 c.next) ∧ w'.cell? ⟨(w.heap.size + 1 + 1 + 1), 4, none⟩ = some (.int .u32 c.sent) ∧ w'.cell? ⟨(w.heap.size + 1 + 1 + 1), 5, none⟩ = some (.int .i64 c.got) ∧ w'.cell? ⟨(w.heap.size + 1 + 1 + 1), 6, none⟩ = some (.int .u32 c.sum) ∧ w'.cell? ⟨(w.heap.size + 1 + 1), 0, none⟩ = some (.int .u32 n0) ∧ w'.cell? ⟨(w.heap.size + 1), 9, none⟩ = some (.slice A l.length ca)) ((refine hold6 (w := w) (c := c) (t := t) (rt := rt) (o := o) (A := A) (l := l) (ca := ca) (g1 := g1) (g2 := g2) (n0 := n0) (n1 := n1) ?_ ?_ ?_ ?_ <;> with_reducible assumption))
      (first | (go_at_call 29; refine (greet_any c _).mono ?_; rintro e k1 ⟨rfl, hd1⟩; have hb1 := hb0.chg hd1 (by simp); have hw1 := hw0.chg hd1 (by simp); have ha1 := ha0.chg hd1 (by simp); have ht1 := ht0.chg hd1 (by simp); have hz1 := hz0.trans hd1) | (go_at_call 30; refine (rgreet_any c _).mono ?_; rintro e k2 ⟨rfl, hd2⟩; have hb2 := hb1.chg hd2 (by simp); have hw2 := hw1.chg hd2 (by simp); have ha2 := ha1.chg hd2 (by simp); have ht2 := ht1.chg hd2 (by simp); have hz2 := hz1.trans hd2) | (go_at_call 27; with_reducible refine (same_any (greetF c) _).mono ?_; rintro e k3 ⟨rfl, hd3⟩; have hb3 := hb2.chg hd3 (by simp); have hw3 := hw2.chg hd3 (by simp); have ha3 := ha2.chg hd3 (by simp); have ht3 := ht2.chg hd3 (by simp); have hz3 := hz2.trans hd3) | (go_at_call 31; refine (bare_any c _).mono ?_; rintro e k4 ⟨rfl, hd4⟩; have hb4 := hb3.chg hd4 (by simp); have hw4 := hw3.chg hd4 (by simp); have ha4 := ha3.chg hd4 (by simp); have ht4 := ht3.chg hd4 (by simp); have hz4 := hz3.trans hd4) | (go_at_call 32; refine (rbare_any c _).mono ?_; rintro e k5 ⟨rfl, hd5⟩; have hb5 := hb4.chg hd5 (by simp); have hw5 := hw4.chg hd5 (by simp); have ha5 := ha4.chg hd5 (by simp); have ht5 := ht4.chg hd5 (by simp); have hz5 := hz4.trans hd5) | (go_at_call 27; with_reducible refine (same_any (bareF c) _).mono ?_; rintro e k6 ⟨rfl, hd6⟩; have hb6 := hb5.chg hd6 (by simp); have hw6 := hw5.chg hd6 (by simp); have ha6 := ha5.chg hd6 (by simp); have ht6 := ht5.chg hd6 (by simp); have hz6 := hz5.trans hd6) | (go_at_call 33; refine (fin_any c _).mono ?_; rintro e k7 ⟨rfl, hd7⟩; have hb7 := hb6.chg hd7 (by simp); have hw7 := hw6.chg hd7 (by simp); have ha7 := ha6.chg hd7 (by simp); have ht7 := ht6.chg hd7 (by simp); have hz7 := hz6.trans hd7) | (go_at_call 34; refine (rfin_any c _).mono ?_; rintro e k8 ⟨rfl, hd8⟩; have hb8 := hb7.chg hd8 (by simp); have hw8 := hw7.chg hd8 (by simp); have ha8 := ha7.chg hd8 (by simp); have ht8 := ht7.chg hd8 (by simp); have hz8 := hz7.trans hd8) | (go_at_call 27; with_reducible refine (same_any (finF c) _).mono ?_; rintro e k9 ⟨rfl, hd9⟩; have hb9 := hb8.chg hd9 (by simp); have hw9 := hw8.chg hd9 (by simp); have ha9 := ha8.chg hd9 (by simp); have ht9 := ht8.chg hd9 (by simp); have hz9 := hz8.trans hd9) | (go_at_call 22; refine (mix_any n0 (Sl.chg0 hp hz9) hl hr).mono ?_; rintro e w' ⟨rfl, rfl⟩) | (go_at_call 35; refine (rmix_any n0 (Sl.chg0 hp hz9) hl hr).mono ?_; rintro e w' ⟨rfl, rfl⟩) | (go_at_call 19; refine (lives29 _).mono ?_; rintro e k10 ⟨rfl, hd10⟩; have hb10 := hb9.chg hd10 (by simp); have hw10 := hw9.chg hd10 (by simp); have ha10 := ha9.chg hd10 (by simp); have ht10 := ht9.chg hd10 (by simp); have hz10 := hz9.trans hd10))
    all_goals
      go_wp2_with fail
      go_ret
      exact ⟨rfl, hz10⟩
end Go.Proofs.Ytelbaooifmkpkaa
