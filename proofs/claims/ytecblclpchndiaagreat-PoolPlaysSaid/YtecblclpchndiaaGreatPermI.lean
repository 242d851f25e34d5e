/-
  WALKS over package perm: the steps, and the order in which a backend takes slots. Condition: from 2 to 1000 slots.
-/
import Derived.Test.YtecblclpchndiaaGreatPermO
set_option linter.unusedVariables false
set_option linter.unusedSimpArgs false
namespace Go.Proofs.YtecblclpchndiaaGreat
open Go.RowKit Go.Shelf

attribute [local go_sem] Oper.semAt_some

/-- An append of one's own row inside a fence. -/
theorem wpListIn_app {P : Program} {t e : TypeId} {z : Value} {size bytes : Nat} {w : World} (el : El P t e z size bytes) {F : Fence} {q : Nat} {ops : Array Oper} {rest : List Oper} {o : Oper} {a : Act} {Q : Exit → Act → World → Prop} (hgd : o.guard = none) (s x : Operand)
    (ho : o.op = .call { callee := .builtin .append, args := #[s, x], argTypes := #[t, t] })
    (base : Nat) {v : Value} {n : Nat} {xs : List Value} (hs : a.eval s = v) (hown : w.ownsRow base e size v n xs)
    {B : Nat} {sv : Value} {m : Nat} {news : List Value} (hx : a.eval x = sv) (hr : Sl w B size sv m news) (h1 : ∀ u ∈ news, u.oneCell' = true)
    (h63 : n + m ≤ maxLen) (hbytes : (n + m) * bytes ≤ 140737488355328) (hbase : base ≤ w.heap.size)
    (h : ∀ v' w', w'.ownsRow base e size v' (n + m) (xs ++ news) → Chg v.ownBlock.toList w w' → wpListIn F q P ops Q rest (a.put o.dst v') w') :
    wpListIn F q P ops Q (o :: rest) a w := by
  refine wpListIn_plain hgd fun K hK' => ?_
  obtain ⟨v', w', hrun, h2, h3, h5⟩ := app_run el o.type base hown hr h1 h63 hbytes hbase
  unfold Oper.wpIn
  refine ⟨?_, ?_⟩
  · simp [Oper.about, ho, resolve, Target.leads, Sem.run_pure]
  · rw [Oper.semAt_plain F _ _ (by rw [ho]; intro c hc'; cases hc')]
    simp [execOp, ho, resolve, invoke, builtin, hs, hx, hrun, Result.andThen]
    exact hK' _ _ (h v' w' h2 h3)
/-- The blocks from n₁ on and below n₀ are as they were. -/
structure Band (n₁ n₀ : Nat) (w w' : World) : Prop where
  size : w.heap.size ≤ w'.heap.size
  block : ∀ k, n₁ ≤ k → k < n₀ → w'.heap[k]? = w.heap[k]?
theorem Band.refl (n₁ n₀ : Nat) (w : World) : Band n₁ n₀ w w := ⟨Nat.le_refl _, fun _ _ _ => rfl⟩
theorem Band.trans {n₁ n₀ : Nat} {A B C : World} (h : Band n₁ n₀ A B) (k : Band n₁ n₀ B C) : Band n₁ n₀ A C := ⟨Nat.le_trans h.size k.size, fun i h1 h2 => (k.block i h1 h2).trans (h.block i h1 h2)⟩
theorem Band.cell {n₁ n₀ : Nat} {w w' : World} (h : Band n₁ n₀ w w') {b i : Nat} {v : Value} (h1 : n₁ ≤ b) (h2 : b < n₀) (hc : w.cell? ⟨b, i, none⟩ = some v) : w'.cell? ⟨b, i, none⟩ = some v := by
  rw [← hc]
  unfold World.cell?
  rw [h.block b h1 h2]
theorem Band.of_chg {n₁ n₀ : Nat} {w w' : World} {S : List Nat} (h : Chg S w w') (h0 : n₀ ≤ w.heap.size) (hS : ∀ x ∈ S, x < n₁ ∨ n₀ ≤ x) : Band n₁ n₀ w w' := ⟨h.size, fun k h1 h2 => h.block k (by omega) (fun hm => by have := hS k hm; omega)⟩
theorem band_b {n₁ n₀ : Nat} {w : World} (hn : n₀ ≤ w.heap.size) (W : World) (l : Nat) (o o' : Obj) (hl : w.heap.size ≤ l) (h : W.heap[l]? = some o) (_ : o.isCells = false) (_ : o.isWalk = false) : Band n₁ n₀ W (W.putObj l o') :=
  ⟨by simp, fun k h1 h2 => World.putObj_heap_other (by omega)⟩
def stepF (off skp m : Nat) (j : Nat) : Int := ((off + j * skp) % m : Nat)
theorem stepF_all (off skp m : Nat) : upto (stepF off skp m) m = (stepsS off skp m).map (fun x : Nat => (x : Int)) := by
  unfold upto stepsS
  rw [List.map_map]
  rfl

set_option maxRecDepth 100000 in
set_option maxHeartbeats 2000000 in
theorem steps1_in (n : Nat) (hn : 1 ≤ n) (l Bf Bm Bb n₁ n₀ off skp m : Nat) (ho : off < m) (hk : skp < m) (hm : m ≤ 1000) (J Jx : List Int → World → Prop) (hJd : ∀ pre W, J pre W → J pre W.drew)
    (hY : ∀ pre x W, J pre W → pre.length < m → YieldAt Fence.wide (n - 1) Tryz.prog l #[.int .i64 x] W fun e W' =>
      (e = .returned (.bool true) ∧ J (pre ++ [x]) W' ∧ Band n₁ n₀ W W') ∨ (e = .returned (.bool false) ∧ Jx (pre ++ [x]) W'))
    (W : World) (hBf' : n₁ ≤ Bf ∧ Bf < n₀) (hBm' : n₁ ≤ Bm ∧ Bm < n₀) (hBb' : n₁ ≤ Bb ∧ Bb < n₀) (hBf : W.cell? ⟨Bf, 0, none⟩ = some (.int .i64 off)) (hBm : W.cell? ⟨Bm, 0, none⟩ = some (.int .i64 m)) (hBb : W.cell? ⟨Bb, 0, none⟩ = some (.int .i64 skp)) (h0 : J [] W) :
    CallsIn Fence.wide n Tryz.prog 117 #[.func (.yield l) #[] #[], .pointer (some ⟨Bf, 0, none⟩), .pointer (some ⟨Bm, 0, none⟩), .pointer (some ⟨Bb, 0, none⟩)] W fun e W' => (∃ v, e = .returned v) ∧
      ((∃ ys, ys = upto (stepF off skp m) m ∧ J ys W') ∨ (∃ pre, (∃ k, k ≤ m ∧ pre = upto (stepF off skp m) k) ∧ Jx pre W')) := by
  have hmix : Tryz.prog.follows Departure.mixedOrders = true := by kernel_rfl
  have HO : Hid ((off : Int) = stepF off skp m 0) := Lib.hid (by unfold stepF; rw [Nat.zero_mul, Nat.add_zero, Nat.mod_eq_of_lt ho])
  have HS : Hid (∀ k, ∃ c d : Nat, c < m ∧ d < m ∧ stepF off skp m k = (c : Int) ∧ stepF off skp m (k + 1) = (d : Int) ∧ (c + skp) % m = d) := Lib.hid fun k =>
    ⟨(off + k * skp) % m, (off + (k + 1) * skp) % m, Nat.mod_lt _ (by omega), Nat.mod_lt _ (by omega), rfl, rfl, by rw [Nat.mod_add_mod, Nat.add_mul, Nat.one_mul, Nat.add_assoc]⟩
  refine callsIn_of_wp Tryz.func117 rfl trivial ?_ rfl
  simp only [Tryz.ntmps117, List.size_toArray, List.length_cons, List.length_nil, Nat.reduceAdd, Nat.reduceSub, Array.replicate_succ, Array.replicate_zero, List.push_toArray, List.append_toArray, List.nil_append, List.cons_append]
  gi_wp2
  gi_loopw [5, 8] (fun u i wr => ∃ k : Nat, k ≤ m ∧ i = .int .i64 k ∧ u = .int .i64 (stepF off skp m k) ∧ J (upto (stepF off skp m) k) wr ∧ Band n₁ n₀ W wr)
    (fun _ i _ => m - (intOf i).toNat)
  case atStart => exact ⟨0, Nat.zero_le _, rfl, by rw [HO.out], h0, Band.refl _ _ _⟩
  case round =>
    obtain ⟨k, hkm, rfl, rfl, hJs, hnx⟩ := hrel
    have hbf := hnx.cell hBf'.1 hBf'.2 hBf
    have hbm := hnx.cell hBm'.1 hBm'.2 hBm
    have hbb := hnx.cell hBb'.1 hBb'.2 hBb
    by_cases hlt : k < m
    · have hR := hY _ (stepF off skp m k) wr hJs (by rw [upto_length]; exact hlt)
      obtain ⟨c, d, hc, hd, ec, ed, emod⟩ := HS.out k
      have hup := upto_succ (stepF off skp m) k
      have HU := Lib.hid hup
      have HJ := Lib.hid hJs
      have HED := Lib.hid ed
      rw [ec] at hR HU ⊢
      have hw1 : IntKind.i64.wrap ((c : Int) + (skp : Int)) = ((c + skp : Nat) : Int) := by rw [IntKind.wrap_i64]; omega
      have hdm : (((c + skp : Nat) : Int)).tmod (m : Int) = (d : Int) := by rw [← emod]; rfl
      have hdm2 : (((c + skp : Nat) : Int)) % (m : Int) = (d : Int) := by rw [← emod]; rfl
      have hne : ¬ m = 0 := by omega
      have hlt' : (k : Int) < (m : Int) := by omega
      generalize c + skp = cs at *
      clear hup hJs hY h0 hBf hBm hBb hJd ec ed emod HS HO
      obtain ⟨fn, tmps, assign, body, hy, hR⟩ := hR
      have HR := Lib.hid hR
      clear hR
      gi_wp2
      refine HR.out.mono ?_
      rintro e W3 (⟨rfl, hJ3, hk3⟩ | ⟨rfl, hJx3⟩)
      · have hbm3 := hk3.cell hBm'.1 hBm'.2 hbm
        have hbb3 := hk3.cell hBb'.1 hBb'.2 hbb
        have HJ3 := Lib.hid hJ3
        clear hbf hbm hbb hJ3
        gi_wp2
        go_roundw
        case rel => exact ⟨k + 1, by omega, by simp, by rw [HED.out], by rw [HU.out]; exact HJ3.out, hnx.trans hk3⟩
        case measure => simp [intOf]; omega
      · gi_wp2
        refine bodyPost_ret (results_none rfl _ _ _) rfl ?_
        exact ⟨⟨_, rfl⟩, .inr ⟨_, ⟨k + 1, by omega, HU.out.symm⟩, hJx3⟩⟩
    · obtain rfl : k = m := by omega
      gi_wp2
      go_end0
      exact ⟨⟨_, rfl⟩, .inl ⟨_, rfl, hJs⟩⟩

set_option maxHeartbeats 1000000 in
/-- The maker of the iterator. -/
theorem steps_any (a b c : Int) (w : World) :
    Calls Tryz.prog 104 #[.int .i64 a, .int .i64 b, .int .i64 c] w fun e w' => e = .returned (.func (.func 117) #[] #[.pointer (some ⟨w.heap.size, 0, none⟩), .pointer (some ⟨w.heap.size + 2, 0, none⟩), .pointer (some ⟨w.heap.size + 1, 0, none⟩)]) ∧
      w' = ((w.alloc (.cells #[.int .i64 a] 3)).alloc (.cells #[.int .i64 b] 3)).alloc (.cells #[.int .i64 c] 3) := by
  go_enter Tryz.func104, Tryz.ntmps104
  go_wp2
  go_ret
  exact ⟨rfl, rfl⟩

theorem steps_stops (n : Nat) (hn : 1 ≤ n) (Bf Bm Bb n₁ n₀ off skp m : Nat) (ho : off < m) (hk : skp < m) (hm : m ≤ 1000) (w : World) (hBf' : n₁ ≤ Bf ∧ Bf < n₀) (hBm' : n₁ ≤ Bm ∧ Bm < n₀) (hBb' : n₁ ≤ Bb ∧ Bb < n₀) (hn₀ : n₀ ≤ w.heap.size)
    (hBf : w.cell? ⟨Bf, 0, none⟩ = some (.int .i64 off)) (hBm : w.cell? ⟨Bm, 0, none⟩ = some (.int .i64 m)) (hBb : w.cell? ⟨Bb, 0, none⟩ = some (.int .i64 skp)) :
    SeqStopsK Fence.wide n Tryz.prog 117 #[.pointer (some ⟨Bf, 0, none⟩), .pointer (some ⟨Bm, 0, none⟩), .pointer (some ⟨Bb, 0, none⟩)] (fun x : Int => #[Value.int .i64 x]) (Band n₁ n₀) (fun ys => ys = upto (stepF off skp m) m) (fun pre => pre <+: upto (stepF off skp m) m) m w := fun l J Jx W hW hJ _ hY h0 => by
  refine (steps1_in n hn l Bf Bm Bb n₁ n₀ off skp m ho hk hm J Jx (fun pre W h => hJ pre W W.drew none h ⟨rfl, rfl, rfl, Nat.le_refl _, fun _ _ _ => rfl⟩ (by simp)) hY W hBf' hBm' hBb'
    ((hW.cell (p := ⟨Bf, 0, none⟩) (Nat.lt_of_lt_of_le hBf'.2 hn₀)).trans hBf) ((hW.cell (p := ⟨Bm, 0, none⟩) (Nat.lt_of_lt_of_le hBm'.2 hn₀)).trans hBm) ((hW.cell (p := ⟨Bb, 0, none⟩) (Nat.lt_of_lt_of_le hBb'.2 hn₀)).trans hBb) h0).mono ?_
  rintro e W' ⟨he, ⟨ys, rfl, hj⟩ | ⟨pre, ⟨k, hk, rfl⟩, hj⟩⟩
  · exact ⟨he, .inl ⟨_, rfl, hj⟩⟩
  · exact ⟨he, .inr ⟨_, upto_prefix _ hk, hj⟩⟩
end Go.Proofs.YtecblclpchndiaaGreat
