/-
  SMALL LAWS: an append as one step of a region that draws its order; a copy into a block known whole; a make of bytes. No condition.
-/
import Derived.Test.YtldgdpekhjignaaGreatStruct
import Derived.Laws.CopyOwn
import Derived.Deep.RegionLaw
set_option linter.unusedVariables false
set_option linter.unusedSimpArgs false
namespace Go.Proofs.YtldgdpekhjignaaGreat
open Go.RowKit

section
variable {P : Program} {t e : TypeId} {z : Value} {size bytes : Nat} {w : World}
theorem step_app (el : El P t e z size bytes) {ops : Array Oper} {o : Oper} {a : Act} {K : Act → World → Prop} {Q : Exit → Act → World → Prop} {E : Prop} (hgd : o.guard = none) (s x : Operand)
    (ho : o.op = .call { callee := .builtin .append, args := #[s, x], argTypes := #[t, t] })
    (base : Nat) {v : Value} {n : Nat} {xs : List Value} (hs : a.eval s = v) (hown : w.ownsRow base e size v n xs)
    {B : Nat} {sv : Value} {m : Nat} {news : List Value} (hx : a.eval x = sv) (hr : Sl w B size sv m news) (h1 : ∀ u ∈ news, u.oneCell' = true)
    (h63 : n + m ≤ maxLen) (hbytes : (n + m) * bytes ≤ 140737488355328) (hbase : base ≤ w.heap.size)
    (h : ∀ v' w', w'.ownsRow base e size v' (n + m) (xs ++ news) → Chg v.ownBlock.toList w w' → (v'.ownBlock = v.ownBlock ∨ v'.ownBlock = some w.heap.size) → K (a.put o.dst v') w') :
    if Region.wanted o (yielded ops a.tmps) = true then Oper.wp P o a w K Q else E := by
  have hw : Region.wanted o (yielded ops a.tmps) = true := by simp [Region.wanted, hgd]
  rw [if_pos hw]
  obtain ⟨v', w', hr, h2, h3, h5⟩ := app_run el o.type base hown hr h1 h63 hbytes hbase
  unfold Oper.wp execOp
  simp only [ho, resolve, invoke, builtin, Sem.run_bind, Sem.run_pure, Result.andThen_ok, List.map_toArray, List.map_cons, List.map_nil, hs, hx, hr]
  exact h v' w' h2 h3 h5
end

section
variable {P : Program} {w : World} {ops : Array Oper} {rest : List Oper} {o : Oper} {a : Act} {Q : Exit → Act → World → Prop}
/-- 'copy(x[off:], y)': all of y, into a block known whole. -/
theorem wpList_copy_blk (hgd : o.guard = none) (d s : Operand) (dT sT : TypeId) (ho : o.op = .call { callee := .builtin .copy, args := #[d, s], argTypes := #[dT, sT] }) (elem : TypeId) (hu : P.underlying dT = some (.slice elem)) (hsz : (P.info? elem).map (·.size) = some 1)
    {g : Nat} {t : TypeId} {cur : Array Value} (hb : Blk w g t cur) {off dLen dCap : Nat} (hd : a.eval d = .slice (some ⟨g, off, none⟩) dLen dCap)
    {B m : Nat} {sv : Value} {cs : List Value} (hs : a.eval s = sv) (hr : Sl w B 1 sv m cs) (hn : m ≤ dLen) (h1 : ∀ u ∈ cs, u.oneCell' = true) (hfit : off + m ≤ cur.size)
    (h : ∀ w', Blk w' g t (splice cur.toList off cs).toArray → Chg [g] w w' → wpList P ops Q rest (a.put o.dst (.int .i64 m)) w') : wpList P ops Q (o :: rest) a w := by
  obtain ⟨hl, A, c, rfl, hcap, hx⟩ := hr
  rw [Nat.mul_one] at hl
  rcases Nat.eq_zero_or_pos m with h0 | h0
  · subst h0
    have hcs : cs = [] := List.eq_nil_of_length_eq_zero hl
    subst hcs
    refine wpList_copy_nothing hgd d s dT sT ho elem hu hsz _ _ dLen dCap 0 c hd hs (Nat.zero_min _) ?_
    refine h w ?_ (Chg.refl _ _)
    simpa [splice] using hb
  · obtain ⟨b, o', rfl, _, hc⟩ := hx h0
    refine wpList_copy_own hgd d s dT sT ho elem hu hsz g off dLen dCap ⟨b, o', none⟩ m c hd hs cur t hb cs (by rw [hl]; exact (Nat.min_eq_left hn).symm) (fun j v hj => ?_) (by rw [hl]; exact hfit) h1 ?_
    · have := hc j v hj
      unfold Addr.add
      split
      · next hj => simpa [hj] using this
      · exact this
    · rw [hl]
      refine h _ (by unfold splice; rw [hl]; exact setRow_heap w g cur _ t _ hb) ⟨rfl, rfl, rfl, by simp [World.setRow], fun k hk hne => setRow_other w g k _ (by simpa using hne)⟩
end
theorem splice_all {cur cs : List Value} (h : cs.length = cur.length) : splice cur 0 cs = cs := by simp [splice, h]
end Go.Proofs.YtldgdpekhjignaaGreat
