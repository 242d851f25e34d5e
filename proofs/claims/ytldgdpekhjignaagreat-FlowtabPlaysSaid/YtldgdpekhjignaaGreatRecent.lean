/-
  PLAIN and WALKS: package recent. Conditions: the list is one that New made (1 to 256 numbers).
-/
import Derived.Test.YtldgdpekhjignaaGreatRows
import Derived.Test.YtldgdpekhjignaaGreatStruct
import Derived.Test.YtldgdpekhjignaaGreatReg
import Derived.Test.YtldgdpekhjignaaGreatRowQ
import Derived.Test.YtldgdpekhjignaaGreatMapO
import Derived.BigRegion
import Derived.Deep.DeepCutAuto
import Derived.Deep.CutBlock
set_option linter.unusedVariables false
set_option linter.unusedSimpArgs false
namespace Go.Proofs.YtldgdpekhjignaaGreat.Rg

def up (f : Nat → Int) (i : Nat) (v : Int) : Nat → Int := fun j => if j = i then v else f j
theorem up_same (f : Nat → Int) (i : Nat) (v : Int) : up f i v i = v := by simp [up]
theorem up_other (f : Nat → Int) {i j : Nat} (v : Int) (h : j ≠ i) : up f i v j = f j := by simp [up, h]
/-- From a on, by what lies in the list, up to e: B leads on, A leads back. -/
def Lnk (A B : Nat → Int) (e : Nat) : Nat → List Nat → Prop
  | a, [] => B a = e ∧ A e = a
  | a, x :: r => B a = x ∧ A x = a ∧ Lnk A B e x r
def lastOf : Nat → List Nat → Nat
  | a, [] => a
  | _, x :: r => lastOf x r
theorem lastOf_mem : ∀ (a : Nat) (p : List Nat), lastOf a p ∈ a :: p
  | a, [] => by simp [lastOf]
  | a, x :: r => by
    have := lastOf_mem x r
    simp only [lastOf, List.mem_cons] at this ⊢
    exact .inr this
theorem lastOf_snoc : ∀ (a : Nat) (p : List Nat) (x : Nat), lastOf a (p ++ [x]) = x
  | a, [], x => rfl
  | a, y :: r, x => lastOf_snoc y r x
section
variable {A B A' B' : Nat → Int}
theorem Lnk.split {e : Nat} : ∀ {a : Nat} {p : List Nat} {i : Nat} {q : List Nat}, Lnk A B e a (p ++ i :: q) ↔ Lnk A B i a p ∧ Lnk A B e i q
  | a, [], i, q => by simp [Lnk, and_assoc]
  | a, x :: r, i, q => by
    show B a = x ∧ A x = a ∧ Lnk A B e x (r ++ i :: q) ↔ (B a = x ∧ A x = a ∧ Lnk A B i x r) ∧ Lnk A B e i q
    rw [Lnk.split]
    simp [and_assoc]
theorem Lnk.last {e : Nat} : ∀ {a : Nat} {p : List Nat}, Lnk A B e a p → B (lastOf a p) = e ∧ A e = lastOf a p
  | a, [], h => h
  | a, x :: r, h => Lnk.last (p := r) h.2.2
theorem Lnk.first {e a : Nat} {q : List Nat} (h : Lnk A B e a q) : B a = (q.headD e : Nat) ∧ A (q.headD e) = a := by
  cases q with
  | nil => exact h
  | cons x r => exact ⟨h.1, h.2.1⟩
theorem Lnk.congr {e : Nat} : ∀ {a : Nat} {q : List Nat}, Lnk A B e a q → (∀ x ∈ a :: q, B' x = B x) → (∀ y, (y ∈ q ∨ y = e) → A' y = A y) → Lnk A' B' e a q
  | a, [], h, hB, hA => ⟨by rw [hB a (by simp)]; exact h.1, by rw [hA e (by simp)]; exact h.2⟩
  | a, x :: r, h, hB, hA => ⟨by rw [hB a (by simp)]; exact h.1, by rw [hA x (by simp)]; exact h.2.1, Lnk.congr h.2.2 (fun y hy => hB y (List.mem_cons_of_mem _ hy)) (fun y hy => hA y (hy.imp (List.mem_cons_of_mem _) id))⟩
theorem Lnk.reend {e e' : Nat} : ∀ {a : Nat} {p : List Nat}, Lnk A B e a p → (a :: p).Nodup → e' ∉ p → Lnk (up A e' (lastOf a p)) (up B (lastOf a p) e') e' a p
  | a, [], h, hn, he => ⟨by simp [lastOf, up], by simp [lastOf, up]⟩
  | a, x :: r, h, hn, he => by
    have hn' := List.nodup_cons.1 hn
    have hl := lastOf_mem x r
    have hne : a ≠ lastOf x r := fun e => hn'.1 (by rw [e]; exact hl)
    have hx : x ≠ e' := fun e => he (by simp [e])
    refine ⟨?_, ?_, Lnk.reend h.2.2 hn'.2 (fun h => he (by simp [h]))⟩
    · show up B (lastOf x r) e' a = x
      rw [up_other _ _ hne]; exact h.1
    · show up A e' _ x = a
      rw [up_other _ _ hx]; exact h.2.1
end
/-- A ring of n numbers, in which those of the list are, the one touched last first. -/
structure RI (A B : Nat → Int) (n : Nat) (od : List Nat) : Prop where
  nd : od.Nodup
  lt : ∀ i ∈ od, i < n
  link : Lnk A B n n od
  off : ∀ i, i < n → i ∉ od → B i = -1
section
variable {A B : Nat → Int} {n : Nat} {od : List Nat}
theorem RI.len (h : RI A B n od) : od.length ≤ n := by
  have := h.nd.length_le_of_subset (l₂ := List.range n) (fun x hx => List.mem_range.2 (h.lt x hx))
  simpa using this
theorem RI.in_ (h : RI A B n od) {i : Nat} (hi : i < n) : (0 ≤ B i) ↔ i ∈ od := by
  constructor
  · intro h0
    by_cases hm : i ∈ od
    · exact hm
    · have := h.off i hi hm; omega
  · intro hm
    obtain ⟨p, q, rfl⟩ := List.append_of_mem hm
    have := (Lnk.split.1 h.link).2.first
    omega
theorem RI.front (h : RI A B n od) : B n = (od.headD n : Nat) := h.link.first.1
theorem RI.oldest (h : RI A B n od) : A n = (lastOf n od : Nat) := h.link.last.2
theorem RI.next (h : RI A B n od) {p q : List Nat} {i : Nat} (ho : od = p ++ i :: q) : B i = (q.headD n : Nat) := by
  subst ho
  exact (Lnk.split.1 h.link).2.first.1
theorem nodup_mid {p q : List Nat} {i : Nat} (h : (p ++ i :: q).Nodup) : (p ++ q).Nodup ∧ i ∉ p ∧ i ∉ q ∧ (∀ x ∈ p, x ∉ q) := by
  rw [List.nodup_append] at h
  obtain ⟨h1, h2, h3⟩ := h
  have h4 := List.nodup_cons.1 h2
  refine ⟨List.nodup_append.2 ⟨h1, h4.2, fun a ha b hb => h3 a ha b (by simp [hb])⟩, fun hi => h3 i hi i (by simp) rfl, h4.1, fun x hx hq => h3 x hx x (by simp [hq]) rfl⟩
/-- Taking out. -/
theorem RI.cut (h : RI A B n od) {p q : List Nat} {i : Nat} (ho : od = p ++ i :: q) :
    A i = (lastOf n p : Nat) ∧ B i = (q.headD n : Nat) ∧ lastOf n p ≤ n ∧ q.headD n ≤ n ∧ lastOf n p ≠ i ∧ q.headD n ≠ i ∧
    RI (up (up A (q.headD n) (lastOf n p)) i (-1)) (up (up B (lastOf n p) (q.headD n)) i (-1)) n (p ++ q) := by
  subst ho
  obtain ⟨l1, l2⟩ := Lnk.split.1 h.link
  obtain ⟨n1, n2, n3, n4⟩ := nodup_mid h.nd
  have hin : i < n := h.lt i (by simp)
  have hpn : ∀ x ∈ p, x < n := fun x hx => h.lt x (by simp [hx])
  have hqn : ∀ x ∈ q, x < n := fun x hx => h.lt x (by simp [hx])
  have hlm := lastOf_mem n p
  have hll : lastOf n p ≤ n := by
    rcases List.mem_cons.1 hlm with e | e
    · omega
    · have := hpn _ e; omega
  have hli : lastOf n p ≠ i := by
    rcases List.mem_cons.1 hlm with e | e
    · omega
    · exact fun e2 => n2 (e2 ▸ e)
  have hnp : (n :: p).Nodup := List.nodup_cons.2 ⟨fun hx => by have := hpn n hx; omega, (List.nodup_append.1 h.nd).1⟩
  have hhd : q.headD n ∉ p ∧ q.headD n ≠ i ∧ q.headD n ≤ n := by
    cases q with
    | nil => exact ⟨fun hx => by have := hpn _ hx; simp at this, by show n ≠ i; omega, by simp⟩
    | cons x r => exact ⟨fun hx => n4 x hx (by simp), fun e => n3 (by simp at e; simp [e]), by have := hqn x (by simp); simp; omega⟩
  refine ⟨l1.last.2, l2.first.1, hll, hhd.2.2, hli, hhd.2.1, n1, fun x hx => ?_, ?_, fun x hx hm => ?_⟩
  · rcases List.mem_append.1 hx with e | e
    · exact hpn x e
    · exact hqn x e
  · have r1 := l1.reend hnp hhd.1
    have c1 : Lnk (up (up A (q.headD n) (lastOf n p)) i (-1)) (up (up B (lastOf n p) (q.headD n)) i (-1)) (q.headD n) n p := r1.congr (fun x hx => up_other _ _ (fun e => by
      subst e
      rcases List.mem_cons.1 hx with e | e
      · omega
      · exact n2 e)) (fun y hy => up_other _ _ (fun e => by
      subst e
      rcases hy with e | e
      · exact n2 e
      · exact hhd.2.1 e.symm))
    cases q with
    | nil => simpa using c1
    | cons x r =>
      refine Lnk.split.2 ⟨c1, ?_⟩
      have n5 := List.nodup_cons.1 (List.nodup_append.1 n1).2.1
      refine l2.2.2.congr (fun y hy => ?_) (fun y hy => ?_)
      · have hyq : y ∈ x :: r := hy
        rw [up_other _ _ (fun e => n3 (by rw [← e]; exact hyq)), up_other]
        intro e
        rcases List.mem_cons.1 hlm with e2 | e2
        · have := hqn y hyq; omega
        · exact n4 _ e2 (by rw [← e]; exact hyq)
      · have hyi : y ≠ i := fun e => by
          rcases hy with e2 | e2
          · exact n3 (by simp [← e, e2])
          · omega
        have hyx : y ≠ x := fun e => by
          rcases hy with e2 | e2
          · exact n5.1 (e ▸ e2)
          · have := hqn x (by simp); omega
        rw [up_other _ _ hyi]
        exact up_other _ _ hyx
  · by_cases e : x = i
    · subst e; exact up_same _ _ _
    · rw [up_other _ _ e, up_other]
      · exact h.off x hx (fun hm' => hm (by
          rcases List.mem_append.1 hm' with h9 | h9
          · exact List.mem_append_left _ h9
          · rcases List.mem_cons.1 h9 with h9 | h9
            · exact absurd h9 e
            · exact List.mem_append_right _ h9))
      · intro e2
        subst e2
        rcases List.mem_cons.1 hlm with e3 | e3
        · omega
        · exact hm (by simp [e3])
/-- Putting at the front. -/
theorem RI.put (h : RI A B n od) {i : Nat} (hi : i < n) (hm : i ∉ od) :
    B n = (od.headD n : Nat) ∧ od.headD n ≤ n ∧ RI (up (up A i n) (od.headD n) i) (up (up B n i) i (od.headD n)) n (i :: od) := by
  have hhd : od.headD n ≠ i ∧ od.headD n ≤ n := by
    cases od with
    | nil => exact ⟨by show n ≠ i; omega, by simp⟩
    | cons x r => exact ⟨fun e => hm (by simp at e; simp [e]), by have := h.lt x (by simp); simp; omega⟩
  refine ⟨h.front, hhd.2, List.nodup_cons.2 ⟨hm, h.nd⟩, fun x hx => ?_, ⟨?_, ?_, ?_⟩, fun x hx hmx => ?_⟩
  · rcases List.mem_cons.1 hx with rfl | e
    · exact hi
    · exact h.lt x e
  · rw [up_other _ _ (by omega), up_same]
  · rw [up_other _ _ (Ne.symm hhd.1), up_same]
  · cases od with
    | nil => exact ⟨by simp [up], by simp [up]⟩
    | cons x r =>
      have hx := h.lt x (by simp)
      have n5 := List.nodup_cons.1 h.nd
      refine ⟨by simp [up], by simp [up], h.link.2.2.congr (fun y hy => ?_) (fun y hy => ?_)⟩
      · have hyn := h.lt y hy
        rw [up_other _ _ (fun e => hm (by rw [← e]; exact hy)), up_other _ _ (by omega)]
      · have hyx : y ≠ x := fun e => by
          rcases hy with e2 | e2
          · exact n5.1 (e ▸ e2)
          · omega
        have hyi : y ≠ i := fun e => by
          rcases hy with e2 | e2
          · exact hm (by simp [← e, e2])
          · omega
        show up (up A i n) x i y = A y
        rw [up_other _ _ hyx, up_other _ _ hyi]
  · have hxi : x ≠ i := fun e => hmx (by simp [e])
    rw [up_other _ _ hxi, up_other _ _ (by omega)]
    exact h.off x hx (fun h => hmx (by simp [h]))
theorem RI.new (n : Nat) : RI (up (fun _ => -1) n n) (up (fun _ => -1) n n) n [] :=
  ⟨by simp, by simp, ⟨up_same _ _ _, up_same _ _ _⟩, fun i hi _ => up_other _ _ (by omega)⟩
end
end Go.Proofs.YtldgdpekhjignaaGreat.Rg
namespace Go.Proofs.YtldgdpekhjignaaGreat.Rg
open Go.RowKit

def rowI (f : Nat → Int) (k : Nat) : Array Value := ((List.range k).map fun i => Value.int .i64 (f i)).toArray
theorem rowI_at (f : Nat → Int) {k i : Nat} (h : i < k) : (rowI f k)[i]? = some (.int .i64 (f i)) := by simp [rowI, h]
theorem rowI_set (f : Nat → Int) (k i : Nat) (v : Int) : (rowI f k).setIfInBounds i (.int .i64 v) = rowI (up f i v) k := by
  apply Array.ext_getElem?
  intro j
  rw [Array.getElem?_setIfInBounds]
  by_cases e : i = j
  · subst e
    by_cases h : i < k
    · rw [if_pos rfl, rowI_at _ h, up_same, if_pos (by simpa [rowI] using h)]
    · rw [if_pos rfl, if_neg (by simpa [rowI] using h)]
      exact (Array.getElem?_eq_none (by simpa [rowI] using h)).symm
  · rw [if_neg e]
    by_cases h : j < k
    · rw [rowI_at _ h, rowI_at _ h, up_other _ _ (fun h' => e h'.symm)]
    · rw [Array.getElem?_eq_none (by simpa [rowI] using h), Array.getElem?_eq_none (by simpa [rowI] using h)]
/-- The ring in memory. -/
structure Ring (w : World) (rb ga gb n : Nat) (A B : Nat → Int) (m : Int) : Prop where
  lo : 1 ≤ n
  hi : n ≤ 256
  rblk : Blk w rb 97 #[.slice (some ⟨ga, 0, none⟩) (n + 1) (n + 1), .slice (some ⟨gb, 0, none⟩) (n + 1) (n + 1), .int .i64 m]
  ablk : Blk w ga 3 (rowI A (n + 1))
  bblk : Blk w gb 3 (rowI B (n + 1))
  ne : ga ≠ gb
section
variable {w w' : World} {rb ga gb n : Nat} {A B : Nat → Int} {m : Int} {S : List Nat}
theorem Ring.c0 (h : Ring w rb ga gb n A B m) : w.cell? ⟨rb, 0, none⟩ = some (.slice (some ⟨ga, 0, none⟩) (n + 1) (n + 1)) := (h.rblk.cell 0).trans rfl
theorem Ring.c1 (h : Ring w rb ga gb n A B m) : w.cell? ⟨rb, 1, none⟩ = some (.slice (some ⟨gb, 0, none⟩) (n + 1) (n + 1)) := (h.rblk.cell 1).trans rfl
theorem Ring.c2 (h : Ring w rb ga gb n A B m) : w.cell? ⟨rb, 2, none⟩ = some (.int .i64 m) := (h.rblk.cell 2).trans rfl
theorem Ring.a_ (h : Ring w rb ga gb n A B m) {i : Nat} (hi : i ≤ n) : w.cell? ⟨ga, i, none⟩ = some (.int .i64 (A i)) := (h.ablk.cell i).trans (rowI_at A (by omega))
theorem Ring.b_ (h : Ring w rb ga gb n A B m) {i : Nat} (hi : i ≤ n) : w.cell? ⟨gb, i, none⟩ = some (.int .i64 (B i)) := (h.bblk.cell i).trans (rowI_at B (by omega))
theorem Ring.chg (h : Ring w rb ga gb n A B m) (hc : Chg S w w') (h1 : rb ∉ S) (h2 : ga ∉ S) (h3 : gb ∉ S) : Ring w' rb ga gb n A B m := ⟨h.lo, h.hi, h.rblk.chg hc h1, h.ablk.chg hc h2, h.bblk.chg hc h3, h.ne⟩
theorem Ring.chg0 (h : Ring w rb ga gb n A B m) (hc : Chg [] w w') : Ring w' rb ga gb n A B m := h.chg hc (by simp) (by simp) (by simp)
theorem blk_ne {w : World} {g g' : Nat} {t t' : TypeId} {cs cs' : Array Value} (h : Blk w g t cs) (h' : Blk w g' t' cs') (ht : t ≠ t') : g ≠ g' := by
  rintro rfl
  unfold Blk at h h'
  rw [h] at h'
  injection h' with h'
  injection h' with _ e
  exact ht e
theorem Ring.nr (h : Ring w rb ga gb n A B m) : rb ≠ ga ∧ rb ≠ gb := ⟨blk_ne h.rblk h.ablk (by decide), blk_ne h.rblk h.bblk (by decide)⟩
theorem Ring.setA (h : Ring w rb ga gb n A B m) (i : Nat) (v : Int) : Ring (w.setCell ⟨ga, i, none⟩ (.int .i64 v)) rb ga gb n (up A i v) B m := by
  have h1 := h.ablk.set_ i (.int .i64 v)
  rw [rowI_set] at h1
  exact ⟨h.lo, h.hi, h.rblk.far (p := ⟨ga, i, none⟩) h.nr.1 _, h1, h.bblk.far (p := ⟨ga, i, none⟩) h.ne.symm _, h.ne⟩
theorem Ring.setB (h : Ring w rb ga gb n A B m) (i : Nat) (v : Int) : Ring (w.setCell ⟨gb, i, none⟩ (.int .i64 v)) rb ga gb n A (up B i v) m := by
  have h1 := h.bblk.set_ i (.int .i64 v)
  rw [rowI_set] at h1
  exact ⟨h.lo, h.hi, h.rblk.far (p := ⟨gb, i, none⟩) h.nr.2 _, h.ablk.far (p := ⟨gb, i, none⟩) h.ne _, h1, h.ne⟩
theorem Ring.setM (h : Ring w rb ga gb n A B m) (v : Int) : Ring (w.setCell ⟨rb, 2, none⟩ (.int .i64 v)) rb ga gb n A B v := by
  have h1 := h.rblk.set_ 2 (.int .i64 v)
  exact ⟨h.lo, h.hi, h1, h.ablk.far (p := ⟨rb, 2, none⟩) h.nr.1.symm _, h.bblk.far (p := ⟨rb, 2, none⟩) h.nr.2.symm _, h.ne⟩
end
set_option maxHeartbeats 400000 in
theorem own_any {rb ga gb n : Nat} {A B : Nat → Int} {m : Int} {w : World} (h : Ring w rb ga gb n A B m) :
    Calls Tryz.prog 45 #[.pointer (some ⟨rb, 0, none⟩)] w fun e w' => e = .returned (.int .i64 n) ∧ w = w' := by
  have h0 := h.c0
  have hh := h.hi
  clear h
  go_enter Tryz.func45, Tryz.ntmps45
  go_wp2
  go_ret
  exact ⟨by simp, rfl⟩
set_option maxHeartbeats 400000 in
theorem in_any {rb ga gb n i : Nat} {A B : Nat → Int} {m : Int} {w : World} (h : Ring w rb ga gb n A B m) (hi : i < n) :
    Calls Tryz.prog 98 #[.pointer (some ⟨rb, 0, none⟩), .int .i64 i] w fun e w' => e = .returned (.bool (decide (0 ≤ B i))) ∧ w = w' := by
  have h0 := h.c1
  have h1 := h.b_ (i := i) (by omega)
  have hh := h.hi
  have hiI : (i : Int) < (n : Int) + 1 := by omega
  clear h
  go_enter Tryz.func98, Tryz.ntmps98
  go_wp2
  go_ret
  exact ⟨rfl, rfl⟩
set_option maxRecDepth 100000 in
set_option maxHeartbeats 1000000 in
theorem join_any {rb ga gb n a b : Nat} {A B : Nat → Int} {m : Int} {w : World} (h : Ring w rb ga gb n A B m) (ha : a ≤ n) (hb : b ≤ n) :
    Calls Tryz.prog 44 #[.pointer (some ⟨rb, 0, none⟩), .int .i64 a, .int .i64 b] w fun e w' => e = .returned (.tuple #[]) ∧ Ring w' rb ga gb n (up A b a) (up B a b) m ∧ Chg [ga, gb] w w' := by
  have h0 := h.c0
  have h1 := h.c1
  have k0 := h.a_ hb
  have k1 := h.b_ ha
  have f0 := h.ablk.frozen b
  have f1 := h.bblk.frozen a
  have hh := h.hi
  have haI : (a : Int) < (n : Int) + 1 := by omega
  have hbI : (b : Int) < (n : Int) + 1 := by omega
  have n1 := h.nr.1
  have n2 := h.nr.2
  have n3 := h.ne
  have n4 := h.ne.symm
  have HH := Lib.hid h
  clear h
  go_enter Tryz.func44, Tryz.ntmps44
  go_region
  go_end0
  exact ⟨rfl, ((HH.out.setB a b).setA b a).chg0 (Chg.refl _ _).drew, (((Chg.refl _ _).setCell (p := ⟨gb, a, none⟩) (.inl (by simp)) _).setCell (p := ⟨ga, b, none⟩) (.inl (by simp)) _).drew⟩
set_option maxRecDepth 100000 in
set_option maxHeartbeats 1000000 in
theorem cut_any {rb ga gb n i a b : Nat} {A B : Nat → Int} {m : Int} {w : World} (h : Ring w rb ga gb n A B m) (hi : i < n) (ha : a ≤ n) (hb : b ≤ n) (hai : a ≠ i) (hbi : b ≠ i) (hA : A i = (a : Nat)) (hB : B i = (b : Nat)) (hm0 : 0 ≤ m) (hm1 : m ≤ 300) :
    Calls Tryz.prog 82 #[.pointer (some ⟨rb, 0, none⟩), .int .i64 i] w fun e w' => e = .returned (.tuple #[]) ∧ Ring w' rb ga gb n (up (up A b a) i (-1)) (up (up B a b) i (-1)) (m - 1) ∧ Chg [rb, ga, gb] w w' := by
  have hR : Ring w.drew rb ga gb n A B m := h.chg0 (Chg.refl _ _).drew
  have hS0 : (fun W : World => (W.cell? ⟨rb, 0, none⟩ = some (.slice (some ⟨ga, 0, none⟩) (n + 1) (n + 1)) ∧ W.cell? ⟨rb, 1, none⟩ = some (.slice (some ⟨gb, 0, none⟩) (n + 1) (n + 1))) ∧ W.cell? ⟨ga, i, none⟩ = some (.int .i64 (a : Nat)) ∧ W.cell? ⟨gb, i, none⟩ = some (.int .i64 (b : Nat))) w.drew := ⟨⟨hR.c0, hR.c1⟩, by rw [← hA]; exact hR.a_ (by omega), by rw [← hB]; exact hR.b_ (by omega)⟩
  have HS0 : ∀ W : World, (fun W : World => (W.cell? ⟨rb, 0, none⟩ = some (.slice (some ⟨ga, 0, none⟩) (n + 1) (n + 1)) ∧ W.cell? ⟨rb, 1, none⟩ = some (.slice (some ⟨gb, 0, none⟩) (n + 1) (n + 1))) ∧ W.cell? ⟨ga, i, none⟩ = some (.int .i64 (a : Nat)) ∧ W.cell? ⟨gb, i, none⟩ = some (.int .i64 (b : Nat))) W → W.cell? ⟨rb, 0, none⟩ = some (.slice (some ⟨ga, 0, none⟩) (n + 1) (n + 1)) := fun W h => h.1.1
  have HS1 : ∀ W : World, (fun W : World => (W.cell? ⟨rb, 0, none⟩ = some (.slice (some ⟨ga, 0, none⟩) (n + 1) (n + 1)) ∧ W.cell? ⟨rb, 1, none⟩ = some (.slice (some ⟨gb, 0, none⟩) (n + 1) (n + 1))) ∧ W.cell? ⟨ga, i, none⟩ = some (.int .i64 (a : Nat)) ∧ W.cell? ⟨gb, i, none⟩ = some (.int .i64 (b : Nat))) W → W.cell? ⟨rb, 1, none⟩ = some (.slice (some ⟨gb, 0, none⟩) (n + 1) (n + 1)) := fun W h => h.1.2
  have HS2 : ∀ W : World, (fun W : World => (W.cell? ⟨rb, 0, none⟩ = some (.slice (some ⟨ga, 0, none⟩) (n + 1) (n + 1)) ∧ W.cell? ⟨rb, 1, none⟩ = some (.slice (some ⟨gb, 0, none⟩) (n + 1) (n + 1))) ∧ W.cell? ⟨ga, i, none⟩ = some (.int .i64 (a : Nat)) ∧ W.cell? ⟨gb, i, none⟩ = some (.int .i64 (b : Nat))) W → W.cell? ⟨ga, i, none⟩ = some (.int .i64 (a : Nat)) := fun W h => h.2.1
  have HS3 : ∀ W : World, (fun W : World => (W.cell? ⟨rb, 0, none⟩ = some (.slice (some ⟨ga, 0, none⟩) (n + 1) (n + 1)) ∧ W.cell? ⟨rb, 1, none⟩ = some (.slice (some ⟨gb, 0, none⟩) (n + 1) (n + 1))) ∧ W.cell? ⟨ga, i, none⟩ = some (.int .i64 (a : Nat)) ∧ W.cell? ⟨gb, i, none⟩ = some (.int .i64 (b : Nat))) W → W.cell? ⟨gb, i, none⟩ = some (.int .i64 (b : Nat)) := fun W h => h.2.2
  have hCd : Chg [rb, ga, gb] w w.drew := (Chg.refl _ _).drew
  have HAB := Lib.hid (And.intro hA hB)
  have HR := Lib.hid hR
  have hh := h.hi
  have hiI : (i : Int) < (n : Int) + 1 := by omega
  have haI : (a : Int) < (n : Int) + 1 := by omega
  have hbI : (b : Int) < (n : Int) + 1 := by omega
  clear h hA hB hR
  go_enter Tryz.func82, Tryz.ntmps82
  go_wp2_with fail
  refine wp_region_noPanic ?_
  refine wp_region_held_drew (S := fun W : World => (W.cell? ⟨rb, 0, none⟩ = some (.slice (some ⟨ga, 0, none⟩) (n + 1) (n + 1)) ∧ W.cell? ⟨rb, 1, none⟩ = some (.slice (some ⟨gb, 0, none⟩) (n + 1) (n + 1))) ∧ W.cell? ⟨ga, i, none⟩ = some (.int .i64 (a : Nat)) ∧ W.cell? ⟨gb, i, none⟩ = some (.int .i64 (b : Nat))) (by kernel_rfl) hS0 (fun _ => ?_)
  generalize w.drew = w1 at *
  refine wpAnyH_take (i := 0) (v := ?_) rfl (by kernel_rfl) (by kernel_rfl) (by kernel_rfl) (fun _ _ _ h => h) (yields_pure (by rfl) (fun w => ?_)) (by with_reducible assumption) ?_
  rotate_left
  · (go_simp <;> with_reducible rfl)
  try simp only [List.getElem_toArray, List.getElem_cons_succ, List.getElem_cons_zero, Act.put, List.setIfInBounds_toArray, List.set_cons_zero, List.set_cons_succ]
  refine wpAnyH_take (i := 1) (v := ?_) rfl (by kernel_rfl) (by kernel_rfl) (by kernel_rfl) (fun _ _ _ h => h) (yields_pure (by rfl) (fun w => ?_)) (by with_reducible assumption) ?_
  rotate_left
  · (go_simp <;> with_reducible rfl)
  try simp only [List.getElem_toArray, List.getElem_cons_succ, List.getElem_cons_zero, Act.put, List.setIfInBounds_toArray, List.set_cons_zero, List.set_cons_succ]
  refine wpAnyH_take (i := 2) (v := ?_) rfl (by kernel_rfl) (by kernel_rfl) (by kernel_rfl) (fun _ _ _ h => h) (yields_pure (by rfl) (fun w => ?_)) (by with_reducible assumption) ?_
  rotate_left
  · (go_simp <;> with_reducible rfl)
  try simp only [List.getElem_toArray, List.getElem_cons_succ, List.getElem_cons_zero, Act.put, List.setIfInBounds_toArray, List.set_cons_zero, List.set_cons_succ]
  refine wpAnyH_take (i := 3) (v := ?_) rfl (by kernel_rfl) (by kernel_rfl) (by kernel_rfl) (fun _ _ _ h => h) (yields_pure (by rfl) (fun w => ?_)) (by with_reducible assumption) ?_
  rotate_left
  · (go_simp <;> with_reducible rfl)
  try simp only [List.getElem_toArray, List.getElem_cons_succ, List.getElem_cons_zero, Act.put, List.setIfInBounds_toArray, List.set_cons_zero, List.set_cons_succ]
  refine wpAnyH_take (i := 4) rfl (by kernel_rfl) (by kernel_rfl) (by kernel_rfl) (fun _ _ _ h => h) (yields_cell (by rfl) 59 (.tmp 7) rfl rb 0 rfl (.slice (some ⟨ga, 0, none⟩) (n + 1) (n + 1)) _ HS0 Tryz.underlying59 rfl) (by with_reducible assumption) ?_
  try simp only [List.getElem_toArray, List.getElem_cons_succ, List.getElem_cons_zero, Act.put, List.setIfInBounds_toArray, List.set_cons_zero, List.set_cons_succ]
  refine wpAnyH_take (i := 5) (v := ?_) rfl (by kernel_rfl) (by kernel_rfl) (by kernel_rfl) (fun _ _ _ h => h) (yields_pure (by rfl) (fun w => ?_)) (by with_reducible assumption) ?_
  rotate_left
  · (go_simp <;> with_reducible rfl)
  try simp only [List.getElem_toArray, List.getElem_cons_succ, List.getElem_cons_zero, Act.put, List.setIfInBounds_toArray, List.set_cons_zero, List.set_cons_succ]
  refine wpAnyH_take (i := 6) (v := ?_) rfl (by kernel_rfl) (by kernel_rfl) (by kernel_rfl) (fun _ _ _ h => h) (yields_pure (by rfl) (fun w => ?_)) (by with_reducible assumption) ?_
  rotate_left
  · (go_simp <;> with_reducible rfl)
  try simp only [List.getElem_toArray, List.getElem_cons_succ, List.getElem_cons_zero, Act.put, List.setIfInBounds_toArray, List.set_cons_zero, List.set_cons_succ]
  refine wpAnyH_take (i := 7) rfl (by kernel_rfl) (by kernel_rfl) (by kernel_rfl) (fun _ _ _ h => h) (yields_cell (by rfl) 3 (.tmp 10) rfl ga i rfl (.int .i64 (a : Nat)) _ HS2 Tryz.underlying3 rfl) (by with_reducible assumption) ?_
  try simp only [List.getElem_toArray, List.getElem_cons_succ, List.getElem_cons_zero, Act.put, List.setIfInBounds_toArray, List.set_cons_zero, List.set_cons_succ]
  refine wpAnyH_take (i := 8) (v := ?_) rfl (by kernel_rfl) (by kernel_rfl) (by kernel_rfl) (fun _ _ _ h => h) (yields_pure (by rfl) (fun w => ?_)) (by with_reducible assumption) ?_
  rotate_left
  · (go_simp <;> with_reducible rfl)
  try simp only [List.getElem_toArray, List.getElem_cons_succ, List.getElem_cons_zero, Act.put, List.setIfInBounds_toArray, List.set_cons_zero, List.set_cons_succ]
  refine wpAnyH_take (i := 9) (v := ?_) rfl (by kernel_rfl) (by kernel_rfl) (by kernel_rfl) (fun _ _ _ h => h) (yields_pure (by rfl) (fun w => ?_)) (by with_reducible assumption) ?_
  rotate_left
  · (go_simp <;> with_reducible rfl)
  try simp only [List.getElem_toArray, List.getElem_cons_succ, List.getElem_cons_zero, Act.put, List.setIfInBounds_toArray, List.set_cons_zero, List.set_cons_succ]
  refine wpAnyH_take (i := 10) (v := ?_) rfl (by kernel_rfl) (by kernel_rfl) (by kernel_rfl) (fun _ _ _ h => h) (yields_pure (by rfl) (fun w => ?_)) (by with_reducible assumption) ?_
  rotate_left
  · (go_simp <;> with_reducible rfl)
  try simp only [List.getElem_toArray, List.getElem_cons_succ, List.getElem_cons_zero, Act.put, List.setIfInBounds_toArray, List.set_cons_zero, List.set_cons_succ]
  refine wpAnyH_take (i := 11) rfl (by kernel_rfl) (by kernel_rfl) (by kernel_rfl) (fun _ _ _ h => h) (yields_cell (by rfl) 59 (.tmp 14) rfl rb 1 rfl (.slice (some ⟨gb, 0, none⟩) (n + 1) (n + 1)) _ HS1 Tryz.underlying59 rfl) (by with_reducible assumption) ?_
  try simp only [List.getElem_toArray, List.getElem_cons_succ, List.getElem_cons_zero, Act.put, List.setIfInBounds_toArray, List.set_cons_zero, List.set_cons_succ]
  refine wpAnyH_take (i := 12) (v := ?_) rfl (by kernel_rfl) (by kernel_rfl) (by kernel_rfl) (fun _ _ _ h => h) (yields_pure (by rfl) (fun w => ?_)) (by with_reducible assumption) ?_
  rotate_left
  · (go_simp <;> with_reducible rfl)
  try simp only [List.getElem_toArray, List.getElem_cons_succ, List.getElem_cons_zero, Act.put, List.setIfInBounds_toArray, List.set_cons_zero, List.set_cons_succ]
  refine wpAnyH_take (i := 13) (v := ?_) rfl (by kernel_rfl) (by kernel_rfl) (by kernel_rfl) (fun _ _ _ h => h) (yields_pure (by rfl) (fun w => ?_)) (by with_reducible assumption) ?_
  rotate_left
  · (go_simp <;> with_reducible rfl)
  try simp only [List.getElem_toArray, List.getElem_cons_succ, List.getElem_cons_zero, Act.put, List.setIfInBounds_toArray, List.set_cons_zero, List.set_cons_succ]
  refine wpAnyH_take (i := 14) rfl (by kernel_rfl) (by kernel_rfl) (by kernel_rfl) (fun _ _ _ h => h) (yields_cell (by rfl) 3 (.tmp 17) rfl gb i rfl (.int .i64 (b : Nat)) _ HS3 Tryz.underlying3 rfl) (by with_reducible assumption) ?_
  try simp only [List.getElem_toArray, List.getElem_cons_succ, List.getElem_cons_zero, Act.put, List.setIfInBounds_toArray, List.set_cons_zero, List.set_cons_succ]
  refine wpAnyH_ready (rs := [15]) (by kernel_rfl) (by simp) (AllReadyH.cons rfl (fun K hK => ?_) AllReadyH.nil)
  go_simp
  refine (join_any HR.out ha hb).mono ?_
  rintro e w2 ⟨rfl, h2, hc2⟩
  have hS2 : (fun W : World => (W.cell? ⟨rb, 0, none⟩ = some (.slice (some ⟨ga, 0, none⟩) (n + 1) (n + 1)) ∧ W.cell? ⟨rb, 1, none⟩ = some (.slice (some ⟨gb, 0, none⟩) (n + 1) (n + 1))) ∧ W.cell? ⟨ga, i, none⟩ = some (.int .i64 (a : Nat)) ∧ W.cell? ⟨gb, i, none⟩ = some (.int .i64 (b : Nat))) w2 := ⟨⟨h2.c0, h2.c1⟩, by
    rw [h2.a_ (by omega), up_other _ _ (Ne.symm hbi), HAB.out.1], by rw [h2.b_ (by omega), up_other _ _ (Ne.symm hai), HAB.out.2]⟩
  have HC2 := Lib.hid (hCd.trans (hc2.more (by simp)))
  have H2 := Lib.hid h2
  refine hK.out _ _ (by with_reducible assumption) (fun _ => ?_)
  clear hK K
  try simp only [List.getElem_toArray, List.getElem_cons_succ, List.getElem_cons_zero, Act.put, List.setIfInBounds_toArray, List.set_cons_zero, List.set_cons_succ]
  refine wpAnyH_done (by kernel_rfl) ?_ _
  refine NoPanic.normal ?_
  clear hS0 hS2 HS0 HS1 HS2 HS3 hc2 h2 hCd HR
  have h0 := H2.out.c0
  have h1 := H2.out.c1
  have k0 := H2.out.a_ (i := i) (by omega)
  have k1 := H2.out.b_ (i := i) (by omega)
  have k2 := H2.out.c2
  have f0 := H2.out.ablk.frozen i
  have f1 := H2.out.bblk.frozen i
  have f2 := H2.out.rblk.frozen 2
  have n1 := H2.out.nr.1
  have n2 := H2.out.nr.2
  have n3 := H2.out.ne
  have n4 := H2.out.ne.symm
  have n5 := n1.symm
  have n6 := n2.symm
  have hmw : IntKind.i64.wrap (m - 1) = m - 1 := by rw [IntKind.wrap_i64]; omega
  clear HAB
  go_wp2_with fail
  go_region
  have H3 := Lib.hid (((H2.out.setA i (-1)).setB i (-1)).chg0 (Chg.refl [] _).drew)
  have HC3 : Hid (Chg [rb, ga, gb] w ((w2.setCell ⟨ga, i, none⟩ (.int .i64 (-1))).setCell ⟨gb, i, none⟩ (.int .i64 (-1))).drew) := Lib.hid ((HC2.out.setCell (p := ⟨ga, i, none⟩) (.inl (by simp)) _).setCell (p := ⟨gb, i, none⟩) (.inl (by simp)) _).drew
  clear h0 h1 k0 k1 k2 f0 f1 f2 H2 HC2
  generalize ((w2.setCell ⟨ga, i, none⟩ (.int .i64 (-1))).setCell ⟨gb, i, none⟩ (.int .i64 (-1))).drew = w3 at *
  have k2 := H3.out.c2
  have f2 := H3.out.rblk.frozen 2
  go_wp2_with fail
  go_end0
  exact ⟨rfl, H3.out.setM _, HC3.out.setCell (p := ⟨rb, 2, none⟩) (.inl (by simp)) _⟩
/-- A list in memory. -/
structure Or (w : World) (lb rb ga gb n : Nat) (od : List Nat) : Prop where
  lblk : Blk w lb 100 #[.pointer (some ⟨rb, 0, none⟩)]
  ring : ∃ A B, Ring w rb ga gb n A B od.length ∧ RI A B n od
section
variable {w w' : World} {lb rb ga gb n : Nat} {od : List Nat} {S : List Nat}
theorem Or.chg (h : Or w lb rb ga gb n od) (hc : Chg S w w') (h0 : lb ∉ S) (h1 : rb ∉ S) (h2 : ga ∉ S) (h3 : gb ∉ S) : Or w' lb rb ga gb n od := by
  obtain ⟨A, B, hr, hi⟩ := h.ring
  exact ⟨h.lblk.chg hc h0, A, B, hr.chg hc h1 h2 h3, hi⟩
theorem Or.chg0 (h : Or w lb rb ga gb n od) (hc : Chg [] w w') : Or w' lb rb ga gb n od := h.chg hc (by simp) (by simp) (by simp) (by simp)
theorem Or.c0 (h : Or w lb rb ga gb n od) : w.cell? ⟨lb, 0, none⟩ = some (.pointer (some ⟨rb, 0, none⟩)) := (h.lblk.cell 0).trans rfl
theorem Or.lt (h : Or w lb rb ga gb n od) : lb < w.heap.size ∧ rb < w.heap.size ∧ ga < w.heap.size ∧ gb < w.heap.size := by
  obtain ⟨A, B, hr, _⟩ := h.ring
  exact ⟨h.lblk.lt, hr.rblk.lt, hr.ablk.lt, hr.bblk.lt⟩
theorem Or.nl (h : Or w lb rb ga gb n od) : lb ≠ rb ∧ lb ≠ ga ∧ lb ≠ gb := by
  obtain ⟨A, B, hr, _⟩ := h.ring
  exact ⟨blk_ne h.lblk hr.rblk (by decide), blk_ne h.lblk hr.ablk (by decide), blk_ne h.lblk hr.bblk (by decide)⟩
theorem Or.len (h : Or w lb rb ga gb n od) : od.length ≤ n ∧ n ≤ 256 := by
  obtain ⟨A, B, hr, hi⟩ := h.ring
  exact ⟨hi.len, hr.hi⟩
end
set_option maxRecDepth 100000 in
set_option maxHeartbeats 1000000 in
theorem first_any {rb ga gb n i b : Nat} {A B : Nat → Int} {m : Int} {w : World} (h : Ring w rb ga gb n A B m) (hi : i < n) (hb : b ≤ n) (hB : B n = (b : Nat)) (hm0 : 0 ≤ m) (hm1 : m ≤ 300) :
    Calls Tryz.prog 79 #[.pointer (some ⟨rb, 0, none⟩), .int .i64 i] w fun e w' => e = .returned (.tuple #[]) ∧ Ring w' rb ga gb n (up (up A i n) b i) (up (up B n i) i b) (m + 1) ∧ Chg [rb, ga, gb] w w' := by
  have hR : Ring w.drew rb ga gb n A B m := h.chg0 (Chg.refl _ _).drew
  have hh := h.hi
  have hcb : w.drew.cell? ⟨gb, n, none⟩ = some (.int .i64 (b : Nat)) := by rw [← hB]; exact hR.b_ (Nat.le_refl _)
  have h1 := hR.c1
  have HR := Lib.hid hR
  have F := fun (W : World) (hW : Ring W rb ga gb n A B m) => own_any hW
  have hCd : Chg [rb, ga, gb] w w.drew := (Chg.refl _ _).drew
  have H1 := Lib.hid (fun W (hc : Chg [] w W) => (h.chg0 hc).c1)
  have H2 : Hid (∀ W, Chg [] w W → W.cell? ⟨gb, n, none⟩ = some (.int .i64 (b : Nat))) := Lib.hid (fun W (hc : Chg [] w W) => by rw [← hB]; exact (h.chg0 hc).b_ (Nat.le_refl _))
  have HO := Lib.hid (fun W (hc : Chg [] w W) => (own_any (h.chg0 hc)).mono fun (e : Ending) w' (h : e = .returned (.int .i64 n) ∧ W = w') => And.intro h.1 (h.2 ▸ hc))
  have HW := Lib.hid h
  have hnI : (n : Int) < (n : Int) + 1 := by omega
  clear h hB hR hcb h1 F
  go_enter Tryz.func79, Tryz.ntmps79
  go_wp2_with fail
  refine wp_region_chg (by kernel_rfl) (by kernel_rfl) ?_
  (with_reducible refine wpQuiet_pure (v := ?_) ?_ (fun w => ?_) ?_); rotate_left; (focus rfl); (focus (go_simp <;> with_reducible rfl)); (try simp only [List.getElem_toArray, List.getElem_cons_succ, List.getElem_cons_zero, Act.put, List.setIfInBounds_toArray, List.set_cons_zero, List.set_cons_succ])
  (with_reducible refine wpQuiet_pure (v := ?_) ?_ (fun w => ?_) ?_); rotate_left; (focus rfl); (focus (go_simp <;> with_reducible rfl)); (try simp only [List.getElem_toArray, List.getElem_cons_succ, List.getElem_cons_zero, Act.put, List.setIfInBounds_toArray, List.set_cons_zero, List.set_cons_succ])
  (with_reducible refine wpQuiet_pure (v := ?_) ?_ (fun w => ?_) ?_); rotate_left; (focus rfl); (focus (go_simp <;> with_reducible rfl)); (try simp only [List.getElem_toArray, List.getElem_cons_succ, List.getElem_cons_zero, Act.put, List.setIfInBounds_toArray, List.set_cons_zero, List.set_cons_succ])
  (with_reducible refine wpQuiet_cellC 59 (.tmp 7) ?_ ?_ rb 1 ?_ (.slice (some ⟨gb, 0, none⟩) (n + 1) (n + 1)) _ H1.out Tryz.underlying59 ?_ ?_); (focus rfl); (focus rfl); (focus rfl); (focus rfl); (try simp only [List.getElem_toArray, List.getElem_cons_succ, List.getElem_cons_zero, Act.put, List.setIfInBounds_toArray, List.set_cons_zero, List.set_cons_succ])
  (with_reducible refine wpQuiet_pure (v := ?_) ?_ (fun w => ?_) ?_); rotate_left; (focus rfl); (focus (go_simp <;> with_reducible rfl)); (try simp only [List.getElem_toArray, List.getElem_cons_succ, List.getElem_cons_zero, Act.put, List.setIfInBounds_toArray, List.set_cons_zero, List.set_cons_succ])
  (with_reducible refine wpQuiet_do ?_ (fun K hK => ?_)); (focus rfl); go_simp; (apply Exists.intro); (refine ⟨fun W hW => HO.out W hW, hK _ ?_⟩); (clear hK K); (try simp only [List.getElem_toArray, List.getElem_cons_succ, List.getElem_cons_zero, Act.put, List.setIfInBounds_toArray, List.set_cons_zero, List.set_cons_succ])
  (with_reducible refine wpQuiet_pure (v := ?_) ?_ (fun w => ?_) ?_); rotate_left; (focus rfl); (focus (go_simp <;> with_reducible rfl)); (try simp only [List.getElem_toArray, List.getElem_cons_succ, List.getElem_cons_zero, Act.put, List.setIfInBounds_toArray, List.set_cons_zero, List.set_cons_succ])
  (with_reducible refine wpQuiet_cellC 3 (.tmp 11) ?_ ?_ gb n ?_ (.int .i64 (b : Nat)) _ H2.out Tryz.underlying3 ?_ ?_); (focus rfl); (focus rfl); (focus rfl); (focus rfl); (try simp only [List.getElem_toArray, List.getElem_cons_succ, List.getElem_cons_zero, Act.put, List.setIfInBounds_toArray, List.set_cons_zero, List.set_cons_succ])
  (with_reducible refine wpQuiet_pure (v := ?_) ?_ (fun w => ?_) ?_); rotate_left; (focus rfl); (focus (go_simp <;> with_reducible rfl)); (try simp only [List.getElem_toArray, List.getElem_cons_succ, List.getElem_cons_zero, Act.put, List.setIfInBounds_toArray, List.set_cons_zero, List.set_cons_succ])
  refine wpQuiet_nil ?_
  intro w1 hc1
  have R1 := Lib.hid (HW.out.chg0 hc1)
  have HC1 := Lib.hid hc1
  clear hc1 H1 H2 HO HW HR hCd
  go_wp2_with fail
  refine (own_any R1.out).mono ?_
  rintro e w' ⟨rfl, rfl⟩
  go_wp2_with fail
  refine (join_any R1.out (Nat.le_refl n) (show i ≤ n by omega)).mono ?_
  rintro e w2 ⟨rfl, h2, hc2⟩
  have R2 := Lib.hid h2
  have HC2 := Lib.hid ((HC1.out.more (by simp)).trans (hc2.more (T := [rb, ga, gb]) (by simp)))
  clear h2 hc2 R1 HC1
  go_wp2_with fail
  refine (join_any R2.out (show i ≤ n by omega) hb).mono ?_
  rintro e w3 ⟨rfl, h3, hc3⟩
  have R3 := Lib.hid h3
  have HC3 := Lib.hid (HC2.out.trans (hc3.more (T := [rb, ga, gb]) (by simp)))
  clear h3 hc3 R2 HC2
  have k2 := R3.out.c2
  have f2 := R3.out.rblk.frozen 2
  have hmw : IntKind.i64.wrap (m + 1) = m + 1 := by rw [IntKind.wrap_i64]; omega
  go_wp2_with fail
  go_end0
  exact ⟨rfl, R3.out.setM _, HC3.out.setCell (p := ⟨rb, 2, none⟩) (.inl (by simp)) _⟩
end Go.Proofs.YtldgdpekhjignaaGreat.Rg
namespace Go.Proofs.YtldgdpekhjignaaGreat.Rg
open Go.RowKit

set_option maxRecDepth 100000 in
set_option maxHeartbeats 1000000 in
theorem may_any {lb rb ga gb n i : Nat} {od : List Nat} {w : World} (h : Or w lb rb ga gb n od) (hi : i < n) :
    Calls Tryz.prog 78 #[.pointer (some ⟨lb, 0, none⟩), .int .i64 i] w fun e w' => e = .returned (.bool true) ∧ w = w' := by
  obtain ⟨A, B, hr, _⟩ := h.ring
  have c0 := h.c0
  have hiI : (i : Int) < (n : Int) := by omega
  have HR := Lib.hid hr
  clear h hr
  go_enter Tryz.func78, Tryz.ntmps78
  go_wp2_with fail
  refine (own_any HR.out).mono ?_
  rintro e w' ⟨rfl, rfl⟩
  go_wp2_with fail
  go_ret
  exact ⟨rfl, rfl⟩
theorem erase_mid {p q : List Nat} {i : Nat} (h : (p ++ i :: q).Nodup) : (p ++ i :: q).erase i = p ++ q := by
  rw [List.erase_append_right _ (nodup_mid h).2.1, List.erase_cons_head]
set_option maxRecDepth 100000 in
set_option maxHeartbeats 1000000 in
theorem has_any {lb rb ga gb n i : Nat} {od : List Nat} {w : World} (h : Or w lb rb ga gb n od) (hi : i < n) :
    Calls Tryz.prog 81 #[.pointer (some ⟨lb, 0, none⟩), .int .i64 i] w fun e w' => e = .returned (.bool (decide (i ∈ od))) ∧ w = w' := by
  obtain ⟨A, B, hr, hI⟩ := h.ring
  have c0 := h.c0
  have F1 := Lib.hid (may_any h hi)
  have F2 := Lib.hid (in_any hr hi)
  have HD : Hid (decide (0 ≤ B i) = decide (i ∈ od)) := Lib.hid (by simp [hI.in_ hi])
  rw [HD.out] at F2
  clear h hr hI HD
  go_enter Tryz.func81, Tryz.ntmps81
  go_wp2_with fail
  refine F1.out.mono ?_
  rintro e w' ⟨rfl, rfl⟩
  go_wp2_with fail
  refine F2.out.mono ?_
  rintro e w' ⟨rfl, rfl⟩
  go_wp2_with fail
  go_ret
  exact ⟨rfl, rfl⟩
set_option maxRecDepth 100000 in
set_option maxHeartbeats 1000000 in
theorem drop_any {lb rb ga gb n i : Nat} {od : List Nat} {w : World} (h : Or w lb rb ga gb n od) (hi : i < n) :
    Calls Tryz.prog 61 #[.pointer (some ⟨lb, 0, none⟩), .int .i64 i] w fun e w' => e = .returned (.bool (decide (i ∈ od))) ∧ Or w' lb rb ga gb n (od.erase i) ∧ Chg [rb, ga, gb] w w' := by
  have F1 := Lib.hid (has_any h hi)
  by_cases hm : i ∈ od
  · obtain ⟨A, B, hr, hI⟩ := h.ring
    have hlen := h.len
    obtain ⟨p, q, ho⟩ := List.append_of_mem hm
    have he : od.erase i = p ++ q := by rw [ho]; exact erase_mid (ho ▸ hI.nd)
    have hle : (p ++ q).length + 1 = od.length := by rw [ho]; simp; omega
    obtain ⟨e1, e2, e3, e4, e5, e6, e7⟩ := hI.cut ho
    have F2 := Lib.hid (cut_any hr hi e3 e4 e5 e6 e1 e2 (by omega) (by omega))
    have hd : decide (i ∈ od) = true := decide_eq_true hm
    rw [hd] at F1 ⊢
    have hml : ((od.length : Nat) : Int) - 1 = (((p ++ q).length : Nat) : Int) := by omega
    rw [hml] at F2
    have HL := Lib.hid h.lblk
    have HI := Lib.hid e7
    have c0 := h.c0
    have HNL := Lib.hid h.nl
    rw [he]
    clear h hr hI ho he hle e1 e2 e3 e4 e5 e6 e7 hml hlen hm hd
    go_enter Tryz.func61, Tryz.ntmps61
    go_wp2_with fail
    refine F1.out.mono ?_
    rintro e w' ⟨rfl, rfl⟩
    clear F1
    go_wp2_with fail
    refine F2.out.mono ?_
    rintro e w2 ⟨rfl, hr2, hc2⟩
    have HFIN : Hid (Or w2 lb rb ga gb n (p ++ q) ∧ Chg [rb, ga, gb] w w2) := Lib.hid ⟨⟨HL.out.chg hc2 (by simpa using HNL.out), _, _, hr2, HI.out⟩, hc2⟩
    clear hr2 hc2 F2 c0
    go_wp2_with fail
    go_ret
    exact ⟨rfl, HFIN.out⟩
  · have hd : decide (i ∈ od) = false := decide_eq_false hm
    rw [hd] at F1 ⊢
    rw [List.erase_of_not_mem hm]
    have HW := Lib.hid h
    clear h hm hd
    go_enter Tryz.func61, Tryz.ntmps61
    go_wp2_with fail
    refine F1.out.mono ?_
    rintro e w' ⟨rfl, rfl⟩
    go_wp2_with fail
    go_ret
    exact ⟨rfl, HW.out, Chg.refl _ _⟩
set_option maxRecDepth 100000 in
set_option maxHeartbeats 1000000 in
theorem touch_any {lb rb ga gb n i : Nat} {od : List Nat} {w : World} (h : Or w lb rb ga gb n od) (hi : i < n) :
    Calls Tryz.prog 57 #[.pointer (some ⟨lb, 0, none⟩), .int .i64 i] w fun e w' => e = .returned (.bool true) ∧ Or w' lb rb ga gb n (i :: od.erase i) ∧ Chg [rb, ga, gb] w w' := by
  have F1 := Lib.hid (may_any h hi)
  have F2 := Lib.hid (drop_any h hi)
  have HN : Hid (i ∉ od.erase i) := Lib.hid (by
    obtain ⟨A, B, _, hI⟩ := h.ring
    exact fun hm => by rw [hI.nd.mem_erase_iff] at hm; exact hm.1 rfl)
  clear h
  generalize hd : decide (i ∈ od) = dd at *
  clear hd
  generalize od.erase i = o1 at *
  go_enter Tryz.func57, Tryz.ntmps57
  go_wp2_with fail
  refine F1.out.mono ?_
  rintro e w' ⟨rfl, rfl⟩
  clear F1
  go_wp2_with fail
  refine F2.out.mono ?_
  rintro e w2 ⟨rfl, h2, hc2⟩
  have c0 := h2.c0
  have hlen := h2.len
  obtain ⟨A, B, hr, hI⟩ := h2.ring
  obtain ⟨e1, e2, e3⟩ := hI.put hi HN.out
  have F3 := Lib.hid (first_any hr hi e2 e1 (by omega) (by omega))
  have HL := Lib.hid h2.lblk
  have HI := Lib.hid e3
  have HNL := Lib.hid h2.nl
  have HC2 := Lib.hid hc2
  have hml : ((o1.length : Nat) : Int) + 1 = (((i :: o1).length : Nat) : Int) := by simp
  rw [hml] at F3
  clear h2 hc2 F2 hr hI e1 e2 e3 hml hlen HN
  go_wp2_with fail
  refine F3.out.mono ?_
  rintro e w3 ⟨rfl, hr3, hc3⟩
  have HFIN : Hid (Or w3 lb rb ga gb n (i :: o1) ∧ Chg [rb, ga, gb] w w3) := Lib.hid ⟨⟨HL.out.chg hc3 (by simpa using HNL.out), _, _, hr3, HI.out⟩, HC2.out.trans hc3⟩
  clear hr3 hc3 F3 c0 HC2 HI HL
  go_wp2_with fail
  go_ret
  exact ⟨rfl, HFIN.out⟩
set_option maxRecDepth 100000 in
set_option maxHeartbeats 1000000 in
theorem len_any {lb rb ga gb n : Nat} {od : List Nat} {w : World} (h : Or w lb rb ga gb n od) :
    Calls Tryz.prog 28 #[.pointer (some ⟨lb, 0, none⟩)] w fun e w' => e = .returned (.int .i64 od.length) ∧ w = w' := by
  obtain ⟨A, B, hr, _⟩ := h.ring
  have c0 := h.c0
  have c2 := hr.c2
  clear h hr
  go_enter Tryz.func28, Tryz.ntmps28
  go_wp2_with fail
  go_ret
  exact ⟨rfl, rfl⟩
set_option maxRecDepth 100000 in
set_option maxHeartbeats 1000000 in
theorem oldest_any {lb rb ga gb n : Nat} {od : List Nat} {w : World} (h : Or w lb rb ga gb n od) (hne : od ≠ []) :
    Calls Tryz.prog 58 #[.pointer (some ⟨lb, 0, none⟩)] w fun e w' => e = .returned (.tuple #[.int .i64 (lastOf n od), .bool true]) ∧ Chg [] w w' := by
  have F1 := Lib.hid (len_any h)
  obtain ⟨A, B, hr, hI⟩ := h.ring
  have hlen := List.length_pos_iff.2 hne
  have hA := hI.oldest
  have H0 := Lib.hid (fun W (hc : Chg [] w W) => (h.chg0 hc).c0)
  have H1 := Lib.hid (fun W (hc : Chg [] w W) => (hr.chg0 hc).c0)
  have H2 : Hid (∀ W, Chg [] w W → W.cell? ⟨ga, n, none⟩ = some (.int .i64 (lastOf n od))) := Lib.hid (fun W (hc : Chg [] w W) => by rw [← hA]; exact (hr.chg0 hc).a_ (Nat.le_refl _))
  have HO := Lib.hid (fun W (hc : Chg [] w W) => (own_any (hr.chg0 hc)).mono fun (e : Ending) w' (h : e = .returned (.int .i64 n) ∧ W = w') => And.intro h.1 (h.2 ▸ hc))
  have hnI : (n : Int) < (n : Int) + 1 := by omega
  have hl0 : ¬ od.length = 0 := by omega
  generalize lastOf n od = la at *
  generalize od.length = L at *
  clear h hr hI hA hne
  go_enter Tryz.func58, Tryz.ntmps58
  go_wp2_with fail
  refine F1.out.mono ?_
  rintro e w' ⟨rfl, rfl⟩
  clear F1
  go_wp2_with fail
  refine wp_region_chg (by kernel_rfl) (by kernel_rfl) ?_
  (with_reducible refine wpQuiet_pure (v := ?_) ?_ (fun w => ?_) ?_); rotate_left; (focus rfl); (focus (go_simp <;> with_reducible rfl)); (try simp only [List.getElem_toArray, List.getElem_cons_succ, List.getElem_cons_zero, Act.put, List.setIfInBounds_toArray, List.set_cons_zero, List.set_cons_succ])
  (with_reducible refine wpQuiet_pure (v := ?_) ?_ (fun w => ?_) ?_); rotate_left; (focus rfl); (focus (go_simp <;> with_reducible rfl)); (try simp only [List.getElem_toArray, List.getElem_cons_succ, List.getElem_cons_zero, Act.put, List.setIfInBounds_toArray, List.set_cons_zero, List.set_cons_succ])
  (with_reducible refine wpQuiet_pure (v := ?_) ?_ (fun w => ?_) ?_); rotate_left; (focus rfl); (focus (go_simp <;> with_reducible rfl)); (try simp only [List.getElem_toArray, List.getElem_cons_succ, List.getElem_cons_zero, Act.put, List.setIfInBounds_toArray, List.set_cons_zero, List.set_cons_succ])
  (with_reducible refine wpQuiet_cellC 95 (.tmp 9) ?_ ?_ lb 0 ?_ (.pointer (some ⟨rb, 0, none⟩)) _ H0.out Tryz.underlying95 ?_ ?_); (focus rfl); (focus rfl); (focus rfl); (focus rfl); (try simp only [List.getElem_toArray, List.getElem_cons_succ, List.getElem_cons_zero, Act.put, List.setIfInBounds_toArray, List.set_cons_zero, List.set_cons_succ])
  (with_reducible refine wpQuiet_pure (v := ?_) ?_ (fun w => ?_) ?_); rotate_left; (focus rfl); (focus (go_simp <;> with_reducible rfl)); (try simp only [List.getElem_toArray, List.getElem_cons_succ, List.getElem_cons_zero, Act.put, List.setIfInBounds_toArray, List.set_cons_zero, List.set_cons_succ])
  (with_reducible refine wpQuiet_pure (v := ?_) ?_ (fun w => ?_) ?_); rotate_left; (focus rfl); (focus (go_simp <;> with_reducible rfl)); (try simp only [List.getElem_toArray, List.getElem_cons_succ, List.getElem_cons_zero, Act.put, List.setIfInBounds_toArray, List.set_cons_zero, List.set_cons_succ])
  (with_reducible refine wpQuiet_cellC 59 (.tmp 12) ?_ ?_ rb 0 ?_ (.slice (some ⟨ga, 0, none⟩) (n + 1) (n + 1)) _ H1.out Tryz.underlying59 ?_ ?_); (focus rfl); (focus rfl); (focus rfl); (focus rfl); (try simp only [List.getElem_toArray, List.getElem_cons_succ, List.getElem_cons_zero, Act.put, List.setIfInBounds_toArray, List.set_cons_zero, List.set_cons_succ])
  (with_reducible refine wpQuiet_pure (v := ?_) ?_ (fun w => ?_) ?_); rotate_left; (focus rfl); (focus (go_simp <;> with_reducible rfl)); (try simp only [List.getElem_toArray, List.getElem_cons_succ, List.getElem_cons_zero, Act.put, List.setIfInBounds_toArray, List.set_cons_zero, List.set_cons_succ])
  (with_reducible refine wpQuiet_pure (v := ?_) ?_ (fun w => ?_) ?_); rotate_left; (focus rfl); (focus (go_simp <;> with_reducible rfl)); (try simp only [List.getElem_toArray, List.getElem_cons_succ, List.getElem_cons_zero, Act.put, List.setIfInBounds_toArray, List.set_cons_zero, List.set_cons_succ])
  (with_reducible refine wpQuiet_pure (v := ?_) ?_ (fun w => ?_) ?_); rotate_left; (focus rfl); (focus (go_simp <;> with_reducible rfl)); (try simp only [List.getElem_toArray, List.getElem_cons_succ, List.getElem_cons_zero, Act.put, List.setIfInBounds_toArray, List.set_cons_zero, List.set_cons_succ])
  (with_reducible refine wpQuiet_cellC 95 (.tmp 16) ?_ ?_ lb 0 ?_ (.pointer (some ⟨rb, 0, none⟩)) _ H0.out Tryz.underlying95 ?_ ?_); (focus rfl); (focus rfl); (focus rfl); (focus rfl); (try simp only [List.getElem_toArray, List.getElem_cons_succ, List.getElem_cons_zero, Act.put, List.setIfInBounds_toArray, List.set_cons_zero, List.set_cons_succ])
  (with_reducible refine wpQuiet_do ?_ (fun K hK => ?_)); (focus rfl); go_simp; (apply Exists.intro); (refine ⟨fun W hW => HO.out W hW, hK _ ?_⟩); (clear hK K); (try simp only [List.getElem_toArray, List.getElem_cons_succ, List.getElem_cons_zero, Act.put, List.setIfInBounds_toArray, List.set_cons_zero, List.set_cons_succ])
  (with_reducible refine wpQuiet_pure (v := ?_) ?_ (fun w => ?_) ?_); rotate_left; (focus rfl); (focus (go_simp <;> with_reducible rfl)); (try simp only [List.getElem_toArray, List.getElem_cons_succ, List.getElem_cons_zero, Act.put, List.setIfInBounds_toArray, List.set_cons_zero, List.set_cons_succ])
  (with_reducible refine wpQuiet_cellC 3 (.tmp 19) ?_ ?_ ga n ?_ (.int .i64 la) _ H2.out Tryz.underlying3 ?_ ?_); (focus rfl); (focus rfl); (focus rfl); (focus rfl); (try simp only [List.getElem_toArray, List.getElem_cons_succ, List.getElem_cons_zero, Act.put, List.setIfInBounds_toArray, List.set_cons_zero, List.set_cons_succ])
  (with_reducible refine wpQuiet_pure (v := ?_) ?_ (fun w => ?_) ?_); rotate_left; (focus rfl); (focus (go_simp <;> with_reducible rfl)); (try simp only [List.getElem_toArray, List.getElem_cons_succ, List.getElem_cons_zero, Act.put, List.setIfInBounds_toArray, List.set_cons_zero, List.set_cons_succ])
  (with_reducible refine wpQuiet_pure (v := ?_) ?_ (fun w => ?_) ?_); rotate_left; (focus rfl); (focus (go_simp <;> with_reducible rfl)); (try simp only [List.getElem_toArray, List.getElem_cons_succ, List.getElem_cons_zero, Act.put, List.setIfInBounds_toArray, List.set_cons_zero, List.set_cons_succ])
  refine wpQuiet_nil ?_
  intro w1 hc1
  have HC := Lib.hid hc1
  clear hc1 H0 H1 H2 HO
  go_wp2_with fail
  go_ret2
  exact ⟨rfl, HC.out⟩
def lenV : Value → Nat
  | .slice _ n _ => n
  | _ => 0
def iv (x : Nat) : Value := .int .i64 (x : Nat)
theorem iv_one (l : List Nat) : ∀ u ∈ l.map iv, u.oneCell' = true := by
  intro u hu
  obtain ⟨x, _, rfl⟩ := List.mem_map.1 hu
  rfl
theorem own_len {w : World} {B : Nat} {T : TypeId} {v : Value} {n : Nat} {xs : List Value} (h : w.ownsRow B T 1 v n xs) : lenV v = n := by
  obtain ⟨A, c, hf⟩ := Sl.form (Sl.of_own h)
  rw [hf]; rfl
set_option maxRecDepth 100000 in
set_option maxHeartbeats 1000000 in
theorem all_any {lb rb ga gb n : Nat} {od : List Nat} {w : World} (h : Or w lb rb ga gb n od) :
    Calls Tryz.prog 29 #[.pointer (some ⟨lb, 0, none⟩)] w fun e w' => ∃ v, e = .returned v ∧ w'.ownsRow w.heap.size 3 1 v od.length (od.map iv) ∧ Chg [] w w' := by
  have F1 := Lib.hid (len_any h)
  by_cases hne : od = []
  · subst hne
    clear h
    go_enter Tryz.func29, Tryz.ntmps29
    go_wp2_with fail
    refine F1.out.mono ?_
    rintro e w' ⟨rfl, rfl⟩
    go_wp2_with fail
    go_ret
    exact ⟨_, rfl, World.ownsRow_nil .., Chg.refl _ _⟩
  obtain ⟨A, B, hr, hI⟩ := h.ring
  have hlen := List.length_pos_iff.2 hne
  have hln := h.len
  have hF := hI.front
  have HNX : Hid (∀ p q x, od = p ++ x :: q → B x = (q.headD n : Nat) ∧ x < n) := Lib.hid fun p q x ho => ⟨hI.next ho, hI.lt x (by rw [ho]; simp)⟩
  have H0 := Lib.hid (fun W (hc : Chg [] w W) => (h.chg0 hc).c0)
  have H1 := Lib.hid (fun W (hc : Chg [] w W) => (hr.chg0 hc).c1)
  have HB := Lib.hid (fun W (hc : Chg [] w W) i (hi : i ≤ n) => (hr.chg0 hc).b_ hi)
  have H2 : Hid (∀ W, Chg [] w W → W.cell? ⟨gb, n, none⟩ = some (.int .i64 (od.headD n : Nat))) := Lib.hid (fun W (hc : Chg [] w W) => by rw [← hF]; exact (hr.chg0 hc).b_ (Nat.le_refl _))
  have HO := Lib.hid (fun W (hc : Chg [] w W) => (own_any (hr.chg0 hc)).mono fun (e : Ending) w' (h : e = .returned (.int .i64 n) ∧ W = w') => And.intro h.1 (h.2 ▸ hc))
  have HO2 := Lib.hid (fun W (hc : Chg [] w W) => own_any (hr.chg0 hc))
  have hnI : (n : Int) < (n : Int) + 1 := by omega
  have hl0 : ¬ od.length = 0 := by omega
  have HL : Hid (∀ p q, od = p ++ q → p.length + q.length = od.length) := Lib.hid fun p q e => by rw [e]; simp
  generalize hhd : od.headD n = hd at *
  have HHD := Lib.hid hhd
  generalize hLL : od.length = L at *
  have HLL := Lib.hid hLL
  clear h hr hI hF hne hhd hLL
  go_enter Tryz.func29, Tryz.ntmps29
  go_wp2_with fail
  refine F1.out.mono ?_
  rintro e w' ⟨rfl, rfl⟩
  clear F1
  go_wp2_with fail
  refine wp_region_chg (by kernel_rfl) (by kernel_rfl) ?_
  (with_reducible refine wpQuiet_pure (v := ?_) ?_ (fun w => ?_) ?_); rotate_left; (focus rfl); (focus (go_simp <;> with_reducible rfl)); (try simp only [List.getElem_toArray, List.getElem_cons_succ, List.getElem_cons_zero, Act.put, List.setIfInBounds_toArray, List.set_cons_zero, List.set_cons_succ])
  (with_reducible refine wpQuiet_pure (v := ?_) ?_ (fun w => ?_) ?_); rotate_left; (focus rfl); (focus (go_simp <;> with_reducible rfl)); (try simp only [List.getElem_toArray, List.getElem_cons_succ, List.getElem_cons_zero, Act.put, List.setIfInBounds_toArray, List.set_cons_zero, List.set_cons_succ])
  (with_reducible refine wpQuiet_pure (v := ?_) ?_ (fun w => ?_) ?_); rotate_left; (focus rfl); (focus (go_simp <;> with_reducible rfl)); (try simp only [List.getElem_toArray, List.getElem_cons_succ, List.getElem_cons_zero, Act.put, List.setIfInBounds_toArray, List.set_cons_zero, List.set_cons_succ])
  (with_reducible refine wpQuiet_cellC 95 (.tmp 10) ?_ ?_ lb 0 ?_ (.pointer (some ⟨rb, 0, none⟩)) _ H0.out Tryz.underlying95 ?_ ?_); (focus rfl); (focus rfl); (focus rfl); (focus rfl); (try simp only [List.getElem_toArray, List.getElem_cons_succ, List.getElem_cons_zero, Act.put, List.setIfInBounds_toArray, List.set_cons_zero, List.set_cons_succ])
  (with_reducible refine wpQuiet_pure (v := ?_) ?_ (fun w => ?_) ?_); rotate_left; (focus rfl); (focus (go_simp <;> with_reducible rfl)); (try simp only [List.getElem_toArray, List.getElem_cons_succ, List.getElem_cons_zero, Act.put, List.setIfInBounds_toArray, List.set_cons_zero, List.set_cons_succ])
  (with_reducible refine wpQuiet_pure (v := ?_) ?_ (fun w => ?_) ?_); rotate_left; (focus rfl); (focus (go_simp <;> with_reducible rfl)); (try simp only [List.getElem_toArray, List.getElem_cons_succ, List.getElem_cons_zero, Act.put, List.setIfInBounds_toArray, List.set_cons_zero, List.set_cons_succ])
  (with_reducible refine wpQuiet_cellC 59 (.tmp 13) ?_ ?_ rb 1 ?_ (.slice (some ⟨gb, 0, none⟩) (n + 1) (n + 1)) _ H1.out Tryz.underlying59 ?_ ?_); (focus rfl); (focus rfl); (focus rfl); (focus rfl); (try simp only [List.getElem_toArray, List.getElem_cons_succ, List.getElem_cons_zero, Act.put, List.setIfInBounds_toArray, List.set_cons_zero, List.set_cons_succ])
  (with_reducible refine wpQuiet_pure (v := ?_) ?_ (fun w => ?_) ?_); rotate_left; (focus rfl); (focus (go_simp <;> with_reducible rfl)); (try simp only [List.getElem_toArray, List.getElem_cons_succ, List.getElem_cons_zero, Act.put, List.setIfInBounds_toArray, List.set_cons_zero, List.set_cons_succ])
  (with_reducible refine wpQuiet_pure (v := ?_) ?_ (fun w => ?_) ?_); rotate_left; (focus rfl); (focus (go_simp <;> with_reducible rfl)); (try simp only [List.getElem_toArray, List.getElem_cons_succ, List.getElem_cons_zero, Act.put, List.setIfInBounds_toArray, List.set_cons_zero, List.set_cons_succ])
  (with_reducible refine wpQuiet_pure (v := ?_) ?_ (fun w => ?_) ?_); rotate_left; (focus rfl); (focus (go_simp <;> with_reducible rfl)); (try simp only [List.getElem_toArray, List.getElem_cons_succ, List.getElem_cons_zero, Act.put, List.setIfInBounds_toArray, List.set_cons_zero, List.set_cons_succ])
  (with_reducible refine wpQuiet_cellC 95 (.tmp 17) ?_ ?_ lb 0 ?_ (.pointer (some ⟨rb, 0, none⟩)) _ H0.out Tryz.underlying95 ?_ ?_); (focus rfl); (focus rfl); (focus rfl); (focus rfl); (try simp only [List.getElem_toArray, List.getElem_cons_succ, List.getElem_cons_zero, Act.put, List.setIfInBounds_toArray, List.set_cons_zero, List.set_cons_succ])
  (with_reducible refine wpQuiet_do ?_ (fun K hK => ?_)); (focus rfl); go_simp; (apply Exists.intro); (refine ⟨fun W hW => HO.out W hW, hK _ ?_⟩); (clear hK K); (try simp only [List.getElem_toArray, List.getElem_cons_succ, List.getElem_cons_zero, Act.put, List.setIfInBounds_toArray, List.set_cons_zero, List.set_cons_succ])
  (with_reducible refine wpQuiet_pure (v := ?_) ?_ (fun w => ?_) ?_); rotate_left; (focus rfl); (focus (go_simp <;> with_reducible rfl)); (try simp only [List.getElem_toArray, List.getElem_cons_succ, List.getElem_cons_zero, Act.put, List.setIfInBounds_toArray, List.set_cons_zero, List.set_cons_succ])
  (with_reducible refine wpQuiet_cellC 3 (.tmp 20) ?_ ?_ gb n ?_ (.int .i64 hd) _ H2.out Tryz.underlying3 ?_ ?_); (focus rfl); (focus rfl); (focus rfl); (focus rfl); (try simp only [List.getElem_toArray, List.getElem_cons_succ, List.getElem_cons_zero, Act.put, List.setIfInBounds_toArray, List.set_cons_zero, List.set_cons_succ])
  (with_reducible refine wpQuiet_pure (v := ?_) ?_ (fun w => ?_) ?_); rotate_left; (focus rfl); (focus (go_simp <;> with_reducible rfl)); (try simp only [List.getElem_toArray, List.getElem_cons_succ, List.getElem_cons_zero, Act.put, List.setIfInBounds_toArray, List.set_cons_zero, List.set_cons_succ])
  refine wpQuiet_nil ?_
  intro w1 hc1
  have HC := Lib.hid hc1
  clear hc1 H2
  go_wp2_with fail
  go_loopw [3, 4] (fun ov xv wr => ∃ (p q : List Nat), xv = .int .i64 (q.headD n : Nat) ∧ p.length + q.length = L ∧ Hid (od = p ++ q) ∧ Hid (wr.ownsRow w.heap.size 3 1 ov p.length (p.map iv)) ∧ Hid (Chg [] w wr)) (fun ov _ _ => L - lenV ov)
  case atStart => exact ⟨[], od, by rw [HHD.out], by simpa using HLL.out, Lib.hid rfl, Lib.hid (World.ownsRow_nil ..), HC⟩
  case round =>
    obtain ⟨p, q, rfl, hpq, HPQ, HOW, HCG⟩ := hrel
    have c0 := H0.out wr HCG.out
    have FO := Lib.hid (HO2.out wr HCG.out)
    cases q with
    | nil =>
      have hx : (([] : List Nat).headD n : Nat) = n := rfl
      rw [hx]
      have HFIN : Hid (wr.ownsRow w.heap.size 3 1 u3 L (od.map iv) ∧ Chg [] w wr) := Lib.hid ⟨by
        have e1 := HPQ.out
        rw [List.append_nil] at e1
        have e2 := HLL.out
        rw [← e2, e1]
        exact HOW.out, HCG.out⟩
      clear HPQ HOW HNX HB H0 H1 HO HC HL HLL HHD hpq
      go_wp2_with fail
      refine FO.out.mono ?_
      rintro e w2 ⟨rfl, rfl⟩
      go_wp2_with fail
      go_ret
      exact ⟨_, rfl, HFIN.out⟩
    | cons x r =>
      have hx : ((x :: r).headD n : Nat) = x := rfl
      rw [hx]
      obtain ⟨hB, hxn⟩ := HNX.out p r x HPQ.out
      have hxI : ¬ (x : Int) = (n : Int) := by omega
      have hxB : (x : Int) < (n : Int) + 1 := by omega
      have hpl : p.length + 1 ≤ L := by simp at hpq; omega
      have HB1 := Lib.hid (And.intro hB (show x ≤ n by omega))
      have HPQ1 : Hid (od = (p ++ [x]) ++ r) := Lib.hid (by rw [HPQ.out]; simp)
      have hpq1 : (p ++ [x]).length + r.length = L := by simp at hpq ⊢; omega
      have hA := (Chg.refl [] wr).alloc (.cells #[.int .i64 x] 3)
      have HR1 := Lib.hid (own_chg HOW.out hA (by simp))
      have HS1 : Hid (Sl (wr.alloc (.cells #[.int .i64 x] 3)) 0 1 (.slice (some ⟨wr.heap.size, 0, none⟩) 1 1) 1 [iv x]) := Lib.hid (Sl.of_own (own_lit (base := 0) wr 3 1 1 #[.int .i64 x] (Nat.zero_le _) (by simp [maxLen]) rfl))
      have HSZ := Lib.hid (own_lt HOW.out)
      have HCA := Lib.hid (HCG.out.trans hA)
      have hws : w.heap.size ≤ (wr.alloc (.cells #[.int .i64 x] 3)).heap.size := HCA.out.size
      have HLV := Lib.hid (fun v (W : World) (h : W.ownsRow w.heap.size 3 1 v (p.length + 1) (p.map iv ++ [iv x])) => own_len h)
      have HSN : Hid (∀ v (W : World), W.ownsRow w.heap.size 3 1 v (p.length + 1) (p.map iv ++ [iv x]) → W.ownsRow w.heap.size 3 1 v (p ++ [x]).length ((p ++ [x]).map iv)) := Lib.hid fun v W h => by rw [List.length_append, List.map_append]; exact h
      have HLU := Lib.hid (own_len HOW.out)
      clear hB HPQ HNX hA HOW hpq
      go_wp2_with fail
      refine FO.out.mono ?_
      rintro e w2 ⟨rfl, rfl⟩
      clear FO
      go_wp2_with (first
        | (at_builtin; refine wpList_app elZ rfl (.tmp 39) (.tmp 41) rfl w.heap.size rfl HR1.out rfl HS1.out (iv_one [x]) (by unfold maxLen; omega) (by omega) hws ?_; intro v1 w5 hown1 hc5 hb5; have HC5 := Lib.hid (HCA.out.trans' hc5 (fun y hy => .inr (HSZ.out y hy).1)); have c05 := H0.out w5 HC5.out; have c15 := H1.out w5 HC5.out; have cb5 : w5.cell? ⟨gb, x, none⟩ = some (.int .i64 (r.headD n : Nat)) := (HB.out w5 HC5.out x HB1.out.2).trans (by rw [HB1.out.1]); clear hc5 c0)
        | fail)
      go_roundw
      case rel => exact ⟨p ++ [x], r, by rw [List.headD_eq_head?_getD], hpq1, HPQ1, Lib.hid (HSN.out _ _ hown1), HC5⟩
      case measure =>
        show L - lenV v1 < L - lenV u3
        rw [HLV.out _ _ hown1, HLU.out]
        omega
end Go.Proofs.YtldgdpekhjignaaGreat.Rg
namespace Go.Proofs.YtldgdpekhjignaaGreat.Rg
open Go.RowKit

def fill (i : Nat) : Nat → Int := fun j => if j < i then -1 else 0
theorem fill_up (i : Nat) : up (fill i) i (-1) = fill (i + 1) := by
  funext j
  unfold up fill
  by_cases h : j = i
  · subst h; simp
  · by_cases h2 : j < i
    · simp [h, h2]; omega
    · have : ¬ j < i + 1 := by omega
      simp [h, h2, this]
theorem made_row (k : Nat) : madeCells #[(.int .i64 0 : Value)] (k * 1) = rowI (fill 0) k := by
  apply Array.ext
  · simp [madeCells, rowI]
  · intro i h1 h2
    simp [madeCells, rowI, fill, Nat.mod_one]
theorem RI.made (n : Nat) : RI (up (fill n) n n) (up (fill n) n n) n [] :=
  ⟨by simp, by simp, ⟨up_same _ _ _, up_same _ _ _⟩, fun i hi _ => by rw [up_other _ _ (by omega)]; simp [fill, hi]⟩
theorem ring_made (w : World) {n p q : Nat} (lo : 1 ≤ n) (hi : n ≤ 256) (h : (p = w.heap.size ∧ q = w.heap.size + 1) ∨ (p = w.heap.size + 1 ∧ q = w.heap.size)) :
    Ring (((w.alloc (.cells (rowI (fill 0) (n + 1)) 3)).alloc (.cells (rowI (fill 0) (n + 1)) 3)).alloc (.cells #[.slice (some ⟨p, 0, none⟩) (n + 1) (n + 1), .slice (some ⟨q, 0, none⟩) (n + 1) (n + 1), .int .i64 0] 97)).drew (w.heap.size + 1 + 1) p q n (fill 0) (fill 0) 0 ∧
    Chg [] w (((w.alloc (.cells (rowI (fill 0) (n + 1)) 3)).alloc (.cells (rowI (fill 0) (n + 1)) 3)).alloc (.cells #[.slice (some ⟨p, 0, none⟩) (n + 1) (n + 1), .slice (some ⟨q, 0, none⟩) (n + 1) (n + 1), .int .i64 0] 97)).drew := by
  refine ⟨?_, ((((Chg.refl _ _).alloc _).alloc _).alloc _).drew⟩
  have hb : Blk (((w.alloc (.cells (rowI (fill 0) (n + 1)) 3)).alloc (.cells (rowI (fill 0) (n + 1)) 3)).alloc (.cells #[.slice (some ⟨p, 0, none⟩) (n + 1) (n + 1), .slice (some ⟨q, 0, none⟩) (n + 1) (n + 1), .int .i64 0] 97)).drew (w.heap.size + 1 + 1) 97 #[.slice (some ⟨p, 0, none⟩) (n + 1) (n + 1), .slice (some ⟨q, 0, none⟩) (n + 1) (n + 1), .int .i64 0] := Blk.drew (Blk.new' (by simp))
  have h1 : Blk (((w.alloc (.cells (rowI (fill 0) (n + 1)) 3)).alloc (.cells (rowI (fill 0) (n + 1)) 3)).alloc (.cells #[.slice (some ⟨p, 0, none⟩) (n + 1) (n + 1), .slice (some ⟨q, 0, none⟩) (n + 1) (n + 1), .int .i64 0] 97)).drew w.heap.size 3 (rowI (fill 0) (n + 1)) := ((Blk.new _ _ _).alloc _).alloc _
  have h2 : Blk (((w.alloc (.cells (rowI (fill 0) (n + 1)) 3)).alloc (.cells (rowI (fill 0) (n + 1)) 3)).alloc (.cells #[.slice (some ⟨p, 0, none⟩) (n + 1) (n + 1), .slice (some ⟨q, 0, none⟩) (n + 1) (n + 1), .int .i64 0] 97)).drew (w.heap.size + 1) 3 (rowI (fill 0) (n + 1)) := (Blk.new' (by simp)).alloc _
  rcases h with ⟨rfl, rfl⟩ | ⟨rfl, rfl⟩
  · exact ⟨lo, hi, hb, h1, h2, by omega⟩
  · exact ⟨lo, hi, hb, h2, h1, by omega⟩
set_option maxRecDepth 100000 in
set_option maxHeartbeats 1000000 in
theorem new_any (n : Nat) (w : World) (lo : 1 ≤ n) (hi : n ≤ 256) :
    Calls Tryz.prog 25 #[.int .i64 n] w fun e w' => ∃ lb rb ga gb, e = .returned (.pointer (some ⟨lb, 0, none⟩)) ∧ w.heap.size ≤ lb ∧ w.heap.size ≤ rb ∧ w.heap.size ≤ ga ∧ w.heap.size ≤ gb ∧ Or w' lb rb ga gb n [] ∧ Chg [] w w' := by
  obtain ⟨i0, hi0, hz0, hz1, hz2⟩ := info_parts elZ.info
  have hmk : ∀ W : World, (Instr.makeSlice 59 (.int .i64 ((n : Int) + 1)) (.int .i64 ((n : Int) + 1))).run Tryz.prog W = .ok (.slice (some ⟨W.heap.size, 0, none⟩) (n + 1) (n + 1)) (W.alloc (.cells (rowI (fill 0) (n + 1)) 3)) := fun W => by
    have := make_run 59 3 i0 (.int .i64 0) elZ.ht hi0 hz0 (n + 1) (n + 1) (Nat.le_refl _) (by rw [hz2]; omega) (by omega) W
    rw [hz1] at this
    rw [← made_row]
    exact this
  have d1 : decide ((n : Int) < 1) = false := by simp; omega
  have d2 : decide ((256 : Int) < n) = false := by simp; omega
  have d3 : decide (n < 1) = false := by simp; omega
  have d4 : decide (256 < n) = false := by simp; omega
  clear hi0 hz0 hz1 hz2
  go_enter Tryz.func25, Tryz.ntmps25
  go_upto_region 3 with fail
  go_cut [3] (fun r wx => ∃ rb ga gb, r = .pointer (some ⟨rb, 0, none⟩) ∧ Hid (Ring wx rb ga gb n (fill 0) (fill 0) 0) ∧ Hid (Chg [] w wx) ∧ Hid (w.heap.size ≤ rb ∧ w.heap.size ≤ ga ∧ w.heap.size ≤ gb))
  case first =>
    go_region
    all_goals go_wp2_with fail
    all_goals go_meet
    · exact ⟨_, _, _, rfl, Lib.hid (ring_made w lo hi (.inl ⟨rfl, rfl⟩)).1, Lib.hid (ring_made w lo hi (.inl ⟨rfl, rfl⟩)).2, Lib.hid ⟨by omega, by omega, by omega⟩⟩
    · exact ⟨_, _, _, rfl, Lib.hid (ring_made w lo hi (.inr ⟨rfl, rfl⟩)).1, Lib.hid (ring_made w lo hi (.inr ⟨rfl, rfl⟩)).2, Lib.hid ⟨by omega, by omega, by omega⟩⟩
  case rest =>
    obtain ⟨rb, ga, gb, rfl, HR, HC, HL⟩ := hcut
    clear hmk d1 d2 d3 d4
    go_wp2_with fail
    go_loopw [20] (fun iv wr => ∃ i : Nat, i ≤ n ∧ iv = .int .i64 i ∧ Hid (Ring wr rb ga gb n (fill i) (fill i) 0) ∧ Hid (Chg [] w wr)) (fun iv _ => n - (intOf iv).toNat)
    case atStart => exact ⟨0, by omega, rfl, HR, HC⟩
    case round =>
      clear HR HC
      obtain ⟨i, hin, rfl, HR, HC⟩ := hrel
      by_cases hlt : i < n
      · have h0 := HR.out.c0
        have h1 := HR.out.c1
        have k0 := HR.out.a_ (i := i) (by omega)
        have k1 := HR.out.b_ (i := i) (by omega)
        have f0 := HR.out.ablk.frozen i
        have f1 := HR.out.bblk.frozen i
        have n1 := HR.out.nr.1
        have n2 := HR.out.nr.2
        have n3 := HR.out.ne
        have n4 := HR.out.ne.symm
        have n5 := n1.symm
        have n6 := n2.symm
        have hiI : (i : Int) < (n : Int) + 1 := by omega
        go_wp2_with fail
        go_region
        have H3 : Hid (Ring ((wr.setCell ⟨ga, i, none⟩ (.int .i64 (-1))).setCell ⟨gb, i, none⟩ (.int .i64 (-1))).drew rb ga gb n (fill (i + 1)) (fill (i + 1)) 0) := Lib.hid (by
          have := ((HR.out.setA i (-1)).setB i (-1)).chg0 (Chg.refl [] _).drew
          rw [fill_up] at this
          exact this)
        have HC3 : Hid (Chg [] w ((wr.setCell ⟨ga, i, none⟩ (.int .i64 (-1))).setCell ⟨gb, i, none⟩ (.int .i64 (-1))).drew) := Lib.hid ((HC.out.setCell (p := ⟨ga, i, none⟩) (.inr HL.out.2.1) _).setCell (p := ⟨gb, i, none⟩) (.inr HL.out.2.2) _).drew
        generalize ((wr.setCell ⟨ga, i, none⟩ (.int .i64 (-1))).setCell ⟨gb, i, none⟩ (.int .i64 (-1))).drew = w3 at *
        go_wp2_with fail
        go_roundw
        case rel => exact ⟨i + 1, by omega, by go_num, H3, HC3⟩
        case measure => simp [intOf]; omega
      · obtain rfl : i = n := by omega
        have FJ := Lib.hid (join_any HR.out (Nat.le_refl _) (Nat.le_refl _))
        clear HR
        go_wp2_with fail
        refine FJ.out.mono ?_
        rintro e w2 ⟨rfl, hR2, hc2⟩
        have HFIN : Hid (Or (w2.alloc (.cells #[.pointer (some ⟨rb, 0, none⟩)] 100)) w2.heap.size rb ga gb i [] ∧ Chg [] w (w2.alloc (.cells #[.pointer (some ⟨rb, 0, none⟩)] 100)) ∧ w.heap.size ≤ w2.heap.size) := Lib.hid ⟨⟨Blk.new _ _ _, _, _, hR2.chg0 ((Chg.refl [] _).alloc _), RI.made i⟩, (HC.out.trans' hc2 (fun x hx => by simp at hx; rcases hx with rfl | rfl; exact .inr HL.out.2.1; exact .inr HL.out.2.2)).alloc _, (HC.out.trans' (S := []) hc2 (fun x hx => by simp at hx; rcases hx with rfl | rfl; exact .inr HL.out.2.1; exact .inr HL.out.2.2)).size⟩
        clear FJ hR2 hc2 HC
        go_wp2_with fail
        go_ret
        exact ⟨_, rb, ga, gb, rfl, HFIN.out.2.2, HL.out.1, HL.out.2.1, HL.out.2.2, HFIN.out.1, HFIN.out.2.1⟩
end Go.Proofs.YtldgdpekhjignaaGreat.Rg
