/-
  PLAIN: what each backend of two tables had, has, and kept. No program in sight; no condition.
-/
import Derived.Maps.Views
set_option linter.unusedVariables false
set_option linter.unusedSimpArgs false
namespace Go.Proofs.YtldgdpekhjignaaGreat

/-- How often it is so below k. -/
def cnt (f : Nat → Bool) (k : Nat) : Nat := (List.range k).countP f
theorem cnt_zero (f : Nat → Bool) : cnt f 0 = 0 := rfl
theorem cnt_succ (f : Nat → Bool) (k : Nat) : cnt f (k + 1) = cnt f k + if f k = true then 1 else 0 := by
  simp [cnt, List.range_succ, List.countP_append, List.countP_cons]
theorem cnt_le (f : Nat → Bool) : ∀ k, cnt f k ≤ k
  | 0 => Nat.le_refl _
  | k + 1 => by rw [cnt_succ]; have := cnt_le f k; split <;> omega
theorem cnt_mono {f g : Nat → Bool} (h : ∀ i, f i = true → g i = true) : ∀ k, cnt f k ≤ cnt g k
  | 0 => Nat.le_refl _
  | k + 1 => by
    rw [cnt_succ, cnt_succ]
    have := cnt_mono h k
    by_cases hf : f k = true
    · rw [if_pos hf, if_pos (h k hf)]; omega
    · rw [if_neg hf]; omega
theorem cnt_congr {f g : Nat → Bool} : ∀ k, (∀ i, i < k → f i = g i) → cnt f k = cnt g k
  | 0, _ => rfl
  | k + 1, h => by rw [cnt_succ, cnt_succ, cnt_congr k (fun i hi => h i (by omega)), h k (by omega)]
theorem cnt_pos {f : Nat → Bool} : ∀ k, 0 < cnt f k ↔ ∃ i, i < k ∧ f i = true
  | 0 => by simp [cnt_zero]
  | k + 1 => by
    rw [cnt_succ]
    by_cases hf : f k = true
    · rw [if_pos hf]
      exact ⟨fun _ => ⟨k, by omega, hf⟩, fun _ => by omega⟩
    · rw [if_neg hf, Nat.add_zero, cnt_pos k]
      constructor
      · rintro ⟨i, hi, h⟩; exact ⟨i, by omega, h⟩
      · rintro ⟨i, hi, h⟩
        refine ⟨i, ?_, h⟩
        rcases Nat.lt_or_ge i k with h1 | h1
        · exact h1
        · rw [show i = k by omega] at h; exact absurd h hf
theorem cnt_split (f : Nat → Bool) : ∀ k, cnt f k + cnt (fun i => !f i) k = k
  | 0 => rfl
  | k + 1 => by
    rw [cnt_succ, cnt_succ]
    have := cnt_split f k
    cases h : f k <;> simp <;> omega

structure R4 where
  node : Int
  had : Int
  has : Int
  kept : Int
theorem R4.ext' {a b : R4} (h1 : a.node = b.node) (h2 : a.had = b.had) (h3 : a.has = b.has) (h4 : a.kept = b.kept) : a = b := by cases a; cases b; simp_all

def aAt (l : List Int) (i : Nat) : Int := l[i]?.getD 0
def hadK (l : List Int) (n : Int) (k : Nat) : Nat := cnt (fun i => aAt l i == n) k
def keptK (was is_ : List Int) (n : Int) (k : Nat) : Nat := cnt (fun i => aAt was i == n && aAt is_ i == n) k
def rowK (was is_ : List Int) (n : Int) (k : Nat) : R4 := ⟨n, hadK was n k, hadK is_ n k, keptK was is_ n k⟩
def Mk (was is_ : List Int) (k : Nat) (n : Int) : Option R4 := if 0 < n ∧ (0 < hadK was n k ∨ 0 < hadK is_ n k) then some (rowK was is_ n k) else none
theorem keptK_le (was is_ : List Int) (n : Int) (k : Nat) : keptK was is_ n k ≤ hadK was n k ∧ keptK was is_ n k ≤ hadK is_ n k :=
  ⟨cnt_mono (fun i h => by simp at h ⊢; exact h.1) k, cnt_mono (fun i h => by simp at h ⊢; exact h.2) k⟩
def upd (M : Int → Option R4) (n a b c : Int) : Int → Option R4 :=
  if n ≤ 0 then M else fun x => if x = n then some ⟨n, ((M n).map R4.had).getD 0 + a, ((M n).map R4.has).getD 0 + b, ((M n).map R4.kept).getD 0 + c⟩ else M x
theorem Mk_zero (was is_ : List Int) : Mk was is_ 0 = fun _ => none := by funext n; simp [Mk, hadK, cnt_zero]
theorem Mk_node {was is_ : List Int} {k : Nat} {n : Int} {r : R4} (h : Mk was is_ k n = some r) : r.node = n ∧ 0 < n ∧ 0 ≤ r.had ∧ r.had ≤ k ∧ 0 ≤ r.has ∧ r.has ≤ k ∧ 0 ≤ r.kept ∧ r.kept ≤ k := by
  unfold Mk at h
  split at h
  · next hc =>
    injection h with h; subst h
    have h1 := cnt_le (fun i => aAt was i == n) k
    have h2 := cnt_le (fun i => aAt is_ i == n) k
    have h3 := cnt_le (fun i => aAt was i == n && aAt is_ i == n) k
    refine ⟨rfl, hc.1, ?_, ?_, ?_, ?_, ?_, ?_⟩ <;> simp [rowK, hadK, keptK] <;> omega
  · cases h
/-- What a function of rows has at a backend, or none. -/
def gH (M : Int → Option R4) (n : Int) : Int := ((M n).map R4.had).getD 0
def gS (M : Int → Option R4) (n : Int) : Int := ((M n).map R4.has).getD 0
def gK (M : Int → Option R4) (n : Int) : Int := ((M n).map R4.kept).getD 0
theorem Mk_vals (was is_ : List Int) (k : Nat) {n : Int} (hn : 0 < n) : gH (Mk was is_ k) n = hadK was n k ∧ gS (Mk was is_ k) n = hadK is_ n k ∧ gK (Mk was is_ k) n = keptK was is_ n k := by
  unfold gH gS gK Mk
  by_cases hc : 0 < hadK was n k ∨ 0 < hadK is_ n k
  · rw [if_pos ⟨hn, hc⟩]; exact ⟨rfl, rfl, rfl⟩
  · rw [if_neg (fun h => hc h.2)]
    have := (keptK_le was is_ n k).1
    refine ⟨?_, ?_, ?_⟩ <;> simp <;> omega
theorem hadK_succ (l : List Int) (n : Int) (k : Nat) : hadK l n (k + 1) = hadK l n k + if aAt l k = n then 1 else 0 := by
  unfold hadK; rw [cnt_succ]; simp
theorem keptK_succ (was is_ : List Int) (n : Int) (k : Nat) : keptK was is_ n (k + 1) = keptK was is_ n k + if aAt was k = n ∧ aAt is_ k = n then 1 else 0 := by
  unfold keptK; rw [cnt_succ]; simp
theorem upd_at (M : Int → Option R4) {n : Int} (hn : 0 < n) (a b c : Int) : upd M n a b c n = some ⟨n, gH M n + a, gS M n + b, gK M n + c⟩ := by
  unfold upd; rw [if_neg (by omega)]; simp [gH, gS, gK]
theorem upd_off (M : Int → Option R4) {n x : Int} (h : x ≠ n) (a b c : Int) : upd M n a b c x = M x := by
  unfold upd; split
  · rfl
  · simp [h]
theorem upd_low (M : Int → Option R4) {n : Int} (h : n ≤ 0) (a b c : Int) : upd M n a b c = M := by unfold upd; rw [if_pos h]
theorem Mk_some {was is_ : List Int} {k : Nat} {n : Int} (hn : 0 < n) (h : 0 < hadK was n k ∨ 0 < hadK is_ n k) : Mk was is_ k n = some (rowK was is_ n k) := by unfold Mk; rw [if_pos ⟨hn, h⟩]
/-- A round. -/
theorem Mk_step (was is_ : List Int) (k : Nat) :
    (if aAt was k = aAt is_ k then upd (upd (upd (Mk was is_ k) (aAt was k) 1 0 0) (aAt is_ k) 0 1 0) (aAt was k) 0 0 1 else upd (upd (Mk was is_ k) (aAt was k) 1 0 0) (aAt is_ k) 0 1 0) = Mk was is_ (k + 1) := by
  funext x
  have hA := hadK_succ was x k
  have hB := hadK_succ is_ x k
  have hC := keptK_succ was is_ x k
  generalize aAt was k = a at *
  generalize aAt is_ k = b at *
  by_cases hx : 0 < x
  · obtain ⟨v1, v2, v3⟩ := Mk_vals was is_ k hx
    have hout : ¬ (a = x) → ¬ (b = x) → Mk was is_ k x = Mk was is_ (k + 1) x := fun h1 h2 => by
      have e1 : hadK was x (k + 1) = hadK was x k := by rw [hA, if_neg h1]; rfl
      have e2 : hadK is_ x (k + 1) = hadK is_ x k := by rw [hB, if_neg h2]; rfl
      have e3 : keptK was is_ x (k + 1) = keptK was is_ x k := by rw [hC, if_neg (fun h => h1 h.1)]; rfl
      unfold Mk rowK; rw [e1, e2, e3]
    by_cases h1 : a = x
    · subst h1
      have hr : Mk was is_ (k + 1) a = some (rowK was is_ a (k + 1)) := Mk_some hx (by rw [hA, if_pos rfl]; omega)
      rw [hr]
      unfold rowK
      rw [hA, hB, hC, if_pos rfl]
      by_cases h2 : a = b
      · subst h2
        rw [if_pos rfl, if_pos rfl, if_pos ⟨rfl, rfl⟩, upd_at _ hx, gH, gS, gK, upd_at _ hx, gH, gS, gK, upd_at _ hx]
        simp [v1, v2, v3]
      · rw [if_neg h2, if_neg (fun e => h2 e.symm), if_neg (fun h => h2 h.2.symm), upd_off _ h2, upd_at _ hx]
        simp [v1, v2, v3]
    · by_cases h2 : b = x
      · subst h2
        have hr : Mk was is_ (k + 1) b = some (rowK was is_ b (k + 1)) := Mk_some hx (by rw [hB, if_pos rfl]; omega)
        rw [hr]
        unfold rowK
        rw [hA, hB, hC, if_pos rfl, if_neg h1, if_neg h1, if_neg (fun h => h1 h.1), upd_at _ hx]
        have e : upd (Mk was is_ k) a 1 0 0 b = Mk was is_ k b := upd_off _ (fun e => h1 e.symm) _ _ _
        unfold gH gS gK at *
        rw [e]
        simp [v1, v2, v3]
      · rw [← hout h1 h2]
        split
        · rw [upd_off _ (fun e => h1 e.symm), upd_off _ (fun e => h2 e.symm), upd_off _ (fun e => h1 e.symm)]
        · rw [upd_off _ (fun e => h2 e.symm), upd_off _ (fun e => h1 e.symm)]
  · have hn : ∀ j, Mk was is_ j x = none := fun j => by unfold Mk; rw [if_neg (fun h => hx h.1)]
    rw [hn]
    have hu : ∀ M : Int → Option R4, ∀ n p q r, M x = none → upd M n p q r x = none := fun M n p q r h => by
      by_cases e : x = n
      · subst e; rw [upd_low _ (by omega)]; exact h
      · rw [upd_off _ e]; exact h
    split
    · exact hu _ _ _ _ _ (hu _ _ _ _ _ (hu _ _ _ _ _ (hn k)))
    · exact hu _ _ _ _ _ (hu _ _ _ _ _ (hn k))

/-- L is what a function of rows holds, rising. -/
def IsRows (M : Int → Option R4) (L : List R4) : Prop := (L.map R4.node).Pairwise (· < ·) ∧ ∀ r, r ∈ L ↔ M r.node = some r
theorem IsRows.one {M : Int → Option R4} {a b : List R4} (ha : IsRows M a) (hb : IsRows M b) : a = b := by
  have pa := List.pairwise_map.1 ha.1
  have pb := List.pairwise_map.1 hb.1
  have na : a.Nodup := pa.imp (fun h e => by rw [e] at h; omega)
  have nb : b.Nodup := pb.imp (fun h e => by rw [e] at h; omega)
  refine List.Perm.eq_of_pairwise (le := fun x y : R4 => x.node < y.node) (fun x y _ _ h1 h2 => by omega) pa pb ?_
  classical
  exact (List.perm_ext_iff_of_nodup na nb).2 fun x => by rw [ha.2, hb.2]
/-- Rows by the rising list of backends. -/
theorem IsRows.of_nodes {was is_ : List Int} {k : Nat} {ns : List Int} (hp : ns.Pairwise (· < ·)) (hm : ∀ n, n ∈ ns ↔ (0 < n ∧ (0 < hadK was n k ∨ 0 < hadK is_ n k))) :
    IsRows (Mk was is_ k) (ns.map fun n => rowK was is_ n k) := by
  refine ⟨by rw [List.map_map]; simpa [Function.comp_def, rowK] using hp, fun r => ?_⟩
  rw [List.mem_map]
  constructor
  · rintro ⟨n, hn, rfl⟩
    have := (hm n).1 hn
    exact Mk_some this.1 this.2
  · intro h
    have hn := Mk_node h
    unfold Mk at h
    split at h
    · next hc =>
      injection h with h
      exact ⟨r.node, (hm _).2 hc, h⟩
    · cases h
theorem hadK_mem {l : List Int} {n : Int} {k : Nat} (hn : 0 < n) (hk : l.length ≤ k) : 0 < hadK l n k ↔ n ∈ l := by
  unfold hadK
  rw [cnt_pos]
  constructor
  · rintro ⟨i, hi, h⟩
    simp [aAt] at h
    cases e : l[i]? with
    | none => rw [e] at h; simp at h; omega
    | some x => rw [e] at h; simp at h; subst h; exact List.mem_of_getElem? e
  · intro h
    obtain ⟨i, hi, rfl⟩ := List.mem_iff_getElem.1 h
    exact ⟨i, by omega, by simp [aAt, List.getElem?_eq_getElem hi]⟩
end Go.Proofs.YtldgdpekhjignaaGreat
