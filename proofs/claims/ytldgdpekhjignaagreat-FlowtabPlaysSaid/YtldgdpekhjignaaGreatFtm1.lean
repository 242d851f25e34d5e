/-
  PLAIN, MEMORY and WALKS: the flow table of the balancer, its inner functions; package phase. Condition: the table is one that New made.
-/
import Derived.Test.YtldgdpekhjignaaGreatSlotsF
import Derived.Test.YtldgdpekhjignaaGreatRecent
import Derived.Test.YtldgdpekhjignaaGreatWheelMem
import Derived.Test.YtldgdpekhjignaaGreatFlow
import Derived.Test.YtldgdpekhjignaaGreatWheelW
import Derived.Test.YtldgdpekhjignaaGreatReg
import Derived.Deep.DeepCutAuto
import Derived.Test.YtldgdpekhjignaaGreatWheelAt
import Derived.Deep.CutBlock
set_option linter.unusedVariables false
set_option linter.unusedSimpArgs false
namespace Go.Proofs.YtldgdpekhjignaaGreat.Ft
open Go.RowKit

/-- An entry. -/
structure En where
  fl : Fl
  node : Int
  st : Int
  til : Int
deriving DecidableEq, Inhabited
/-- What was counted. -/
structure Cn where
  hits : Int
  misses : Int
  learnt : Int
  evicted : Int
  expired : Int
  clashes : Int
deriving DecidableEq
def timeout (s : Int) : Int := if s = 1 then 16 else if s = 2 then 40 else if s = 3 then 12 else if s = 4 then 3 else 8
theorem timeout_le (s : Int) : 3 ≤ timeout s ∧ timeout s ≤ 40 := by unfold timeout; (repeat' split) <;> omega
def known (s : Int) : Int := if s < 0 ∨ 5 ≤ s then 0 else s
/-- The state behind a client's segment; its flags: reset, fin, ack, syn. -/
def next (s : Int) (r f a y : Bool) : Int := if r then 4 else if s = 0 ∨ s = 4 then s else if f then 3 else if s = 1 ∧ a = true ∧ y = false then 2 else s
theorem next_ok {s : Int} (h : 0 ≤ s ∧ s ≤ 4) (r f a y : Bool) : 0 ≤ next s r f a y ∧ next s r f a y ≤ 4 := by unfold next; (repeat' split) <;> omega
structure okE (e : En) : Prop where
  fl : okF e.fl
  node : 0 ≤ e.node ∧ e.node ≤ 65535
  st : 0 ≤ e.st ∧ e.st ≤ 4
def getE (L : List En) (f : Fl) : Option En := L.find? fun e => decide (e.fl = f)
def outE (L : List En) (f : Fl) : List En := L.filter fun e => !decide (e.fl = f)
def e0 : En := ⟨default, 0, 0, 0⟩

/-- What lies behind a table: the order, the entries at their places, the free places, the tick, timers, places of flows, how many, what was counted. -/
structure In where
  od : List Nat
  ls : Nat → En
  fr : List Nat
  now : Int
  wM : Int → Option Int
  kM : Fl → Option Int
  km : Nat
  c : Cn
def updE (ls : Nat → En) (i : Nat) (e : En) : Nat → En := fun j => if j = i then e else ls j
theorem updE_same (ls : Nat → En) (i : Nat) (e : En) : updE ls i e i = e := by simp [updE]
theorem updE_other (ls : Nat → En) {i j : Nat} (e : En) (h : j ≠ i) : updE ls i e j = ls j := by simp [updE, h]
theorem updE_twice (ls : Nat → En) (i : Nat) (e e' : En) : updE (updE ls i e) i e' = updE ls i e' := by
  funext j; unfold updE; split <;> rfl
/-- All fits together; the timers of those in X have gone off. -/
structure Inv (n : Nat) (I : In) (L : List En) (X : List Nat) : Prop where
  ndo : I.od.Nodup
  ndf : I.fr.Nodup
  sep : ∀ i, i ∈ I.od → i ∉ I.fr
  all : ∀ i, i < n ↔ i ∈ I.od ∨ i ∈ I.fr
  L : L = I.od.map I.ls
  key : ∀ f v, I.kM f = some v ↔ ∃ i, i ∈ I.od ∧ (I.ls i).fl = f ∧ v = (i : Nat)
  whl : ∀ id a, I.wM id = some a ↔ ∃ i, i ∈ I.od ∧ i ∉ X ∧ id = (i : Nat) ∧ a = (I.ls i).til
  cnt : I.km = I.od.length
  tm : ∀ i, i ∈ I.od → (I.ls i).til ≤ I.now + 40 ∧ (i ∉ X → I.now < (I.ls i).til)
  ok : ∀ i, i ∈ I.od → okE (I.ls i)
def In.drop (I : In) (i : Nat) : In := { I with od := I.od.erase i, ls := updE I.ls i e0, fr := I.fr ++ [i], wM := noM I.wM i, kM := Fs.noK I.kM (I.ls i).fl, km := I.km - 1 }
def In.renew (I : In) (i : Nat) (e : En) : In := { I with od := i :: I.od.erase i, ls := updE I.ls i e, wM := inM (noM I.wM i) i e.til }
/-- A new entry, at a place that was free. -/
def In.add (I : In) (i : Nat) (fr' : List Nat) (e : En) : In := { I with od := i :: I.od.erase i, ls := updE I.ls i e, fr := fr', wM := inM (noM I.wM i) i e.til, kM := Fs.inK I.kM e.fl (i : Nat), km := I.km + 1 }
section
variable {n : Nat} {I : In} {L : List En} {X : List Nat}
theorem Inv.inj (h : Inv n I L X) {i j : Nat} (hi : i ∈ I.od) (hj : j ∈ I.od) (e : (I.ls i).fl = (I.ls j).fl) : i = j := by
  have h1 := (h.key (I.ls i).fl i).2 ⟨i, hi, rfl, rfl⟩
  have h2 := (h.key (I.ls i).fl j).2 ⟨j, hj, e.symm, rfl⟩
  rw [h1] at h2
  injection h2 with h2
  omega
theorem Inv.nd (h : Inv n I L X) : (L.map En.fl).Nodup := by
  rw [h.L, List.map_map]
  unfold List.Nodup
  rw [List.pairwise_map]
  exact List.Pairwise.imp_of_mem (fun ha hb hne e => hne (h.inj ha hb e)) h.ndo
theorem Inv.len (h : Inv n I L X) : L.length = I.od.length := by rw [h.L, List.length_map]
theorem Inv.le (h : Inv n I L X) : I.od.length + I.fr.length = n := by
  have hp : (I.od ++ I.fr).Perm (List.range n) := by
    refine (List.perm_ext_iff_of_nodup (List.nodup_append.2 ⟨h.ndo, h.ndf, fun a ha b hb e => h.sep a ha (e ▸ hb)⟩) List.nodup_range).2 fun a => ?_
    rw [List.mem_append, List.mem_range]
    exact (h.all a).symm
  have := hp.length_eq
  simpa using this
theorem Inv.some_ (h : Inv n I L X) {f : Fl} {v : Int} (hk : I.kM f = some v) : ∃ i, i ∈ I.od ∧ v = (i : Nat) ∧ (I.ls i).fl = f ∧ i < n ∧ getE L f = some (I.ls i) := by
  obtain ⟨i, hi, hf, hv⟩ := (h.key f v).1 hk
  refine ⟨i, hi, hv, hf, (h.all i).2 (.inl hi), ?_⟩
  unfold getE
  rw [h.L, List.find?_map]
  have : List.find? ((fun e : En => decide (e.fl = f)) ∘ I.ls) I.od = some i := by
    have hex : (List.find? ((fun e : En => decide (e.fl = f)) ∘ I.ls) I.od).isSome = true := by
      rw [List.find?_isSome]
      exact ⟨i, hi, by simp [hf]⟩
    obtain ⟨j, hj⟩ := Option.isSome_iff_exists.1 hex
    have h1 := List.find?_some hj
    have h2 := List.mem_of_find?_eq_some hj
    simp at h1
    rw [hj, h.inj h2 hi (h1.trans hf.symm)]
  rw [this]; rfl
theorem Inv.none_ (h : Inv n I L X) {f : Fl} (hk : I.kM f = none) : getE L f = none ∧ ∀ e ∈ L, e.fl ≠ f := by
  have key : ∀ e ∈ L, e.fl ≠ f := by
    intro e he hf
    rw [h.L] at he
    obtain ⟨i, hi, rfl⟩ := List.mem_map.1 he
    rw [(h.key f i).2 ⟨i, hi, hf, rfl⟩] at hk
    cases hk
  refine ⟨?_, key⟩
  unfold getE
  rw [List.find?_eq_none]
  intro e he
  simpa using key e he
theorem Inv.out_ (h : Inv n I L X) {i : Nat} (hi : i ∈ I.od) (e : En) : (I.od.erase i).map (updE I.ls i e) = outE L (I.ls i).fl := by
  rw [h.ndo.erase_eq_filter, outE, h.L, List.filter_map]
  have e1 : I.od.filter (fun x => x != i) = I.od.filter ((fun e : En => !decide (e.fl = (I.ls i).fl)) ∘ I.ls) := by
    refine List.filter_congr fun j hj => ?_
    by_cases hji : j = i
    · subst hji; simp
    · have : ¬ (I.ls j).fl = (I.ls i).fl := fun e => hji (h.inj hj hi e)
      simp [hji, this]
  rw [← e1]
  refine List.map_congr_left fun j hj => ?_
  have := (List.mem_filter.1 hj).2
  exact updE_other _ _ (by simpa using this)
theorem Inv.drop (h : Inv n I L X) {i : Nat} (hi : i ∈ I.od) : Inv n (I.drop i) (outE L (I.ls i).fl) X := by
  have hin : i < n := (h.all i).2 (.inl hi)
  have hne : ∀ j, j ∈ I.od.erase i ↔ j ≠ i ∧ j ∈ I.od := fun j => h.ndo.mem_erase_iff
  refine ⟨h.ndo.erase i, ?_, ?_, ?_, (h.out_ hi e0).symm, ?_, ?_, ?_, ?_, ?_⟩
  · exact List.nodup_append.2 ⟨h.ndf, by simp, fun a ha b hb e => by simp at hb; subst hb; subst e; exact h.sep _ hi ha⟩
  · intro j hj hm
    obtain ⟨h1, h2⟩ := (hne j).1 hj
    rcases List.mem_append.1 hm with hm | hm
    · exact h.sep j h2 hm
    · simp at hm; exact h1 hm
  · intro j
    show j < n ↔ j ∈ I.od.erase i ∨ j ∈ I.fr ++ [i]
    rw [hne j, List.mem_append, h.all j]
    by_cases e : j = i
    · subst e; simp [hi]
    · simp [e]
  · intro f v
    show Fs.noK I.kM (I.ls i).fl f = some v ↔ ∃ j, j ∈ I.od.erase i ∧ (updE I.ls i e0 j).fl = f ∧ v = (j : Nat)
    constructor
    · intro hk
      unfold Fs.noK at hk
      split at hk
      · cases hk
      · next hf =>
        obtain ⟨j, hj, hjf, hv⟩ := (h.key f v).1 hk
        have hji : j ≠ i := by rintro rfl; exact hf hjf.symm
        exact ⟨j, (hne j).2 ⟨hji, hj⟩, by rw [updE_other _ _ hji]; exact hjf, hv⟩
    · rintro ⟨j, hj, hjf, hv⟩
      obtain ⟨hji, hj⟩ := (hne j).1 hj
      rw [updE_other _ _ hji] at hjf
      unfold Fs.noK
      rw [if_neg (fun e => hji (h.inj hj hi (hjf.trans e)))]
      exact (h.key f v).2 ⟨j, hj, hjf, hv⟩
  · intro id a
    show noM I.wM i id = some a ↔ ∃ j, j ∈ I.od.erase i ∧ j ∉ X ∧ id = (j : Nat) ∧ a = (updE I.ls i e0 j).til
    constructor
    · intro hk
      unfold noM at hk
      split at hk
      · cases hk
      · next hf =>
        obtain ⟨j, hj, hjx, hjf, hv⟩ := (h.whl id a).1 hk
        have hji : j ≠ i := by rintro rfl; exact hf hjf
        exact ⟨j, (hne j).2 ⟨hji, hj⟩, hjx, hjf, by rw [updE_other _ _ hji]; exact hv⟩
    · rintro ⟨j, hj, hjx, hjf, hv⟩
      obtain ⟨hji, hj⟩ := (hne j).1 hj
      rw [updE_other _ _ hji] at hv
      unfold noM
      rw [if_neg (fun e => hji (by omega))]
      exact (h.whl id a).2 ⟨j, hj, hjx, hjf, hv⟩
  · show I.km - 1 = (I.od.erase i).length
    rw [List.length_erase_of_mem hi, h.cnt]
  · intro j hj
    obtain ⟨hji, hj⟩ := (hne j).1 hj
    show (updE I.ls i e0 j).til ≤ _ ∧ _
    rw [show (I.drop i).ls j = I.ls j from updE_other _ _ hji, updE_other _ _ hji]
    exact h.tm j hj
  · intro j hj
    obtain ⟨hji, hj⟩ := (hne j).1 hj
    rw [show (I.drop i).ls j = I.ls j from updE_other _ _ hji]
    exact h.ok j hj
/-- Those whose timers have gone off are out. -/
theorem Inv.clean (h : Inv n I L X) (hX : ∀ i, i ∈ I.od → i ∉ X) : Inv n I L [] :=
  ⟨h.ndo, h.ndf, h.sep, h.all, h.L, h.key, fun id a => (h.whl id a).trans ⟨fun ⟨i, h1, _, h3⟩ => ⟨i, h1, by simp, h3⟩, fun ⟨i, h1, _, h3⟩ => ⟨i, h1, hX i h1, h3⟩⟩, h.cnt, fun i hi => ⟨(h.tm i hi).1, fun _ => (h.tm i hi).2 (hX i hi)⟩, h.ok⟩
theorem Inv.renew (h : Inv n I L []) {i : Nat} (hi : i ∈ I.od) {e : En} (hf : e.fl = (I.ls i).fl) (ht : I.now < e.til ∧ e.til ≤ I.now + 40) (ho : okE e) : Inv n (I.renew i e) (e :: outE L e.fl) [] := by
  have hne : ∀ j, j ∈ I.od.erase i ↔ j ≠ i ∧ j ∈ I.od := fun j => h.ndo.mem_erase_iff
  have hmem : ∀ j, j ∈ i :: I.od.erase i ↔ j ∈ I.od := fun j => by
    rw [List.mem_cons, hne j]
    by_cases e : j = i
    · subst e; simp [hi]
    · simp [e]
  have hfl : ∀ j, (updE I.ls i e j).fl = (I.ls j).fl := fun j => by
    by_cases e1 : j = i
    · subst e1; rw [updE_same]; exact hf
    · rw [updE_other _ _ e1]
  refine ⟨List.nodup_cons.2 ⟨fun hm => ((hne i).1 hm).1 rfl, h.ndo.erase i⟩, h.ndf, fun j hj => h.sep j ((hmem j).1 hj), fun j => ?_, ?_, fun f v => ?_, fun id a => ?_, ?_, fun j hj => ?_, fun j hj => ?_⟩
  · show j < n ↔ j ∈ i :: I.od.erase i ∨ j ∈ I.fr
    rw [hmem j]; exact h.all j
  · show _ = (i :: I.od.erase i).map (updE I.ls i e)
    rw [List.map_cons, updE_same, h.out_ hi e, hf]
  · show I.kM f = some v ↔ ∃ j, j ∈ i :: I.od.erase i ∧ (updE I.ls i e j).fl = f ∧ v = (j : Nat)
    simp only [hmem, hfl]
    exact h.key f v
  · show inM (noM I.wM i) i e.til id = some a ↔ ∃ j, j ∈ i :: I.od.erase i ∧ j ∉ [] ∧ id = (j : Nat) ∧ a = (updE I.ls i e j).til
    simp only [hmem]
    unfold inM
    split
    · next hid =>
      constructor
      · intro h1
        injection h1 with h1
        exact ⟨i, hi, by simp, hid, by rw [updE_same, h1]⟩
      · rintro ⟨j, hj, _, hjd, ha⟩
        have : j = i := by omega
        subst this
        rw [updE_same] at ha
        rw [ha]
    · next hid =>
      unfold noM
      rw [if_neg hid]
      refine (h.whl id a).trans ⟨?_, ?_⟩
      · rintro ⟨j, hj, hx, hjd, ha⟩
        exact ⟨j, hj, hx, hjd, by rw [updE_other _ _ (fun e => hid (by rw [hjd, e]))]; exact ha⟩
      · rintro ⟨j, hj, hx, hjd, ha⟩
        rw [updE_other _ _ (fun e => hid (by rw [hjd, e]))] at ha
        exact ⟨j, hj, hx, hjd, ha⟩
  · show I.km = (i :: I.od.erase i).length
    rw [List.length_cons, List.length_erase_of_mem hi, h.cnt]
    have := List.length_pos_of_mem hi
    omega
  · show (updE I.ls i e j).til ≤ I.now + 40 ∧ (j ∉ [] → I.now < (updE I.ls i e j).til)
    by_cases e1 : j = i
    · subst e1; rw [updE_same]; exact ⟨ht.2, fun _ => ht.1⟩
    · rw [updE_other _ _ e1]; exact h.tm j ((hmem j).1 hj)
  · show okE (updE I.ls i e j)
    by_cases e1 : j = i
    · subst e1; rw [updE_same]; exact ho
    · rw [updE_other _ _ e1]; exact h.ok j ((hmem j).1 hj)
theorem Inv.add (h : Inv n I L []) {i : Nat} {fr' : List Nat} (hfr : I.fr = fr' ++ [i]) {e : En} (hk : I.kM e.fl = none) (ht : I.now < e.til ∧ e.til ≤ I.now + 40) (ho : okE e) : Inv n (I.add i fr' e) (e :: L) [] := by
  have hif : i ∈ I.fr := by rw [hfr]; simp
  have hio : i ∉ I.od := fun hm => h.sep i hm hif
  have hin : i < n := (h.all i).2 (.inr hif)
  have hndf := h.ndf
  rw [hfr, List.nodup_append] at hndf
  have her : I.od.erase i = I.od := List.erase_of_not_mem hio
  have hne : ∀ j, j ∈ I.od → j ≠ i := fun j hj e => hio (e ▸ hj)
  refine ⟨?_, hndf.1, fun j hj => ?_, fun j => ?_, ?_, fun f v => ?_, fun id a => ?_, ?_, fun j hj => ?_, fun j hj => ?_⟩
  · show (i :: I.od.erase i).Nodup
    rw [her]; exact List.nodup_cons.2 ⟨hio, h.ndo⟩
  · have hj : j ∈ i :: I.od.erase i := hj
    rw [her] at hj
    rcases List.mem_cons.1 hj with rfl | hj
    · exact fun hm => hndf.2.2 j hm j (by simp) rfl
    · exact fun hm => h.sep j hj (by rw [hfr]; exact List.mem_append_left _ hm)
  · show j < n ↔ j ∈ i :: I.od.erase i ∨ j ∈ fr'
    rw [her, h.all j, hfr, List.mem_cons, List.mem_append]
    simp only [List.mem_cons, List.not_mem_nil, or_false]
    constructor
    · rintro (h1 | h1 | h1)
      · exact .inl (.inr h1)
      · exact .inr h1
      · exact .inl (.inl h1)
    · rintro ((h1 | h1) | h1)
      · exact .inr (.inr h1)
      · exact .inl h1
      · exact .inr (.inl h1)
  · show _ = (i :: I.od.erase i).map (updE I.ls i e)
    rw [her, List.map_cons, updE_same, h.L]
    congr 1
    exact List.map_congr_left fun j hj => (updE_other _ _ (hne j hj)).symm
  · show Fs.inK I.kM e.fl (i : Nat) f = some v ↔ ∃ j, j ∈ i :: I.od.erase i ∧ (updE I.ls i e j).fl = f ∧ v = (j : Nat)
    rw [her]
    unfold Fs.inK
    split
    · next hf =>
      constructor
      · intro h1
        injection h1 with h1
        exact ⟨i, by simp, by rw [updE_same, hf], h1.symm⟩
      · rintro ⟨j, hj, hjf, hv⟩
        rcases List.mem_cons.1 hj with rfl | hj
        · rw [hv]
        · rw [updE_other _ _ (hne j hj)] at hjf
          rw [← hf, (h.key f j).2 ⟨j, hj, hjf, rfl⟩] at hk
          cases hk
    · next hf =>
      refine (h.key f v).trans ⟨?_, ?_⟩
      · rintro ⟨j, hj, hjf, hv⟩
        exact ⟨j, by simp [hj], by rw [updE_other _ _ (hne j hj)]; exact hjf, hv⟩
      · rintro ⟨j, hj, hjf, hv⟩
        rcases List.mem_cons.1 hj with rfl | hj
        · rw [updE_same] at hjf; exact absurd hjf.symm hf
        · rw [updE_other _ _ (hne j hj)] at hjf
          exact ⟨j, hj, hjf, hv⟩
  · show inM (noM I.wM i) i e.til id = some a ↔ ∃ j, j ∈ i :: I.od.erase i ∧ j ∉ [] ∧ id = (j : Nat) ∧ a = (updE I.ls i e j).til
    rw [her]
    unfold inM
    split
    · next hid =>
      constructor
      · intro h1
        injection h1 with h1
        exact ⟨i, by simp, by simp, hid, by rw [updE_same, h1]⟩
      · rintro ⟨j, hj, _, hjd, ha⟩
        have : j = i := by omega
        subst this
        rw [updE_same] at ha
        rw [ha]
    · next hid =>
      unfold noM
      rw [if_neg hid]
      refine (h.whl id a).trans ⟨?_, ?_⟩
      · rintro ⟨j, hj, hx, hjd, ha⟩
        exact ⟨j, by simp [hj], hx, hjd, by rw [updE_other _ _ (hne j hj)]; exact ha⟩
      · rintro ⟨j, hj, hx, hjd, ha⟩
        rcases List.mem_cons.1 hj with rfl | hj
        · exact absurd hjd hid
        · rw [updE_other _ _ (hne j hj)] at ha
          exact ⟨j, hj, hx, hjd, ha⟩
  · show I.km + 1 = (i :: I.od.erase i).length
    rw [her, List.length_cons, h.cnt]
  · have hj : j ∈ i :: I.od.erase i := hj
    rw [her] at hj
    show (updE I.ls i e j).til ≤ I.now + 40 ∧ (j ∉ [] → I.now < (updE I.ls i e j).til)
    rcases List.mem_cons.1 hj with rfl | hj
    · rw [updE_same]; exact ⟨ht.2, fun _ => ht.1⟩
    · rw [updE_other _ _ (hne j hj)]; exact h.tm j hj
  · have hj : j ∈ i :: I.od.erase i := hj
    rw [her] at hj
    show okE (updE I.ls i e j)
    rcases List.mem_cons.1 hj with rfl | hj
    · rw [updE_same]; exact ho
    · rw [updE_other _ _ (hne j hj)]; exact h.ok j hj
/-- The one touched longest ago. -/
theorem Inv.last (h : Inv n I L X) (hne : I.od ≠ []) : Rg.lastOf n I.od ∈ I.od ∧ outE L (I.ls (Rg.lastOf n I.od)).fl = L.dropLast := by
  obtain ⟨p, x, hpx⟩ : ∃ p x, I.od = p ++ [x] := ⟨I.od.dropLast, I.od.getLast hne, (List.dropLast_concat_getLast hne).symm⟩
  have hl : Rg.lastOf n I.od = x := by rw [hpx]; exact Rg.lastOf_snoc _ _ _
  have hx : x ∈ I.od := by rw [hpx]; simp
  rw [hl]
  refine ⟨hx, ?_⟩
  rw [← h.out_ hx e0, h.L, ← List.map_dropLast]
  have hnd := h.ndo
  rw [hpx] at hnd ⊢
  have hxp : x ∉ p := fun hm => (List.nodup_append.1 hnd).2.2 x hm x (by simp) rfl
  rw [List.erase_append_right _ hxp, List.erase_cons_head, List.append_nil, List.dropLast_concat]
  exact List.map_congr_left fun j hj => updE_other _ _ (fun e => hxp (e ▸ hj))
theorem In.new_inv (n : Nat) : Inv n ⟨[], fun _ => e0, (List.range n).reverse, 0, fun _ => none, fun _ => none, 0, ⟨0, 0, 0, 0, 0, 0⟩⟩ [] [] :=
  ⟨List.nodup_nil, List.pairwise_reverse.2 ((List.nodup_range (n := n)).imp fun {a b} h e => h e.symm), by simp, by simp, rfl, by simp, by simp, rfl, by simp, by simp⟩
end
end Go.Proofs.YtldgdpekhjignaaGreat.Ft
namespace Go.Proofs.YtldgdpekhjignaaGreat.Ft
open Go.RowKit Go.Maps

@[reducible] def arrE (e : En) : Array Value := #[.int .u8 e.fl.src.a0, .int .u8 e.fl.src.a1, .int .u8 e.fl.src.a2, .int .u8 e.fl.src.a3, .int .u8 e.fl.src.a4, .int .u8 e.fl.src.a5, .int .u8 e.fl.src.a6, .int .u8 e.fl.src.a7, .int .u8 e.fl.src.a8, .int .u8 e.fl.src.a9, .int .u8 e.fl.src.a10, .int .u8 e.fl.src.a11, .int .u8 e.fl.src.a12, .int .u8 e.fl.src.a13, .int .u8 e.fl.src.a14, .int .u8 e.fl.src.a15, .int .i64 e.fl.sport, .int .u8 e.fl.dst.a0, .int .u8 e.fl.dst.a1, .int .u8 e.fl.dst.a2, .int .u8 e.fl.dst.a3, .int .u8 e.fl.dst.a4, .int .u8 e.fl.dst.a5, .int .u8 e.fl.dst.a6, .int .u8 e.fl.dst.a7, .int .u8 e.fl.dst.a8, .int .u8 e.fl.dst.a9, .int .u8 e.fl.dst.a10, .int .u8 e.fl.dst.a11, .int .u8 e.fl.dst.a12, .int .u8 e.fl.dst.a13, .int .u8 e.fl.dst.a14, .int .u8 e.fl.dst.a15, .int .i64 e.fl.dport, .int .i64 e.node, .int .i64 e.st, .int .i64 e.til]
def encE (e : En) : List Value := encF e.fl ++ [.int .i64 e.node, .int .i64 e.st, .int .i64 e.til]
theorem encE_len (e : En) : (encE e).length = 37 := rfl
theorem arrE_list (e : En) : (arrE e).toList = encE e := rfl
theorem encE_one (e : En) : ∀ v ∈ encE e, v.oneCell' = true := by
  intro v hv
  simp only [encE, List.mem_append, List.mem_cons, List.not_mem_nil, or_false] at hv
  rcases hv with h | rfl | rfl | rfl
  · exact encF_one _ _ h
  · rfl
  · rfl
  · rfl
theorem infE37 : (Tryz.prog.info? 44).map (·.size) = some 37 := by kernel_rfl
theorem infE {e : En} : (Tryz.prog.info? 44).map (·.size) = some (arrE e).size := infE37

/-- Where a table lies. -/
structure Bx where
  tb : Nat
  pb : Nat
  pc : Nat
  kc : Nat
  lc : Nat
  ob : Nat
  rb : Nat
  ga : Nat
  gb : Nat
  wb : Nat
  wm : Nat
/-- What else its memory says. -/
structure Jx where
  frv : Value
  cs : Nat → Fs.SC Fl
  vs : Nat → Value
  wls : Nat → List TM
  nw : Nat
@[reducible] def arrT (c : Cn) (B : Bx) (n : Nat) (frv : Value) : Array Value := #[.int .i64 c.hits, .int .i64 c.misses, .int .i64 c.learnt, .int .i64 c.evicted, .int .i64 c.expired, .int .i64 c.clashes, .pointer (some ⟨B.pb, 0, none⟩), .slice (some ⟨B.lc, 0, none⟩) n n, frv, .pointer (some ⟨B.ob, 0, none⟩), .pointer (some ⟨B.wb, 0, none⟩)]
structure MemJ (w : World) (B : Bx) (n : Nat) (ka kb : Int) (J : Jx) (I : In) : Prop where
  lo : 1 ≤ n
  hi : n ≤ 64
  tblk : Blk w B.tb 63 (arrT I.c B n J.frv)
  tab : Fs.Tab w B.pb B.pc B.kc (2 * n) ka kb J.cs I.km
  row : RowB encE 37 w B.lc 44 (n * 37) ((List.range n).map I.ls)
  free : w.ownsRow 0 3 1 J.frv I.fr.length (I.fr.map Rg.iv)
  ord : Rg.Or w B.ob B.rb B.ga B.gb n I.od
  whl : Wh w B.wb B.wm J.nw I.now J.vs J.wls I.wM
  kf : Fs.TF (Fs.hm ka kb (2 * n)) J.cs (2 * n) I.kM I.km
  fg : ∀ x ∈ J.frv.ownBlock.toList, x ≠ B.ga ∧ x ≠ B.gb
def fixB (B : Bx) : List Nat := [B.tb, B.pb, B.pc, B.kc, B.lc, B.ob, B.rb, B.ga, B.gb]
def footT (B : Bx) (J : Jx) : List Nat := fixB B ++ (J.frv.ownBlock.toList ++ foot B.wb B.wm J.vs)
theorem mem_footT {B : Bx} {J : Jx} {x : Nat} : x ∈ footT B J ↔ x ∈ fixB B ∨ x ∈ J.frv.ownBlock.toList ∨ x ∈ foot B.wb B.wm J.vs := by
  simp [footT, List.mem_append]
theorem mem_fixB {B : Bx} {x : Nat} : x ∈ fixB B ↔ x = B.tb ∨ x = B.pb ∨ x = B.pc ∨ x = B.kc ∨ x = B.lc ∨ x = B.ob ∨ x = B.rb ∨ x = B.ga ∨ x = B.gb := by simp [fixB]
/-- What kind of block lies at a number. -/
def tagW (w : World) (x : Nat) : Option TypeId := match w.heap[x]? with | some (.cells _ t _) => some t | _ => none
theorem Blk.tag {w : World} {g : Nat} {t : TypeId} {cs : Array Value} (h : Blk w g t cs) : tagW w g = some t := by
  unfold Blk at h; unfold tagW; rw [h]
theorem RowB.tag {α : Type} {enc : α → List Value} {s c : Nat} {w : World} {g : Nat} {t : TypeId} {l : List α} (h : RowB enc s w g t c l) : tagW w g = some t := by
  obtain ⟨cs, hb, _⟩ := h
  exact Blk.tag hb
theorem own_tag {w : World} {base size n : Nat} {e : TypeId} {v : Value} {xs : List Value} (h : w.ownsRow base e size v n xs) : ∀ x ∈ v.ownBlock.toList, tagW w x = some e := by
  intro x hx
  rcases h.2 with ⟨rfl, _⟩ | ⟨g, cap, cur, rfl, _, hb, _⟩
  · simp [Value.ownBlock] at hx
  · simp [Value.ownBlock] at hx
    subst hx
    exact Blk.tag (cs := cur) hb
section
variable {w w' : World} {B : Bx} {n : Nat} {ka kb : Int} {J : Jx} {I : In} {S : List Nat}
theorem MemJ.tags (h : MemJ w B n ka kb J I) : tagW w B.tb = some 63 ∧ tagW w B.pb = some 94 ∧ tagW w B.pc = some 126 ∧ tagW w B.kc = some 24 ∧ tagW w B.lc = some 44 ∧
    tagW w B.ob = some 100 ∧ tagW w B.rb = some 97 ∧ tagW w B.ga = some 3 ∧ tagW w B.gb = some 3 := by
  obtain ⟨P, Q, hr, _⟩ := h.ord.ring
  exact ⟨Blk.tag h.tblk, Blk.tag h.tab.blk, RowB.tag h.tab.row, Blk.tag h.tab.key, RowB.tag h.row, Blk.tag h.ord.lblk, Blk.tag hr.rblk, Blk.tag hr.ablk, Blk.tag hr.bblk⟩
theorem MemJ.tag_f (h : MemJ w B n ka kb J I) : ∀ x ∈ J.frv.ownBlock.toList, tagW w x = some 3 := own_tag h.free
theorem MemJ.tag_w (h : MemJ w B n ka kb J I) : ∀ x ∈ foot B.wb B.wm J.vs, tagW w x = some 105 ∨ tagW w x = none ∨ tagW w x = some 114 := by
  intro x hx
  rcases mem_foot.1 hx with rfl | rfl | ⟨s, hs, hx⟩
  · exact .inl (Blk.tag h.whl.blk)
  · obtain ⟨D, hD, _⟩ := h.whl.own
    right; left
    obtain ⟨es, clk, hm, _⟩ := hD
    unfold tagW; rw [hm]
  · exact .inr (.inr (own_tag (h.whl.rows s hs) x hx))
/-- The wheel's blocks are others than all else. -/
theorem MemJ.w_ne (h : MemJ w B n ka kb J I) : ∀ x ∈ foot B.wb B.wm J.vs, x ∉ fixB B ∧ x ∉ J.frv.ownBlock.toList := by
  intro x hx
  have ht := h.tag_w x hx
  obtain ⟨t1, t2, t3, t4, t5, t6, t7, t8, t9⟩ := h.tags
  refine ⟨fun hm => ?_, fun hm => ?_⟩
  · rcases mem_fixB.1 hm with rfl | rfl | rfl | rfl | rfl | rfl | rfl | rfl | rfl
    all_goals first | rw [t1] at ht | rw [t2] at ht | rw [t3] at ht | rw [t4] at ht | rw [t5] at ht | rw [t6] at ht | rw [t7] at ht | rw [t8] at ht | rw [t9] at ht
    all_goals exact absurd ht (by decide)
  · rw [h.tag_f x hm] at ht
    exact absurd ht (by decide)
theorem MemJ.lt (h : MemJ w B n ka kb J I) : ∀ x ∈ footT B J, x < w.heap.size := by
  intro x hx
  rcases mem_footT.1 hx with hm | hm | hm
  · have h1 := h.tab.lt
    have h2 := h.ord.lt
    have h3 := h.tblk.lt
    have h4 := h.row.lt
    rcases mem_fixB.1 hm with rfl | rfl | rfl | rfl | rfl | rfl | rfl | rfl | rfl <;> omega
  · exact (own_lt h.free x hm).2
  · exact h.whl.lt x hm
theorem MemJ.chg (h : MemJ w B n ka kb J I) (hc : Chg S w w') (hS : ∀ x ∈ S, x ∉ footT B J) : MemJ w' B n ka kb J I := by
  have hf : ∀ x, x ∈ fixB B → x ∉ S := fun x hx hm => hS x hm (mem_footT.2 (.inl hx))
  have g : ∀ {x}, (x = B.tb ∨ x = B.pb ∨ x = B.pc ∨ x = B.kc ∨ x = B.lc ∨ x = B.ob ∨ x = B.rb ∨ x = B.ga ∨ x = B.gb) → x ∉ S := fun hx => hf _ (mem_fixB.2 hx)
  exact ⟨h.lo, h.hi, h.tblk.chg hc (g (by simp)), h.tab.chg hc (g (by simp)) (g (by simp)) (g (by simp)), h.row.chg hc (g (by simp)), own_chg h.free hc (fun x hx hm => hS x hm (mem_footT.2 (.inr (.inl hx)))),
    h.ord.chg hc (g (by simp)) (g (by simp)) (g (by simp)) (g (by simp)), h.whl.chg hc (fun x hx hm => hS x hx (mem_footT.2 (.inr (.inr hm)))), h.kf, h.fg⟩
theorem MemJ.chg0 (h : MemJ w B n ka kb J I) (hc : Chg [] w w') : MemJ w' B n ka kb J I := h.chg hc (by simp)
end
/-- What a call does to a table's memory: it changes its blocks and new ones alone. -/
structure Stp (w w' : World) (B : Bx) (J J' : Jx) : Prop where
  chg : Chg (footT B J) w w'
  ft : ∀ x ∈ footT B J', x ∈ footT B J ∨ w.heap.size ≤ x
theorem Stp.refl {w w' : World} {B : Bx} {J : Jx} (hc : Chg [] w w') : Stp w w' B J J := ⟨hc.more (by simp), fun x hx => .inl hx⟩
theorem Stp.of {w w' : World} {B : Bx} {J : Jx} (hc : Chg (footT B J) w w') : Stp w w' B J J := ⟨hc, fun x hx => .inl hx⟩
theorem Stp.trans {w w' w'' : World} {B : Bx} {J J' J'' : Jx} (h : Stp w w' B J J') (k : Stp w' w'' B J' J'') : Stp w w'' B J J'' :=
  ⟨h.chg.trans' k.chg (fun x hx => h.ft x hx), fun x hx => (k.ft x hx).elim (fun h1 => h.ft x h1) (fun h1 => .inr (by have := h.chg.size; omega))⟩
section
variable {w w' : World} {B : Bx} {n : Nat} {ka kb : Int} {J : Jx} {I : In} {S : List Nat}
theorem fix_sub {B : Bx} {J : Jx} {S : List Nat} (h : ∀ x ∈ S, x ∈ fixB B) : ∀ x ∈ S, x ∈ footT B J := fun x hx => mem_footT.2 (.inl (h x hx))
/-- The timers have changed. -/
theorem MemJ.setW (h : MemJ w B n ka kb J I) {now' : Int} {vs' : Nat → Value} {wls' : Nat → List TM} {wM' : Int → Option Int} {nw' : Nat} (hw : Wh w' B.wb B.wm nw' now' vs' wls' wM') (hc : Chg (foot B.wb B.wm J.vs) w w') (hf : ∀ x ∈ foot B.wb B.wm vs', x ∈ foot B.wb B.wm J.vs ∨ w.heap.size ≤ x) :
    MemJ w' B n ka kb { J with vs := vs', wls := wls', nw := nw' } { I with now := now', wM := wM' } ∧ Stp w w' B J { J with vs := vs', wls := wls', nw := nw' } := by
  have hne := h.w_ne
  have g : ∀ {x}, (x = B.tb ∨ x = B.pb ∨ x = B.pc ∨ x = B.kc ∨ x = B.lc ∨ x = B.ob ∨ x = B.rb ∨ x = B.ga ∨ x = B.gb) → x ∉ foot B.wb B.wm J.vs := fun hx hm => (hne _ hm).1 (mem_fixB.2 hx)
  refine ⟨⟨h.lo, h.hi, h.tblk.chg hc (g (by simp)), h.tab.chg hc (g (by simp)) (g (by simp)) (g (by simp)), h.row.chg hc (g (by simp)), own_chg h.free hc (fun x hx hm => (hne x hm).2 hx),
    h.ord.chg hc (g (by simp)) (g (by simp)) (g (by simp)) (g (by simp)), hw, h.kf, h.fg⟩, hc.more (fun x hx => mem_footT.2 (.inr (.inr hx))), fun x hx => ?_⟩
  rcases mem_footT.1 hx with h1 | h1 | h1
  · exact .inl (mem_footT.2 (.inl h1))
  · exact .inl (mem_footT.2 (.inr (.inl h1)))
  · exact (hf x h1).imp (fun h2 => mem_footT.2 (.inr (.inr h2))) id
/-- The order has changed. -/
theorem MemJ.setO (h : MemJ w B n ka kb J I) {od' : List Nat} (ho : Rg.Or w' B.ob B.rb B.ga B.gb n od') (hc : Chg [B.rb, B.ga, B.gb] w w') : MemJ w' B n ka kb J { I with od := od' } ∧ Stp w w' B J J := by
  have hne := h.w_ne
  obtain ⟨t1, t2, t3, t4, t5, t6, t7, t8, t9⟩ := h.tags
  have ng : ∀ {x}, tagW w x ≠ some 97 → tagW w x ≠ some 3 → x ∉ [B.rb, B.ga, B.gb] := fun h1 h2 hm => by
    simp only [List.mem_cons, List.not_mem_nil, or_false] at hm
    rcases hm with rfl | rfl | rfl
    · exact h1 t7
    · exact h2 t8
    · exact h2 t9
  refine ⟨⟨h.lo, h.hi, h.tblk.chg hc (ng (by rw [t1]; decide) (by rw [t1]; decide)), h.tab.chg hc (ng (by rw [t2]; decide) (by rw [t2]; decide)) (ng (by rw [t3]; decide) (by rw [t3]; decide)) (ng (by rw [t4]; decide) (by rw [t4]; decide)),
    h.row.chg hc (ng (by rw [t5]; decide) (by rw [t5]; decide)), own_chg h.free hc (fun x hx hm => ?_), ho, h.whl.chg hc (fun x hx hm => (hne x hm).1 (mem_fixB.2 ?_)), h.kf, h.fg⟩, Stp.of (hc.more (fix_sub fun x hx => mem_fixB.2 ?_))⟩
  · simp only [List.mem_cons, List.not_mem_nil, or_false] at hm
    rcases hm with rfl | h1 | h1
    · rw [h.tag_f _ hx] at t7; exact absurd t7 (by decide)
    · exact (h.fg x hx).1 h1
    · exact (h.fg x hx).2 h1
  · simp only [List.mem_cons, List.not_mem_nil, or_false] at hx; rcases hx with rfl | rfl | rfl <;> simp
  · simp only [List.mem_cons, List.not_mem_nil, or_false] at hx; rcases hx with rfl | rfl | rfl <;> simp
/-- The places of flows have changed. -/
theorem MemJ.setP (h : MemJ w B n ka kb J I) {cs' : Nat → Fs.SC Fl} {kM' : Fl → Option Int} {km' : Nat} (ht : Fs.Tab w' B.pb B.pc B.kc (2 * n) ka kb cs' km') (hk : Fs.TF (Fs.hm ka kb (2 * n)) cs' (2 * n) kM' km') (hc : Chg [B.pb, B.pc] w w') :
    MemJ w' B n ka kb { J with cs := cs' } { I with kM := kM', km := km' } ∧ Stp w w' B J { J with cs := cs' } := by
  have hne := h.w_ne
  obtain ⟨t1, t2, t3, t4, t5, t6, t7, t8, t9⟩ := h.tags
  have ng : ∀ {x}, tagW w x ≠ some 94 → tagW w x ≠ some 126 → x ∉ [B.pb, B.pc] := fun h1 h2 hm => by
    simp only [List.mem_cons, List.not_mem_nil, or_false] at hm
    rcases hm with rfl | rfl
    · exact h1 t2
    · exact h2 t3
  refine ⟨⟨h.lo, h.hi, h.tblk.chg hc (ng (by rw [t1]; decide) (by rw [t1]; decide)), ht,
    h.row.chg hc (ng (by rw [t5]; decide) (by rw [t5]; decide)), own_chg h.free hc (fun x hx => ng (by rw [h.tag_f x hx]; decide) (by rw [h.tag_f x hx]; decide)),
    h.ord.chg hc (ng (by rw [t6]; decide) (by rw [t6]; decide)) (ng (by rw [t7]; decide) (by rw [t7]; decide)) (ng (by rw [t8]; decide) (by rw [t8]; decide)) (ng (by rw [t9]; decide) (by rw [t9]; decide)),
    h.whl.chg hc (fun x hx hm => (hne x hm).1 (mem_fixB.2 ?_)), hk, h.fg⟩, ⟨hc.more (fix_sub fun x hx => mem_fixB.2 ?_), fun x hx => .inl hx⟩⟩
  · simp only [List.mem_cons, List.not_mem_nil, or_false] at hx; rcases hx with rfl | rfl <;> simp
  · simp only [List.mem_cons, List.not_mem_nil, or_false] at hx; rcases hx with rfl | rfl <;> simp
/-- An entry has changed. -/
theorem MemJ.setL (h : MemJ w B n ka kb J I) {ls' : Nat → En} (hr : RowB encE 37 w' B.lc 44 (n * 37) ((List.range n).map ls')) (hc : Chg [B.lc] w w') : MemJ w' B n ka kb J { I with ls := ls' } ∧ Stp w w' B J J := by
  have hne := h.w_ne
  obtain ⟨t1, t2, t3, t4, t5, t6, t7, t8, t9⟩ := h.tags
  have ng : ∀ {x}, tagW w x ≠ some 44 → x ∉ [B.lc] := fun h1 hm => by
    simp only [List.mem_cons, List.not_mem_nil, or_false] at hm
    subst hm
    exact h1 t5
  refine ⟨⟨h.lo, h.hi, h.tblk.chg hc (ng (by rw [t1]; decide)), h.tab.chg hc (ng (by rw [t2]; decide)) (ng (by rw [t3]; decide)) (ng (by rw [t4]; decide)),
    hr, own_chg h.free hc (fun x hx => ng (by rw [h.tag_f x hx]; decide)),
    h.ord.chg hc (ng (by rw [t6]; decide)) (ng (by rw [t7]; decide)) (ng (by rw [t8]; decide)) (ng (by rw [t9]; decide)),
    h.whl.chg hc (fun x hx hm => (hne x hm).1 (mem_fixB.2 ?_)), h.kf, h.fg⟩, Stp.of (hc.more (fix_sub fun x hx => mem_fixB.2 ?_))⟩
  · simp only [List.mem_cons, List.not_mem_nil, or_false] at hx; subst hx; simp
  · simp only [List.mem_cons, List.not_mem_nil, or_false] at hx; subst hx; simp
/-- The table's own block has changed: what was counted, the free places. -/
theorem MemJ.setT (h : MemJ w B n ka kb J I) {c' : Cn} {fr' : List Nat} {frv' : Value} (hb : Blk w' B.tb 63 (arrT c' B n frv')) (hr : w'.ownsRow 0 3 1 frv' fr'.length (fr'.map Rg.iv)) (hfr : ∀ x ∈ frv'.ownBlock.toList, x ∈ J.frv.ownBlock.toList ∨ w.heap.size ≤ x)
    (hc : Chg (B.tb :: J.frv.ownBlock.toList) w w') : MemJ w' B n ka kb { J with frv := frv' } { I with c := c', fr := fr' } ∧ Stp w w' B J { J with frv := frv' } := by
  have hne := h.w_ne
  have hlt := h.lt
  obtain ⟨t1, t2, t3, t4, t5, t6, t7, t8, t9⟩ := h.tags
  have ng : ∀ {x}, tagW w x ≠ some 63 → tagW w x ≠ some 3 → x ∉ B.tb :: J.frv.ownBlock.toList := fun h1 h2 hm => by
    rcases List.mem_cons.1 hm with rfl | hm
    · exact h1 t1
    · exact h2 (h.tag_f _ hm)
  have nga : B.ga ∉ B.tb :: J.frv.ownBlock.toList := fun hm => by
    rcases List.mem_cons.1 hm with e | hm
    · rw [e, t1] at t8; exact absurd t8 (by decide)
    · exact (h.fg _ hm).1 rfl
  have ngb : B.gb ∉ B.tb :: J.frv.ownBlock.toList := fun hm => by
    rcases List.mem_cons.1 hm with e | hm
    · rw [e, t1] at t9; exact absurd t9 (by decide)
    · exact (h.fg _ hm).2 rfl
  refine ⟨⟨h.lo, h.hi, hb, h.tab.chg hc (ng (by rw [t2]; decide) (by rw [t2]; decide)) (ng (by rw [t3]; decide) (by rw [t3]; decide)) (ng (by rw [t4]; decide) (by rw [t4]; decide)),
    h.row.chg hc (ng (by rw [t5]; decide) (by rw [t5]; decide)), hr,
    h.ord.chg hc (ng (by rw [t6]; decide) (by rw [t6]; decide)) (ng (by rw [t7]; decide) (by rw [t7]; decide)) nga ngb,
    h.whl.chg hc (fun x hx hm => ?_), h.kf, fun x hx => ?_⟩, hc.more (fun x hx => ?_), fun x hx => ?_⟩
  · rcases List.mem_cons.1 hx with rfl | hx
    · exact (hne _ hm).1 (mem_fixB.2 (by simp))
    · exact (hne _ hm).2 hx
  · rcases hfr x hx with h1 | h1
    · exact h.fg x h1
    · have l8 := hlt B.ga (mem_footT.2 (.inl (mem_fixB.2 (by simp))))
      have l9 := hlt B.gb (mem_footT.2 (.inl (mem_fixB.2 (by simp))))
      exact ⟨by omega, by omega⟩
  · rcases List.mem_cons.1 hx with rfl | hx
    · exact mem_footT.2 (.inl (mem_fixB.2 (by simp)))
    · exact mem_footT.2 (.inr (.inl hx))
  · rcases mem_footT.1 hx with h1 | h1 | h1
    · exact .inl (mem_footT.2 (.inl h1))
    · exact (hfr x h1).imp (fun h2 => mem_footT.2 (.inr (.inl h2))) id
    · exact .inl (mem_footT.2 (.inr (.inr h1)))
/-- One number counted is another one. -/
theorem MemJ.setC (h : MemJ w B n ka kb J I) {c' : Cn} {i : Nat} {u : Value} (he : (arrT I.c B n J.frv).setIfInBounds i u = arrT c' B n J.frv) : MemJ (w.setCell ⟨B.tb, i, none⟩ u) B n ka kb J { I with c := c' } ∧ Stp w (w.setCell ⟨B.tb, i, none⟩ u) B J J := by
  have hc : Chg (B.tb :: J.frv.ownBlock.toList) w (w.setCell ⟨B.tb, i, none⟩ u) := (Chg.refl _ _).setCell (p := ⟨B.tb, i, none⟩) (.inl (by simp)) _
  have hb := h.tblk.set_ i u
  rw [he] at hb
  have t1 := h.tags.1
  exact h.setT (c' := c') (fr' := I.fr) (frv' := J.frv) hb (own_chg h.free ((Chg.refl [B.tb] _).setCell (p := ⟨B.tb, i, none⟩) (.inl (by simp)) _) (fun x hx hm => by
    simp only [List.mem_cons, List.not_mem_nil, or_false] at hm
    subst hm
    rw [h.tag_f _ hx] at t1
    exact absurd t1 (by decide))) (fun x hx => .inl hx) hc
end
section
variable {w : World} {B : Bx} {n : Nat} {ka kb : Int} {J : Jx} {I : In}
theorem MemJ.cT (h : MemJ w B n ka kb J I) (i : Nat) : w.cell? ⟨B.tb, i, none⟩ = (arrT I.c B n J.frv)[i]? := h.tblk.cell i
theorem MemJ.fT (h : MemJ w B n ka kb J I) (i : Nat) : w.frozen? ⟨B.tb, i, none⟩ = false := h.tblk.frozen i
theorem MemJ.at_ (h : MemJ w B n ka kb J I) {i j : Nat} (hi : i < n) {u : Value} (hu : (encE (I.ls i))[j]? = some u) : w.cell? ⟨B.lc, i * 37 + j, none⟩ = some u ∧ w.frozen? ⟨B.lc, i * 37 + j, none⟩ = false := h.row.at_ encE_len (by simp [hi]) hu
theorem MemJ.flow (h : MemJ w B n ka kb J I) {i : Nat} (hi : i < n) : w.rangeAt B.lc (i * 37) (arrF (I.ls i).fl).toList := fun j u hu => by
  have hj : j < 34 := (List.getElem?_eq_some_iff.1 hu).1
  refine (h.at_ hi (j := j) ?_).1
  rw [encE, List.getElem?_append_left (by show j < 34; exact hj)]
  exact hu
theorem MemJ.all (h : MemJ w B n ka kb J I) {i : Nat} (hi : i < n) : w.rangeAt B.lc (i * 37) (arrE (I.ls i)).toList := fun j u hu => (h.at_ hi (j := j) hu).1
end
theorem updE_range (ls : Nat → En) {i n : Nat} (hi : i < n) (u : En) : ((List.range n).map ls).set i u = (List.range n).map (updE ls i u) := by
  apply List.ext_getElem?
  intro j
  rw [List.getElem?_set]
  by_cases e : i = j
  · subst e
    simp [hi, updE]
  · have e' : j ≠ i := fun h => e h.symm
    simp only [List.getElem?_map, List.getElem?_range, e, if_false]
    by_cases hj : j < n
    · simp [hj, updE, e']
    · simp [hj]
theorem RowB.cellSet {w : World} {g n : Nat} {ls : Nat → En} (h : RowB encE 37 w g 44 (n * 37) ((List.range n).map ls)) {i j : Nat} {u : Value} (hi : i < n) (hj : j < 37) {e : En} (he : encE e = (encE (ls i)).set j u) :
    RowB encE 37 (w.setCell ⟨g, i * 37 + j, none⟩ u) g 44 (n * 37) ((List.range n).map (updE ls i e)) := by
  obtain ⟨cs, hb, hc, ht⟩ := h
  refine ⟨_, hb.set_ (i * 37 + j) u, by simpa using hc, ?_⟩
  rw [← updE_range ls hi, List.length_set, Array.toList_setIfInBounds, List.take_set, ht]
  exact flat_set encE_len _ i j (ls i) e u hj (by simp [hi]) he
end Go.Proofs.YtldgdpekhjignaaGreat.Ft
namespace Go.Proofs.YtldgdpekhjignaaGreat.Ft
open Go.RowKit

theorem nat_and_pow (n i : Nat) : n &&& 2 ^ i = if n.testBit i then 2 ^ i else 0 := by
  apply Nat.eq_of_testBit_eq
  intro j
  rw [Nat.testBit_and, Nat.testBit_two_pow]
  by_cases e : i = j
  · subst e
    cases h : n.testBit i <;> simp
  · simp only [e, decide_false, Bool.and_false]
    split <;> simp [Nat.testBit_two_pow, e]
def hasF (fl m : Int) : Bool := bits .and .i64 fl m == m
theorem and_pow (fl : Int) (i : Nat) (hi : i < 62) : bits .and .i64 fl ((2 ^ i : Nat) : Int) = if (fl % 18446744073709551616).toNat.testBit i then ((2 ^ i : Nat) : Int) else 0 := by
  unfold bits
  show IntKind.i64.wrap ((BitVec.ofInt 64 fl &&& BitVec.ofInt 64 ((2 ^ i : Nat) : Int)).toNat : Int) = _
  have hp : 2 ^ i < 4611686018427387904 := by
    have := Nat.pow_lt_pow_right (a := 2) (by omega) hi
    simpa using this
  have e1 : (BitVec.ofInt 64 fl).toNat = (fl % 18446744073709551616).toNat := by
    rw [BitVec.toNat_ofInt]; rfl
  have e2 : (BitVec.ofInt 64 ((2 ^ i : Nat) : Int)).toNat = 2 ^ i := by
    rw [BitVec.toNat_ofInt]
    have : (((2 ^ i : Nat) : Int) % ((2 ^ 64 : Nat) : Int)).toNat = 2 ^ i := by
      generalize 2 ^ i = q at *
      omega
    exact this
  rw [BitVec.toNat_and, e1, e2, nat_and_pow]
  cases (fl % 18446744073709551616).toNat.testBit i with
  | false => simp [IntKind.wrap_i64]
  | true =>
    simp only [if_true]
    rw [IntKind.wrap_i64]
    generalize 2 ^ i = q at *
    omega
theorem hasF_pow (fl : Int) (i : Nat) (hi : i < 62) : hasF fl ((2 ^ i : Nat) : Int) = (fl % 18446744073709551616).toNat.testBit i := by
  unfold hasF
  rw [and_pow fl i hi]
  have hp : 0 < 2 ^ i := Nat.two_pow_pos i
  cases (fl % 18446744073709551616).toNat.testBit i with
  | false =>
    simp only [Bool.false_eq_true, if_false]
    rw [beq_eq_false_iff_ne]
    omega
  | true => simp
theorem bit_1 (fl : Int) : (bits .and .i64 (fl / 2 ^ (0 : Int).toNat) 1 == 1) = hasF fl 1 := by simp [hasF]
theorem bit_2 (fl : Int) : (bits .and .i64 (fl / 2 ^ (1 : Int).toNat) 1 == 1) = hasF fl 2 := by
  have h1 := hasF_pow fl 1 (by omega)
  have h2 := hasF_pow (fl / 2 ^ (1 : Int).toNat) 0 (by omega)
  unfold hasF at h2
  refine h2.trans (Eq.trans ?_ h1.symm)
  rw [Nat.testBit_eq_decide_div_mod_eq, Nat.testBit_eq_decide_div_mod_eq]
  simp only [Int.toNat_one, Int.pow_one, Nat.pow_zero, Nat.pow_one, Nat.div_one]
  rw [decide_eq_decide]
  omega
theorem bit_4 (fl : Int) : (bits .and .i64 (fl / 2 ^ (2 : Int).toNat) 1 == 1) = hasF fl 4 := by
  have h1 := hasF_pow fl 2 (by omega)
  have h2 := hasF_pow (fl / 2 ^ (2 : Int).toNat) 0 (by omega)
  unfold hasF at h2
  refine h2.trans (Eq.trans ?_ h1.symm)
  rw [Nat.testBit_eq_decide_div_mod_eq, Nat.testBit_eq_decide_div_mod_eq]
  rw [show ((2 : Int) ^ (2 : Int).toNat) = 4 from rfl, show (2 : Nat) ^ 2 = 4 from rfl]
  simp only [Nat.pow_zero, Nat.div_one]
  rw [decide_eq_decide]
  omega
theorem bit_16 (fl : Int) : (bits .and .i64 (fl / 2 ^ (4 : Int).toNat) 1 == 1) = hasF fl 16 := by
  have h1 := hasF_pow fl 4 (by omega)
  have h2 := hasF_pow (fl / 2 ^ (4 : Int).toNat) 0 (by omega)
  unfold hasF at h2
  refine h2.trans (Eq.trans ?_ h1.symm)
  rw [Nat.testBit_eq_decide_div_mod_eq, Nat.testBit_eq_decide_div_mod_eq]
  rw [show ((2 : Int) ^ (4 : Int).toNat) = 16 from rfl, show (2 : Nat) ^ 4 = 16 from rfl]
  simp only [Nat.pow_zero, Nat.div_one]
  rw [decide_eq_decide]
  omega
set_option maxHeartbeats 400000 in
theorem known_any {s : Int} (h : 0 ≤ s ∧ s ≤ 4) (w : World) : Calls Tryz.prog 52 #[.int .i64 s] w fun e w' => e = .returned (.int .i64 s) ∧ w = w' := by
  have h1 : ¬ s < 0 := by omega
  have h2 : ¬ 5 ≤ s := by omega
  clear h
  go_enter Tryz.func52, Tryz.ntmps52
  go_wp2_with fail
  go_ret
  exact ⟨rfl, rfl⟩
set_option maxHeartbeats 400000 in
theorem has_any (fl m : Int) (w : World) : Calls Tryz.prog 53 #[.int .i64 fl, .int .i64 m] w fun e w' => e = .returned (.bool (hasF fl m)) ∧ w = w' := by
  have HH : Hid ((bits .and .i64 fl m == m) = hasF fl m) := Lib.hid rfl
  go_enter Tryz.func53, Tryz.ntmps53
  go_wp2_with fail
  go_ret
  exact ⟨by rw [← HH.out]; rfl, rfl⟩
set_option maxRecDepth 100000 in
set_option maxHeartbeats 400000 in
theorem timeout_any {s : Int} (h : 0 ≤ s ∧ s ≤ 4) (w : World) : Calls Tryz.prog 55 #[.int .i64 s] w fun e w' => e = .returned (.int .i64 (timeout s)) ∧ w = w' := by
  have i0 : ∀ w, (Instr.index 127 (.agg #[.int .i64 8, .int .i64 16, .int .i64 40, .int .i64 12, .int .i64 3]) (.int .i64 0)).run Tryz.prog w = .ok (.int .i64 8) w := fun _ => by kernel_rfl
  have i1 : ∀ w, (Instr.index 127 (.agg #[.int .i64 8, .int .i64 16, .int .i64 40, .int .i64 12, .int .i64 3]) (.int .i64 1)).run Tryz.prog w = .ok (.int .i64 16) w := fun _ => by kernel_rfl
  have i2 : ∀ w, (Instr.index 127 (.agg #[.int .i64 8, .int .i64 16, .int .i64 40, .int .i64 12, .int .i64 3]) (.int .i64 2)).run Tryz.prog w = .ok (.int .i64 40) w := fun _ => by kernel_rfl
  have i3 : ∀ w, (Instr.index 127 (.agg #[.int .i64 8, .int .i64 16, .int .i64 40, .int .i64 12, .int .i64 3]) (.int .i64 3)).run Tryz.prog w = .ok (.int .i64 12) w := fun _ => by kernel_rfl
  have i4 : ∀ w, (Instr.index 127 (.agg #[.int .i64 8, .int .i64 16, .int .i64 40, .int .i64 12, .int .i64 3]) (.int .i64 4)).run Tryz.prog w = .ok (.int .i64 3) w := fun _ => by kernel_rfl
  have F := Lib.hid (known_any h)
  rcases (show s = 0 ∨ s = 1 ∨ s = 2 ∨ s = 3 ∨ s = 4 by omega) with rfl | rfl | rfl | rfl | rfl
  all_goals
    clear h
    go_enter Tryz.func55, Tryz.ntmps55
    go_wp2_with fail
    refine (F.out _).mono ?_
    rintro e w' ⟨rfl, rfl⟩
    go_wp2_with fail
    go_ret
    exact ⟨rfl, rfl⟩
set_option maxHeartbeats 400000 in
theorem rtimeout_any {s : Int} (h : 0 ≤ s ∧ s ≤ 4) (w : World) : Calls Tryz.prog 76 #[.int .i64 s] w fun e w' => e = .returned (.int .i64 (timeout s)) ∧ w = w' := by
  rcases (show s = 0 ∨ s = 1 ∨ s = 2 ∨ s = 3 ∨ s = 4 by omega) with rfl | rfl | rfl | rfl | rfl
  all_goals
    clear h
    go_enter Tryz.func76, Tryz.ntmps76
    go_wp2_with fail
    go_ret
    exact ⟨rfl, rfl⟩
set_option maxHeartbeats 400000 in
theorem bit_any (fl : Int) (k : Int) (hk : k = 0 ∨ k = 1 ∨ k = 2 ∨ k = 4) (w : World) : Calls Tryz.prog 75 #[.int .i64 fl, .int .i64 k] w fun e w' => e = .returned (.bool (hasF fl (2 ^ k.toNat))) ∧ w = w' := by
  have b1 := Lib.hid (bit_1 fl)
  have b2 := Lib.hid (bit_2 fl)
  have b4 := Lib.hid (bit_4 fl)
  have b16 := Lib.hid (bit_16 fl)
  rcases hk with rfl | rfl | rfl | rfl
  all_goals
    go_enter Tryz.func75, Tryz.ntmps75
    go_wp2_with fail
    go_ret
  · exact ⟨rfl, rfl⟩
  · exact ⟨by rw [show (2 : Int) ^ (1 : Int).toNat = 2 from rfl, ← b2.out]; rfl, rfl⟩
  · exact ⟨by rw [show (2 : Int) ^ (2 : Int).toNat = 4 from rfl, ← b4.out]; rfl, rfl⟩
  · exact ⟨by rw [show (2 : Int) ^ (4 : Int).toNat = 16 from rfl, ← b16.out]; rfl, rfl⟩
/-- The state behind a segment of these flags. -/
def nextF (s fl : Int) : Int := next s (hasF fl 4) (hasF fl 1) (hasF fl 16) (hasF fl 2)
theorem nextF_ok {s : Int} (h : 0 ≤ s ∧ s ≤ 4) (fl : Int) : 0 ≤ nextF s fl ∧ nextF s fl ≤ 4 := next_ok h _ _ _ _
set_option maxRecDepth 100000 in
set_option maxHeartbeats 1000000 in
theorem next_any {s : Int} (h : 0 ≤ s ∧ s ≤ 4) (fl : Int) (w : World) : Calls Tryz.prog 36 #[.int .i64 s, .int .i64 fl] w fun e w' => e = .returned (.int .i64 (nextF s fl)) ∧ w = w' := by
  have F := Lib.hid (known_any h)
  have H4 := Lib.hid (has_any fl 4)
  have H1 := Lib.hid (has_any fl 1)
  have H16 := Lib.hid (has_any fl 16)
  have H2 := Lib.hid (has_any fl 2)
  unfold nextF
  generalize hasF fl 4 = r at *
  generalize hasF fl 1 = f at *
  generalize hasF fl 16 = a at *
  generalize hasF fl 2 = y at *
  go_enter Tryz.func36, Tryz.ntmps36
  go_wp2_with fail
  refine (F.out _).mono ?_
  rintro e w' ⟨rfl, rfl⟩
  clear F
  go_wp2_with fail
  refine (H4.out _).mono ?_
  rintro e w' ⟨rfl, rfl⟩
  clear H4
  cases r with
  | true =>
    clear H1 H16 H2
    go_wp2_with fail
    go_ret
    exact ⟨rfl, rfl⟩
  | false =>
    rcases (show s = 0 ∨ s = 4 ∨ s = 1 ∨ s = 2 ∨ s = 3 by omega) with rfl | rfl | rfl | h2
    · clear H1 H16 H2
      go_wp2_with fail
      go_ret
      exact ⟨rfl, rfl⟩
    · clear H1 H16 H2
      go_wp2_with fail
      go_ret
      exact ⟨rfl, rfl⟩
    · clear h
      go_upto_region 9 with fail
      go_wp2_with fail
      refine (H1.out _).mono ?_
      rintro e w' ⟨rfl, rfl⟩
      cases f with
      | true =>
        clear H16 H2
        go_wp2_with fail
        refine (H1.out _).mono ?_
        rintro e w' ⟨rfl, rfl⟩
        go_wp2_with fail
        go_ret
        exact ⟨rfl, rfl⟩
      | false =>
        go_wp2_with fail
        refine (H16.out _).mono ?_
        rintro e w' ⟨rfl, rfl⟩
        clear H16
        cases a with
        | false =>
          clear H2
          go_wp2_with fail
          refine (H1.out _).mono ?_
          rintro e w' ⟨rfl, rfl⟩
          go_wp2_with fail
          go_ret
          exact ⟨rfl, rfl⟩
        | true =>
          go_wp2_with fail
          refine (H2.out _).mono ?_
          rintro e w' ⟨rfl, rfl⟩
          clear H2
          cases y with
          | true =>
            go_wp2_with fail
            refine (H1.out _).mono ?_
            rintro e w' ⟨rfl, rfl⟩
            go_wp2_with fail
            go_ret
            exact ⟨rfl, rfl⟩
          | false =>
            clear H1
            go_wp2_with fail
            go_ret
            exact ⟨rfl, rfl⟩
    · clear H16 H2
      have hs0 : ¬ s = 0 := by omega
      have hs1 : ¬ s = 1 := by omega
      have hs4 : ¬ s = 4 := by omega
      have HN : Hid (next s false f a y = if f then 3 else s) := Lib.hid (by unfold next; cases f <;> simp [hs0, hs1, hs4])
      clear h h2
      go_wp2_with fail
      refine (H1.out _).mono ?_
      rintro e w' ⟨rfl, rfl⟩
      clear H1
      cases f with
      | true =>
        go_wp2_with fail
        go_ret
        rw [HN.out]
        exact ⟨rfl, rfl⟩
      | false =>
        go_wp2_with fail
        go_ret
        rw [HN.out]
        exact ⟨rfl, rfl⟩
set_option maxRecDepth 100000 in
set_option maxHeartbeats 1000000 in
theorem rnext_any {s : Int} (h : 0 ≤ s ∧ s ≤ 4) (fl : Int) (w : World) : Calls Tryz.prog 47 #[.int .i64 s, .int .i64 fl] w fun e w' => e = .returned (.int .i64 (nextF s fl)) ∧ w = w' := by
  have H4 := Lib.hid (bit_any fl 2 (by simp))
  have H1 := Lib.hid (bit_any fl 0 (by simp))
  have H16 := Lib.hid (bit_any fl 4 (by simp))
  have H2 := Lib.hid (bit_any fl 1 (by simp))
  rw [show (2 : Int) ^ (2 : Int).toNat = 4 from rfl] at H4
  rw [show (2 : Int) ^ (0 : Int).toNat = 1 from rfl] at H1
  rw [show (2 : Int) ^ (4 : Int).toNat = 16 from rfl] at H16
  rw [show (2 : Int) ^ (1 : Int).toNat = 2 from rfl] at H2
  unfold nextF
  generalize hasF fl 4 = r at *
  generalize hasF fl 1 = f at *
  generalize hasF fl 16 = a at *
  generalize hasF fl 2 = y at *
  rcases (show s = 0 ∨ s = 4 ∨ s = 1 ∨ s = 2 ∨ s = 3 by omega) with rfl | rfl | rfl | h2
  · clear H1 H16 H2 h
    go_enter Tryz.func47, Tryz.ntmps47
    go_wp2_with fail
    refine (H4.out _).mono ?_
    rintro e w' ⟨rfl, rfl⟩
    cases r <;> (go_wp2_with fail; go_ret; exact ⟨rfl, rfl⟩)
  · clear H1 H16 H2 h
    go_enter Tryz.func47, Tryz.ntmps47
    go_wp2_with fail
    refine (H4.out _).mono ?_
    rintro e w' ⟨rfl, rfl⟩
    cases r <;> (go_wp2_with fail; go_ret; exact ⟨rfl, rfl⟩)
  · clear h
    go_enter Tryz.func47, Tryz.ntmps47
    go_wp2_with fail
    refine (H4.out _).mono ?_
    rintro e w' ⟨rfl, rfl⟩
    cases r with
    | true => go_wp2_with fail; go_ret; exact ⟨rfl, rfl⟩
    | false =>
      go_wp2_with fail
      refine (H1.out _).mono ?_
      rintro e w' ⟨rfl, rfl⟩
      clear H1
      cases f with
      | true => go_wp2_with fail; go_ret; exact ⟨rfl, rfl⟩
      | false =>
        go_wp2_with fail
        refine (H16.out _).mono ?_
        rintro e w' ⟨rfl, rfl⟩
        clear H16
        cases a with
        | false => go_wp2_with fail; go_ret; exact ⟨rfl, rfl⟩
        | true =>
          go_wp2_with fail
          refine (H2.out _).mono ?_
          rintro e w' ⟨rfl, rfl⟩
          clear H2
          cases y <;> (go_wp2_with fail; go_ret; exact ⟨rfl, rfl⟩)
  · clear H16 H2
    have hs0 : ¬ s = 0 := by omega
    have hs1 : ¬ s = 1 := by omega
    have hs4 : ¬ s = 4 := by omega
    have hs5 : ¬ s < 1 := by omega
    have hs6 : ¬ 4 < s := by omega
    have HN : Hid (next s r f a y = if r then 4 else if f then 3 else s) := Lib.hid (by unfold next; cases f <;> simp [hs0, hs1, hs4])
    rw [HN.out]
    have hb0 : (s == 0) = false := by simp [hs0]
    have hb1 : (s == 1) = false := by simp [hs1]
    have hb4 : (s == 4) = false := by simp [hs4]
    clear h h2 HN hs0 hs1 hs4
    go_enter Tryz.func47, Tryz.ntmps47
    go_wp2_with fail
    refine (H4.out _).mono ?_
    rintro e w' ⟨rfl, rfl⟩
    cases r with
    | true => go_wp2_with fail; go_ret; exact ⟨rfl, rfl⟩
    | false =>
      go_wp2_with fail
      refine (H1.out _).mono ?_
      rintro e w' ⟨rfl, rfl⟩
      clear H1
      cases f <;> (go_wp2_with fail; go_ret; exact ⟨rfl, rfl⟩)
end Go.Proofs.YtldgdpekhjignaaGreat.Ft
namespace Go.Proofs.YtldgdpekhjignaaGreat.Ft
open Go.RowKit Go.Maps

set_option maxHeartbeats 400000 in
theorem is_any (tb pb : Nat) (w : World) (h0 : w.cell? ⟨tb, 6, none⟩ = some (.pointer (some ⟨pb, 0, none⟩))) :
    Calls Tryz.prog 27 #[.pointer (some ⟨tb, 0, none⟩)] w fun e w' => e = .returned (.bool true) ∧ w = w' := by
  go_enter Tryz.func27, Tryz.ntmps27
  go_wp2_with fail
  go_ret
  exact ⟨rfl, rfl⟩
section
variable {w : World} {B : Bx} {n : Nat} {ka kb : Int} {J : Jx} {I : In}
theorem MemJ.is_ (h : MemJ w B n ka kb J I) : Calls Tryz.prog 27 #[.pointer (some ⟨B.tb, 0, none⟩)] w fun e w' => e = .returned (.bool true) ∧ w = w' := is_any _ B.pb w (h.cT 6)
set_option maxRecDepth 100000 in
set_option maxHeartbeats 1000000 in
theorem place_any (h : MemJ w B n ka kb J I) {f : Fl} (hf : okF f) :
    Calls Tryz.prog 30 #[.pointer (some ⟨B.tb, 0, none⟩), f.v] w fun e w' => e = .returned (.tuple #[.int .i64 ((I.kM f).getD 0), .bool (I.kM f).isSome]) ∧ Chg [] w w' := by
  have hA := (Chg.refl [] w).alloc (.cells (arrF f) 38)
  have hB : Blk (w.alloc (.cells (arrF f) 38)) w.heap.size 38 (arrF f) := Blk.new _ _ _
  have hM := h.chg0 hA
  have FI := Lib.hid hM.is_
  have HI := Lib.hid (And.intro hA (And.intro hB hM))
  have HG := Lib.hid (h.kf.get f)
  have HF := Lib.hid hf
  clear h hA hB hM hf
  go_enter Tryz.func30, Tryz.ntmps30
  go_wp2_with fail
  refine FI.out.mono ?_
  rintro e w' ⟨rfl, rfl⟩
  clear FI
  obtain ⟨hA, hB, hM⟩ := HI.out
  generalize hw1 : (w.alloc (.cells (arrF f) 38)) = w1 at *
  clear hw1
  generalize hgg : w.heap.size = g at *
  have H1 : Hid (∀ W, Chg [] w1 W → W.cell? ⟨B.tb, 6, none⟩ = some (.pointer (some ⟨B.pb, 0, none⟩))) := Lib.hid (fun W hc => (hM.chg0 hc).cT 6)
  have H2 := Lib.hid (fun W (hc : Chg [] w1 W) => (hB.chg hc (by simp)).rangeQ)
  have F := Lib.hid (fun W (hc : Chg [] w1 W) => (Fs.get_any HF.out (hM.chg0 hc).tab).mono fun e w' h => And.intro h.1 (hc.trans h.2))
  rw [HG.out] at F
  have HA := Lib.hid hA
  clear hA hB hM HI hgg
  go_upto_region 3 with fail
  refine wp_region_chg (by kernel_rfl) (by kernel_rfl) ?_
  (with_reducible refine wpQuiet_pure (v := ?_) ?_ (fun w => ?_) ?_); rotate_left; (focus rfl); (focus (go_simp <;> with_reducible rfl)); (try simp only [List.getElem_toArray, List.getElem_cons_succ, List.getElem_cons_zero, Act.put, List.setIfInBounds_toArray, List.set_cons_zero, List.set_cons_succ])
  (with_reducible refine wpQuiet_pure (v := ?_) ?_ (fun w => ?_) ?_); rotate_left; (focus rfl); (focus (go_simp <;> with_reducible rfl)); (try simp only [List.getElem_toArray, List.getElem_cons_succ, List.getElem_cons_zero, Act.put, List.setIfInBounds_toArray, List.set_cons_zero, List.set_cons_succ])
  (with_reducible refine wpQuiet_pure (v := ?_) ?_ (fun w => ?_) ?_); rotate_left; (focus rfl); (focus (go_simp <;> with_reducible rfl)); (try simp only [List.getElem_toArray, List.getElem_cons_succ, List.getElem_cons_zero, Act.put, List.setIfInBounds_toArray, List.set_cons_zero, List.set_cons_succ])
  (with_reducible refine wpQuiet_cellC 58 (.tmp 11) ?_ ?_ B.tb 6 ?_ (.pointer (some ⟨B.pb, 0, none⟩)) _ H1.out Tryz.underlying58 ?_ ?_); (focus rfl); (focus rfl); (focus rfl); (focus rfl); (try simp only [List.getElem_toArray, List.getElem_cons_succ, List.getElem_cons_zero, Act.put, List.setIfInBounds_toArray, List.set_cons_zero, List.set_cons_succ])
  (with_reducible refine wpQuiet_rowC 38 (.tmp 3) ?_ ?_ g 0 ?_ (arrF f) _ H2.out Tryz.underlying38 ?_ infF ?_); (focus rfl); (focus rfl); (focus rfl); (focus rfl); (try simp only [List.getElem_toArray, List.getElem_cons_succ, List.getElem_cons_zero, Act.put, List.setIfInBounds_toArray, List.set_cons_zero, List.set_cons_succ])
  (with_reducible refine wpQuiet_do ?_ (fun K hK => ?_)); (focus rfl); go_simp; (apply Exists.intro); (refine ⟨fun W hW => F.out W hW, hK _ ?_⟩); (clear hK K); (try simp only [List.getElem_toArray, List.getElem_cons_succ, List.getElem_cons_zero, Act.put, List.setIfInBounds_toArray, List.set_cons_zero, List.set_cons_succ])
  (with_reducible refine wpQuiet_pure (v := ?_) ?_ (fun w => ?_) ?_); rotate_left; (focus rfl); (focus (go_simp <;> with_reducible rfl)); (try simp only [List.getElem_toArray, List.getElem_cons_succ, List.getElem_cons_zero, Act.put, List.setIfInBounds_toArray, List.set_cons_zero, List.set_cons_succ])
  (with_reducible refine wpQuiet_pure (v := ?_) ?_ (fun w => ?_) ?_); rotate_left; (focus rfl); (focus (go_simp <;> with_reducible rfl)); (try simp only [List.getElem_toArray, List.getElem_cons_succ, List.getElem_cons_zero, Act.put, List.setIfInBounds_toArray, List.set_cons_zero, List.set_cons_succ])
  (with_reducible refine wpQuiet_pure (v := ?_) ?_ (fun w => ?_) ?_); rotate_left; (focus rfl); (focus (go_simp <;> with_reducible rfl)); (try simp only [List.getElem_toArray, List.getElem_cons_succ, List.getElem_cons_zero, Act.put, List.setIfInBounds_toArray, List.set_cons_zero, List.set_cons_succ])
  (with_reducible refine wpQuiet_pure (v := ?_) ?_ (fun w => ?_) ?_); rotate_left; (focus rfl); (focus (go_simp <;> with_reducible rfl)); (try simp only [List.getElem_toArray, List.getElem_cons_succ, List.getElem_cons_zero, Act.put, List.setIfInBounds_toArray, List.set_cons_zero, List.set_cons_succ])
  refine wpQuiet_nil ?_
  intro w7 hc7
  have HC := Lib.hid (HA.out.trans hc7)
  clear hc7 H1 H2 F
  go_wp2_with fail
  go_ret2
  exact ⟨rfl, HC.out⟩
def tilOf (I : In) (i : Nat) : En := { I.ls i with til := I.now + timeout (I.ls i).st }
theorem enc_til (I : In) (i : Nat) : encE (tilOf I i) = (encE (I.ls i)).set 36 (.int .i64 (I.now + timeout (I.ls i).st)) := rfl
set_option maxRecDepth 100000 in
set_option maxHeartbeats 2000000 in
theorem renew_any (h : MemJ w B n ka kb J I) {i : Nat} (hi : i < n) (hst : 0 ≤ (I.ls i).st ∧ (I.ls i).st ≤ 4) (hn0 : 0 ≤ I.now) (hn1 : I.now ≤ 100000) (hnw : J.nw < 10000) :
    Calls Tryz.prog 37 #[.pointer (some ⟨B.tb, 0, none⟩), .int .i64 i] w fun e w' => e = .returned (.tuple #[]) ∧
      ∃ J', MemJ w' B n ka kb J' (I.renew i (tilOf I i)) ∧ Stp w w' B J J' ∧ J'.nw = J.nw + 1 := by
  have hn64 := h.hi
  have hiI : (i : Int) < (n : Int) := by omega
  have c7 : w.cell? ⟨B.tb, 7, none⟩ = some (.slice (some ⟨B.lc, 0, none⟩) n n) := h.cT 7
  have HH := Lib.hid h
  have hto := timeout_le (I.ls i).st
  have hMd : MemJ w.drew B n ka kb J I := h.chg0 (Chg.refl [] w).drew
  have hS0 : (fun W : World => W.cell? ⟨B.tb, 10, none⟩ = some (.pointer (some ⟨B.wb, 0, none⟩)) ∧ W.cell? ⟨B.lc, i * 37 + 35, none⟩ = some (.int .i64 (I.ls i).st)) w.drew := ⟨hMd.cT 10, (hMd.at_ hi (j := 35) rfl).1⟩
  have HS1 : ∀ W : World, (fun W : World => W.cell? ⟨B.tb, 10, none⟩ = some (.pointer (some ⟨B.wb, 0, none⟩)) ∧ W.cell? ⟨B.lc, i * 37 + 35, none⟩ = some (.int .i64 (I.ls i).st)) W → W.cell? ⟨B.tb, 10, none⟩ = some (.pointer (some ⟨B.wb, 0, none⟩)) := fun W h => h.1
  have HS2 : ∀ W : World, (fun W : World => W.cell? ⟨B.tb, 10, none⟩ = some (.pointer (some ⟨B.wb, 0, none⟩)) ∧ W.cell? ⟨B.lc, i * 37 + 35, none⟩ = some (.int .i64 (I.ls i).st)) W → W.cell? ⟨B.lc, i * 37 + 35, none⟩ = some (.int .i64 (I.ls i).st) := fun W h => h.2
  have FN := Lib.hid (now_any hMd.whl)
  have FT := Lib.hid (timeout_any hst w.drew)
  have hwr : IntKind.i64.wrap (I.now + timeout (I.ls i).st) = I.now + timeout (I.ls i).st := by rw [IntKind.wrap_i64]; omega
  have hst36 := hMd.at_ hi (j := 36) rfl
  have hM2 := hMd.setL (ls' := updE I.ls i (tilOf I i)) (RowB.cellSet hMd.row hi (by omega) (enc_til I i)) ((Chg.refl _ _).setCell (p := ⟨B.lc, i * 37 + 36, none⟩) (.inl (by simp)) _)
  have HM2 := Lib.hid hM2.1
  have HST2 := Lib.hid ((Stp.refl (J := J) (B := B) (Chg.refl [] w).drew).trans hM2.2)
  have hlt1 := h.lt B.tb (mem_footT.2 (.inl (mem_fixB.2 (by simp))))
  have hne : B.tb ≠ B.lc := fun e => by
    have t1 := h.tags.1; have t5 := h.tags.2.2.2.2.1
    rw [e] at t1; rw [t1] at t5; exact absurd t5 (by decide)
  have HE : Hid (tilOf I i = { I.ls i with til := I.now + timeout (I.ls i).st } ∧ (tilOf I i).til = I.now + timeout (I.ls i).st) := Lib.hid ⟨rfl, rfl⟩
  clear h hMd hM2
  go_enter Tryz.func37, Tryz.ntmps37
  go_upto_region 1 with fail
  generalize (I.ls i).st = s0 at *
  generalize hto0 : timeout s0 = t0 at *
  refine wp_region_noPanic ?_
  refine wp_region_held_drew (S := fun W : World => W.cell? ⟨B.tb, 10, none⟩ = some (.pointer (some ⟨B.wb, 0, none⟩)) ∧ W.cell? ⟨B.lc, i * 37 + 35, none⟩ = some (.int .i64 s0)) (by kernel_rfl) hS0 (fun _ => ?_)
  generalize hwd : w.drew = w1 at *
  refine wpAnyH_take (i := 0) (v := ?_) rfl (by kernel_rfl) (by kernel_rfl) (by kernel_rfl) (fun _ _ _ h => h) (yields_pure (by rfl) (fun w => ?_)) (by with_reducible assumption) ?_
  rotate_left
  · (go_simp <;> with_reducible rfl)
  try simp only [List.getElem_toArray, List.getElem_cons_succ, List.getElem_cons_zero, Act.put, List.setIfInBounds_toArray, List.set_cons_zero, List.set_cons_succ]
  refine wpAnyH_take (i := 1) (v := ?_) rfl (by kernel_rfl) (by kernel_rfl) (by kernel_rfl) (fun _ _ _ h => h) (yields_pure (by rfl) (fun w => ?_)) (by with_reducible assumption) ?_
  rotate_left
  · (go_simp <;> with_reducible rfl)
  try simp only [List.getElem_toArray, List.getElem_cons_succ, List.getElem_cons_zero, Act.put, List.setIfInBounds_toArray, List.set_cons_zero, List.set_cons_succ]
  refine wpAnyH_take (i := 2) (v := ?_) rfl (by kernel_rfl) (by kernel_rfl) (by kernel_rfl) (fun _ _ _ h => h) (yields_pure (by rfl) (fun w => ?_)) (by with_reducible assumption) ?_
  rotate_left
  · (go_simp <;> with_reducible rfl)
  try simp only [List.getElem_toArray, List.getElem_cons_succ, List.getElem_cons_zero, Act.put, List.setIfInBounds_toArray, List.set_cons_zero, List.set_cons_succ]
  refine wpAnyH_take (i := 3) (v := ?_) rfl (by kernel_rfl) (by kernel_rfl) (by kernel_rfl) (fun _ _ _ h => h) (yields_pure (by rfl) (fun w => ?_)) (by with_reducible assumption) ?_
  rotate_left
  · (go_simp <;> with_reducible rfl)
  try simp only [List.getElem_toArray, List.getElem_cons_succ, List.getElem_cons_zero, Act.put, List.setIfInBounds_toArray, List.set_cons_zero, List.set_cons_succ]
  refine wpAnyH_take (i := 4) rfl (by kernel_rfl) (by kernel_rfl) (by kernel_rfl) (fun _ _ _ h => h) (yields_cell (by rfl) 61 (.tmp 14) rfl B.tb 10 rfl (.pointer (some ⟨B.wb, 0, none⟩)) _ HS1 Tryz.underlying61 rfl) (by with_reducible assumption) ?_
  try simp only [List.getElem_toArray, List.getElem_cons_succ, List.getElem_cons_zero, Act.put, List.setIfInBounds_toArray, List.set_cons_zero, List.set_cons_succ]
  refine wpAnyH_take (i := 6) (v := ?_) rfl (by kernel_rfl) (by kernel_rfl) (by kernel_rfl) (fun _ _ _ h => h) (yields_pure (by rfl) (fun w => ?_)) (by with_reducible assumption) ?_
  rotate_left
  · (go_simp <;> with_reducible rfl)
  try simp only [List.getElem_toArray, List.getElem_cons_succ, List.getElem_cons_zero, Act.put, List.setIfInBounds_toArray, List.set_cons_zero, List.set_cons_succ]
  refine wpAnyH_take (i := 7) (v := ?_) rfl (by kernel_rfl) (by kernel_rfl) (by kernel_rfl) (fun _ _ _ h => h) (yields_pure (by rfl) (fun w => ?_)) (by with_reducible assumption) ?_
  rotate_left
  · (go_simp <;> with_reducible rfl)
  try simp only [List.getElem_toArray, List.getElem_cons_succ, List.getElem_cons_zero, Act.put, List.setIfInBounds_toArray, List.set_cons_zero, List.set_cons_succ]
  refine wpAnyH_take (i := 8) (v := ?_) rfl (by kernel_rfl) (by kernel_rfl) (by kernel_rfl) (fun _ _ _ h => h) (yields_pure (by rfl) (fun w => ?_)) (by with_reducible assumption) ?_
  rotate_left
  · (go_simp <;> with_reducible rfl)
  try simp only [List.getElem_toArray, List.getElem_cons_succ, List.getElem_cons_zero, Act.put, List.setIfInBounds_toArray, List.set_cons_zero, List.set_cons_succ]
  refine wpAnyH_take (i := 9) rfl (by kernel_rfl) (by kernel_rfl) (by kernel_rfl) (fun _ _ _ h => h) (yields_cell (by rfl) 3 (.tmp 19) rfl B.lc (i * 37 + 35) rfl (.int .i64 s0) _ HS2 Tryz.underlying3 rfl) (by with_reducible assumption) ?_
  try simp only [List.getElem_toArray, List.getElem_cons_succ, List.getElem_cons_zero, Act.put, List.setIfInBounds_toArray, List.set_cons_zero, List.set_cons_succ]
  refine wpAnyH_ready (rs := [5]) (by kernel_rfl) (by simp) (AllReadyH.cons rfl (fun K hK => ?_) AllReadyH.nil)
  go_simp
  refine FN.out.mono ?_
  rintro e w' ⟨rfl, rfl⟩
  refine hK.out _ _ (by with_reducible assumption) (fun _ => ?_)
  clear hK K
  try simp only [List.getElem_toArray, List.getElem_cons_succ, List.getElem_cons_zero, Act.put, List.setIfInBounds_toArray, List.set_cons_zero, List.set_cons_succ]
  refine wpAnyH_ready (rs := [10]) (by kernel_rfl) (by simp) (AllReadyH.cons rfl (fun K hK => ?_) AllReadyH.nil)
  go_simp
  refine FT.out.mono ?_
  rintro e w' ⟨rfl, rfl⟩
  refine hK.out _ _ (by with_reducible assumption) (fun _ => ?_)
  clear hK K
  try simp only [List.getElem_toArray, List.getElem_cons_succ, List.getElem_cons_zero, Act.put, List.setIfInBounds_toArray, List.set_cons_zero, List.set_cons_succ]
  refine wpAnyH_take (i := 11) (v := ?_) rfl (by kernel_rfl) (by kernel_rfl) (by kernel_rfl) (fun _ _ _ h => h) (yields_pure (by rfl) (fun w => ?_)) (by with_reducible assumption) ?_
  rotate_left
  · (go_simp <;> with_reducible rfl)
  try simp only [List.getElem_toArray, List.getElem_cons_succ, List.getElem_cons_zero, Act.put, List.setIfInBounds_toArray, List.set_cons_zero, List.set_cons_succ]
  refine wpAnyH_take (i := 12) (v := ?_) rfl (by kernel_rfl) (by kernel_rfl) (by kernel_rfl) (fun _ _ _ h => h) (yields_pure (by rfl) (fun w => ?_)) (by with_reducible assumption) ?_
  rotate_left
  · (go_simp <;> with_reducible rfl)
  try simp only [List.getElem_toArray, List.getElem_cons_succ, List.getElem_cons_zero, Act.put, List.setIfInBounds_toArray, List.set_cons_zero, List.set_cons_succ]
  refine wpAnyH_take (i := 13) (v := ?_) rfl (by kernel_rfl) (by kernel_rfl) (by kernel_rfl) (fun _ _ _ h => h) (yields_pure (by rfl) (fun w => ?_)) (by with_reducible assumption) ?_
  rotate_left
  · (go_simp <;> with_reducible rfl)
  try simp only [List.getElem_toArray, List.getElem_cons_succ, List.getElem_cons_zero, Act.put, List.setIfInBounds_toArray, List.set_cons_zero, List.set_cons_succ]
  have k0 := hst36.1
  have k1 := hst36.2
  refine wpAnyH_ready (rs := [14]) (by kernel_rfl) (by simp) (AllReadyH.cons rfl (fun K hK => ?_) AllReadyH.nil)
  go_simp
  have hS1 : (fun W : World => W.cell? ⟨B.tb, 10, none⟩ = some (.pointer (some ⟨B.wb, 0, none⟩)) ∧ W.cell? ⟨B.lc, i * 37 + 35, none⟩ = some (.int .i64 s0)) (w1.setCell ⟨B.lc, i * 37 + 36, none⟩ (.int .i64 (I.now + t0))) := ⟨HM2.out.cT 10, (World.cell?_setCell_other _ _ _ _ (by simp)).trans hS0.2⟩
  refine hK.out _ _ (by with_reducible assumption) (fun _ => ?_)
  clear hK K
  try simp only [List.getElem_toArray, List.getElem_cons_succ, List.getElem_cons_zero, Act.put, List.setIfInBounds_toArray, List.set_cons_zero, List.set_cons_succ]
  refine wpAnyH_done (by kernel_rfl) ?_ _
  refine NoPanic.normal ?_
  have hte : ((updE I.ls i (tilOf I i)) i).til = I.now + t0 := by rw [updE_same]; exact HE.out.2
  generalize (w1.setCell ⟨B.lc, i * 37 + 36, none⟩ (.int .i64 (I.now + t0))) = w2 at *
  have hMd : MemJ w2.drew B n ka kb J { I with ls := updE I.ls i (tilOf I i) } := HM2.out.chg0 (Chg.refl [] w2).drew
  have HSd := Lib.hid (HST2.out.trans (Stp.refl (J := J) (B := B) (Chg.refl [] w2).drew))
  have hT0 : (fun W : World => W.cell? ⟨B.tb, 10, none⟩ = some (.pointer (some ⟨B.wb, 0, none⟩)) ∧ W.cell? ⟨B.lc, i * 37 + 36, none⟩ = some (.int .i64 (I.now + t0))) w2.drew := ⟨hMd.cT 10, by rw [← hte]; exact (hMd.at_ hi (j := 36) rfl).1⟩
  have HT1 : ∀ W : World, (fun W : World => W.cell? ⟨B.tb, 10, none⟩ = some (.pointer (some ⟨B.wb, 0, none⟩)) ∧ W.cell? ⟨B.lc, i * 37 + 36, none⟩ = some (.int .i64 (I.now + t0))) W → W.cell? ⟨B.tb, 10, none⟩ = some (.pointer (some ⟨B.wb, 0, none⟩)) := fun W h => h.1
  have HT2 : ∀ W : World, (fun W : World => W.cell? ⟨B.tb, 10, none⟩ = some (.pointer (some ⟨B.wb, 0, none⟩)) ∧ W.cell? ⟨B.lc, i * 37 + 36, none⟩ = some (.int .i64 (I.now + t0))) W → W.cell? ⟨B.lc, i * 37 + 36, none⟩ = some (.int .i64 (I.now + t0)) := fun W h => h.2
  have FS := Lib.hid (set_any (i : Int) (I.now + t0) (I.now + t0) hMd.whl (by omega) (by omega) hnw hn0 hn1 (by show I.now + t0 = max (I.now + t0) (I.now + 1); omega) (by simp [Lit.wf, IntKind.min, IntKind.max, IntKind.signed, IntKind.bits]; omega))
  have HMd := Lib.hid hMd
  have HNE := Lib.hid hMd.w_ne
  clear hS0 hS1 HS1 HS2 k0 k1 hst36 FN FT HM2 HST2 hte c7 hMd
  go_upto_region 2 with fail
  refine wp_region_noPanic ?_
  refine wp_region_held_drew (S := fun W : World => W.cell? ⟨B.tb, 10, none⟩ = some (.pointer (some ⟨B.wb, 0, none⟩)) ∧ W.cell? ⟨B.lc, i * 37 + 36, none⟩ = some (.int .i64 (I.now + t0))) (by kernel_rfl) hT0 (fun _ => ?_)
  generalize w2.drew = w3 at *
  refine wpAnyH_take (i := 0) (v := ?_) rfl (by kernel_rfl) (by kernel_rfl) (by kernel_rfl) (fun _ _ _ h => h) (yields_pure (by rfl) (fun w => ?_)) (by with_reducible assumption) ?_
  rotate_left
  · (go_simp <;> with_reducible rfl)
  try simp only [List.getElem_toArray, List.getElem_cons_succ, List.getElem_cons_zero, Act.put, List.setIfInBounds_toArray, List.set_cons_zero, List.set_cons_succ]
  refine wpAnyH_take (i := 1) (v := ?_) rfl (by kernel_rfl) (by kernel_rfl) (by kernel_rfl) (fun _ _ _ h => h) (yields_pure (by rfl) (fun w => ?_)) (by with_reducible assumption) ?_
  rotate_left
  · (go_simp <;> with_reducible rfl)
  try simp only [List.getElem_toArray, List.getElem_cons_succ, List.getElem_cons_zero, Act.put, List.setIfInBounds_toArray, List.set_cons_zero, List.set_cons_succ]
  refine wpAnyH_take (i := 2) (v := ?_) rfl (by kernel_rfl) (by kernel_rfl) (by kernel_rfl) (fun _ _ _ h => h) (yields_pure (by rfl) (fun w => ?_)) (by with_reducible assumption) ?_
  rotate_left
  · (go_simp <;> with_reducible rfl)
  try simp only [List.getElem_toArray, List.getElem_cons_succ, List.getElem_cons_zero, Act.put, List.setIfInBounds_toArray, List.set_cons_zero, List.set_cons_succ]
  refine wpAnyH_take (i := 3) rfl (by kernel_rfl) (by kernel_rfl) (by kernel_rfl) (fun _ _ _ h => h) (yields_cell (by rfl) 61 (.tmp 27) rfl B.tb 10 rfl (.pointer (some ⟨B.wb, 0, none⟩)) _ HT1 Tryz.underlying61 rfl) (by with_reducible assumption) ?_
  try simp only [List.getElem_toArray, List.getElem_cons_succ, List.getElem_cons_zero, Act.put, List.setIfInBounds_toArray, List.set_cons_zero, List.set_cons_succ]
  refine wpAnyH_take (i := 4) (v := ?_) rfl (by kernel_rfl) (by kernel_rfl) (by kernel_rfl) (fun _ _ _ h => h) (yields_pure (by rfl) (fun w => ?_)) (by with_reducible assumption) ?_
  rotate_left
  · (go_simp <;> with_reducible rfl)
  try simp only [List.getElem_toArray, List.getElem_cons_succ, List.getElem_cons_zero, Act.put, List.setIfInBounds_toArray, List.set_cons_zero, List.set_cons_succ]
  refine wpAnyH_take (i := 5) (v := ?_) rfl (by kernel_rfl) (by kernel_rfl) (by kernel_rfl) (fun _ _ _ h => h) (yields_pure (by rfl) (fun w => ?_)) (by with_reducible assumption) ?_
  rotate_left
  · (go_simp <;> with_reducible rfl)
  try simp only [List.getElem_toArray, List.getElem_cons_succ, List.getElem_cons_zero, Act.put, List.setIfInBounds_toArray, List.set_cons_zero, List.set_cons_succ]
  refine wpAnyH_take (i := 6) (v := ?_) rfl (by kernel_rfl) (by kernel_rfl) (by kernel_rfl) (fun _ _ _ h => h) (yields_pure (by rfl) (fun w => ?_)) (by with_reducible assumption) ?_
  rotate_left
  · (go_simp <;> with_reducible rfl)
  try simp only [List.getElem_toArray, List.getElem_cons_succ, List.getElem_cons_zero, Act.put, List.setIfInBounds_toArray, List.set_cons_zero, List.set_cons_succ]
  refine wpAnyH_take (i := 7) (v := ?_) rfl (by kernel_rfl) (by kernel_rfl) (by kernel_rfl) (fun _ _ _ h => h) (yields_pure (by rfl) (fun w => ?_)) (by with_reducible assumption) ?_
  rotate_left
  · (go_simp <;> with_reducible rfl)
  try simp only [List.getElem_toArray, List.getElem_cons_succ, List.getElem_cons_zero, Act.put, List.setIfInBounds_toArray, List.set_cons_zero, List.set_cons_succ]
  refine wpAnyH_take (i := 8) rfl (by kernel_rfl) (by kernel_rfl) (by kernel_rfl) (fun _ _ _ h => h) (yields_cell (by rfl) 3 (.tmp 32) rfl B.lc (i * 37 + 36) rfl (.int .i64 (I.now + t0)) _ HT2 Tryz.underlying3 rfl) (by with_reducible assumption) ?_
  try simp only [List.getElem_toArray, List.getElem_cons_succ, List.getElem_cons_zero, Act.put, List.setIfInBounds_toArray, List.set_cons_zero, List.set_cons_succ]
  refine wpAnyH_ready (rs := [9]) (by kernel_rfl) (by simp) (AllReadyH.cons rfl (fun K hK => ?_) AllReadyH.nil)
  go_simp
  refine FS.out.mono ?_
  rintro e w4 ⟨rfl, vs', hW', hc4, hf4⟩
  obtain ⟨hM4, hS4⟩ := HMd.out.setW hW' hc4 hf4
  have hT4 : (fun W : World => W.cell? ⟨B.tb, 10, none⟩ = some (.pointer (some ⟨B.wb, 0, none⟩)) ∧ W.cell? ⟨B.lc, i * 37 + 36, none⟩ = some (.int .i64 (I.now + t0))) w4 := ⟨hc4.cell hT0.1 (fun hm => (HNE.out _ hm).1 (mem_fixB.2 (by simp))), hc4.cell hT0.2 (fun hm => (HNE.out _ hm).1 (mem_fixB.2 (by simp)))⟩
  have HM4 := Lib.hid hM4
  have HS4 := Lib.hid (HSd.out.trans hS4)
  clear hM4 hS4 hW' hc4 hf4
  refine hK.out _ _ (by with_reducible assumption) (fun _ => ?_)
  clear hK K
  try simp only [List.getElem_toArray, List.getElem_cons_succ, List.getElem_cons_zero, Act.put, List.setIfInBounds_toArray, List.set_cons_zero, List.set_cons_succ]
  refine wpAnyH_done (by kernel_rfl) ?_ _
  refine NoPanic.normal ?_
  have c9 : w4.cell? ⟨B.tb, 9, none⟩ = some (.pointer (some ⟨B.ob, 0, none⟩)) := HM4.out.cT 9
  have FO := Lib.hid (Rg.touch_any HM4.out.ord hi)
  clear hT0 hT4 HT1 HT2 FS
  go_upto_region 3 with fail
  go_wp2_with fail
  refine FO.out.mono ?_
  rintro e w5 ⟨rfl, hO5, hc5⟩
  obtain ⟨hM5, hS5⟩ := HM4.out.setO hO5 hc5
  have HFIN := Lib.hid (And.intro hM5 (HS4.out.trans hS5))
  clear hM5 hS5 hO5 hc5 FO
  go_wp2_with fail
  go_end0
  refine ⟨rfl, _, ?_, HFIN.out.2, rfl⟩
  have h9 : I.renew i (tilOf I i) = { I with od := i :: I.od.erase i, ls := updE I.ls i (tilOf I i), wM := inM (noM I.wM i) i (I.now + t0) } := by unfold In.renew; rw [HE.out.2]
  rw [h9]
  exact HFIN.out.1
end
end Go.Proofs.YtldgdpekhjignaaGreat.Ft
namespace Go.Proofs.YtldgdpekhjignaaGreat.Ft
open Go.RowKit Go.Maps

theorem own_take {w : World} {base size n : Nat} {e : TypeId} {xs : List Value} {A : Option Addr} {c : Nat} (h : w.ownsRow base e size (.slice A n c) n xs) {k : Nat} (hk : k ≤ n) (hne : A ≠ none) : w.ownsRow base e size (.slice A k c) k (xs.take (k * size)) := by
  refine ⟨by rw [List.length_take, h.1]; exact Nat.min_eq_left (Nat.mul_le_mul_right _ hk), .inr ?_⟩
  rcases h.2 with ⟨h1, _⟩ | ⟨g, cap, cur, h1, hg, hb, hnc, hm, hs, ht⟩
  · simp only [Value.slice.injEq] at h1; exact absurd h1.1 hne
  · simp only [Value.slice.injEq, true_and] at h1
    obtain ⟨rfl, rfl⟩ := h1
    refine ⟨g, c, cur, rfl, hg, hb, by omega, hm, hs, ?_⟩
    rw [← ht, List.take_take, Nat.min_eq_left (Nat.mul_le_mul_right _ hk)]
section
variable {w : World} {b c kc n : Nat} {ka kb : Int} {cs : Nat → Fs.SC Fl} {m : Nat} {M : Fl → Option Int} {k : Fl}
theorem tf_le {hm : Fl → Nat} (h : Fs.TF hm cs n M m) : m ≤ n := by
  have h1 := h.cnt
  have h2 := Fs.cnt_le cs n
  omega
theorem del_map (hf : okF k) (hT : Fs.Tab w b c kc n ka kb cs m) (hk : Fs.TF (Fs.hm ka kb n) cs n M m) {v : Int} (hv : M k = some v) :
    Calls Tryz.prog 60 #[.pointer (some ⟨b, 0, none⟩), k.v] w fun e w' =>
      e = .returned (.bool true) ∧ ∃ cs', Fs.Tab w' b c kc n ka kb cs' ((m - 1 : Nat) : Int) ∧ Fs.TF (Fs.hm ka kb n) cs' n (Fs.noK M k) (m - 1) ∧ Chg [b, c] w w' := by
  obtain ⟨i, hi, hc, hfi⟩ := hk.there hv
  have hu : (cs i).used = true := by rw [hc]
  obtain ⟨_, h2, h3⟩ := hk.del hv
  have hle := tf_le hk
  have h256 := hT.hi
  rw [(Fs.getV_some hfi).2, if_pos hu] at h2
  refine (Fs.del_there hf hT hfi hu (by omega) (by omega)).mono ?_
  rintro e w' ⟨rfl, ht, hcg⟩
  refine ⟨rfl, _, ?_, h2, hcg⟩
  rw [show ((m - 1 : Nat) : Int) = (m : Int) - 1 by omega]
  exact ht
theorem put_map (hf : okF k) (hT : Fs.Tab w b c kc n ka kb cs m) (hk : Fs.TF (Fs.hm ka kb n) cs n M m) (v : Int) (hv : M k = none) (hmn : m < n) :
    Calls Tryz.prog 59 #[.pointer (some ⟨b, 0, none⟩), k.v, .int .i64 v] w fun e w' =>
      e = .returned (.bool true) ∧ ∃ cs', Fs.Tab w' b c kc n ka kb cs' ((m + 1 : Nat) : Int) ∧ Fs.TF (Fs.hm ka kb n) cs' n (Fs.inK M k v) (m + 1) ∧ Chg [b, c] w w' := by
  obtain ⟨h1, h2, _⟩ := hk.put v hv hmn
  obtain ⟨i, hfi⟩ := Option.isSome_iff_exists.1 h1
  have hnt := hk.not_there hv
  have hi := Fs.findIn_lt hk.inv.lo (hk.inv.home k) hfi
  have hu : (cs i).used = false := by
    rcases Fs.findIn_is hfi with h | h
    · exact h
    · cases hu : (cs i).used with
      | false => rfl
      | true => exact absurd h (hnt i hi hu)
  have h256 := hT.hi
  have e2 := (Fs.put_some hfi v m).2.1
  rw [e2] at h2
  refine (Fs.put_new hf hT hfi hu (by omega) (by omega)).mono ?_
  rintro e w' ⟨rfl, ht, hcg⟩
  exact ⟨rfl, _, by rw [show ((m + 1 : Nat) : Int) = (m : Int) + 1 by omega]; exact ht, h2, hcg⟩
end
section
variable {w : World} {B : Bx} {n : Nat} {ka kb : Int} {J : Jx} {I : In}
theorem lit_row (w : World) (i : Nat) : Sl (w.alloc (.cells #[.int .i64 i] 3)) 0 1 (.slice (some ⟨w.heap.size, 0, none⟩) 1 1) 1 [Rg.iv i] :=
  Sl.of_own (own_lit (base := 0) w 3 1 1 #[.int .i64 i] (Nat.zero_le _) (by simp [maxLen]) rfl)
set_option maxRecDepth 100000 in
set_option maxHeartbeats 2000000 in
theorem drop_any (h : MemJ w B n ka kb J I) {i : Nat} (hi : i < n) (hok : okF (I.ls i).fl) {v : Int} (hv : I.kM (I.ls i).fl = some v) (hfl : I.fr.length ≤ 64) :
    Calls Tryz.prog 39 #[.pointer (some ⟨B.tb, 0, none⟩), .int .i64 i] w fun e w' => e = .returned (.tuple #[]) ∧
      ∃ J', MemJ w' B n ka kb J' (I.drop i) ∧ Stp w w' B J J' ∧ J'.nw = J.nw := by
  have hn64 := h.hi
  have hiI : (i : Int) < (n : Int) := by omega
  have hMd : MemJ w.drew B n ka kb J I := h.chg0 (Chg.refl [] w).drew
  have hS0 : (fun W : World => (W.cell? ⟨B.tb, 6, none⟩ = some (.pointer (some ⟨B.pb, 0, none⟩)) ∧ W.cell? ⟨B.tb, 7, none⟩ = some (.slice (some ⟨B.lc, 0, none⟩) n n)) ∧ W.rangeAt B.lc (i * 37) (arrF (I.ls i).fl).toList) w.drew := ⟨⟨hMd.cT 6, hMd.cT 7⟩, hMd.flow hi⟩
  have HS1 : ∀ W : World, (fun W : World => (W.cell? ⟨B.tb, 6, none⟩ = some (.pointer (some ⟨B.pb, 0, none⟩)) ∧ W.cell? ⟨B.tb, 7, none⟩ = some (.slice (some ⟨B.lc, 0, none⟩) n n)) ∧ W.rangeAt B.lc (i * 37) (arrF (I.ls i).fl).toList) W → W.cell? ⟨B.tb, 6, none⟩ = some (.pointer (some ⟨B.pb, 0, none⟩)) := fun W h => h.1.1
  have HS2 : ∀ W : World, (fun W : World => (W.cell? ⟨B.tb, 6, none⟩ = some (.pointer (some ⟨B.pb, 0, none⟩)) ∧ W.cell? ⟨B.tb, 7, none⟩ = some (.slice (some ⟨B.lc, 0, none⟩) n n)) ∧ W.rangeAt B.lc (i * 37) (arrF (I.ls i).fl).toList) W → W.cell? ⟨B.tb, 7, none⟩ = some (.slice (some ⟨B.lc, 0, none⟩) n n) := fun W h => h.1.2
  have HS3 : ∀ W : World, (fun W : World => (W.cell? ⟨B.tb, 6, none⟩ = some (.pointer (some ⟨B.pb, 0, none⟩)) ∧ W.cell? ⟨B.tb, 7, none⟩ = some (.slice (some ⟨B.lc, 0, none⟩) n n)) ∧ W.rangeAt B.lc (i * 37) (arrF (I.ls i).fl).toList) W → W.rangeAt B.lc (i * 37) (arrF (I.ls i).fl).toList := fun W h => h.2
  have FD := Lib.hid (del_map hok hMd.tab hMd.kf hv)
  have HMd := Lib.hid hMd
  have HSd := Lib.hid (Stp.refl (J := J) (B := B) (Chg.refl [] w).drew)
  have HT := Lib.hid h.tags
  have hid : (Lit.int .i64 (i : Int)).wf = true := by simp [Lit.wf, IntKind.min, IntKind.max, IntKind.signed, IntKind.bits]; omega
  have HFL := Lib.hid hfl
  clear h hMd hv hok hfl
  generalize hff : (I.ls i).fl = f at *
  have HFF := Lib.hid hff
  clear hff
  go_enter Tryz.func39, Tryz.ntmps39
  go_upto_region 0 with fail
  refine wp_region_noPanic ?_
  refine wp_region_held_drew (S := fun W : World => (W.cell? ⟨B.tb, 6, none⟩ = some (.pointer (some ⟨B.pb, 0, none⟩)) ∧ W.cell? ⟨B.tb, 7, none⟩ = some (.slice (some ⟨B.lc, 0, none⟩) n n)) ∧ W.rangeAt B.lc (i * 37) (arrF f).toList) (by kernel_rfl) hS0 (fun _ => ?_)
  generalize w.drew = w1 at *
  refine wpAnyH_take (i := 0) (v := ?_) rfl (by kernel_rfl) (by kernel_rfl) (by kernel_rfl) (fun _ _ _ h => h) (yields_pure (by rfl) (fun w => ?_)) (by with_reducible assumption) ?_
  rotate_left
  · (go_simp <;> with_reducible rfl)
  try simp only [List.getElem_toArray, List.getElem_cons_succ, List.getElem_cons_zero, Act.put, List.setIfInBounds_toArray, List.set_cons_zero, List.set_cons_succ]
  refine wpAnyH_take (i := 1) (v := ?_) rfl (by kernel_rfl) (by kernel_rfl) (by kernel_rfl) (fun _ _ _ h => h) (yields_pure (by rfl) (fun w => ?_)) (by with_reducible assumption) ?_
  rotate_left
  · (go_simp <;> with_reducible rfl)
  try simp only [List.getElem_toArray, List.getElem_cons_succ, List.getElem_cons_zero, Act.put, List.setIfInBounds_toArray, List.set_cons_zero, List.set_cons_succ]
  refine wpAnyH_take (i := 2) (v := ?_) rfl (by kernel_rfl) (by kernel_rfl) (by kernel_rfl) (fun _ _ _ h => h) (yields_pure (by rfl) (fun w => ?_)) (by with_reducible assumption) ?_
  rotate_left
  · (go_simp <;> with_reducible rfl)
  try simp only [List.getElem_toArray, List.getElem_cons_succ, List.getElem_cons_zero, Act.put, List.setIfInBounds_toArray, List.set_cons_zero, List.set_cons_succ]
  refine wpAnyH_take (i := 3) rfl (by kernel_rfl) (by kernel_rfl) (by kernel_rfl) (fun _ _ _ h => h) (yields_cell (by rfl) 58 (.tmp 6) rfl B.tb 6 rfl (.pointer (some ⟨B.pb, 0, none⟩)) _ HS1 Tryz.underlying58 rfl) (by with_reducible assumption) ?_
  try simp only [List.getElem_toArray, List.getElem_cons_succ, List.getElem_cons_zero, Act.put, List.setIfInBounds_toArray, List.set_cons_zero, List.set_cons_succ]
  refine wpAnyH_take (i := 4) (v := ?_) rfl (by kernel_rfl) (by kernel_rfl) (by kernel_rfl) (fun _ _ _ h => h) (yields_pure (by rfl) (fun w => ?_)) (by with_reducible assumption) ?_
  rotate_left
  · (go_simp <;> with_reducible rfl)
  try simp only [List.getElem_toArray, List.getElem_cons_succ, List.getElem_cons_zero, Act.put, List.setIfInBounds_toArray, List.set_cons_zero, List.set_cons_succ]
  refine wpAnyH_take (i := 5) (v := ?_) rfl (by kernel_rfl) (by kernel_rfl) (by kernel_rfl) (fun _ _ _ h => h) (yields_pure (by rfl) (fun w => ?_)) (by with_reducible assumption) ?_
  rotate_left
  · (go_simp <;> with_reducible rfl)
  try simp only [List.getElem_toArray, List.getElem_cons_succ, List.getElem_cons_zero, Act.put, List.setIfInBounds_toArray, List.set_cons_zero, List.set_cons_succ]
  refine wpAnyH_take (i := 6) (v := ?_) rfl (by kernel_rfl) (by kernel_rfl) (by kernel_rfl) (fun _ _ _ h => h) (yields_pure (by rfl) (fun w => ?_)) (by with_reducible assumption) ?_
  rotate_left
  · (go_simp <;> with_reducible rfl)
  try simp only [List.getElem_toArray, List.getElem_cons_succ, List.getElem_cons_zero, Act.put, List.setIfInBounds_toArray, List.set_cons_zero, List.set_cons_succ]
  refine wpAnyH_take (i := 7) rfl (by kernel_rfl) (by kernel_rfl) (by kernel_rfl) (fun _ _ _ h => h) (yields_cell (by rfl) 41 (.tmp 10) rfl B.tb 7 rfl (.slice (some ⟨B.lc, 0, none⟩) n n) _ HS2 Tryz.underlying41 rfl) (by with_reducible assumption) ?_
  try simp only [List.getElem_toArray, List.getElem_cons_succ, List.getElem_cons_zero, Act.put, List.setIfInBounds_toArray, List.set_cons_zero, List.set_cons_succ]
  refine wpAnyH_take (i := 8) (v := ?_) rfl (by kernel_rfl) (by kernel_rfl) (by kernel_rfl) (fun _ _ _ h => h) (yields_pure (by rfl) (fun w => ?_)) (by with_reducible assumption) ?_
  rotate_left
  · (go_simp <;> with_reducible rfl)
  try simp only [List.getElem_toArray, List.getElem_cons_succ, List.getElem_cons_zero, Act.put, List.setIfInBounds_toArray, List.set_cons_zero, List.set_cons_succ]
  refine wpAnyH_take (i := 9) (v := ?_) rfl (by kernel_rfl) (by kernel_rfl) (by kernel_rfl) (fun _ _ _ h => h) (yields_pure (by rfl) (fun w => ?_)) (by with_reducible assumption) ?_
  rotate_left
  · (go_simp <;> with_reducible rfl)
  try simp only [List.getElem_toArray, List.getElem_cons_succ, List.getElem_cons_zero, Act.put, List.setIfInBounds_toArray, List.set_cons_zero, List.set_cons_succ]
  refine wpAnyH_take (i := 10) (v := ?_) rfl (by kernel_rfl) (by kernel_rfl) (by kernel_rfl) (fun _ _ _ h => h) (yields_pure (by rfl) (fun w => ?_)) (by with_reducible assumption) ?_
  rotate_left
  · (go_simp <;> with_reducible rfl)
  try simp only [List.getElem_toArray, List.getElem_cons_succ, List.getElem_cons_zero, Act.put, List.setIfInBounds_toArray, List.set_cons_zero, List.set_cons_succ]
  refine wpAnyH_take (i := 11) rfl (by kernel_rfl) (by kernel_rfl) (by kernel_rfl) (fun _ _ _ h => h) (yields_row (by rfl) 38 (.tmp 14) rfl B.lc (i * 37) rfl (arrF f) _ HS3 Tryz.underlying38 rfl infF) (by with_reducible assumption) ?_
  try simp only [List.getElem_toArray, List.getElem_cons_succ, List.getElem_cons_zero, Act.put, List.setIfInBounds_toArray, List.set_cons_zero, List.set_cons_succ]
  refine wpAnyH_ready (rs := [12]) (by kernel_rfl) (by simp) (AllReadyH.cons rfl (fun K hK => ?_) AllReadyH.nil)
  go_simp
  refine FD.out.mono ?_
  rintro e w2 ⟨rfl, cs', hT2, hk2, hc2⟩
  have hT2' : (fun W : World => (W.cell? ⟨B.tb, 6, none⟩ = some (.pointer (some ⟨B.pb, 0, none⟩)) ∧ W.cell? ⟨B.tb, 7, none⟩ = some (.slice (some ⟨B.lc, 0, none⟩) n n)) ∧ W.rangeAt B.lc (i * 37) (arrF f).toList) w2 := by
    obtain ⟨t1, t2, t3, t4, t5, _⟩ := HMd.out.tags
    have hb : B.tb ∉ [B.pb, B.pc] := fun hm => by
      simp only [List.mem_cons, List.not_mem_nil, or_false] at hm
      rcases hm with e | e
      · rw [e, t2] at t1; exact absurd t1 (by decide)
      · rw [e, t3] at t1; exact absurd t1 (by decide)
    have hl : B.lc ∉ [B.pb, B.pc] := fun hm => by
      simp only [List.mem_cons, List.not_mem_nil, or_false] at hm
      rcases hm with e | e
      · rw [e, t2] at t5; exact absurd t5 (by decide)
      · rw [e, t3] at t5; exact absurd t5 (by decide)
    exact ⟨⟨hc2.cell hS0.1.1 hb, hc2.cell hS0.1.2 hb⟩, rangeAt_chg hS0.2 hc2 hl⟩
  obtain ⟨hM2, hS2⟩ := HMd.out.setP hT2 hk2 hc2
  have HM2 := Lib.hid hM2
  have HST2 := Lib.hid (HSd.out.trans hS2)
  clear hM2 hS2 hT2 hk2 hc2
  refine hK.out _ _ (by with_reducible assumption) (fun _ => ?_)
  clear hK K
  try simp only [List.getElem_toArray, List.getElem_cons_succ, List.getElem_cons_zero, Act.put, List.setIfInBounds_toArray, List.set_cons_zero, List.set_cons_succ]
  refine wpAnyH_done (by kernel_rfl) ?_ _
  refine NoPanic.normal ?_
  have c9 : w2.cell? ⟨B.tb, 9, none⟩ = some (.pointer (some ⟨B.ob, 0, none⟩)) := HM2.out.cT 9
  have FO := Lib.hid (Rg.drop_any HM2.out.ord hi)
  clear hS0 hT2' HS1 HS2 HS3 FD HMd HSd
  go_wp2_with fail
  refine FO.out.mono ?_
  rintro e w3 ⟨rfl, hO3, hc3⟩
  obtain ⟨hM3, hS3⟩ := HM2.out.setO hO3 hc3
  have HM3 := Lib.hid hM3
  have HST3 := Lib.hid (HST2.out.trans hS3)
  clear hM3 hS3 hO3 hc3 FO HM2 HST2 c9
  have c10 : w3.cell? ⟨B.tb, 10, none⟩ = some (.pointer (some ⟨B.wb, 0, none⟩)) := HM3.out.cT 10
  have FU := Lib.hid (unset_any (i : Int) HM3.out.whl hid)
  go_wp2_with fail
  refine FU.out.mono ?_
  rintro e w4 ⟨rfl, vs', hW4, hc4, hf4⟩
  obtain ⟨hM4, hS4⟩ := HM3.out.setW hW4 hc4 hf4
  have HM4 := Lib.hid hM4
  have HST4 := Lib.hid (HST3.out.trans hS4)
  clear hM4 hS4 hW4 hc4 hf4 FU HM3 HST3 c10
  have c7 : w4.cell? ⟨B.tb, 7, none⟩ = some (.slice (some ⟨B.lc, 0, none⟩) n n) := HM4.out.cT 7
  have hR4 := HM4.out.row
  have hil : i < ((List.range n).map I.ls).length := by simpa using hi
  have hls : ((List.range n).map I.ls).length * 37 ≤ n * 37 := by simp
  go_upto_region 4 with (first
    | (refine Fs.wpList_store_row encE_len rfl 44 (.tmp 35) (.tmp 34) rfl hR4 hil hls e0 rfl rfl infE37 (encE_one _) ?_; intro w5 hR5 hc5)
    | fail)
  rw [updE_range I.ls hi] at hR5
  obtain ⟨hM5, hS5⟩ := HM4.out.setL hR5 hc5
  obtain ⟨J5, hJ5⟩ : ∃ J5 : Jx, J5 = ⟨J.frv, cs', vs', fun s => stay (↑i) (J.wls s), J.nw⟩ := ⟨_, rfl⟩
  obtain ⟨I5, hI5⟩ : ∃ I5 : In, I5 = ⟨I.od.erase i, updE I.ls i e0, I.fr, I.now, noM I.wM i, Fs.noK I.kM f, I.km - 1, I.c⟩ := ⟨_, rfl⟩
  have HM5 : Hid (MemJ w5 B n ka kb J5 I5) := Lib.hid (by rw [hJ5, hI5]; exact hM5)
  have HST5 : Hid (Stp w w5 B J J5) := Lib.hid (by rw [hJ5]; exact HST4.out.trans hS5)
  have HI5 : Hid (I.drop i = { I5 with fr := I5.fr ++ [i] } ∧ J5.nw = J.nw) := Lib.hid (by rw [hJ5, hI5]; unfold In.drop; rw [HFF.out]; exact ⟨rfl, rfl⟩)
  have hflr : I5.fr.length ≤ 64 := by rw [hI5]; exact HFL.out
  clear hM5 hS5 hR5 hc5 hR4 hil hls HM4 HST4 c7 hJ5 hI5 HT HFL HFF
  have c8 : w5.cell? ⟨B.tb, 8, none⟩ = some J5.frv := HM5.out.cT 8
  have f8 := HM5.out.fT 8
  have hown := HM5.out.free
  have hlt5 := HM5.out.lt B.tb (mem_footT.2 (.inl (mem_fixB.2 (by simp))))
  obtain ⟨A, cp, hv⟩ := Sl.form (Sl.of_own hown)
  have HV := Lib.hid hv
  rw [hv] at c8
  have hA := (Chg.refl [] w5).alloc (.cells #[.int .i64 i] 3)
  have HA := Lib.hid ((Chg.refl J5.frv.ownBlock.toList w5).alloc (.cells #[.int .i64 i] 3))
  have hr1 := own_chg hown hA (by simp)
  rw [hv] at hr1
  have HR1 := Lib.hid hr1
  have HS1 := Lib.hid (lit_row w5 i)
  have HTG := Lib.hid (own_tag hown)
  have HLT := Lib.hid (fun x hx => (own_lt hown x hx).2)
  have HTB : Hid (tagW w5 B.tb = some 63) := Lib.hid HM5.out.tags.1
  have HNB : Hid (B.tb ∉ J5.frv.ownBlock.toList) := Lib.hid (fun hm => by
    have h1 := HTG.out _ hm
    rw [HTB.out] at h1
    exact absurd h1 (by decide))
  clear hown hv hA hr1
  generalize hfl5 : I5.fr.length = k5 at *
  go_wp2_with (first
    | (at_builtin; refine wpList_app elZ rfl (.tmp 40) (.tmp 42) rfl 0 rfl HR1.out rfl HS1.out (Rg.iv_one [i]) (by unfold maxLen; omega) (by omega) (Nat.zero_le _) ?_; intro v6 w6 hown6 hc6 hb6; have HB6 : Hid (v6.ownBlock = J5.frv.ownBlock ∨ v6.ownBlock = some (w5.alloc (.cells #[.int .i64 i] 3)).heap.size) := Lib.hid (by rw [HV.out]; exact hb6); clear hb6; have hcA := HA.out.trans' hc6 (by rw [HV.out]; exact fun x hx => .inl hx); have f86 := (HM5.out.tblk.chg hcA HNB.out).frozen 8; have c86 := (HM5.out.tblk.chg hcA HNB.out).cell 8; simp only [List.getElem?_toArray, List.getElem?_cons_succ, List.getElem?_cons_zero] at c86; have HO6 := Lib.hid hown6; obtain ⟨A6, c6, rfl⟩ := Sl.form (Sl.of_own hown6); have HC6 := Lib.hid hcA; clear c8 f8 hc6 hcA hown6)
    | fail)
  have HFIN : Hid (∃ J', MemJ (w6.setCell ⟨B.tb, 8, none⟩ (.slice A6 (k5 + 1) c6)) B n ka kb J' { I5 with fr := I5.fr ++ [i] } ∧ Stp w5 (w6.setCell ⟨B.tb, 8, none⟩ (.slice A6 (k5 + 1) c6)) B J5 J' ∧ J'.nw = J5.nw) := Lib.hid (by
    have hnew : ∀ x ∈ (Value.slice A6 (k5 + 1) c6).ownBlock.toList, x ∈ J5.frv.ownBlock.toList ∨ w5.heap.size ≤ x := by
      intro x hx
      rcases HB6.out with e | e
      · rw [e] at hx; exact .inl hx
      · rw [e] at hx; simp at hx; right; omega
    have hb := (HM5.out.tblk.chg HC6.out HNB.out).set_ 8 (.slice A6 (k5 + 1) c6)
    obtain ⟨hM, hS⟩ := HM5.out.setT (c' := I5.c) (fr' := I5.fr ++ [i]) (frv' := .slice A6 (k5 + 1) c6) hb (by
      rw [List.length_append, List.map_append, hfl5]
      refine own_chg HO6.out ((Chg.refl [B.tb] _).setCell (p := ⟨B.tb, 8, none⟩) (.inl (by simp)) _) (fun x hx hm => ?_)
      simp only [List.mem_cons, List.not_mem_nil, or_false] at hm
      subst hm
      rcases hnew _ hx with h1 | h1
      · exact HNB.out h1
      · omega) hnew ((HC6.out.more (fun x hx => List.mem_cons_of_mem _ hx)).setCell (p := ⟨B.tb, 8, none⟩) (.inl (by simp)) _)
    exact ⟨_, hM, hS, rfl⟩)
  go_end0
  obtain ⟨J', hM, hS, hn⟩ := HFIN.out
  rw [HI5.out.1]
  exact ⟨rfl, J', hM, HST5.out.trans hS, by rw [hn, HI5.out.2]⟩
end
end Go.Proofs.YtldgdpekhjignaaGreat.Ft
namespace Go.Proofs.YtldgdpekhjignaaGreat.Ft
open Go.RowKit Go.Maps

def addC (n : Nat) (L : List En) (c : Cn) : Cn := if L.length = n then { c with evicted := c.evicted + 1 } else c
def addL (n : Nat) (L : List En) : List En := if L.length = n then L.dropLast else L
section
variable {w : World} {B : Bx} {n : Nat} {ka kb : Int} {J : Jx} {I : In} {L : List En}
/-- Where there is no free place: the one touched longest ago goes. -/
theorem Inv.room (h : Inv n I L []) (hf : I.fr.length = 0) (hn : 1 ≤ n) : I.od ≠ [] ∧ L.length = n := by
  have h1 := h.le
  have h2 := h.len
  refine ⟨fun e => ?_, by omega⟩
  rw [e] at h1; simp at h1; omega
theorem Inv.noroom (h : Inv n I L []) (hf : ¬ I.fr.length = 0) : L.length ≠ n := by
  have h1 := h.le
  have h2 := h.len
  omega
set_option maxRecDepth 100000 in
set_option maxHeartbeats 2000000 in
theorem add_any (h : MemJ w B n ka kb J I) (hI : Inv n I L []) {f : Fl} (hok : okF f) (hk : I.kM f = none) {node st : Int} (hnode : 0 ≤ node ∧ node ≤ 65535) (hst : 0 ≤ st ∧ st ≤ 4) (hn0 : 0 ≤ I.now) (hn1 : I.now ≤ 100000) (hnw : J.nw < 10000) (he0 : 0 ≤ I.c.evicted) (he1 : I.c.evicted ≤ 1000000000) :
    Calls Tryz.prog 38 #[.pointer (some ⟨B.tb, 0, none⟩), f.v, .int .i64 node, .int .i64 st] w fun e w' => e = .returned (.tuple #[]) ∧
      ∃ J' I', MemJ w' B n ka kb J' I' ∧ Inv n I' (⟨f, node, st, I.now + timeout st⟩ :: addL n L) [] ∧ I'.c = addC n L I.c ∧ I'.now = I.now ∧ Stp w w' B J J' ∧ J'.nw = J.nw + 1 := by
  have hn64 := h.hi
  have hlo := h.lo
  have hA := (Chg.refl [] w).alloc (.cells (arrF f) 38)
  have hB : Blk (w.alloc (.cells (arrF f) 38)) w.heap.size 38 (arrF f) := Blk.new _ _ _
  have hM := h.chg0 hA
  have hlt : ∀ x ∈ footT B J, x < w.heap.size := h.lt
  have HI := Lib.hid (And.intro hM (And.intro hB hA))
  have HLT := Lib.hid hlt
  have HIn := Lib.hid (And.intro hI (And.intro hk hok))
  have HOW := Lib.hid (Sl.of_own hM.free)
  have c8 : (w.alloc (.cells (arrF f) 38)).cell? ⟨B.tb, 8, none⟩ = some J.frv := hM.cT 8
  obtain ⟨A, cp, hv⟩ := Sl.form HOW.out
  rw [hv] at c8
  have HAC : Hid (addC n L I.c = (if L.length = n then { I.c with evicted := I.c.evicted + 1 } else I.c) ∧ addL n L = if L.length = n then L.dropLast else L) := Lib.hid ⟨rfl, rfl⟩
  generalize hac : addC n L I.c = c1 at *
  generalize hal : addL n L = L1 at *
  clear h hA hB hM hI hk hok hlt hv hac hal
  go_enter Tryz.func38, Tryz.ntmps38
  go_upto_if 17 with fail
  go_cut [] (fun wx => ∃ J1 I1, Hid (MemJ wx B n ka kb J1 I1) ∧ Hid (Inv n I1 L1 [] ∧ I1.kM f = none ∧ I1.fr ≠ [] ∧ I1.c = c1 ∧ I1.now = I.now) ∧ Hid (Blk wx w.heap.size 38 (arrF f) ∧ Stp w wx B J J1) ∧ J1.nw = J.nw)
  case first =>
    obtain ⟨hM, hB, hA⟩ := HI.out
    obtain ⟨hI, hk, hok⟩ := HIn.out
    generalize hwa : (w.alloc (.cells (arrF f) 38)) = wa at *
    by_cases hf : I.fr.length = 0
    · obtain ⟨hne, hln⟩ := hI.room hf hlo
      obtain ⟨hl1, hl2⟩ := hI.last hne
      have HE : Hid (c1 = { I.c with evicted := I.c.evicted + 1 } ∧ L1 = L.dropLast) := Lib.hid (by rw [HAC.out.1, HAC.out.2, if_pos hln, if_pos hln]; exact ⟨rfl, rfl⟩)
      have FO := Lib.hid (Rg.oldest_any hM.ord hne)
      have c9 : wa.cell? ⟨B.tb, 9, none⟩ = some (.pointer (some ⟨B.ob, 0, none⟩)) := hM.cT 9
      have hi : Rg.lastOf n I.od < n := (hI.all _).2 (.inl hl1)
      have hkl := (hI.key (I.ls (Rg.lastOf n I.od)).fl (Rg.lastOf n I.od)).2 ⟨_, hl1, rfl, rfl⟩
      have hID := hI.drop hl1
      rw [hl2] at hID
      have hNK : Fs.noK I.kM (I.ls (Rg.lastOf n I.od)).fl f = none := by
        unfold Fs.noK; split
        · rfl
        · exact hk
      have HD := Lib.hid (fun (W : World) (hc : Chg [] wa W) => drop_any (hM.chg0 hc) hi (hI.ok _ hl1).fl hkl (by omega))
      have HX : Hid (Inv n (I.drop (Rg.lastOf n I.od)) L.dropLast [] ∧ (I.drop (Rg.lastOf n I.od)).kM f = none ∧ (I.drop (Rg.lastOf n I.od)).fr ≠ [] ∧ (I.drop (Rg.lastOf n I.od)).c = I.c ∧ (I.drop (Rg.lastOf n I.od)).now = I.now) := Lib.hid ⟨hID, hNK, by simp [In.drop], rfl, rfl⟩
      have HBA := Lib.hid (And.intro hB hA)
      have HNB := Lib.hid (fun x hx => Nat.ne_of_lt (HLT.out x hx))
      clear hM hB hA hI hk hok hne hln hl1 hl2 hkl hID hNK HI HIn
      generalize Rg.lastOf n I.od = old at *
      generalize hID2 : I.drop old = I1 at *
      clear hID2
      have hfb : ((I.fr.length : Int) == 0) = true := by simp [hf]
      go_wp2_with fail
      refine FO.out.mono ?_
      rintro e w2 ⟨rfl, hc2⟩
      have FD := Lib.hid (HD.out w2 hc2)
      have HC2 := Lib.hid hc2
      clear hc2 FO HD c8 c9
      go_wp2_with fail
      refine FD.out.mono ?_
      rintro e w3 ⟨rfl, J3, hM3, hS3, hn3⟩
      have c3 : w3.cell? ⟨B.tb, 3, none⟩ = some (.int .i64 I.c.evicted) := by
        have := hM3.cT 3
        rw [HX.out.2.2.2.1] at this
        exact this
      have f3 := hM3.fT 3
      have hwr : IntKind.i64.wrap (I.c.evicted + 1) = I.c.evicted + 1 := by rw [IntKind.wrap_i64]; omega
      obtain ⟨hM4, hS4⟩ := hM3.setC (c' := c1) (i := 3) (u := .int .i64 (I.c.evicted + 1)) (by rw [HX.out.2.2.2.1, HE.out.1]; rfl)
      have HFIN : Hid (∃ J1 I1, Hid (MemJ (w3.setCell ⟨B.tb, 3, none⟩ (.int .i64 (I.c.evicted + 1))) B n ka kb J1 I1) ∧ Hid (Inv n I1 L1 [] ∧ I1.kM f = none ∧ I1.fr ≠ [] ∧ I1.c = c1 ∧ I1.now = I.now) ∧ Hid (Blk (w3.setCell ⟨B.tb, 3, none⟩ (.int .i64 (I.c.evicted + 1))) w.heap.size 38 (arrF f) ∧ Stp w (w3.setCell ⟨B.tb, 3, none⟩ (.int .i64 (I.c.evicted + 1))) B J J1) ∧ J1.nw = J.nw) := Lib.hid (by
        have hst : Stp w (w3.setCell ⟨B.tb, 3, none⟩ (.int .i64 (I.c.evicted + 1))) B J J3 := ((Stp.refl (HBA.out.2.trans HC2.out)).trans hS3).trans hS4
        have hb : Blk (w3.setCell ⟨B.tb, 3, none⟩ (.int .i64 (I.c.evicted + 1))) w.heap.size 38 (arrF f) := by
          have h1 := HBA.out.1.chg HC2.out (by simp)
          have h2 := h1.chg hS3.chg (fun hm => HNB.out _ hm rfl)
          exact h2.far (p := ⟨B.tb, 3, none⟩) (fun e => HNB.out B.tb (mem_footT.2 (.inl (mem_fixB.2 (by simp)))) e.symm) _
        obtain ⟨i1, i2, i3, i4, i5⟩ := HX.out
        refine ⟨J3, { I1 with c := c1 }, Lib.hid hM4, Lib.hid ⟨?_, i2, i3, rfl, i5⟩, Lib.hid ⟨hb, hst⟩, hn3⟩
        rw [HE.out.2]
        exact ⟨i1.ndo, i1.ndf, i1.sep, i1.all, i1.L, i1.key, i1.whl, i1.cnt, i1.tm, i1.ok⟩)
      clear hM3 hS3 hM4 hS4 FD HX HC2 HBA HNB HLT
      go_wp2_with fail
      go_meet
      exact HFIN.out
    · have HFIN : Hid (∃ J1 I1, Hid (MemJ wa B n ka kb J1 I1) ∧ Hid (Inv n I1 L1 [] ∧ I1.kM f = none ∧ I1.fr ≠ [] ∧ I1.c = c1 ∧ I1.now = I.now) ∧ Hid (Blk wa w.heap.size 38 (arrF f) ∧ Stp w wa B J J1) ∧ J1.nw = J.nw) := Lib.hid (by
        have hne := hI.noroom hf
        have e1 : c1 = I.c := by rw [HAC.out.1, if_neg hne]
        have e2 : L1 = L := by rw [HAC.out.2, if_neg hne]
        exact ⟨J, I, Lib.hid hM, Lib.hid ⟨by rw [e2]; exact hI, hk, fun e => hf (by rw [e]; rfl), e1.symm, rfl⟩, Lib.hid ⟨hB, Stp.refl hA⟩, rfl⟩)
      have hfb : ((I.fr.length : Int) == 0) = false := by simp [hf]
      clear hM hB hA hI hk hok HI HIn HLT
      go_wp2_with fail
      go_meet
      exact HFIN.out
  case rest =>
    obtain ⟨J1, I1, HM1, HI1, HB1, hnw1⟩ := hcut
    have HOK := Lib.hid HIn.out.2.2
    have HLTF := Lib.hid HLT.out
    clear c8 HI HIn HLT HOW HAC
    obtain ⟨fr', i, hfr⟩ : ∃ fr' i, I1.fr = fr' ++ [i] := ⟨I1.fr.dropLast, I1.fr.getLast HI1.out.2.2.1, (List.dropLast_concat_getLast HI1.out.2.2.1).symm⟩
    have hk1 : I1.fr.length = fr'.length + 1 := by rw [hfr]; simp
    have hi : i < n := (HI1.out.1.all i).2 (.inr (by rw [hfr]; simp))
    have hle := HI1.out.1.le
    have hod : I1.od.length < n := by omega
    have hown := HM1.out.free
    obtain ⟨g, cp', hgv, _, hglt⟩ := own_form hown (by omega)
    have c8 : wc.cell? ⟨B.tb, 8, none⟩ = some J1.frv := HM1.out.cT 8
    have f8 := HM1.out.fT 8
    rw [hgv, hk1] at c8
    have hat := Sl.of_own hown
    rw [hgv, hk1, hfr, List.map_append] at hat
    obtain ⟨b', o', c', hv', _, _, hg⟩ := Sl.at_ hat (k := fr'.length) (by omega) (by omega)
    simp only [Value.slice.injEq, Option.some.injEq, Addr.mk.injEq, true_and, and_true] at hv'
    obtain ⟨⟨rfl, rfl⟩, rfl⟩ := hv'
    have g0 := hg 0 (by omega)
    simp only [Nat.mul_one, Nat.add_zero, Nat.zero_add, List.map_cons, List.map_nil] at g0
    rw [List.getElem?_append_right (by simp), List.length_map, Nat.sub_self] at g0
    have g1 : wc.cell? ⟨g, fr'.length, none⟩ = some (.int .i64 i) := g0
    have hkI : ((fr'.length : Int) + 1) - 1 = fr'.length := by omega
    have hkw : IntKind.i64.wrap ((fr'.length : Int) + 1 - 1) = fr'.length := by rw [IntKind.wrap_i64]; omega
    have hown2 := hown
    rw [hgv] at hown2
    have ht := own_take (k := fr'.length) hown2 (by omega) (by simp)
    have HSET : Hid (MemJ (wc.setCell ⟨B.tb, 8, none⟩ (.slice (some ⟨g, 0, none⟩) fr'.length cp')) B n ka kb { J1 with frv := .slice (some ⟨g, 0, none⟩) fr'.length cp' } { I1 with fr := fr' } ∧ Stp wc (wc.setCell ⟨B.tb, 8, none⟩ (.slice (some ⟨g, 0, none⟩) fr'.length cp')) B J1 { J1 with frv := .slice (some ⟨g, 0, none⟩) fr'.length cp' }) := Lib.hid (by
      have hob : ∀ x ∈ (Value.slice (some ⟨g, 0, none⟩) fr'.length cp').ownBlock.toList, x ∈ J1.frv.ownBlock.toList := by rw [hgv]; exact fun x hx => hx
      have htb := HM1.out.tags.1
      have htf := HM1.out.tag_f
      refine HM1.out.setT (c' := I1.c) (HM1.out.tblk.set_ 8 _) (own_chg (xs := fr'.map Rg.iv) ?_ ((Chg.refl [B.tb] _).setCell (p := ⟨B.tb, 8, none⟩) (.inl (by simp)) _) (fun x hx hm => ?_)) (fun x hx => .inl (hob x hx)) ((Chg.refl _ _).setCell (p := ⟨B.tb, 8, none⟩) (.inl (by simp)) _)
      · have e : (I1.fr.map Rg.iv).take (fr'.length * 1) = fr'.map Rg.iv := by
          rw [hfr, List.map_append, Nat.mul_one, List.take_append_of_le_length (by simp), List.take_of_length_le (by simp)]
        rw [← e]
        exact ht
      · simp only [List.mem_cons, List.not_mem_nil, or_false] at hm
        subst hm
        rw [htf _ (hob _ hx)] at htb
        exact absurd htb (by decide))
    have HFR := Lib.hid (And.intro hfr hod)
    have hf64 : fr'.length ≤ 64 := by omega
    have hgb : w.heap.size ≠ B.tb := fun e => Nat.lt_irrefl _ (e ▸ HLTF.out B.tb (mem_footT.2 (.inl (mem_fixB.2 (by simp)))))
    have HB2 : Hid (Blk (wc.setCell ⟨B.tb, 8, none⟩ (.slice (some ⟨g, 0, none⟩) fr'.length cp')) w.heap.size 38 (arrF f)) := Lib.hid (HB1.out.1.far (p := ⟨B.tb, 8, none⟩) hgb _)
    have HWX := Lib.hid (HB1.out.2.trans HSET.out.2)
    have HG : Hid (w.heap.size ≠ B.lc ∧ w.heap.size ≠ B.pb ∧ w.heap.size ≠ B.pc) := Lib.hid ⟨fun e => Nat.lt_irrefl _ (e ▸ HLTF.out B.lc (mem_footT.2 (.inl (mem_fixB.2 (by simp))))), fun e => Nat.lt_irrefl _ (e ▸ HLTF.out B.pb (mem_footT.2 (.inl (mem_fixB.2 (by simp))))), fun e => Nat.lt_irrefl _ (e ▸ HLTF.out B.pc (mem_footT.2 (.inl (mem_fixB.2 (by simp)))))⟩
    clear hown2 hg g0 hat hown hgv hfr ht hle hod HM1 HB1
    have hkl : (fr'.length : Int) < (fr'.length : Int) + 1 := by omega
    have hkz : ¬ ((fr'.length : Int) < 0) := by omega
    generalize w.heap.size = g0 at *
    go_upto_region 8 with fail
    generalize (wc.setCell ⟨B.tb, 8, none⟩ (.slice (some ⟨g, 0, none⟩) fr'.length cp')) = w2 at *
    obtain ⟨J2, hJ2⟩ : ∃ J2 : Jx, J2 = { J1 with frv := .slice (some ⟨g, 0, none⟩) fr'.length cp' } := ⟨_, rfl⟩
    obtain ⟨I2, hI2⟩ : ∃ I2 : In, I2 = { I1 with fr := fr' } := ⟨_, rfl⟩
    have HM2 : Hid (MemJ w2.drew B n ka kb J2 I2) := Lib.hid (by rw [hJ2, hI2]; exact HSET.out.1.chg0 (Chg.refl [] w2).drew)
    have HST2 : Hid (Stp w w2.drew B J J2) := Lib.hid (by rw [hJ2]; exact HWX.out.trans (Stp.refl (Chg.refl [] w2).drew))
    have HQ2 : Hid (J2.nw = J.nw ∧ I2.kM f = none ∧ I2.km = I1.od.length ∧ I2.now = I.now ∧ I2.c = I1.c ∧ I2.fr = fr' ∧ I2.od = I1.od ∧ I2.ls = I1.ls ∧ I2.wM = I1.wM ∧ I2.kM = I1.kM ∧ I2.km = I1.km) := Lib.hid (by rw [hJ2, hI2]; exact ⟨hnw1, HI1.out.2.1, HI1.out.1.cnt, HI1.out.2.2.2.2, rfl, rfl, rfl, rfl, rfl, rfl, rfl⟩)
    clear hJ2 hI2 HSET HWX
    have hS0 : (fun W : World => W.cell? ⟨B.tb, 7, none⟩ = some (.slice (some ⟨B.lc, 0, none⟩) n n) ∧ Blk W g0 38 (arrF f)) w2.drew := ⟨HM2.out.cT 7, HB2.out.drew⟩
    have HS1 : ∀ W : World, (fun W : World => W.cell? ⟨B.tb, 7, none⟩ = some (.slice (some ⟨B.lc, 0, none⟩) n n) ∧ Blk W g0 38 (arrF f)) W → W.cell? ⟨B.tb, 7, none⟩ = some (.slice (some ⟨B.lc, 0, none⟩) n n) := fun W h => h.1
    have HS2 : ∀ W : World, (fun W : World => W.cell? ⟨B.tb, 7, none⟩ = some (.slice (some ⟨B.lc, 0, none⟩) n n) ∧ Blk W g0 38 (arrF f)) W → W.rangeAt g0 0 (arrF f).toList := fun W h => h.2.rangeQ
    have hiI : (i : Int) < (n : Int) := by omega
    clear c8 f8 g1
    refine wp_region_noPanic ?_
    refine wp_region_held_drew (S := fun W : World => W.cell? ⟨B.tb, 7, none⟩ = some (.slice (some ⟨B.lc, 0, none⟩) n n) ∧ Blk W g0 38 (arrF f)) (by kernel_rfl) hS0 (fun _ => ?_)
    generalize w2.drew = w3 at *
    refine wpAnyH_take (i := 0) (v := ?_) rfl (by kernel_rfl) (by kernel_rfl) (by kernel_rfl) (fun _ _ _ h => h) (yields_pure (by rfl) (fun w => ?_)) (by with_reducible assumption) ?_
    rotate_left
    · (go_simp <;> with_reducible rfl)
    try simp only [List.getElem_toArray, List.getElem_cons_succ, List.getElem_cons_zero, Act.put, List.setIfInBounds_toArray, List.set_cons_zero, List.set_cons_succ]
    refine wpAnyH_take (i := 1) (v := ?_) rfl (by kernel_rfl) (by kernel_rfl) (by kernel_rfl) (fun _ _ _ h => h) (yields_pure (by rfl) (fun w => ?_)) (by with_reducible assumption) ?_
    rotate_left
    · (go_simp <;> with_reducible rfl)
    try simp only [List.getElem_toArray, List.getElem_cons_succ, List.getElem_cons_zero, Act.put, List.setIfInBounds_toArray, List.set_cons_zero, List.set_cons_succ]
    refine wpAnyH_take (i := 2) (v := ?_) rfl (by kernel_rfl) (by kernel_rfl) (by kernel_rfl) (fun _ _ _ h => h) (yields_pure (by rfl) (fun w => ?_)) (by with_reducible assumption) ?_
    rotate_left
    · (go_simp <;> with_reducible rfl)
    try simp only [List.getElem_toArray, List.getElem_cons_succ, List.getElem_cons_zero, Act.put, List.setIfInBounds_toArray, List.set_cons_zero, List.set_cons_succ]
    refine wpAnyH_take (i := 3) rfl (by kernel_rfl) (by kernel_rfl) (by kernel_rfl) (fun _ _ _ h => h) (yields_cell (by rfl) 41 (.tmp 64) rfl B.tb 7 rfl (.slice (some ⟨B.lc, 0, none⟩) n n) _ HS1 Tryz.underlying41 rfl) (by with_reducible assumption) ?_
    try simp only [List.getElem_toArray, List.getElem_cons_succ, List.getElem_cons_zero, Act.put, List.setIfInBounds_toArray, List.set_cons_zero, List.set_cons_succ]
    refine wpAnyH_take (i := 4) (v := ?_) rfl (by kernel_rfl) (by kernel_rfl) (by kernel_rfl) (fun _ _ _ h => h) (yields_pure (by rfl) (fun w => ?_)) (by with_reducible assumption) ?_
    rotate_left
    · (go_simp <;> with_reducible rfl)
    try simp only [List.getElem_toArray, List.getElem_cons_succ, List.getElem_cons_zero, Act.put, List.setIfInBounds_toArray, List.set_cons_zero, List.set_cons_succ]
    refine wpAnyH_take (i := 5) rfl (by kernel_rfl) (by kernel_rfl) (by kernel_rfl) (fun _ _ _ h => h) (yields_row (by rfl) 38 (.tmp 5) rfl g0 0 rfl (arrF f) _ HS2 Tryz.underlying38 rfl infF) (by with_reducible assumption) ?_
    try simp only [List.getElem_toArray, List.getElem_cons_succ, List.getElem_cons_zero, Act.put, List.setIfInBounds_toArray, List.set_cons_zero, List.set_cons_succ]
    refine wpAnyH_take (i := 6) (v := ?_) rfl (by kernel_rfl) (by kernel_rfl) (by kernel_rfl) (fun _ _ _ h => h) (yields_pure (by rfl) (fun w => ?_)) (by with_reducible assumption) ?_
    rotate_left
    · (go_simp <;> with_reducible rfl)
    try simp only [List.getElem_toArray, List.getElem_cons_succ, List.getElem_cons_zero, Act.put, List.setIfInBounds_toArray, List.set_cons_zero, List.set_cons_succ]
    refine wpAnyH_take (i := 7) (v := ?_) rfl (by kernel_rfl) (by kernel_rfl) (by kernel_rfl) (fun _ _ _ h => h) (yields_pure (by rfl) (fun w => ?_)) (by with_reducible assumption) ?_
    rotate_left
    · (go_simp <;> with_reducible rfl)
    try simp only [List.getElem_toArray, List.getElem_cons_succ, List.getElem_cons_zero, Act.put, List.setIfInBounds_toArray, List.set_cons_zero, List.set_cons_succ]
    refine wpAnyH_take (i := 8) (v := ?_) rfl (by kernel_rfl) (by kernel_rfl) (by kernel_rfl) (fun _ _ _ h => h) (yields_pure (by rfl) (fun w => ?_)) (by with_reducible assumption) ?_
    rotate_left
    · (go_simp <;> with_reducible rfl)
    try simp only [List.getElem_toArray, List.getElem_cons_succ, List.getElem_cons_zero, Act.put, List.setIfInBounds_toArray, List.set_cons_zero, List.set_cons_succ]
    refine wpAnyH_take (i := 9) (v := ?_) rfl (by kernel_rfl) (by kernel_rfl) (by kernel_rfl) (fun _ _ _ h => h) (yields_pure (by rfl) (fun w => ?_)) (by with_reducible assumption) ?_
    rotate_left
    · (go_simp <;> with_reducible rfl)
    try simp only [List.getElem_toArray, List.getElem_cons_succ, List.getElem_cons_zero, Act.put, List.setIfInBounds_toArray, List.set_cons_zero, List.set_cons_succ]
    refine wpAnyH_ready (rs := [10]) (by kernel_rfl) (by simp) (AllReadyH.cons rfl (fun K hK => ?_) AllReadyH.nil)
    refine Fs.step_store_row encE_len rfl 44 (.tmp 71) (.tmp 70) rfl HM2.out.row (by simpa using hi) (by simp) (⟨f, node, st, 0⟩ : En) rfl rfl infE37 (encE_one _) ?_
    intro w4 hR4 hc4
    rw [updE_range I2.ls hi] at hR4
    obtain ⟨hM4, hS4⟩ := HM2.out.setL hR4 hc4
    have hne : B.tb ∉ [B.lc] := fun hm => by
      simp only [List.mem_cons, List.not_mem_nil, or_false] at hm
      have t1 := HM2.out.tags.1; have t5 := HM2.out.tags.2.2.2.2.1
      rw [hm] at t1; rw [t1] at t5; exact absurd t5 (by decide)
    have hS40 : (fun W : World => W.cell? ⟨B.tb, 7, none⟩ = some (.slice (some ⟨B.lc, 0, none⟩) n n) ∧ Blk W g0 38 (arrF f)) w4 := ⟨hc4.cell hS0.1 hne, hS0.2.chg hc4 (by simpa using HG.out.1)⟩
    have HB4 := Lib.hid hS40.2
    have HM4 := Lib.hid hM4
    have HST4 := Lib.hid (HST2.out.trans hS4)
    clear hM4 hS4 hR4 hc4 hne
    refine hK.out _ _ (by with_reducible assumption) (fun _ => ?_)
    clear hK K
    try simp only [List.getElem_toArray, List.getElem_cons_succ, List.getElem_cons_zero, Act.put, List.setIfInBounds_toArray, List.set_cons_zero, List.set_cons_succ]
    refine wpAnyH_done (by kernel_rfl) ?_ _
    refine NoPanic.normal ?_
    clear hS0 hS40 HS1 HS2 HM2 HST2 HB2
    have hMd : MemJ w4.drew B n ka kb J2 { I2 with ls := updE I2.ls i ⟨f, node, st, 0⟩ } := HM4.out.chg0 (Chg.refl [] w4).drew
    have HMd := Lib.hid hMd
    have HSTd := Lib.hid (HST4.out.trans (Stp.refl (J := J2) (B := B) (Chg.refl [] w4).drew))
    have hT0 : (fun W : World => W.cell? ⟨B.tb, 6, none⟩ = some (.pointer (some ⟨B.pb, 0, none⟩)) ∧ Blk W g0 38 (arrF f)) w4.drew := ⟨hMd.cT 6, HB4.out.drew⟩
    have HT1 : ∀ W : World, (fun W : World => W.cell? ⟨B.tb, 6, none⟩ = some (.pointer (some ⟨B.pb, 0, none⟩)) ∧ Blk W g0 38 (arrF f)) W → W.cell? ⟨B.tb, 6, none⟩ = some (.pointer (some ⟨B.pb, 0, none⟩)) := fun W h => h.1
    have HT2 : ∀ W : World, (fun W : World => W.cell? ⟨B.tb, 6, none⟩ = some (.pointer (some ⟨B.pb, 0, none⟩)) ∧ Blk W g0 38 (arrF f)) W → W.rangeAt g0 0 (arrF f).toList := fun W h => h.2.rangeQ
    have FP := Lib.hid (put_map HOK.out hMd.tab hMd.kf (i : Nat) HQ2.out.2.1 (by show I2.km < 2 * n; rw [HQ2.out.2.2.1]; have := HFR.out.2; omega))
    clear HM4 HST4 HB4 hMd
    go_upto_region 9 with fail
    refine wp_region_noPanic ?_
    refine wp_region_held_drew (S := fun W : World => W.cell? ⟨B.tb, 6, none⟩ = some (.pointer (some ⟨B.pb, 0, none⟩)) ∧ Blk W g0 38 (arrF f)) (by kernel_rfl) hT0 (fun _ => ?_)
    generalize w4.drew = w5 at *
    refine wpAnyH_take (i := 0) (v := ?_) rfl (by kernel_rfl) (by kernel_rfl) (by kernel_rfl) (fun _ _ _ h => h) (yields_pure (by rfl) (fun w => ?_)) (by with_reducible assumption) ?_
    rotate_left
    · (go_simp <;> with_reducible rfl)
    try simp only [List.getElem_toArray, List.getElem_cons_succ, List.getElem_cons_zero, Act.put, List.setIfInBounds_toArray, List.set_cons_zero, List.set_cons_succ]
    refine wpAnyH_take (i := 1) (v := ?_) rfl (by kernel_rfl) (by kernel_rfl) (by kernel_rfl) (fun _ _ _ h => h) (yields_pure (by rfl) (fun w => ?_)) (by with_reducible assumption) ?_
    rotate_left
    · (go_simp <;> with_reducible rfl)
    try simp only [List.getElem_toArray, List.getElem_cons_succ, List.getElem_cons_zero, Act.put, List.setIfInBounds_toArray, List.set_cons_zero, List.set_cons_succ]
    refine wpAnyH_take (i := 2) (v := ?_) rfl (by kernel_rfl) (by kernel_rfl) (by kernel_rfl) (fun _ _ _ h => h) (yields_pure (by rfl) (fun w => ?_)) (by with_reducible assumption) ?_
    rotate_left
    · (go_simp <;> with_reducible rfl)
    try simp only [List.getElem_toArray, List.getElem_cons_succ, List.getElem_cons_zero, Act.put, List.setIfInBounds_toArray, List.set_cons_zero, List.set_cons_succ]
    refine wpAnyH_take (i := 3) rfl (by kernel_rfl) (by kernel_rfl) (by kernel_rfl) (fun _ _ _ h => h) (yields_cell (by rfl) 58 (.tmp 74) rfl B.tb 6 rfl (.pointer (some ⟨B.pb, 0, none⟩)) _ HT1 Tryz.underlying58 rfl) (by with_reducible assumption) ?_
    try simp only [List.getElem_toArray, List.getElem_cons_succ, List.getElem_cons_zero, Act.put, List.setIfInBounds_toArray, List.set_cons_zero, List.set_cons_succ]
    refine wpAnyH_take (i := 4) rfl (by kernel_rfl) (by kernel_rfl) (by kernel_rfl) (fun _ _ _ h => h) (yields_row (by rfl) 38 (.tmp 5) rfl g0 0 rfl (arrF f) _ HT2 Tryz.underlying38 rfl infF) (by with_reducible assumption) ?_
    try simp only [List.getElem_toArray, List.getElem_cons_succ, List.getElem_cons_zero, Act.put, List.setIfInBounds_toArray, List.set_cons_zero, List.set_cons_succ]
    refine wpAnyH_take (i := 5) (v := ?_) rfl (by kernel_rfl) (by kernel_rfl) (by kernel_rfl) (fun _ _ _ h => h) (yields_pure (by rfl) (fun w => ?_)) (by with_reducible assumption) ?_
    rotate_left
    · (go_simp <;> with_reducible rfl)
    try simp only [List.getElem_toArray, List.getElem_cons_succ, List.getElem_cons_zero, Act.put, List.setIfInBounds_toArray, List.set_cons_zero, List.set_cons_succ]
    refine wpAnyH_ready (rs := [6]) (by kernel_rfl) (by simp) (AllReadyH.cons rfl (fun K hK => ?_) AllReadyH.nil)
    go_simp
    refine FP.out.mono ?_
    rintro e w6 ⟨rfl, cs', hT6, hk6, hc6⟩
    have hT60 : (fun W : World => W.cell? ⟨B.tb, 6, none⟩ = some (.pointer (some ⟨B.pb, 0, none⟩)) ∧ Blk W g0 38 (arrF f)) w6 := by
      obtain ⟨t1, t2, t3, _⟩ := HMd.out.tags
      have hb : B.tb ∉ [B.pb, B.pc] := fun hm => by
        simp only [List.mem_cons, List.not_mem_nil, or_false] at hm
        rcases hm with e | e
        · rw [e, t2] at t1; exact absurd t1 (by decide)
        · rw [e, t3] at t1; exact absurd t1 (by decide)
      exact ⟨hc6.cell hT0.1 hb, hT0.2.chg hc6 (by simpa using ⟨HG.out.2.1, HG.out.2.2⟩)⟩
    obtain ⟨hM6, hS6⟩ := HMd.out.setP hT6 hk6 hc6
    obtain ⟨J6, hJ6⟩ : ∃ J6 : Jx, J6 = { J2 with cs := cs' } := ⟨_, rfl⟩
    obtain ⟨I6, hI6⟩ : ∃ I6 : In, I6 = ⟨I2.od, updE I2.ls i ⟨f, node, st, 0⟩, I2.fr, I2.now, I2.wM, Fs.inK I2.kM f (i : Nat), I2.km + 1, I2.c⟩ := ⟨_, rfl⟩
    have HM6 : Hid (MemJ w6 B n ka kb J6 I6) := Lib.hid (by rw [hJ6, hI6]; exact hM6)
    have HST6 : Hid (Stp w w6 B J J6) := Lib.hid (by rw [hJ6]; exact HSTd.out.trans hS6)
    have e6 : I6.ls i = ⟨f, node, st, 0⟩ := by rw [hI6]; exact updE_same _ _ _
    have FR := Lib.hid (renew_any HM6.out hi (by rw [e6]; exact hst) (by rw [hI6]; show 0 ≤ I2.now; rw [HQ2.out.2.2.2.1]; exact hn0) (by rw [hI6]; show I2.now ≤ 100000; rw [HQ2.out.2.2.2.1]; exact hn1) (by rw [hJ6]; show J2.nw < 10000; rw [HQ2.out.1]; exact hnw))
    have HEND : Hid (Inv n (I6.renew i (tilOf I6 i)) (⟨f, node, st, I.now + timeout st⟩ :: L1) [] ∧ (I6.renew i (tilOf I6 i)).c = c1 ∧ (I6.renew i (tilOf I6 i)).now = I.now ∧ J6.nw = J.nw) := Lib.hid (by
      obtain ⟨q1, q2, q3, q4, q5, q6, q7, q8, q9, q10, q11⟩ := HQ2.out
      have et : tilOf I6 i = ⟨f, node, st, I.now + timeout st⟩ := by
        unfold tilOf; rw [e6, hI6]; show (⟨f, node, st, I2.now + timeout st⟩ : En) = _; rw [q4]
      have ea : I6.renew i (tilOf I6 i) = I1.add i fr' ⟨f, node, st, I.now + timeout st⟩ := by
        rw [et, hI6]
        unfold In.renew In.add
        simp only [updE_twice, q4, q5, q6, q7, q8, q9, q10, q11, HI1.out.2.2.2.2]
      have hto := timeout_le st
      refine ⟨?_, by rw [hI6]; show I2.c = c1; rw [q5]; exact HI1.out.2.2.2.1, by rw [hI6]; show I2.now = I.now; exact q4, by rw [hJ6]; exact q1⟩
      rw [ea]
      exact HI1.out.1.add HFR.out.1 HI1.out.2.1 (by rw [HI1.out.2.2.2.2]; exact ⟨by show I.now < I.now + timeout st; omega, by show I.now + timeout st ≤ I.now + 40; omega⟩) ⟨HOK.out, hnode, hst⟩)
    clear hM6 hS6 hT6 hk6 hc6 hJ6 hI6 e6
    refine hK.out _ _ (by with_reducible assumption) (fun _ => ?_)
    clear hK K
    try simp only [List.getElem_toArray, List.getElem_cons_succ, List.getElem_cons_zero, Act.put, List.setIfInBounds_toArray, List.set_cons_zero, List.set_cons_succ]
    refine wpAnyH_done (by kernel_rfl) ?_ _
    refine NoPanic.normal ?_
    clear hT0 hT60 HT1 HT2 FP HMd HSTd HQ2 HFR HI1 HOK HG
    go_wp2_with fail
    refine FR.out.mono ?_
    rintro e w7 ⟨rfl, J7, hM7, hS7, hn7⟩
    have HFIN := Lib.hid (And.intro hM7 (And.intro (HST6.out.trans hS7) hn7))
    clear hM7 hS7 hn7 FR HM6 HST6
    go_wp2_with fail
    go_end0
    exact ⟨rfl, J7, _, HFIN.out.1, HEND.out.1, HEND.out.2.1, HEND.out.2.2.1, HFIN.out.2.1, by rw [HFIN.out.2.2, HEND.out.2.2.2]⟩
end
end Go.Proofs.YtldgdpekhjignaaGreat.Ft
