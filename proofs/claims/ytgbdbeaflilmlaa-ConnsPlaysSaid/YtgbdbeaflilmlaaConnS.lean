/-
  slices.SortFunc at entries, as conns' All calls it. Condition: the row is there; each flow once.
-/
import Derived.Test.YtgbdbeaflilmlaaFlowSf2
import Derived.Test.YtgbdbeaflilmlaaConnR
import Derived.Test.YtgbdbeaflilmlaaConnW
set_option linter.unusedVariables false
set_option linter.unusedSimpArgs false
namespace Go.Proofs.Ytgbdbeaflilmlaa
open Go.RowKit Go.Maps Go.Sort Go.Proofs Go.Lib Go.Shelf

def cfE (e f : En) : Int := if lessF e.fl f.fl = true then -1 else 1
theorem cfE_lt (e f : En) : decide (cfE e f < 0) = lessF e.fl f.fl := by
  unfold cfE
  cases h : lessF e.fl f.fl <;> simp
set_option maxRecDepth 100000 in
set_option maxHeartbeats 2000000 in
theorem ecmp_any {e f : En} (he : okF e.fl) (hf : okF f.fl) (W : World) :
    Calls Try.prog 76 #[.agg (arrN e), .agg (arrN f)] W fun x w' => x = .returned (.int .i64 (cfE e f)) ∧ Gro W w' := by
  have h2 : Blk ((W.alloc (.cells (arrN e) 96)).alloc (.cells (arrN f) 96)) W.heap.size 96 (arrN e) := (Blk.new _ _ _).alloc _
  have h3 : Blk ((W.alloc (.cells (arrN e) 96)).alloc (.cells (arrN f) 96)) (W.heap.size + 1) 96 (arrN f) := Blk.new' (by simp)
  have hG := ((Gro.refl W).alloc (.cells (arrN e) 96)).alloc (.cells (arrN f) 96)
  have HV : Hid (cfE e f = if lessF e.fl f.fl = true then -1 else 1) := Lib.hid rfl
  have HI := Lib.hid (And.intro h2 (And.intro h3 hG))
  have HF1 := Lib.hid (fun W => flless_any he hf W)
  clear h2 h3 hG he hf
  go_enter Try.func76, Try.ntmps76
  go_upto_region 1 with fail
  obtain ⟨h2, h3, hG⟩ := HI.out
  generalize (W.alloc (.cells (arrN e) 96)).alloc (.cells (arrN f) 96) = W2 at *
  have R1 := Lib.hid (rgN_fl h2.rangeQ)
  have R2 := Lib.hid (rgN_fl h3.rangeQ)
  clear h2 h3
  generalize hf : lessF e.fl f.fl = t at *
  cases t with
  | true =>
    go_wp2_with (first
      | (refine wpList_row 73 (.tmp 5) rfl rfl W.heap.size 0 rfl (arrF e.fl) _ R1.out Try.underlying73 rfl infF ?_)
      | (refine wpList_row 73 (.tmp 7) rfl rfl (W.heap.size + 1) 0 rfl (arrF f.fl) _ R2.out Try.underlying73 rfl infF ?_)
      | fail)
    refine (HF1.out _).mono ?_
    rintro e w3 ⟨rfl, hg3⟩
    go_wp2_with fail
    go_ret
    rw [HV.out]
    exact ⟨rfl, hG.trans hg3⟩
  | false =>
    go_wp2_with (first
      | (refine wpList_row 73 (.tmp 5) rfl rfl W.heap.size 0 rfl (arrF e.fl) _ R1.out Try.underlying73 rfl infF ?_)
      | (refine wpList_row 73 (.tmp 7) rfl rfl (W.heap.size + 1) 0 rfl (arrF f.fl) _ R2.out Try.underlying73 rfl infF ?_)
      | fail)
    refine (HF1.out _).mono ?_
    rintro e w3 ⟨rfl, hg3⟩
    go_wp2_with fail
    go_ret
    rw [HV.out]
    exact ⟨rfl, hG.trans hg3⟩

abbrev PE : Type := { e : En // okF e.fl }
instance : Inhabited PE := ⟨⟨eN0, okA_z0, by decide, okA_z0, by decide⟩⟩
def encPE (x : PE) : List Value := encN x.1
def cfPE (x y : PE) : Int := cfE x.1 y.1
theorem encPE_len (x : PE) : (encPE x).length = 46 := rfl
theorem ltPE (x y : PE) : ltOf cfPE x y = lessF x.1.fl y.1.fl := by unfold ltOf; exact cfE_lt x.1 y.1
theorem swoPE : SWO (ltOf cfPE) where
  irrefl x := by rw [ltPE]; exact lessF_irrefl _
  trans x y z h1 h2 := by rw [ltPE] at *; exact lessF_trans h1 h2
  ntrans x y z h1 h2 := by
    rw [ltPE] at *
    cases e : lessF x.1.fl z.1.fl with
    | false => rfl
    | true =>
      by_cases e1 : x.1.fl = y.1.fl
      · rw [e1, h2] at e; cases e
      · have h3 := (lessF_total e1).resolve_left (by rw [h1]; simp)
        have := lessF_trans h3 e
        rw [h2] at this; cases this
/-- A row of entries of one's own. -/
def OwN (w : World) (B : Nat) (v : Value) (l : List En) : Prop := w.ownsRow B 96 46 v l.length (l.flatMap encN)
def SlN (w : World) (B : Nat) (v : Value) (l : List En) : Prop := Sl w B 46 v l.length (l.flatMap encN)
theorem sortEn_some {w : World} {base : Nat} {v : Value} {L : List En} (hown : OwN w base v L) (hok : ∀ f ∈ L, okF f.fl) (hnd : (L.map (·.fl)).Nodup) (hlen : L.length ≤ 1000) (hne : v ≠ .slice none 0 0) :
    Calls Try.prog 75 #[v, .func (.func 76) #[] #[]] w fun e w' => e = .returned (.tuple #[]) ∧
    ∃ L', L'.Perm L ∧ SrtE L' ∧ SlN w' base v L' ∧ Chg v.ownBlock.toList w w' := by
  have eg : ∀ args w, (callFunc 76 args).run Try.prog w = .ok (.enter 76 args) w := enters_of Try.func76 (by kernel_rfl) rfl
  rcases hown.2 with ⟨rfl, h0⟩ | ⟨g, cap, cur, rfl, hbase, hb, h1, h2, h3, h4⟩
  · exact absurd rfl hne
  · obtain ⟨d, hd⟩ : ∃ d : List PE, d.map (·.1) = L := by
      refine ⟨L.attach.map fun r => ⟨r.1, hok r.1 r.2⟩, ?_⟩
      rw [List.map_map]
      simp [Function.comp_def]
    have hdl : d.length = L.length := by rw [← hd, List.length_map]
    have hfl : L.flatMap encN = d.flatMap encPE := by rw [← hd, List.flatMap_map]; rfl
    have hH : HoldsK encPE 46 w g 0 d.toArray := holdsK_own encPE_len (by omega) hb (by rw [hdl, ← hfl]; exact h4)
    have hgw : g < w.heap.size := (Array.getElem?_eq_some_iff.1 hb).1
    have hcm : CmpLays Try.prog 76 #[] encPE 46 cfPE g 0 d.toArray.size w := fun m os dk hs x y =>
      ecmp_any x.2 y.2 _
    have hcon := AnyQ.slices_SortFunc Try.sortEn 46 Try.isAgg96 Try.sizeOf96 encPE encPE_len (fun x => encN_one x.1) cfPE swoPE 76 #[] g 0 cap d.toArray w eg hcm hH hgw (by simp; omega)
    have hsz : d.toArray.size = L.length := by simp [hdl]
    rw [hsz] at hcon
    refine Calls.mono hcon ?_
    rintro e w' ⟨rfl, d', n, os, hp, hs, rfl⟩
    rw [← hsz] at hp hs
    obtain ⟨e1, e2, e3⟩ := sorted_of hp hs
    have e2' : d'.toList.Perm d := by simpa using e2
    have hH' := holdsK_sortWorldK encPE 46 w g 0 n d.toArray d' os hgw hH e1
    have hperm : (d'.toList.map (·.1)).Perm L := by rw [← hd]; exact e2'.map _
    refine ⟨rfl, d'.toList.map (·.1), hperm, ?_, ?_, chg_sortK _ _⟩
    · have hnd' : ((d'.toList.map (·.1)).map (·.fl)).Nodup := (hperm.map _).nodup_iff.2 hnd
      have hp1 := List.pairwise_map.1 (List.pairwise_map.1 hnd')
      unfold SrtE
      rw [List.pairwise_map]
      exact (e3.and hp1).imp fun {a b} ⟨h1, h2⟩ => by
        rw [ltPE] at h1
        exact (lessF_total h2).resolve_right (by rw [h1]; simp)
    · have := sl_of_holdsK encPE_len (by omega) hH' hbase (by omega : d'.size ≤ cap)
      have hl' : (d'.toList.map (·.1)).length = L.length := hperm.length_eq
      unfold SlN
      rw [hl', List.flatMap_map]
      have hs' : d'.size = L.length := by omega
      rw [hs'] at this
      exact this
theorem sortEn_any {w : World} {base : Nat} {v : Value} {L : List En} (hown : OwN w base v L) (hok : ∀ f ∈ L, okF f.fl) (hnd : (L.map (·.fl)).Nodup) (hlen : L.length ≤ 1000) :
    Calls Try.prog 75 #[v, .func (.func 76) #[] #[]] w fun e w' => e = .returned (.tuple #[]) ∧
    ∃ L', L'.Perm L ∧ SrtE L' ∧ SlN w' base v L' ∧ Chg v.ownBlock.toList w w' := by
  by_cases hne : v = .slice none 0 0
  · subst hne
    have h0 : L = [] := by
      rcases hown.2 with ⟨_, h0⟩ | ⟨g, cap, cur, e, _⟩
      · exact List.eq_nil_of_length_eq_zero h0
      · cases e
    subst h0
    have hcon := AnyF.slices_SortFunc_none Try.sortEn none 0 (.func (.func 76) #[] #[]) w
    refine hcon.mono ?_
    rintro e w' ⟨rfl, rfl⟩
    exact ⟨rfl, [], List.Perm.refl _, List.Pairwise.nil, Sl.nil _ _ _, Chg.refl _ _⟩
  · exact sortEn_some hown hok hnd hlen hne
theorem elEn : El Try.prog 120 96 (.agg arrN0) 46 128 := ⟨Try.underlying120, by kernel_rfl, rfl, by omega⟩
theorem litEn (w : World) (e : En) : Sl (w.alloc (.cells (arrN e) 96)) 0 46 (.slice (some ⟨w.heap.size, 0, none⟩) 1 1) 1 (encN e) :=
  Sl.of_own (own_lit (base := 0) w 96 46 1 (arrN e) (Nat.zero_le _) (by simp [maxLen]) rfl)
end Go.Proofs.Ytgbdbeaflilmlaa
