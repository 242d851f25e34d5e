/-
  slices.SortFunc at flows, as flow.Sort calls it. Condition: the row is there; each flow once.
-/
import Derived.Test.YtldgdpekhjignaaGreatFlowCmp
import Derived.Test.YtldgdpekhjignaaGreatShelfT
import Derived.Test.YtldgdpekhjignaaGreatSortK
import Derived.Sort.OwnSorted
import Derived.Shelf.SlSortCmp.QuietGrown
set_option linter.unusedVariables false
set_option linter.unusedSimpArgs false
namespace Go.Proofs.YtldgdpekhjignaaGreat
open Go.RowKit Go.Maps Go.Sort Go.Proofs Go.Lib Go.Shelf

abbrev PF : Type := { f : Fl // okF f }
theorem okA_z0 : okA ⟨0, 0, 0, 0, 0, 0, 0, 0, 0, 0, 0, 0, 0, 0, 0, 0⟩ := by intro x hx; simp [Ad.l] at hx; rcases hx with rfl; decide
instance : Inhabited PF := ⟨⟨⟨⟨0, 0, 0, 0, 0, 0, 0, 0, 0, 0, 0, 0, 0, 0, 0, 0⟩, 0, ⟨0, 0, 0, 0, 0, 0, 0, 0, 0, 0, 0, 0, 0, 0, 0, 0⟩, 0⟩, okA_z0, by decide, okA_z0, by decide⟩⟩
def encPF (x : PF) : List Value := encF x.1
def cfPF (x y : PF) : Int := cfF x.1 y.1
theorem encPF_len (x : PF) : (encPF x).length = 34 := rfl
theorem ltPF (x y : PF) : ltOf cfPF x y = lessF x.1 y.1 := by unfold ltOf; exact cfF_lt x.1 y.1
theorem swoPF : SWO (ltOf cfPF) where
  irrefl x := by rw [ltPF]; exact lessF_irrefl _
  trans x y z h1 h2 := by rw [ltPF] at *; exact lessF_trans h1 h2
  ntrans x y z h1 h2 := by
    rw [ltPF] at *
    cases e : lessF x.1 z.1 with
    | false => rfl
    | true =>
      by_cases e1 : x.1 = y.1
      · rw [e1, h2] at e; cases e
      · have h3 := (lessF_total e1).resolve_left (by rw [h1]; simp)
        have := lessF_trans h3 e
        rw [h2] at this; cases this

theorem sortFl_some {w : World} {base gl : Nat} {v : Value} {L : List Fl} (hc : w.cell? ⟨gl, 0, none⟩ = some (.func (.func 67) #[] #[])) (hown : OwF w base v L) (hok : ∀ f ∈ L, okF f) (hnd : L.Nodup) (hlen : L.length ≤ 1000) (hgl : gl ∉ v.ownBlock.toList) (hne : v ≠ .slice none 0 0) :
    Calls Tryz.prog 88 #[v, .func (.func 89) #[] #[.pointer (some ⟨gl, 0, none⟩)]] w fun e w' => e = .returned (.tuple #[]) ∧
    ∃ L', L'.Perm L ∧ SrtF L' ∧ Sl w' base 34 v L'.length (L'.flatMap encF) ∧ Chg v.ownBlock.toList w w' := by
  have eg : ∀ args w, (callFunc 89 args).run Tryz.prog w = .ok (.enter 89 args) w := enters_of Tryz.func89 (by kernel_rfl) rfl
  rcases hown.2 with ⟨rfl, h0⟩ | ⟨g, cap, cur, rfl, hbase, hb, h1, h2, h3, h4⟩
  · exact absurd rfl hne
  · obtain ⟨d, hd⟩ : ∃ d : List PF, d.map (·.1) = L := by
      refine ⟨L.attach.map fun r => ⟨r.1, hok r.1 r.2⟩, ?_⟩
      rw [List.map_map]
      simp [Function.comp_def]
    have hdl : d.length = L.length := by rw [← hd, List.length_map]
    have hfl : L.flatMap encF = d.flatMap encPF := by rw [← hd, List.flatMap_map]; rfl
    have hH : HoldsK encPF 34 w g 0 d.toArray := holdsK_own encPF_len (by omega) hb (by rw [hdl, ← hfl]; exact h4)
    have hgw : g < w.heap.size := (Array.getElem?_eq_some_iff.1 hb).1
    have hcm : CmpLays Tryz.prog 89 #[.pointer (some ⟨gl, 0, none⟩)] encPF 34 cfPF g 0 d.toArray.size w := fun m os dk hs x y =>
      fcmp_any x.2 y.2 gl _ ((chg_sortK dk os).cell hc hgl)
    have hcon := AnyQ.slices_SortFunc Tryz.sortFl 34 Tryz.isAgg38 Tryz.sizeOf38 encPF encPF_len (fun x => encF_one x.1) cfPF swoPF 89 #[.pointer (some ⟨gl, 0, none⟩)] g 0 cap d.toArray w eg hcm hH hgw (by simp; omega)
    have hsz : d.toArray.size = L.length := by simp [hdl]
    rw [hsz] at hcon
    refine Calls.mono hcon ?_
    rintro e w' ⟨rfl, d', n, os, hp, hs, rfl⟩
    rw [← hsz] at hp hs
    obtain ⟨e1, e2, e3⟩ := sorted_of hp hs
    have e2' : d'.toList.Perm d := by simpa using e2
    have hH' := holdsK_sortWorldK encPF 34 w g 0 n d.toArray d' os hgw hH e1
    have hperm : (d'.toList.map (·.1)).Perm L := by rw [← hd]; exact e2'.map _
    refine ⟨rfl, d'.toList.map (·.1), hperm, ?_, ?_, chg_sortK _ _⟩
    · have hnd' : (d'.toList.map (·.1)).Nodup := hperm.nodup_iff.2 hnd
      have hp1 := List.pairwise_map.1 hnd'
      unfold SrtF
      rw [List.pairwise_map]
      exact (e3.and hp1).imp fun {a b} ⟨h1, h2⟩ => by
        rw [ltPF] at h1
        exact (lessF_total h2).resolve_right (by rw [h1]; simp)
    · have := sl_of_holdsK encPF_len (by omega) hH' hbase (by omega : d'.size ≤ cap)
      have hl' : (d'.toList.map (·.1)).length = L.length := hperm.length_eq
      rw [hl', List.flatMap_map]
      have hs' : d'.size = L.length := by omega
      rw [hs'] at this
      exact this
end Go.Proofs.YtldgdpekhjignaaGreat
