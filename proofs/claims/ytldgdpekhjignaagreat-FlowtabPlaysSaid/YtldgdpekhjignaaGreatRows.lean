/-
  No cell of these rows narrows 'for every input' (looked for: loops, veiled, ifaces, maps, wideKeys, modest, calm, conditions, laid).
  DERIVED. THE GIVEN ROWS OF THIS SEAT. 4 by the template 'for every input the law returns true; each argument reads behind the call as it read before'; 0 by the template 'total and deterministic' (their statements: YtldgdpekhjignaaGreatTotals.lean).
  GIVEN WITH THE SEED: the statements are not yours to turn. If you find one false, say at which input.
  Laid BY PROGRAM, IN A SANDBOX (cutbox-rows.mjs): the forced cells as the released guide's own fill.sh prints them over the translation 3052c9912a4b503f… (all of the seat's roots in one cut). By AI agents, Wed Nov 11 2026. No macro, syntax, notation, axiom, sorry.
-/
import Derived.Test.YtldgdpekhjignaaGreatChecked
import GoSem.Claim
import GoSem.ClaimJoined
import GoSem.ClaimMapViews
import Derived.JoinedTies
import Derived.KernelRfl
namespace Go.Proofs.YtldgdpekhjignaaGreat
/- THE CELL 'sum', in the pinned program and in every row, IS THE sha256 OF THE DUMP (.gsa) THAT YtldgdpekhjignaaGreatProg.lean LOADS. Nothing in Lean hashes anything: it is a label: what it is worth is what the hold of that sum in a sandbox is worth. -/
noncomputable def Tryz.pinned : Pinned := { name := "ytldgdpekhjignaagreat", sum := "3052c9912a4b503f3729686ec0e5472a574c976950201c9e95545106b6b3cef6", checked := Tryz.checked }
namespace Rows
def none {H : Type} : Left H := { results := [], args := [] }

/-- 'harrierlaw26.FlowtabRoom': WHATEVER THE INPUT: true; the input reads as it did. -/
def flowtabRoomSpec : ChangeSpec := { name := "flowtabRoom", fn := fun _ => fun
  | [d1, d2, d3] => { results := [.lit (.bool true)], args := [d1, d2, d3] }
  | _ => none }
def flowtabRoomRow : OpenClaim := { program := "ytldgdpekhjignaagreat", sum := "3052c9912a4b503f3729686ec0e5472a574c976950201c9e95545106b6b3cef6", func := "harrier/harrierlaw26.FlowtabRoom", spec := "flowtabRoom", unfollowed := true, recurses := true, plainKeys := false, apart := false }
def FlowtabRoomSaid : Prop := flowtabRoomRow.holds Tryz.pinned (OpenSpec.ofChange flowtabRoomSpec)

/-- ITS FALSE NEIGHBOUR: 'it returns false'. Refute it at one input. -/
def flowtabRoomWrong : ChangeSpec := { name := "flowtabRoom", fn := fun _ => fun
  | [d1, d2, d3] => { results := [.lit (.bool false)], args := [d1, d2, d3] }
  | _ => none }
def FlowtabRoomWrongFalsely : Prop := flowtabRoomRow.holds Tryz.pinned (OpenSpec.ofChange flowtabRoomWrong)

/-- 'harrierlaw26.FlowtabSticks': WHATEVER THE INPUT: true; the input reads as it did. -/
def flowtabSticksSpec : ChangeSpec := { name := "flowtabSticks", fn := fun _ => fun
  | [d1, d2, d3] => { results := [.lit (.bool true)], args := [d1, d2, d3] }
  | _ => none }
def flowtabSticksRow : OpenClaim := { program := "ytldgdpekhjignaagreat", sum := "3052c9912a4b503f3729686ec0e5472a574c976950201c9e95545106b6b3cef6", func := "harrier/harrierlaw26.FlowtabSticks", spec := "flowtabSticks", unfollowed := true, recurses := true, plainKeys := false, apart := false }
def FlowtabSticksSaid : Prop := flowtabSticksRow.holds Tryz.pinned (OpenSpec.ofChange flowtabSticksSpec)

/-- ITS FALSE NEIGHBOUR: 'it returns false'. Refute it at one input. -/
def flowtabSticksWrong : ChangeSpec := { name := "flowtabSticks", fn := fun _ => fun
  | [d1, d2, d3] => { results := [.lit (.bool false)], args := [d1, d2, d3] }
  | _ => none }
def FlowtabSticksWrongFalsely : Prop := flowtabSticksRow.holds Tryz.pinned (OpenSpec.ofChange flowtabSticksWrong)

/-- 'harrierlaw26.FlowtabPlays': WHATEVER THE INPUT: true; the input reads as it did. -/
def flowtabPlaysSpec : ChangeSpec := { name := "flowtabPlays", fn := fun _ => fun
  | [d1, d2, d3] => { results := [.lit (.bool true)], args := [d1, d2, d3] }
  | _ => none }
def flowtabPlaysRow : OpenClaim := { program := "ytldgdpekhjignaagreat", sum := "3052c9912a4b503f3729686ec0e5472a574c976950201c9e95545106b6b3cef6", func := "harrier/harrierlaw26.FlowtabPlays", spec := "flowtabPlays", unfollowed := true, recurses := true, plainKeys := false, apart := false }
def FlowtabPlaysSaid : Prop := flowtabPlaysRow.holds Tryz.pinned (OpenSpec.ofChange flowtabPlaysSpec)

/-- ITS FALSE NEIGHBOUR: 'it returns false'. Refute it at one input. -/
def flowtabPlaysWrong : ChangeSpec := { name := "flowtabPlays", fn := fun _ => fun
  | [d1, d2, d3] => { results := [.lit (.bool false)], args := [d1, d2, d3] }
  | _ => none }
def FlowtabPlaysWrongFalsely : Prop := flowtabPlaysRow.holds Tryz.pinned (OpenSpec.ofChange flowtabPlaysWrong)

/-- 'harrierlaw26.FlowtabNil': WHATEVER THE INPUT: true; the input reads as it did. -/
def flowtabNilSpec : ChangeSpec := { name := "flowtabNil", fn := fun _ => fun
  | [d1, d2] => { results := [.lit (.bool true)], args := [d1, d2] }
  | _ => none }
def flowtabNilRow : OpenClaim := { program := "ytldgdpekhjignaagreat", sum := "3052c9912a4b503f3729686ec0e5472a574c976950201c9e95545106b6b3cef6", func := "harrier/harrierlaw26.FlowtabNil", spec := "flowtabNil", unfollowed := true, recurses := true, plainKeys := false, apart := false }
def FlowtabNilSaid : Prop := flowtabNilRow.holds Tryz.pinned (OpenSpec.ofChange flowtabNilSpec)

/-- ITS FALSE NEIGHBOUR: 'it returns false'. Refute it at one input. -/
def flowtabNilWrong : ChangeSpec := { name := "flowtabNil", fn := fun _ => fun
  | [d1, d2] => { results := [.lit (.bool false)], args := [d1, d2] }
  | _ => none }
def FlowtabNilWrongFalsely : Prop := flowtabNilRow.holds Tryz.pinned (OpenSpec.ofChange flowtabNilWrong)

/- THE SECOND FORM. 'bulk': how many values and letters a reading holds, each counted each time it is reached (what is shared counts as often as it is met; a slice's spare places count too). A statement '..UptoSaid' is the law's where the arguments, and the package variables that the reading takes, are together of bulk at most 1048576: NARROWER than '..Said'. Prove '..Said' where nothing that the law and all that it calls make is longer than what came in: it says more and counts as full. Else prove '..UptoSaid'. A law counts once. -/
mutual
def uptoBulk {H : Type} : DataW H → Nat
  | .lit (.string bytes) => bytes.length + 1
  | .lit _ => 1
  | .nil => 1
  | .ptr d => uptoBulk d + 1
  | .slice elems spare => uptoBulkAll elems + uptoBulkAll spare + 1
  | .agg parts => uptoBulkAll parts + 1
  | .iface _ d => uptoBulk d + 1
  | .map entries => uptoBulkEntries entries + 1
  | .held _ => 1
def uptoBulkAll {H : Type} : List (DataW H) → Nat
  | [] => 0
  | d :: r => uptoBulk d + uptoBulkAll r
def uptoBulkEntries {H : Type} : List (Lit × DataW H) → Nat
  | [] => 0
  | x :: r => uptoBulkEntry x + uptoBulkEntries r
def uptoBulkEntry {H : Type} : Lit × DataW H → Nat
  | (.string bytes, d) => bytes.length + uptoBulk d + 1
  | (_, d) => uptoBulk d + 1
 end
def uptoSmall : (H : Type) → List (DataW H) → Bool := fun _ ds => decide (uptoBulkAll ds ≤ 1048576)
def OpenSpec.upto (s : _root_.Go.ChangeSpec) : _root_.Go.OpenSpec := { _root_.Go.OpenSpec.ofChange s with cond := some uptoSmall }

/-- 'harrierlaw26.FlowtabRoom', WHERE WHAT IT READS IS OF BULK AT MOST 1048576: true; the input reads as it did. -/
def flowtabRoomUptoRow : OpenClaim := { program := "ytldgdpekhjignaagreat", sum := "3052c9912a4b503f3729686ec0e5472a574c976950201c9e95545106b6b3cef6", func := "harrier/harrierlaw26.FlowtabRoom", spec := "flowtabRoom", unfollowed := true, recurses := true, plainKeys := false, apart := false, narrowed := true }
def FlowtabRoomUptoSaid : Prop := flowtabRoomUptoRow.holds Tryz.pinned (OpenSpec.upto flowtabRoomSpec)

/-- 'harrierlaw26.FlowtabSticks', WHERE WHAT IT READS IS OF BULK AT MOST 1048576: true; the input reads as it did. -/
def flowtabSticksUptoRow : OpenClaim := { program := "ytldgdpekhjignaagreat", sum := "3052c9912a4b503f3729686ec0e5472a574c976950201c9e95545106b6b3cef6", func := "harrier/harrierlaw26.FlowtabSticks", spec := "flowtabSticks", unfollowed := true, recurses := true, plainKeys := false, apart := false, narrowed := true }
def FlowtabSticksUptoSaid : Prop := flowtabSticksUptoRow.holds Tryz.pinned (OpenSpec.upto flowtabSticksSpec)

/-- 'harrierlaw26.FlowtabPlays', WHERE WHAT IT READS IS OF BULK AT MOST 1048576: true; the input reads as it did. -/
def flowtabPlaysUptoRow : OpenClaim := { program := "ytldgdpekhjignaagreat", sum := "3052c9912a4b503f3729686ec0e5472a574c976950201c9e95545106b6b3cef6", func := "harrier/harrierlaw26.FlowtabPlays", spec := "flowtabPlays", unfollowed := true, recurses := true, plainKeys := false, apart := false, narrowed := true }
def FlowtabPlaysUptoSaid : Prop := flowtabPlaysUptoRow.holds Tryz.pinned (OpenSpec.upto flowtabPlaysSpec)

/-- 'harrierlaw26.FlowtabNil', WHERE WHAT IT READS IS OF BULK AT MOST 1048576: true; the input reads as it did. -/
def flowtabNilUptoRow : OpenClaim := { program := "ytldgdpekhjignaagreat", sum := "3052c9912a4b503f3729686ec0e5472a574c976950201c9e95545106b6b3cef6", func := "harrier/harrierlaw26.FlowtabNil", spec := "flowtabNil", unfollowed := true, recurses := true, plainKeys := false, apart := false, narrowed := true }
def FlowtabNilUptoSaid : Prop := flowtabNilUptoRow.holds Tryz.pinned (OpenSpec.upto flowtabNilSpec)

end Rows
end Go.Proofs.YtldgdpekhjignaaGreat
