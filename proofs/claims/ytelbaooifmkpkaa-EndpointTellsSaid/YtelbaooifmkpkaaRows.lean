/-
  No cell of these rows narrows 'for every input' (looked for: loops, veiled, ifaces, maps, wideKeys, modest, calm, conditions, laid).
  DERIVED. THE GIVEN ROWS OF THIS SEAT. 5 by the template 'for every input the law returns true; each argument reads behind the call as it read before'; 0 by the template 'total and deterministic' (their statements: YtelbaooifmkpkaaTotals.lean).
  GIVEN WITH THE SEED: the statements are not yours to turn. If you find one false, say at which input.
  Laid BY PROGRAM, IN A SANDBOX (cutbox-rows.mjs): the forced cells as the released guide's own fill.sh prints them over the translation 87b4b6924ba90d6b… (all of the seat's roots in one cut). By AI agents, Wed Nov 11 2026. No macro, syntax, notation, axiom, sorry.
-/
import Derived.Test.YtelbaooifmkpkaaChecked
import GoSem.Claim
import GoSem.ClaimJoined
import GoSem.ClaimMapViews
import Derived.JoinedTies
import Derived.KernelRfl
namespace Go.Proofs.Ytelbaooifmkpkaa
/- THE CELL 'sum', in the pinned program and in every row, IS THE sha256 OF THE DUMP (.gsa) THAT YtelbaooifmkpkaaProg.lean LOADS. Nothing in Lean hashes anything: it is a label: what it is worth is what the hold of that sum in a sandbox is worth. -/
noncomputable def Try.pinned : Pinned := { name := "ytelbaooifmkpkaa", sum := "87b4b6924ba90d6b1b09c986eff3e8d1485de933f80a9c4d0ef5325412eb9ad9", checked := Try.checked }
namespace Rows
def none {H : Type} : Left H := { results := [], args := [] }

/-- 'harrierlaw21.SlotsPlays': WHATEVER THE INPUT: true; the input reads as it did. -/
def slotsPlaysSpec : ChangeSpec := { name := "slotsPlays", fn := fun _ => fun
  | [d1, d2] => { results := [.lit (.bool true)], args := [d1, d2] }
  | _ => none }
def slotsPlaysRow : OpenClaim := { program := "ytelbaooifmkpkaa", sum := "87b4b6924ba90d6b1b09c986eff3e8d1485de933f80a9c4d0ef5325412eb9ad9", func := "harrier/harrierlaw21.SlotsPlays", spec := "slotsPlays", unfollowed := true, recurses := true, apart := false }
def SlotsPlaysSaid : Prop := slotsPlaysRow.holds Try.pinned (OpenSpec.ofChange slotsPlaysSpec)

/-- ITS FALSE NEIGHBOUR: 'it returns false'. Refute it at one input. -/
def slotsPlaysWrong : ChangeSpec := { name := "slotsPlays", fn := fun _ => fun
  | [d1, d2] => { results := [.lit (.bool false)], args := [d1, d2] }
  | _ => none }
def SlotsPlaysWrongFalsely : Prop := slotsPlaysRow.holds Try.pinned (OpenSpec.ofChange slotsPlaysWrong)

/-- 'harrierlaw29.EndpointStream': WHATEVER THE INPUT: true; the input reads as it did. -/
def endpointStreamSpec : ChangeSpec := { name := "endpointStream", fn := fun _ => fun
  | [d1, d2, d3] => { results := [.lit (.bool true)], args := [d1, d2, d3] }
  | _ => none }
def endpointStreamRow : OpenClaim := { program := "ytelbaooifmkpkaa", sum := "87b4b6924ba90d6b1b09c986eff3e8d1485de933f80a9c4d0ef5325412eb9ad9", func := "harrier/harrierlaw29.EndpointStream", spec := "endpointStream", apart := false }
def EndpointStreamSaid : Prop := endpointStreamRow.holds Try.pinned (OpenSpec.ofChange endpointStreamSpec)

/-- ITS FALSE NEIGHBOUR: 'it returns false'. Refute it at one input. -/
def endpointStreamWrong : ChangeSpec := { name := "endpointStream", fn := fun _ => fun
  | [d1, d2, d3] => { results := [.lit (.bool false)], args := [d1, d2, d3] }
  | _ => none }
def EndpointStreamWrongFalsely : Prop := endpointStreamRow.holds Try.pinned (OpenSpec.ofChange endpointStreamWrong)

/-- 'harrierlaw21.SlotsReach': WHATEVER THE INPUT: true; the input reads as it did. -/
def slotsReachSpec : ChangeSpec := { name := "slotsReach", fn := fun _ => fun
  | [d1, d2] => { results := [.lit (.bool true)], args := [d1, d2] }
  | _ => none }
def slotsReachRow : OpenClaim := { program := "ytelbaooifmkpkaa", sum := "87b4b6924ba90d6b1b09c986eff3e8d1485de933f80a9c4d0ef5325412eb9ad9", func := "harrier/harrierlaw21.SlotsReach", spec := "slotsReach", unfollowed := true, recurses := true, apart := false }
def SlotsReachSaid : Prop := slotsReachRow.holds Try.pinned (OpenSpec.ofChange slotsReachSpec)

/-- ITS FALSE NEIGHBOUR: 'it returns false'. Refute it at one input. -/
def slotsReachWrong : ChangeSpec := { name := "slotsReach", fn := fun _ => fun
  | [d1, d2] => { results := [.lit (.bool false)], args := [d1, d2] }
  | _ => none }
def SlotsReachWrongFalsely : Prop := slotsReachRow.holds Try.pinned (OpenSpec.ofChange slotsReachWrong)

/-- 'harrierlaw21.SlotsNil': WHATEVER THE INPUT: true; the input reads as it did. -/
def slotsNilSpec : ChangeSpec := { name := "slotsNil", fn := fun _ => fun
  | [d1, d2] => { results := [.lit (.bool true)], args := [d1, d2] }
  | _ => none }
def slotsNilRow : OpenClaim := { program := "ytelbaooifmkpkaa", sum := "87b4b6924ba90d6b1b09c986eff3e8d1485de933f80a9c4d0ef5325412eb9ad9", func := "harrier/harrierlaw21.SlotsNil", spec := "slotsNil", unfollowed := true, recurses := true, apart := false }
def SlotsNilSaid : Prop := slotsNilRow.holds Try.pinned (OpenSpec.ofChange slotsNilSpec)

/-- ITS FALSE NEIGHBOUR: 'it returns false'. Refute it at one input. -/
def slotsNilWrong : ChangeSpec := { name := "slotsNil", fn := fun _ => fun
  | [d1, d2] => { results := [.lit (.bool false)], args := [d1, d2] }
  | _ => none }
def SlotsNilWrongFalsely : Prop := slotsNilRow.holds Try.pinned (OpenSpec.ofChange slotsNilWrong)

/-- 'harrierlaw29.EndpointTells': WHATEVER THE INPUT: true; the input reads as it did. -/
def endpointTellsSpec : ChangeSpec := { name := "endpointTells", fn := fun _ => fun
  | [d1, d2, d3] => { results := [.lit (.bool true)], args := [d1, d2, d3] }
  | _ => none }
def endpointTellsRow : OpenClaim := { program := "ytelbaooifmkpkaa", sum := "87b4b6924ba90d6b1b09c986eff3e8d1485de933f80a9c4d0ef5325412eb9ad9", func := "harrier/harrierlaw29.EndpointTells", spec := "endpointTells", apart := false }
def EndpointTellsSaid : Prop := endpointTellsRow.holds Try.pinned (OpenSpec.ofChange endpointTellsSpec)

/-- ITS FALSE NEIGHBOUR: 'it returns false'. Refute it at one input. -/
def endpointTellsWrong : ChangeSpec := { name := "endpointTells", fn := fun _ => fun
  | [d1, d2, d3] => { results := [.lit (.bool false)], args := [d1, d2, d3] }
  | _ => none }
def EndpointTellsWrongFalsely : Prop := endpointTellsRow.holds Try.pinned (OpenSpec.ofChange endpointTellsWrong)

/- THE SECOND FORM. 'bulk': how many values and letters a reading holds, each counted each time it is reached (what is shared counts as often as it is met; a slice's spare places count too). A statement '..UptoSaid' is the law's where the arguments, and the package variables that the reading takes, are together of bulk at most 1048576: NARROWER than '..Said'. Prove '..Said' where nothing that the law and all that it calls make is longer than what came in: it says more and counts as full. Else prove '..UptoSaid'. A law counts once. -/
mutual
def uptoBulk {H : Type} : DataW H → Nat
  | .lit (.string bytes) => bytes.length + 1
  | .lit _ => 1
  | .nil => 1
  | .ptr d => uptoBulk d + 1
  | .slice elems spare => uptoBulkAll elems + uptoBulkAll spare + 1
  | .agg parts => uptoBulkAll parts + 1
  | .iface _ d => uptoBulk d + 1
  | .map entries => uptoBulkEntries entries + 1
  | .held _ => 1
def uptoBulkAll {H : Type} : List (DataW H) → Nat
  | [] => 0
  | d :: r => uptoBulk d + uptoBulkAll r
def uptoBulkEntries {H : Type} : List (Lit × DataW H) → Nat
  | [] => 0
  | x :: r => uptoBulkEntry x + uptoBulkEntries r
def uptoBulkEntry {H : Type} : Lit × DataW H → Nat
  | (.string bytes, d) => bytes.length + uptoBulk d + 1
  | (_, d) => uptoBulk d + 1
 end
def uptoSmall : (H : Type) → List (DataW H) → Bool := fun _ ds => decide (uptoBulkAll ds ≤ 1048576)
def OpenSpec.upto (s : _root_.Go.ChangeSpec) : _root_.Go.OpenSpec := { _root_.Go.OpenSpec.ofChange s with cond := some uptoSmall }

/-- 'harrierlaw21.SlotsPlays', WHERE WHAT IT READS IS OF BULK AT MOST 1048576: true; the input reads as it did. -/
def slotsPlaysUptoRow : OpenClaim := { program := "ytelbaooifmkpkaa", sum := "87b4b6924ba90d6b1b09c986eff3e8d1485de933f80a9c4d0ef5325412eb9ad9", func := "harrier/harrierlaw21.SlotsPlays", spec := "slotsPlays", unfollowed := true, recurses := true, apart := false, narrowed := true }
def SlotsPlaysUptoSaid : Prop := slotsPlaysUptoRow.holds Try.pinned (OpenSpec.upto slotsPlaysSpec)

/-- 'harrierlaw29.EndpointStream', WHERE WHAT IT READS IS OF BULK AT MOST 1048576: true; the input reads as it did. -/
def endpointStreamUptoRow : OpenClaim := { program := "ytelbaooifmkpkaa", sum := "87b4b6924ba90d6b1b09c986eff3e8d1485de933f80a9c4d0ef5325412eb9ad9", func := "harrier/harrierlaw29.EndpointStream", spec := "endpointStream", apart := false, narrowed := true }
def EndpointStreamUptoSaid : Prop := endpointStreamUptoRow.holds Try.pinned (OpenSpec.upto endpointStreamSpec)

/-- 'harrierlaw21.SlotsReach', WHERE WHAT IT READS IS OF BULK AT MOST 1048576: true; the input reads as it did. -/
def slotsReachUptoRow : OpenClaim := { program := "ytelbaooifmkpkaa", sum := "87b4b6924ba90d6b1b09c986eff3e8d1485de933f80a9c4d0ef5325412eb9ad9", func := "harrier/harrierlaw21.SlotsReach", spec := "slotsReach", unfollowed := true, recurses := true, apart := false, narrowed := true }
def SlotsReachUptoSaid : Prop := slotsReachUptoRow.holds Try.pinned (OpenSpec.upto slotsReachSpec)

/-- 'harrierlaw21.SlotsNil', WHERE WHAT IT READS IS OF BULK AT MOST 1048576: true; the input reads as it did. -/
def slotsNilUptoRow : OpenClaim := { program := "ytelbaooifmkpkaa", sum := "87b4b6924ba90d6b1b09c986eff3e8d1485de933f80a9c4d0ef5325412eb9ad9", func := "harrier/harrierlaw21.SlotsNil", spec := "slotsNil", unfollowed := true, recurses := true, apart := false, narrowed := true }
def SlotsNilUptoSaid : Prop := slotsNilUptoRow.holds Try.pinned (OpenSpec.upto slotsNilSpec)

/-- 'harrierlaw29.EndpointTells', WHERE WHAT IT READS IS OF BULK AT MOST 1048576: true; the input reads as it did. -/
def endpointTellsUptoRow : OpenClaim := { program := "ytelbaooifmkpkaa", sum := "87b4b6924ba90d6b1b09c986eff3e8d1485de933f80a9c4d0ef5325412eb9ad9", func := "harrier/harrierlaw29.EndpointTells", spec := "endpointTells", apart := false, narrowed := true }
def EndpointTellsUptoSaid : Prop := endpointTellsUptoRow.holds Try.pinned (OpenSpec.upto endpointTellsSpec)

end Rows
end Go.Proofs.Ytelbaooifmkpkaa
