/-
  No cell of these rows narrows 'for every input' (looked for: loops, veiled, ifaces, maps, wideKeys, modest, calm, conditions, laid).
  DERIVED. THE GIVEN ROWS OF THIS SEAT. 7 by the template 'for every input the law returns true; each argument reads behind the call as it read before'; 0 by the template 'total and deterministic' (their statements: YtgbndaiifbogmaaGreatTotals.lean).
  GIVEN WITH THE SEED: the statements are not yours to turn. If you find one false, say at which input.
  Laid BY PROGRAM, IN A SANDBOX (cutbox-rows.mjs): the forced cells as the released guide's own fill.sh prints them over the translation fc0e466f4f58fa5a… (all of the seat's roots in one cut). By AI agents, Wed Nov 11 2026. No macro, syntax, notation, axiom, sorry.
-/
import Derived.Test.YtgbndaiifbogmaaGreatChecked
import GoSem.Claim
import GoSem.ClaimJoined
import GoSem.ClaimMapViews
import Derived.JoinedTies
import Derived.KernelRfl
namespace Go.Proofs.YtgbndaiifbogmaaGreat
/- THE CELL 'sum', in the pinned program and in every row, IS THE sha256 OF THE DUMP (.gsa) THAT YtgbndaiifbogmaaGreatProg.lean LOADS. Nothing in Lean hashes anything: it is a label: what it is worth is what the hold of that sum in a sandbox is worth. -/
noncomputable def Tryz.pinned : Pinned := { name := "ytgbndaiifbogmaagreat", sum := "fc0e466f4f58fa5afedd0fd624a1806cb6de3e44d47aca11dc959da18b9d1781", checked := Tryz.checked }
namespace Rows
def none {H : Type} : Left H := { results := [], args := [] }

/-- 'harrierlaw37.LearnReads': WHATEVER THE INPUT: true; the input reads as it did. -/
def learnReadsSpec : ChangeSpec := { name := "learnReads", fn := fun _ => fun
  | [d] => { results := [.lit (.bool true)], args := [d] }
  | _ => none }
def learnReadsRow : OpenClaim := { program := "ytgbndaiifbogmaagreat", sum := "fc0e466f4f58fa5afedd0fd624a1806cb6de3e44d47aca11dc959da18b9d1781", func := "harrier/harrierlaw37.LearnReads", spec := "learnReads", unfollowed := true, recurses := true, plainKeys := false, apart := false }
def LearnReadsSaid : Prop := learnReadsRow.holds Tryz.pinned (OpenSpec.ofChange learnReadsSpec)

/-- ITS FALSE NEIGHBOUR: 'it returns false'. Refute it at one input. -/
def learnReadsWrong : ChangeSpec := { name := "learnReads", fn := fun _ => fun
  | [d] => { results := [.lit (.bool false)], args := [d] }
  | _ => none }
def LearnReadsWrongFalsely : Prop := learnReadsRow.holds Tryz.pinned (OpenSpec.ofChange learnReadsWrong)

/-- 'harrierlaw37.LearnSaid': WHATEVER THE INPUT: true; the input reads as it did. -/
def learnSaidSpec : ChangeSpec := { name := "learnSaid", fn := fun _ => fun
  | [d1, d2, d3] => { results := [.lit (.bool true)], args := [d1, d2, d3] }
  | _ => none }
def learnSaidRow : OpenClaim := { program := "ytgbndaiifbogmaagreat", sum := "fc0e466f4f58fa5afedd0fd624a1806cb6de3e44d47aca11dc959da18b9d1781", func := "harrier/harrierlaw37.LearnSaid", spec := "learnSaid", unfollowed := true, recurses := true, plainKeys := false, apart := false }
def LearnSaidSaid : Prop := learnSaidRow.holds Tryz.pinned (OpenSpec.ofChange learnSaidSpec)

/-- ITS FALSE NEIGHBOUR: 'it returns false'. Refute it at one input. -/
def learnSaidWrong : ChangeSpec := { name := "learnSaid", fn := fun _ => fun
  | [d1, d2, d3] => { results := [.lit (.bool false)], args := [d1, d2, d3] }
  | _ => none }
def LearnSaidWrongFalsely : Prop := learnSaidRow.holds Tryz.pinned (OpenSpec.ofChange learnSaidWrong)

/-- 'harrierlaw33.AgentOnce': WHATEVER THE INPUT: true; the input reads as it did. -/
def agentOnceSpec : ChangeSpec := { name := "agentOnce", fn := fun _ => fun
  | [d1, d2] => { results := [.lit (.bool true)], args := [d1, d2] }
  | _ => none }
def agentOnceRow : OpenClaim := { program := "ytgbndaiifbogmaagreat", sum := "fc0e466f4f58fa5afedd0fd624a1806cb6de3e44d47aca11dc959da18b9d1781", func := "harrier/harrierlaw33.AgentOnce", spec := "agentOnce", unfollowed := true, recurses := true, plainKeys := false, apart := false }
def AgentOnceSaid : Prop := agentOnceRow.holds Tryz.pinned (OpenSpec.ofChange agentOnceSpec)

/-- ITS FALSE NEIGHBOUR: 'it returns false'. Refute it at one input. -/
def agentOnceWrong : ChangeSpec := { name := "agentOnce", fn := fun _ => fun
  | [d1, d2] => { results := [.lit (.bool false)], args := [d1, d2] }
  | _ => none }
def AgentOnceWrongFalsely : Prop := agentOnceRow.holds Tryz.pinned (OpenSpec.ofChange agentOnceWrong)

/-- 'harrierlaw33.AgentPasses': WHATEVER THE INPUT: true; the input reads as it did. -/
def agentPassesSpec : ChangeSpec := { name := "agentPasses", fn := fun _ => fun
  | [d1, d2] => { results := [.lit (.bool true)], args := [d1, d2] }
  | _ => none }
def agentPassesRow : OpenClaim := { program := "ytgbndaiifbogmaagreat", sum := "fc0e466f4f58fa5afedd0fd624a1806cb6de3e44d47aca11dc959da18b9d1781", func := "harrier/harrierlaw33.AgentPasses", spec := "agentPasses", unfollowed := true, recurses := true, plainKeys := false, apart := false }
def AgentPassesSaid : Prop := agentPassesRow.holds Tryz.pinned (OpenSpec.ofChange agentPassesSpec)

/-- ITS FALSE NEIGHBOUR: 'it returns false'. Refute it at one input. -/
def agentPassesWrong : ChangeSpec := { name := "agentPasses", fn := fun _ => fun
  | [d1, d2] => { results := [.lit (.bool false)], args := [d1, d2] }
  | _ => none }
def AgentPassesWrongFalsely : Prop := agentPassesRow.holds Tryz.pinned (OpenSpec.ofChange agentPassesWrong)

/-- 'harrierlaw33.AgentTotal': WHATEVER THE INPUT: true; the input reads as it did. -/
def agentTotalSpec : ChangeSpec := { name := "agentTotal", fn := fun _ => fun
  | [d1, d2] => { results := [.lit (.bool true)], args := [d1, d2] }
  | _ => none }
def agentTotalRow : OpenClaim := { program := "ytgbndaiifbogmaagreat", sum := "fc0e466f4f58fa5afedd0fd624a1806cb6de3e44d47aca11dc959da18b9d1781", func := "harrier/harrierlaw33.AgentTotal", spec := "agentTotal", unfollowed := true, recurses := true, plainKeys := false, apart := false }
def AgentTotalSaid : Prop := agentTotalRow.holds Tryz.pinned (OpenSpec.ofChange agentTotalSpec)

/-- ITS FALSE NEIGHBOUR: 'it returns false'. Refute it at one input. -/
def agentTotalWrong : ChangeSpec := { name := "agentTotal", fn := fun _ => fun
  | [d1, d2] => { results := [.lit (.bool false)], args := [d1, d2] }
  | _ => none }
def AgentTotalWrongFalsely : Prop := agentTotalRow.holds Tryz.pinned (OpenSpec.ofChange agentTotalWrong)

/-- 'harrierlaw33.AgentPlays': WHATEVER THE INPUT: true; the input reads as it did. -/
def agentPlaysSpec : ChangeSpec := { name := "agentPlays", fn := fun _ => fun
  | [d1, d2] => { results := [.lit (.bool true)], args := [d1, d2] }
  | _ => none }
def agentPlaysRow : OpenClaim := { program := "ytgbndaiifbogmaagreat", sum := "fc0e466f4f58fa5afedd0fd624a1806cb6de3e44d47aca11dc959da18b9d1781", func := "harrier/harrierlaw33.AgentPlays", spec := "agentPlays", unfollowed := true, recurses := true, plainKeys := false, apart := false }
def AgentPlaysSaid : Prop := agentPlaysRow.holds Tryz.pinned (OpenSpec.ofChange agentPlaysSpec)

/-- ITS FALSE NEIGHBOUR: 'it returns false'. Refute it at one input. -/
def agentPlaysWrong : ChangeSpec := { name := "agentPlays", fn := fun _ => fun
  | [d1, d2] => { results := [.lit (.bool false)], args := [d1, d2] }
  | _ => none }
def AgentPlaysWrongFalsely : Prop := agentPlaysRow.holds Tryz.pinned (OpenSpec.ofChange agentPlaysWrong)

/-- 'harrierlaw33.AgentNil': WHATEVER THE INPUT: true; the input reads as it did. -/
def agentNilSpec : ChangeSpec := { name := "agentNil", fn := fun _ => fun
  | [d1, d2, d3] => { results := [.lit (.bool true)], args := [d1, d2, d3] }
  | _ => none }
def agentNilRow : OpenClaim := { program := "ytgbndaiifbogmaagreat", sum := "fc0e466f4f58fa5afedd0fd624a1806cb6de3e44d47aca11dc959da18b9d1781", func := "harrier/harrierlaw33.AgentNil", spec := "agentNil", unfollowed := true, recurses := true, plainKeys := false, apart := false }
def AgentNilSaid : Prop := agentNilRow.holds Tryz.pinned (OpenSpec.ofChange agentNilSpec)

/-- ITS FALSE NEIGHBOUR: 'it returns false'. Refute it at one input. -/
def agentNilWrong : ChangeSpec := { name := "agentNil", fn := fun _ => fun
  | [d1, d2, d3] => { results := [.lit (.bool false)], args := [d1, d2, d3] }
  | _ => none }
def AgentNilWrongFalsely : Prop := agentNilRow.holds Tryz.pinned (OpenSpec.ofChange agentNilWrong)

/- THE SECOND FORM. 'bulk': how many values and letters a reading holds, each counted each time it is reached (what is shared counts as often as it is met; a slice's spare places count too). A statement '..UptoSaid' is the law's where the arguments, and the package variables that the reading takes, are together of bulk at most 1048576: NARROWER than '..Said'. Prove '..Said' where nothing that the law and all that it calls make is longer than what came in: it says more and counts as full. Else prove '..UptoSaid'. A law counts once. -/
mutual
def uptoBulk {H : Type} : DataW H → Nat
  | .lit (.string bytes) => bytes.length + 1
  | .lit _ => 1
  | .nil => 1
  | .ptr d => uptoBulk d + 1
  | .slice elems spare => uptoBulkAll elems + uptoBulkAll spare + 1
  | .agg parts => uptoBulkAll parts + 1
  | .iface _ d => uptoBulk d + 1
  | .map entries => uptoBulkEntries entries + 1
  | .held _ => 1
def uptoBulkAll {H : Type} : List (DataW H) → Nat
  | [] => 0
  | d :: r => uptoBulk d + uptoBulkAll r
def uptoBulkEntries {H : Type} : List (Lit × DataW H) → Nat
  | [] => 0
  | x :: r => uptoBulkEntry x + uptoBulkEntries r
def uptoBulkEntry {H : Type} : Lit × DataW H → Nat
  | (.string bytes, d) => bytes.length + uptoBulk d + 1
  | (_, d) => uptoBulk d + 1
 end
def uptoSmall : (H : Type) → List (DataW H) → Bool := fun _ ds => decide (uptoBulkAll ds ≤ 1048576)
def OpenSpec.upto (s : _root_.Go.ChangeSpec) : _root_.Go.OpenSpec := { _root_.Go.OpenSpec.ofChange s with cond := some uptoSmall }

/-- 'harrierlaw37.LearnReads', WHERE WHAT IT READS IS OF BULK AT MOST 1048576: true; the input reads as it did. -/
def learnReadsUptoRow : OpenClaim := { program := "ytgbndaiifbogmaagreat", sum := "fc0e466f4f58fa5afedd0fd624a1806cb6de3e44d47aca11dc959da18b9d1781", func := "harrier/harrierlaw37.LearnReads", spec := "learnReads", unfollowed := true, recurses := true, plainKeys := false, apart := false, narrowed := true }
def LearnReadsUptoSaid : Prop := learnReadsUptoRow.holds Tryz.pinned (OpenSpec.upto learnReadsSpec)

/-- 'harrierlaw37.LearnSaid', WHERE WHAT IT READS IS OF BULK AT MOST 1048576: true; the input reads as it did. -/
def learnSaidUptoRow : OpenClaim := { program := "ytgbndaiifbogmaagreat", sum := "fc0e466f4f58fa5afedd0fd624a1806cb6de3e44d47aca11dc959da18b9d1781", func := "harrier/harrierlaw37.LearnSaid", spec := "learnSaid", unfollowed := true, recurses := true, plainKeys := false, apart := false, narrowed := true }
def LearnSaidUptoSaid : Prop := learnSaidUptoRow.holds Tryz.pinned (OpenSpec.upto learnSaidSpec)

/-- 'harrierlaw33.AgentOnce', WHERE WHAT IT READS IS OF BULK AT MOST 1048576: true; the input reads as it did. -/
def agentOnceUptoRow : OpenClaim := { program := "ytgbndaiifbogmaagreat", sum := "fc0e466f4f58fa5afedd0fd624a1806cb6de3e44d47aca11dc959da18b9d1781", func := "harrier/harrierlaw33.AgentOnce", spec := "agentOnce", unfollowed := true, recurses := true, plainKeys := false, apart := false, narrowed := true }
def AgentOnceUptoSaid : Prop := agentOnceUptoRow.holds Tryz.pinned (OpenSpec.upto agentOnceSpec)

/-- 'harrierlaw33.AgentPasses', WHERE WHAT IT READS IS OF BULK AT MOST 1048576: true; the input reads as it did. -/
def agentPassesUptoRow : OpenClaim := { program := "ytgbndaiifbogmaagreat", sum := "fc0e466f4f58fa5afedd0fd624a1806cb6de3e44d47aca11dc959da18b9d1781", func := "harrier/harrierlaw33.AgentPasses", spec := "agentPasses", unfollowed := true, recurses := true, plainKeys := false, apart := false, narrowed := true }
def AgentPassesUptoSaid : Prop := agentPassesUptoRow.holds Tryz.pinned (OpenSpec.upto agentPassesSpec)

/-- 'harrierlaw33.AgentTotal', WHERE WHAT IT READS IS OF BULK AT MOST 1048576: true; the input reads as it did. -/
def agentTotalUptoRow : OpenClaim := { program := "ytgbndaiifbogmaagreat", sum := "fc0e466f4f58fa5afedd0fd624a1806cb6de3e44d47aca11dc959da18b9d1781", func := "harrier/harrierlaw33.AgentTotal", spec := "agentTotal", unfollowed := true, recurses := true, plainKeys := false, apart := false, narrowed := true }
def AgentTotalUptoSaid : Prop := agentTotalUptoRow.holds Tryz.pinned (OpenSpec.upto agentTotalSpec)

/-- 'harrierlaw33.AgentPlays', WHERE WHAT IT READS IS OF BULK AT MOST 1048576: true; the input reads as it did. -/
def agentPlaysUptoRow : OpenClaim := { program := "ytgbndaiifbogmaagreat", sum := "fc0e466f4f58fa5afedd0fd624a1806cb6de3e44d47aca11dc959da18b9d1781", func := "harrier/harrierlaw33.AgentPlays", spec := "agentPlays", unfollowed := true, recurses := true, plainKeys := false, apart := false, narrowed := true }
def AgentPlaysUptoSaid : Prop := agentPlaysUptoRow.holds Tryz.pinned (OpenSpec.upto agentPlaysSpec)

/-- 'harrierlaw33.AgentNil', WHERE WHAT IT READS IS OF BULK AT MOST 1048576: true; the input reads as it did. -/
def agentNilUptoRow : OpenClaim := { program := "ytgbndaiifbogmaagreat", sum := "fc0e466f4f58fa5afedd0fd624a1806cb6de3e44d47aca11dc959da18b9d1781", func := "harrier/harrierlaw33.AgentNil", spec := "agentNil", unfollowed := true, recurses := true, plainKeys := false, apart := false, narrowed := true }
def AgentNilUptoSaid : Prop := agentNilUptoRow.holds Tryz.pinned (OpenSpec.upto agentNilSpec)

end Rows
end Go.Proofs.YtgbndaiifbogmaaGreat
