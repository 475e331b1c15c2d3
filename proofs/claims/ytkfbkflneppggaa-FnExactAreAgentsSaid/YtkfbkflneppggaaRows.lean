/-
  No cell of these rows narrows 'for every input' (looked for: loops, veiled, ifaces, maps, wideKeys, modest, calm, conditions, laid).
  DERIVED. THE GIVEN ROWS OF THIS SEAT. 10 by the template 'for every input the law returns true; each argument reads behind the call as it read before'; 0 by the template 'total and deterministic' (their statements: YtkfbkflneppggaaTotals.lean).
  GIVEN WITH THE SEED: the statements are not yours to turn. If you find one false, say at which input.
  Laid BY PROGRAM, IN A SANDBOX (cutbox-rows.mjs): the forced cells as the released guide's own fill.sh prints them over the translation 0ac2b6222f19cb2d… (all of the seat's roots in one cut). By AI agents, Wed Nov 11 2026. No macro, syntax, notation, axiom, sorry.
-/
import Derived.Test.YtkfbkflneppggaaChecked
import GoSem.Claim
import GoSem.ClaimJoined
import GoSem.ClaimMapViews
import Derived.JoinedTies
import Derived.KernelRfl
namespace Go.Proofs.Ytkfbkflneppggaa
/- THE CELL 'sum', in the pinned program and in every row, IS THE sha256 OF THE DUMP (.gsa) THAT YtkfbkflneppggaaProg.lean LOADS. Nothing in Lean hashes anything: it is a label: what it is worth is what the hold of that sum in a sandbox is worth. -/
noncomputable def Try.pinned : Pinned := { name := "ytkfbkflneppggaa", sum := "0ac2b6222f19cb2db7246777e2c19b113394f74d70ab7557273c2c40b10a6b5d", checked := Try.checked }
namespace Rows
def none {H : Type} : Left H := { results := [], args := [] }

/-- 'laws.FnExactCountMaps': WHATEVER THE INPUT: true; the input reads as it did. -/
def fnExactCountMapsSpec : ChangeSpec := { name := "fnExactCountMaps", fn := fun _ => fun
  | [d1, d2, d3] => { results := [.lit (.bool true)], args := [d1, d2, d3] }
  | _ => none }
def fnExactCountMapsRow : OpenClaim := { program := "ytkfbkflneppggaa", sum := "0ac2b6222f19cb2db7246777e2c19b113394f74d70ab7557273c2c40b10a6b5d", func := "loop.example/g01128/laws.FnExactCountMaps", spec := "fnExactCountMaps", unfollowed := true, recurses := true, apart := false }
def FnExactCountMapsSaid : Prop := fnExactCountMapsRow.holds Try.pinned (OpenSpec.ofChange fnExactCountMapsSpec)

/-- ITS FALSE NEIGHBOUR: 'it returns false'. Refute it at one input. -/
def fnExactCountMapsWrong : ChangeSpec := { name := "fnExactCountMaps", fn := fun _ => fun
  | [d1, d2, d3] => { results := [.lit (.bool false)], args := [d1, d2, d3] }
  | _ => none }
def FnExactCountMapsWrongFalsely : Prop := fnExactCountMapsRow.holds Try.pinned (OpenSpec.ofChange fnExactCountMapsWrong)

/-- 'laws.FnExactCanFold': WHATEVER THE INPUT: true; the input reads as it did. -/
def fnExactCanFoldSpec : ChangeSpec := { name := "fnExactCanFold", fn := fun _ => fun
  | [d] => { results := [.lit (.bool true)], args := [d] }
  | _ => none }
def fnExactCanFoldRow : OpenClaim := { program := "ytkfbkflneppggaa", sum := "0ac2b6222f19cb2db7246777e2c19b113394f74d70ab7557273c2c40b10a6b5d", func := "loop.example/g01128/laws.FnExactCanFold", spec := "fnExactCanFold", unfollowed := true, recurses := true, apart := false }
def FnExactCanFoldSaid : Prop := fnExactCanFoldRow.holds Try.pinned (OpenSpec.ofChange fnExactCanFoldSpec)

/-- ITS FALSE NEIGHBOUR: 'it returns false'. Refute it at one input. -/
def fnExactCanFoldWrong : ChangeSpec := { name := "fnExactCanFold", fn := fun _ => fun
  | [d] => { results := [.lit (.bool false)], args := [d] }
  | _ => none }
def FnExactCanFoldWrongFalsely : Prop := fnExactCanFoldRow.holds Try.pinned (OpenSpec.ofChange fnExactCanFoldWrong)

/-- 'laws.FnExactFoldOrder': WHATEVER THE INPUT: true; the input reads as it did. -/
def fnExactFoldOrderSpec : ChangeSpec := { name := "fnExactFoldOrder", fn := fun _ => fun
  | [d] => { results := [.lit (.bool true)], args := [d] }
  | _ => none }
def fnExactFoldOrderRow : OpenClaim := { program := "ytkfbkflneppggaa", sum := "0ac2b6222f19cb2db7246777e2c19b113394f74d70ab7557273c2c40b10a6b5d", func := "loop.example/g01128/laws.FnExactFoldOrder", spec := "fnExactFoldOrder", unfollowed := true, recurses := true, apart := false }
def FnExactFoldOrderSaid : Prop := fnExactFoldOrderRow.holds Try.pinned (OpenSpec.ofChange fnExactFoldOrderSpec)

/-- ITS FALSE NEIGHBOUR: 'it returns false'. Refute it at one input. -/
def fnExactFoldOrderWrong : ChangeSpec := { name := "fnExactFoldOrder", fn := fun _ => fun
  | [d] => { results := [.lit (.bool false)], args := [d] }
  | _ => none }
def FnExactFoldOrderWrongFalsely : Prop := fnExactFoldOrderRow.holds Try.pinned (OpenSpec.ofChange fnExactFoldOrderWrong)

/-- 'laws.FnExactFirstMap': WHATEVER THE INPUT: true; the input reads as it did. -/
def fnExactFirstMapSpec : ChangeSpec := { name := "fnExactFirstMap", fn := fun _ => fun
  | [d1, d2, d3] => { results := [.lit (.bool true)], args := [d1, d2, d3] }
  | _ => none }
def fnExactFirstMapRow : OpenClaim := { program := "ytkfbkflneppggaa", sum := "0ac2b6222f19cb2db7246777e2c19b113394f74d70ab7557273c2c40b10a6b5d", func := "loop.example/g01128/laws.FnExactFirstMap", spec := "fnExactFirstMap", unfollowed := true, recurses := true, apart := false }
def FnExactFirstMapSaid : Prop := fnExactFirstMapRow.holds Try.pinned (OpenSpec.ofChange fnExactFirstMapSpec)

/-- ITS FALSE NEIGHBOUR: 'it returns false'. Refute it at one input. -/
def fnExactFirstMapWrong : ChangeSpec := { name := "fnExactFirstMap", fn := fun _ => fun
  | [d1, d2, d3] => { results := [.lit (.bool false)], args := [d1, d2, d3] }
  | _ => none }
def FnExactFirstMapWrongFalsely : Prop := fnExactFirstMapRow.holds Try.pinned (OpenSpec.ofChange fnExactFirstMapWrong)

/-- 'laws.FnExactLevelSpace': WHATEVER THE INPUT: true; the input reads as it did. -/
def fnExactLevelSpaceSpec : ChangeSpec := { name := "fnExactLevelSpace", fn := fun _ => fun
  | [d1, d2, d3] => { results := [.lit (.bool true)], args := [d1, d2, d3] }
  | _ => none }
def fnExactLevelSpaceRow : OpenClaim := { program := "ytkfbkflneppggaa", sum := "0ac2b6222f19cb2db7246777e2c19b113394f74d70ab7557273c2c40b10a6b5d", func := "loop.example/g01128/laws.FnExactLevelSpace", spec := "fnExactLevelSpace", unfollowed := true, recurses := true, apart := false }
def FnExactLevelSpaceSaid : Prop := fnExactLevelSpaceRow.holds Try.pinned (OpenSpec.ofChange fnExactLevelSpaceSpec)

/-- ITS FALSE NEIGHBOUR: 'it returns false'. Refute it at one input. -/
def fnExactLevelSpaceWrong : ChangeSpec := { name := "fnExactLevelSpace", fn := fun _ => fun
  | [d1, d2, d3] => { results := [.lit (.bool false)], args := [d1, d2, d3] }
  | _ => none }
def FnExactLevelSpaceWrongFalsely : Prop := fnExactLevelSpaceRow.holds Try.pinned (OpenSpec.ofChange fnExactLevelSpaceWrong)

/-- 'laws.FnExactAreAgents': WHATEVER THE INPUT: true; the input reads as it did. -/
def fnExactAreAgentsSpec : ChangeSpec := { name := "fnExactAreAgents", fn := fun _ => fun
  | [d1, d2] => { results := [.lit (.bool true)], args := [d1, d2] }
  | _ => none }
def fnExactAreAgentsRow : OpenClaim := { program := "ytkfbkflneppggaa", sum := "0ac2b6222f19cb2db7246777e2c19b113394f74d70ab7557273c2c40b10a6b5d", func := "loop.example/g01128/laws.FnExactAreAgents", spec := "fnExactAreAgents", unfollowed := true, recurses := true, apart := false }
def FnExactAreAgentsSaid : Prop := fnExactAreAgentsRow.holds Try.pinned (OpenSpec.ofChange fnExactAreAgentsSpec)

/-- ITS FALSE NEIGHBOUR: 'it returns false'. Refute it at one input. -/
def fnExactAreAgentsWrong : ChangeSpec := { name := "fnExactAreAgents", fn := fun _ => fun
  | [d1, d2] => { results := [.lit (.bool false)], args := [d1, d2] }
  | _ => none }
def FnExactAreAgentsWrongFalsely : Prop := fnExactAreAgentsRow.holds Try.pinned (OpenSpec.ofChange fnExactAreAgentsWrong)

/-- 'laws.FnExactWindingLabels': WHATEVER THE INPUT: true; the input reads as it did. -/
def fnExactWindingLabelsSpec : ChangeSpec := { name := "fnExactWindingLabels", fn := fun _ => fun
  | [d1, d2] => { results := [.lit (.bool true)], args := [d1, d2] }
  | _ => none }
def fnExactWindingLabelsRow : OpenClaim := { program := "ytkfbkflneppggaa", sum := "0ac2b6222f19cb2db7246777e2c19b113394f74d70ab7557273c2c40b10a6b5d", func := "loop.example/g01128/laws.FnExactWindingLabels", spec := "fnExactWindingLabels", unfollowed := true, recurses := true, apart := false }
def FnExactWindingLabelsSaid : Prop := fnExactWindingLabelsRow.holds Try.pinned (OpenSpec.ofChange fnExactWindingLabelsSpec)

/-- ITS FALSE NEIGHBOUR: 'it returns false'. Refute it at one input. -/
def fnExactWindingLabelsWrong : ChangeSpec := { name := "fnExactWindingLabels", fn := fun _ => fun
  | [d1, d2] => { results := [.lit (.bool false)], args := [d1, d2] }
  | _ => none }
def FnExactWindingLabelsWrongFalsely : Prop := fnExactWindingLabelsRow.holds Try.pinned (OpenSpec.ofChange fnExactWindingLabelsWrong)

/-- 'laws.FnExactIsStudio': WHATEVER THE INPUT: true; the input reads as it did. -/
def fnExactIsStudioSpec : ChangeSpec := { name := "fnExactIsStudio", fn := fun _ => fun
  | [d] => { results := [.lit (.bool true)], args := [d] }
  | _ => none }
def fnExactIsStudioRow : OpenClaim := { program := "ytkfbkflneppggaa", sum := "0ac2b6222f19cb2db7246777e2c19b113394f74d70ab7557273c2c40b10a6b5d", func := "loop.example/g01128/laws.FnExactIsStudio", spec := "fnExactIsStudio", unfollowed := true, recurses := true, apart := false }
def FnExactIsStudioSaid : Prop := fnExactIsStudioRow.holds Try.pinned (OpenSpec.ofChange fnExactIsStudioSpec)

/-- ITS FALSE NEIGHBOUR: 'it returns false'. Refute it at one input. -/
def fnExactIsStudioWrong : ChangeSpec := { name := "fnExactIsStudio", fn := fun _ => fun
  | [d] => { results := [.lit (.bool false)], args := [d] }
  | _ => none }
def FnExactIsStudioWrongFalsely : Prop := fnExactIsStudioRow.holds Try.pinned (OpenSpec.ofChange fnExactIsStudioWrong)

/-- 'laws.FnExactNewStudio': WHATEVER THE INPUT: true; the input reads as it did. -/
def fnExactNewStudioSpec : ChangeSpec := { name := "fnExactNewStudio", fn := fun _ => fun
  | [d1, d2] => { results := [.lit (.bool true)], args := [d1, d2] }
  | _ => none }
def fnExactNewStudioRow : OpenClaim := { program := "ytkfbkflneppggaa", sum := "0ac2b6222f19cb2db7246777e2c19b113394f74d70ab7557273c2c40b10a6b5d", func := "loop.example/g01128/laws.FnExactNewStudio", spec := "fnExactNewStudio", unfollowed := true, recurses := true, apart := false }
def FnExactNewStudioSaid : Prop := fnExactNewStudioRow.holds Try.pinned (OpenSpec.ofChange fnExactNewStudioSpec)

/-- ITS FALSE NEIGHBOUR: 'it returns false'. Refute it at one input. -/
def fnExactNewStudioWrong : ChangeSpec := { name := "fnExactNewStudio", fn := fun _ => fun
  | [d1, d2] => { results := [.lit (.bool false)], args := [d1, d2] }
  | _ => none }
def FnExactNewStudioWrongFalsely : Prop := fnExactNewStudioRow.holds Try.pinned (OpenSpec.ofChange fnExactNewStudioWrong)

/-- 'laws.FnExactMapSpace': WHATEVER THE INPUT: true; the input reads as it did. -/
def fnExactMapSpaceSpec : ChangeSpec := { name := "fnExactMapSpace", fn := fun _ => fun
  | [d1, d2, d3] => { results := [.lit (.bool true)], args := [d1, d2, d3] }
  | _ => none }
def fnExactMapSpaceRow : OpenClaim := { program := "ytkfbkflneppggaa", sum := "0ac2b6222f19cb2db7246777e2c19b113394f74d70ab7557273c2c40b10a6b5d", func := "loop.example/g01128/laws.FnExactMapSpace", spec := "fnExactMapSpace", unfollowed := true, recurses := true, apart := false }
def FnExactMapSpaceSaid : Prop := fnExactMapSpaceRow.holds Try.pinned (OpenSpec.ofChange fnExactMapSpaceSpec)

/-- ITS FALSE NEIGHBOUR: 'it returns false'. Refute it at one input. -/
def fnExactMapSpaceWrong : ChangeSpec := { name := "fnExactMapSpace", fn := fun _ => fun
  | [d1, d2, d3] => { results := [.lit (.bool false)], args := [d1, d2, d3] }
  | _ => none }
def FnExactMapSpaceWrongFalsely : Prop := fnExactMapSpaceRow.holds Try.pinned (OpenSpec.ofChange fnExactMapSpaceWrong)

/- THE SECOND FORM. 'bulk': how many values and letters a reading holds, each counted each time it is reached (what is shared counts as often as it is met; a slice's spare places count too). A statement '..UptoSaid' is the law's where the arguments, and the package variables that the reading takes, are together of bulk at most 1048576: NARROWER than '..Said'. Prove '..Said' where nothing that the law and all that it calls make is longer than what came in: it says more and counts as full. Else prove '..UptoSaid'. A law counts once. -/
mutual
def uptoBulk {H : Type} : DataW H → Nat
  | .lit (.string bytes) => bytes.length + 1
  | .lit _ => 1
  | .nil => 1
  | .ptr d => uptoBulk d + 1
  | .slice elems spare => uptoBulkAll elems + uptoBulkAll spare + 1
  | .agg parts => uptoBulkAll parts + 1
  | .iface _ d => uptoBulk d + 1
  | .map entries => uptoBulkEntries entries + 1
  | .held _ => 1
def uptoBulkAll {H : Type} : List (DataW H) → Nat
  | [] => 0
  | d :: r => uptoBulk d + uptoBulkAll r
def uptoBulkEntries {H : Type} : List (Lit × DataW H) → Nat
  | [] => 0
  | x :: r => uptoBulkEntry x + uptoBulkEntries r
def uptoBulkEntry {H : Type} : Lit × DataW H → Nat
  | (.string bytes, d) => bytes.length + uptoBulk d + 1
  | (_, d) => uptoBulk d + 1
 end
def uptoSmall : (H : Type) → List (DataW H) → Bool := fun _ ds => decide (uptoBulkAll ds ≤ 1048576)
def OpenSpec.upto (s : _root_.Go.ChangeSpec) : _root_.Go.OpenSpec := { _root_.Go.OpenSpec.ofChange s with cond := some uptoSmall }

/-- 'laws.FnExactCountMaps', WHERE WHAT IT READS IS OF BULK AT MOST 1048576: true; the input reads as it did. -/
def fnExactCountMapsUptoRow : OpenClaim := { program := "ytkfbkflneppggaa", sum := "0ac2b6222f19cb2db7246777e2c19b113394f74d70ab7557273c2c40b10a6b5d", func := "loop.example/g01128/laws.FnExactCountMaps", spec := "fnExactCountMaps", unfollowed := true, recurses := true, apart := false, narrowed := true }
def FnExactCountMapsUptoSaid : Prop := fnExactCountMapsUptoRow.holds Try.pinned (OpenSpec.upto fnExactCountMapsSpec)

/-- 'laws.FnExactCanFold', WHERE WHAT IT READS IS OF BULK AT MOST 1048576: true; the input reads as it did. -/
def fnExactCanFoldUptoRow : OpenClaim := { program := "ytkfbkflneppggaa", sum := "0ac2b6222f19cb2db7246777e2c19b113394f74d70ab7557273c2c40b10a6b5d", func := "loop.example/g01128/laws.FnExactCanFold", spec := "fnExactCanFold", unfollowed := true, recurses := true, apart := false, narrowed := true }
def FnExactCanFoldUptoSaid : Prop := fnExactCanFoldUptoRow.holds Try.pinned (OpenSpec.upto fnExactCanFoldSpec)

/-- 'laws.FnExactFoldOrder', WHERE WHAT IT READS IS OF BULK AT MOST 1048576: true; the input reads as it did. -/
def fnExactFoldOrderUptoRow : OpenClaim := { program := "ytkfbkflneppggaa", sum := "0ac2b6222f19cb2db7246777e2c19b113394f74d70ab7557273c2c40b10a6b5d", func := "loop.example/g01128/laws.FnExactFoldOrder", spec := "fnExactFoldOrder", unfollowed := true, recurses := true, apart := false, narrowed := true }
def FnExactFoldOrderUptoSaid : Prop := fnExactFoldOrderUptoRow.holds Try.pinned (OpenSpec.upto fnExactFoldOrderSpec)

/-- 'laws.FnExactFirstMap', WHERE WHAT IT READS IS OF BULK AT MOST 1048576: true; the input reads as it did. -/
def fnExactFirstMapUptoRow : OpenClaim := { program := "ytkfbkflneppggaa", sum := "0ac2b6222f19cb2db7246777e2c19b113394f74d70ab7557273c2c40b10a6b5d", func := "loop.example/g01128/laws.FnExactFirstMap", spec := "fnExactFirstMap", unfollowed := true, recurses := true, apart := false, narrowed := true }
def FnExactFirstMapUptoSaid : Prop := fnExactFirstMapUptoRow.holds Try.pinned (OpenSpec.upto fnExactFirstMapSpec)

/-- 'laws.FnExactLevelSpace', WHERE WHAT IT READS IS OF BULK AT MOST 1048576: true; the input reads as it did. -/
def fnExactLevelSpaceUptoRow : OpenClaim := { program := "ytkfbkflneppggaa", sum := "0ac2b6222f19cb2db7246777e2c19b113394f74d70ab7557273c2c40b10a6b5d", func := "loop.example/g01128/laws.FnExactLevelSpace", spec := "fnExactLevelSpace", unfollowed := true, recurses := true, apart := false, narrowed := true }
def FnExactLevelSpaceUptoSaid : Prop := fnExactLevelSpaceUptoRow.holds Try.pinned (OpenSpec.upto fnExactLevelSpaceSpec)

/-- 'laws.FnExactAreAgents', WHERE WHAT IT READS IS OF BULK AT MOST 1048576: true; the input reads as it did. -/
def fnExactAreAgentsUptoRow : OpenClaim := { program := "ytkfbkflneppggaa", sum := "0ac2b6222f19cb2db7246777e2c19b113394f74d70ab7557273c2c40b10a6b5d", func := "loop.example/g01128/laws.FnExactAreAgents", spec := "fnExactAreAgents", unfollowed := true, recurses := true, apart := false, narrowed := true }
def FnExactAreAgentsUptoSaid : Prop := fnExactAreAgentsUptoRow.holds Try.pinned (OpenSpec.upto fnExactAreAgentsSpec)

/-- 'laws.FnExactWindingLabels', WHERE WHAT IT READS IS OF BULK AT MOST 1048576: true; the input reads as it did. -/
def fnExactWindingLabelsUptoRow : OpenClaim := { program := "ytkfbkflneppggaa", sum := "0ac2b6222f19cb2db7246777e2c19b113394f74d70ab7557273c2c40b10a6b5d", func := "loop.example/g01128/laws.FnExactWindingLabels", spec := "fnExactWindingLabels", unfollowed := true, recurses := true, apart := false, narrowed := true }
def FnExactWindingLabelsUptoSaid : Prop := fnExactWindingLabelsUptoRow.holds Try.pinned (OpenSpec.upto fnExactWindingLabelsSpec)

/-- 'laws.FnExactIsStudio', WHERE WHAT IT READS IS OF BULK AT MOST 1048576: true; the input reads as it did. -/
def fnExactIsStudioUptoRow : OpenClaim := { program := "ytkfbkflneppggaa", sum := "0ac2b6222f19cb2db7246777e2c19b113394f74d70ab7557273c2c40b10a6b5d", func := "loop.example/g01128/laws.FnExactIsStudio", spec := "fnExactIsStudio", unfollowed := true, recurses := true, apart := false, narrowed := true }
def FnExactIsStudioUptoSaid : Prop := fnExactIsStudioUptoRow.holds Try.pinned (OpenSpec.upto fnExactIsStudioSpec)

/-- 'laws.FnExactNewStudio', WHERE WHAT IT READS IS OF BULK AT MOST 1048576: true; the input reads as it did. -/
def fnExactNewStudioUptoRow : OpenClaim := { program := "ytkfbkflneppggaa", sum := "0ac2b6222f19cb2db7246777e2c19b113394f74d70ab7557273c2c40b10a6b5d", func := "loop.example/g01128/laws.FnExactNewStudio", spec := "fnExactNewStudio", unfollowed := true, recurses := true, apart := false, narrowed := true }
def FnExactNewStudioUptoSaid : Prop := fnExactNewStudioUptoRow.holds Try.pinned (OpenSpec.upto fnExactNewStudioSpec)

/-- 'laws.FnExactMapSpace', WHERE WHAT IT READS IS OF BULK AT MOST 1048576: true; the input reads as it did. -/
def fnExactMapSpaceUptoRow : OpenClaim := { program := "ytkfbkflneppggaa", sum := "0ac2b6222f19cb2db7246777e2c19b113394f74d70ab7557273c2c40b10a6b5d", func := "loop.example/g01128/laws.FnExactMapSpace", spec := "fnExactMapSpace", unfollowed := true, recurses := true, apart := false, narrowed := true }
def FnExactMapSpaceUptoSaid : Prop := fnExactMapSpaceUptoRow.holds Try.pinned (OpenSpec.upto fnExactMapSpaceSpec)

end Rows
end Go.Proofs.Ytkfbkflneppggaa
