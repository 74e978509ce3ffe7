/-
  No cell of these rows narrows 'for every input' (looked for: loops, veiled, ifaces, maps, wideKeys, modest, calm, conditions, laid).
  DERIVED. THE GIVEN ROWS OF THIS SEAT. 8 by the template 'for every input the law returns true; each argument reads behind the call as it read before'; 0 by the template 'total and deterministic' (their statements: YtobgfnlfbjodjaaTotals.lean).
  GIVEN WITH THE SEED: the statements are not yours to turn. If you find one false, say at which input.
  Laid BY PROGRAM, IN A SANDBOX (cutbox-rows.mjs): the forced cells as the released guide's own fill.sh prints them over the translation 0702ad480562db23… (all of the seat's roots in one cut). By AI agents, Wed Nov 11 2026. No macro, syntax, notation, axiom, sorry.
-/
import Derived.Test.YtobgfnlfbjodjaaChecked
import GoSem.Claim
import GoSem.ClaimJoined
import GoSem.ClaimMapViews
import Derived.JoinedTies
import Derived.KernelRfl
namespace Go.Proofs.Ytobgfnlfbjodjaa
/- THE CELL 'sum', in the pinned program and in every row, IS THE sha256 OF THE DUMP (.gsa) THAT YtobgfnlfbjodjaaProg.lean LOADS. Nothing in Lean hashes anything: it is a label: what it is worth is what the hold of that sum in a sandbox is worth. -/
noncomputable def Try.pinned : Pinned := { name := "ytobgfnlfbjodjaa", sum := "0702ad480562db235458392cfa073a03c4ffd95344f7d71f1630c6f348cd44d2", checked := Try.checked }
namespace Rows
def none {H : Type} : Left H := { results := [], args := [] }

/-- 'shipyardlaw35.InspectMethods': WHATEVER THE INPUT: true; the input reads as it did. -/
def inspectMethodsSpec : ChangeSpec := { name := "inspectMethods", fn := fun _ => fun
  | [d1, d2] => { results := [.lit (.bool true)], args := [d1, d2] }
  | _ => none }
def inspectMethodsRow : OpenClaim := { program := "ytobgfnlfbjodjaa", sum := "0702ad480562db235458392cfa073a03c4ffd95344f7d71f1630c6f348cd44d2", func := "shipyard/shipyardlaw35.InspectMethods", spec := "inspectMethods", unfollowed := true, recurses := true, apart := false }
def InspectMethodsSaid : Prop := inspectMethodsRow.holds Try.pinned (OpenSpec.ofChange inspectMethodsSpec)

/-- ITS FALSE NEIGHBOUR: 'it returns false'. Refute it at one input. -/
def inspectMethodsWrong : ChangeSpec := { name := "inspectMethods", fn := fun _ => fun
  | [d1, d2] => { results := [.lit (.bool false)], args := [d1, d2] }
  | _ => none }
def InspectMethodsWrongFalsely : Prop := inspectMethodsRow.holds Try.pinned (OpenSpec.ofChange inspectMethodsWrong)

/-- 'shipyardlaw35.InspectTasks': WHATEVER THE INPUT: true; the input reads as it did. -/
def inspectTasksSpec : ChangeSpec := { name := "inspectTasks", fn := fun _ => fun
  | [d1, d2] => { results := [.lit (.bool true)], args := [d1, d2] }
  | _ => none }
def inspectTasksRow : OpenClaim := { program := "ytobgfnlfbjodjaa", sum := "0702ad480562db235458392cfa073a03c4ffd95344f7d71f1630c6f348cd44d2", func := "shipyard/shipyardlaw35.InspectTasks", spec := "inspectTasks", unfollowed := true, recurses := true, apart := false }
def InspectTasksSaid : Prop := inspectTasksRow.holds Try.pinned (OpenSpec.ofChange inspectTasksSpec)

/-- ITS FALSE NEIGHBOUR: 'it returns false'. Refute it at one input. -/
def inspectTasksWrong : ChangeSpec := { name := "inspectTasks", fn := fun _ => fun
  | [d1, d2] => { results := [.lit (.bool false)], args := [d1, d2] }
  | _ => none }
def InspectTasksWrongFalsely : Prop := inspectTasksRow.holds Try.pinned (OpenSpec.ofChange inspectTasksWrong)

/-- 'shipyardlaw35.InspectSamples': WHATEVER THE INPUT: true; the input reads as it did. -/
def inspectSamplesSpec : ChangeSpec := { name := "inspectSamples", fn := fun _ => fun
  | [d1, d2] => { results := [.lit (.bool true)], args := [d1, d2] }
  | _ => none }
def inspectSamplesRow : OpenClaim := { program := "ytobgfnlfbjodjaa", sum := "0702ad480562db235458392cfa073a03c4ffd95344f7d71f1630c6f348cd44d2", func := "shipyard/shipyardlaw35.InspectSamples", spec := "inspectSamples", unfollowed := true, recurses := true, apart := false }
def InspectSamplesSaid : Prop := inspectSamplesRow.holds Try.pinned (OpenSpec.ofChange inspectSamplesSpec)

/-- ITS FALSE NEIGHBOUR: 'it returns false'. Refute it at one input. -/
def inspectSamplesWrong : ChangeSpec := { name := "inspectSamples", fn := fun _ => fun
  | [d1, d2] => { results := [.lit (.bool false)], args := [d1, d2] }
  | _ => none }
def InspectSamplesWrongFalsely : Prop := inspectSamplesRow.holds Try.pinned (OpenSpec.ofChange inspectSamplesWrong)

/-- 'shipyardlaw35.InspectExtents': WHATEVER THE INPUT: true; the input reads as it did. -/
def inspectExtentsSpec : ChangeSpec := { name := "inspectExtents", fn := fun _ => fun
  | [d1, d2, d3] => { results := [.lit (.bool true)], args := [d1, d2, d3] }
  | _ => none }
def inspectExtentsRow : OpenClaim := { program := "ytobgfnlfbjodjaa", sum := "0702ad480562db235458392cfa073a03c4ffd95344f7d71f1630c6f348cd44d2", func := "shipyard/shipyardlaw35.InspectExtents", spec := "inspectExtents", unfollowed := true, recurses := true, apart := false }
def InspectExtentsSaid : Prop := inspectExtentsRow.holds Try.pinned (OpenSpec.ofChange inspectExtentsSpec)

/-- ITS FALSE NEIGHBOUR: 'it returns false'. Refute it at one input. -/
def inspectExtentsWrong : ChangeSpec := { name := "inspectExtents", fn := fun _ => fun
  | [d1, d2, d3] => { results := [.lit (.bool false)], args := [d1, d2, d3] }
  | _ => none }
def InspectExtentsWrongFalsely : Prop := inspectExtentsRow.holds Try.pinned (OpenSpec.ofChange inspectExtentsWrong)

/-- 'shipyardlaw35.InspectAll': WHATEVER THE INPUT: true; the input reads as it did. -/
def inspectAllSpec : ChangeSpec := { name := "inspectAll", fn := fun _ => fun
  | [d] => { results := [.lit (.bool true)], args := [d] }
  | _ => none }
def inspectAllRow : OpenClaim := { program := "ytobgfnlfbjodjaa", sum := "0702ad480562db235458392cfa073a03c4ffd95344f7d71f1630c6f348cd44d2", func := "shipyard/shipyardlaw35.InspectAll", spec := "inspectAll", unfollowed := true, recurses := true, apart := false }
def InspectAllSaid : Prop := inspectAllRow.holds Try.pinned (OpenSpec.ofChange inspectAllSpec)

/-- ITS FALSE NEIGHBOUR: 'it returns false'. Refute it at one input. -/
def inspectAllWrong : ChangeSpec := { name := "inspectAll", fn := fun _ => fun
  | [d] => { results := [.lit (.bool false)], args := [d] }
  | _ => none }
def InspectAllWrongFalsely : Prop := inspectAllRow.holds Try.pinned (OpenSpec.ofChange inspectAllWrong)

/-- 'shipyardlaw35.InspectPasses': WHATEVER THE INPUT: true; the input reads as it did. -/
def inspectPassesSpec : ChangeSpec := { name := "inspectPasses", fn := fun _ => fun
  | [d1, d2, d3] => { results := [.lit (.bool true)], args := [d1, d2, d3] }
  | _ => none }
def inspectPassesRow : OpenClaim := { program := "ytobgfnlfbjodjaa", sum := "0702ad480562db235458392cfa073a03c4ffd95344f7d71f1630c6f348cd44d2", func := "shipyard/shipyardlaw35.InspectPasses", spec := "inspectPasses", unfollowed := true, recurses := true, apart := false }
def InspectPassesSaid : Prop := inspectPassesRow.holds Try.pinned (OpenSpec.ofChange inspectPassesSpec)

/-- ITS FALSE NEIGHBOUR: 'it returns false'. Refute it at one input. -/
def inspectPassesWrong : ChangeSpec := { name := "inspectPasses", fn := fun _ => fun
  | [d1, d2, d3] => { results := [.lit (.bool false)], args := [d1, d2, d3] }
  | _ => none }
def InspectPassesWrongFalsely : Prop := inspectPassesRow.holds Try.pinned (OpenSpec.ofChange inspectPassesWrong)

/-- 'shipyardlaw35.InspectShares': WHATEVER THE INPUT: true; the input reads as it did. -/
def inspectSharesSpec : ChangeSpec := { name := "inspectShares", fn := fun _ => fun
  | [d1, d2, d3] => { results := [.lit (.bool true)], args := [d1, d2, d3] }
  | _ => none }
def inspectSharesRow : OpenClaim := { program := "ytobgfnlfbjodjaa", sum := "0702ad480562db235458392cfa073a03c4ffd95344f7d71f1630c6f348cd44d2", func := "shipyard/shipyardlaw35.InspectShares", spec := "inspectShares", unfollowed := true, recurses := true, apart := false }
def InspectSharesSaid : Prop := inspectSharesRow.holds Try.pinned (OpenSpec.ofChange inspectSharesSpec)

/-- ITS FALSE NEIGHBOUR: 'it returns false'. Refute it at one input. -/
def inspectSharesWrong : ChangeSpec := { name := "inspectShares", fn := fun _ => fun
  | [d1, d2, d3] => { results := [.lit (.bool false)], args := [d1, d2, d3] }
  | _ => none }
def InspectSharesWrongFalsely : Prop := inspectSharesRow.holds Try.pinned (OpenSpec.ofChange inspectSharesWrong)

/-- 'shipyardlaw35.InspectGrows': WHATEVER THE INPUT: true; the input reads as it did. -/
def inspectGrowsSpec : ChangeSpec := { name := "inspectGrows", fn := fun _ => fun
  | [d1, d2, d3] => { results := [.lit (.bool true)], args := [d1, d2, d3] }
  | _ => none }
def inspectGrowsRow : OpenClaim := { program := "ytobgfnlfbjodjaa", sum := "0702ad480562db235458392cfa073a03c4ffd95344f7d71f1630c6f348cd44d2", func := "shipyard/shipyardlaw35.InspectGrows", spec := "inspectGrows", unfollowed := true, recurses := true, apart := false }
def InspectGrowsSaid : Prop := inspectGrowsRow.holds Try.pinned (OpenSpec.ofChange inspectGrowsSpec)

/-- ITS FALSE NEIGHBOUR: 'it returns false'. Refute it at one input. -/
def inspectGrowsWrong : ChangeSpec := { name := "inspectGrows", fn := fun _ => fun
  | [d1, d2, d3] => { results := [.lit (.bool false)], args := [d1, d2, d3] }
  | _ => none }
def InspectGrowsWrongFalsely : Prop := inspectGrowsRow.holds Try.pinned (OpenSpec.ofChange inspectGrowsWrong)

/- THE SECOND FORM. 'bulk': how many values and letters a reading holds, each counted each time it is reached (what is shared counts as often as it is met; a slice's spare places count too). A statement '..UptoSaid' is the law's where the arguments, and the package variables that the reading takes, are together of bulk at most 1048576: NARROWER than '..Said'. Prove '..Said' where nothing that the law and all that it calls make is longer than what came in: it says more and counts as full. Else prove '..UptoSaid'. A law counts once. -/
mutual
def uptoBulk {H : Type} : DataW H → Nat
  | .lit (.string bytes) => bytes.length + 1
  | .lit _ => 1
  | .nil => 1
  | .ptr d => uptoBulk d + 1
  | .slice elems spare => uptoBulkAll elems + uptoBulkAll spare + 1
  | .agg parts => uptoBulkAll parts + 1
  | .iface _ d => uptoBulk d + 1
  | .map entries => uptoBulkEntries entries + 1
  | .held _ => 1
def uptoBulkAll {H : Type} : List (DataW H) → Nat
  | [] => 0
  | d :: r => uptoBulk d + uptoBulkAll r
def uptoBulkEntries {H : Type} : List (Lit × DataW H) → Nat
  | [] => 0
  | x :: r => uptoBulkEntry x + uptoBulkEntries r
def uptoBulkEntry {H : Type} : Lit × DataW H → Nat
  | (.string bytes, d) => bytes.length + uptoBulk d + 1
  | (_, d) => uptoBulk d + 1
 end
def uptoSmall : (H : Type) → List (DataW H) → Bool := fun _ ds => decide (uptoBulkAll ds ≤ 1048576)
def OpenSpec.upto (s : _root_.Go.ChangeSpec) : _root_.Go.OpenSpec := { _root_.Go.OpenSpec.ofChange s with cond := some uptoSmall }

/-- 'shipyardlaw35.InspectMethods', WHERE WHAT IT READS IS OF BULK AT MOST 1048576: true; the input reads as it did. -/
def inspectMethodsUptoRow : OpenClaim := { program := "ytobgfnlfbjodjaa", sum := "0702ad480562db235458392cfa073a03c4ffd95344f7d71f1630c6f348cd44d2", func := "shipyard/shipyardlaw35.InspectMethods", spec := "inspectMethods", unfollowed := true, recurses := true, apart := false, narrowed := true }
def InspectMethodsUptoSaid : Prop := inspectMethodsUptoRow.holds Try.pinned (OpenSpec.upto inspectMethodsSpec)

/-- 'shipyardlaw35.InspectTasks', WHERE WHAT IT READS IS OF BULK AT MOST 1048576: true; the input reads as it did. -/
def inspectTasksUptoRow : OpenClaim := { program := "ytobgfnlfbjodjaa", sum := "0702ad480562db235458392cfa073a03c4ffd95344f7d71f1630c6f348cd44d2", func := "shipyard/shipyardlaw35.InspectTasks", spec := "inspectTasks", unfollowed := true, recurses := true, apart := false, narrowed := true }
def InspectTasksUptoSaid : Prop := inspectTasksUptoRow.holds Try.pinned (OpenSpec.upto inspectTasksSpec)

/-- 'shipyardlaw35.InspectSamples', WHERE WHAT IT READS IS OF BULK AT MOST 1048576: true; the input reads as it did. -/
def inspectSamplesUptoRow : OpenClaim := { program := "ytobgfnlfbjodjaa", sum := "0702ad480562db235458392cfa073a03c4ffd95344f7d71f1630c6f348cd44d2", func := "shipyard/shipyardlaw35.InspectSamples", spec := "inspectSamples", unfollowed := true, recurses := true, apart := false, narrowed := true }
def InspectSamplesUptoSaid : Prop := inspectSamplesUptoRow.holds Try.pinned (OpenSpec.upto inspectSamplesSpec)

/-- 'shipyardlaw35.InspectExtents', WHERE WHAT IT READS IS OF BULK AT MOST 1048576: true; the input reads as it did. -/
def inspectExtentsUptoRow : OpenClaim := { program := "ytobgfnlfbjodjaa", sum := "0702ad480562db235458392cfa073a03c4ffd95344f7d71f1630c6f348cd44d2", func := "shipyard/shipyardlaw35.InspectExtents", spec := "inspectExtents", unfollowed := true, recurses := true, apart := false, narrowed := true }
def InspectExtentsUptoSaid : Prop := inspectExtentsUptoRow.holds Try.pinned (OpenSpec.upto inspectExtentsSpec)

/-- 'shipyardlaw35.InspectAll', WHERE WHAT IT READS IS OF BULK AT MOST 1048576: true; the input reads as it did. -/
def inspectAllUptoRow : OpenClaim := { program := "ytobgfnlfbjodjaa", sum := "0702ad480562db235458392cfa073a03c4ffd95344f7d71f1630c6f348cd44d2", func := "shipyard/shipyardlaw35.InspectAll", spec := "inspectAll", unfollowed := true, recurses := true, apart := false, narrowed := true }
def InspectAllUptoSaid : Prop := inspectAllUptoRow.holds Try.pinned (OpenSpec.upto inspectAllSpec)

/-- 'shipyardlaw35.InspectPasses', WHERE WHAT IT READS IS OF BULK AT MOST 1048576: true; the input reads as it did. -/
def inspectPassesUptoRow : OpenClaim := { program := "ytobgfnlfbjodjaa", sum := "0702ad480562db235458392cfa073a03c4ffd95344f7d71f1630c6f348cd44d2", func := "shipyard/shipyardlaw35.InspectPasses", spec := "inspectPasses", unfollowed := true, recurses := true, apart := false, narrowed := true }
def InspectPassesUptoSaid : Prop := inspectPassesUptoRow.holds Try.pinned (OpenSpec.upto inspectPassesSpec)

/-- 'shipyardlaw35.InspectShares', WHERE WHAT IT READS IS OF BULK AT MOST 1048576: true; the input reads as it did. -/
def inspectSharesUptoRow : OpenClaim := { program := "ytobgfnlfbjodjaa", sum := "0702ad480562db235458392cfa073a03c4ffd95344f7d71f1630c6f348cd44d2", func := "shipyard/shipyardlaw35.InspectShares", spec := "inspectShares", unfollowed := true, recurses := true, apart := false, narrowed := true }
def InspectSharesUptoSaid : Prop := inspectSharesUptoRow.holds Try.pinned (OpenSpec.upto inspectSharesSpec)

/-- 'shipyardlaw35.InspectGrows', WHERE WHAT IT READS IS OF BULK AT MOST 1048576: true; the input reads as it did. -/
def inspectGrowsUptoRow : OpenClaim := { program := "ytobgfnlfbjodjaa", sum := "0702ad480562db235458392cfa073a03c4ffd95344f7d71f1630c6f348cd44d2", func := "shipyard/shipyardlaw35.InspectGrows", spec := "inspectGrows", unfollowed := true, recurses := true, apart := false, narrowed := true }
def InspectGrowsUptoSaid : Prop := inspectGrowsUptoRow.holds Try.pinned (OpenSpec.upto inspectGrowsSpec)

end Rows
end Go.Proofs.Ytobgfnlfbjodjaa
