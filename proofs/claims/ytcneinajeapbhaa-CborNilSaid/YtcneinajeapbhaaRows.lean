/-
  No cell of these rows narrows 'for every input' (looked for: loops, veiled, ifaces, maps, wideKeys, modest, calm, conditions, laid).
  DERIVED. THE GIVEN ROWS OF THIS SEAT. 8 by the template 'for every input the law returns true; each argument reads behind the call as it read before'; 0 by the template 'total and deterministic' (their statements: YtcneinajeapbhaaTotals.lean).
  GIVEN WITH THE SEED: the statements are not yours to turn. If you find one false, say at which input.
  Laid BY PROGRAM, IN A SANDBOX (cutbox-rows.mjs): the forced cells as the released guide's own fill.sh prints them over the translation 1d6eea80836909a7… (all of the seat's roots in one cut). By AI agents, Wed Nov 11 2026. No macro, syntax, notation, axiom, sorry.
-/
import Derived.Test.YtcneinajeapbhaaChecked
import GoSem.Claim
import GoSem.ClaimJoined
import GoSem.ClaimMapViews
import Derived.JoinedTies
import Derived.KernelRfl
namespace Go.Proofs.Ytcneinajeapbhaa
/- THE CELL 'sum', in the pinned program and in every row, IS THE sha256 OF THE DUMP (.gsa) THAT YtcneinajeapbhaaProg.lean LOADS. Nothing in Lean hashes anything: it is a label: what it is worth is what the hold of that sum in a sandbox is worth. -/
noncomputable def Try.pinned : Pinned := { name := "ytcneinajeapbhaa", sum := "1d6eea80836909a72b47f6fc1c7239f45c9657499bca7d050df3b8ab0be4b746", checked := Try.checked }
namespace Rows
def none {H : Type} : Left H := { results := [], args := [] }

/-- 'shipyardlaw05.CborPuts': WHATEVER THE INPUT: true; the input reads as it did. -/
def cborPutsSpec : ChangeSpec := { name := "cborPuts", fn := fun _ => fun
  | [d1, d2, d3] => { results := [.lit (.bool true)], args := [d1, d2, d3] }
  | _ => none }
def cborPutsRow : OpenClaim := { program := "ytcneinajeapbhaa", sum := "1d6eea80836909a72b47f6fc1c7239f45c9657499bca7d050df3b8ab0be4b746", func := "shipyard/shipyardlaw05.CborPuts", spec := "cborPuts", apart := false }
def CborPutsSaid : Prop := cborPutsRow.holds Try.pinned (OpenSpec.ofChange cborPutsSpec)

/-- ITS FALSE NEIGHBOUR: 'it returns false'. Refute it at one input. -/
def cborPutsWrong : ChangeSpec := { name := "cborPuts", fn := fun _ => fun
  | [d1, d2, d3] => { results := [.lit (.bool false)], args := [d1, d2, d3] }
  | _ => none }
def CborPutsWrongFalsely : Prop := cborPutsRow.holds Try.pinned (OpenSpec.ofChange cborPutsWrong)

/-- 'shipyardlaw05.CborNumbers': WHATEVER THE INPUT: true; the input reads as it did. -/
def cborNumbersSpec : ChangeSpec := { name := "cborNumbers", fn := fun _ => fun
  | [d1, d2] => { results := [.lit (.bool true)], args := [d1, d2] }
  | _ => none }
def cborNumbersRow : OpenClaim := { program := "ytcneinajeapbhaa", sum := "1d6eea80836909a72b47f6fc1c7239f45c9657499bca7d050df3b8ab0be4b746", func := "shipyard/shipyardlaw05.CborNumbers", spec := "cborNumbers", apart := false }
def CborNumbersSaid : Prop := cborNumbersRow.holds Try.pinned (OpenSpec.ofChange cborNumbersSpec)

/-- ITS FALSE NEIGHBOUR: 'it returns false'. Refute it at one input. -/
def cborNumbersWrong : ChangeSpec := { name := "cborNumbers", fn := fun _ => fun
  | [d1, d2] => { results := [.lit (.bool false)], args := [d1, d2] }
  | _ => none }
def CborNumbersWrongFalsely : Prop := cborNumbersRow.holds Try.pinned (OpenSpec.ofChange cborNumbersWrong)

/-- 'shipyardlaw05.CborCuts': WHATEVER THE INPUT: true; the input reads as it did. -/
def cborCutsSpec : ChangeSpec := { name := "cborCuts", fn := fun _ => fun
  | [d1, d2] => { results := [.lit (.bool true)], args := [d1, d2] }
  | _ => none }
def cborCutsRow : OpenClaim := { program := "ytcneinajeapbhaa", sum := "1d6eea80836909a72b47f6fc1c7239f45c9657499bca7d050df3b8ab0be4b746", func := "shipyard/shipyardlaw05.CborCuts", spec := "cborCuts", apart := false }
def CborCutsSaid : Prop := cborCutsRow.holds Try.pinned (OpenSpec.ofChange cborCutsSpec)

/-- ITS FALSE NEIGHBOUR: 'it returns false'. Refute it at one input. -/
def cborCutsWrong : ChangeSpec := { name := "cborCuts", fn := fun _ => fun
  | [d1, d2] => { results := [.lit (.bool false)], args := [d1, d2] }
  | _ => none }
def CborCutsWrongFalsely : Prop := cborCutsRow.holds Try.pinned (OpenSpec.ofChange cborCutsWrong)

/-- 'shipyardlaw05.CborStrings': WHATEVER THE INPUT: true; the input reads as it did. -/
def cborStringsSpec : ChangeSpec := { name := "cborStrings", fn := fun _ => fun
  | [d1, d2, d3] => { results := [.lit (.bool true)], args := [d1, d2, d3] }
  | _ => none }
def cborStringsRow : OpenClaim := { program := "ytcneinajeapbhaa", sum := "1d6eea80836909a72b47f6fc1c7239f45c9657499bca7d050df3b8ab0be4b746", func := "shipyard/shipyardlaw05.CborStrings", spec := "cborStrings", apart := false }
def CborStringsSaid : Prop := cborStringsRow.holds Try.pinned (OpenSpec.ofChange cborStringsSpec)

/-- ITS FALSE NEIGHBOUR: 'it returns false'. Refute it at one input. -/
def cborStringsWrong : ChangeSpec := { name := "cborStrings", fn := fun _ => fun
  | [d1, d2, d3] => { results := [.lit (.bool false)], args := [d1, d2, d3] }
  | _ => none }
def CborStringsWrongFalsely : Prop := cborStringsRow.holds Try.pinned (OpenSpec.ofChange cborStringsWrong)

/-- 'shipyardlaw05.CborReads': WHATEVER THE INPUT: true; the input reads as it did. -/
def cborReadsSpec : ChangeSpec := { name := "cborReads", fn := fun _ => fun
  | [d1, d2] => { results := [.lit (.bool true)], args := [d1, d2] }
  | _ => none }
def cborReadsRow : OpenClaim := { program := "ytcneinajeapbhaa", sum := "1d6eea80836909a72b47f6fc1c7239f45c9657499bca7d050df3b8ab0be4b746", func := "shipyard/shipyardlaw05.CborReads", spec := "cborReads", apart := false }
def CborReadsSaid : Prop := cborReadsRow.holds Try.pinned (OpenSpec.ofChange cborReadsSpec)

/-- ITS FALSE NEIGHBOUR: 'it returns false'. Refute it at one input. -/
def cborReadsWrong : ChangeSpec := { name := "cborReads", fn := fun _ => fun
  | [d1, d2] => { results := [.lit (.bool false)], args := [d1, d2] }
  | _ => none }
def CborReadsWrongFalsely : Prop := cborReadsRow.holds Try.pinned (OpenSpec.ofChange cborReadsWrong)

/-- 'shipyardlaw05.CborOnce': WHATEVER THE INPUT: true; the input reads as it did. -/
def cborOnceSpec : ChangeSpec := { name := "cborOnce", fn := fun _ => fun
  | [d] => { results := [.lit (.bool true)], args := [d] }
  | _ => none }
def cborOnceRow : OpenClaim := { program := "ytcneinajeapbhaa", sum := "1d6eea80836909a72b47f6fc1c7239f45c9657499bca7d050df3b8ab0be4b746", func := "shipyard/shipyardlaw05.CborOnce", spec := "cborOnce", apart := false }
def CborOnceSaid : Prop := cborOnceRow.holds Try.pinned (OpenSpec.ofChange cborOnceSpec)

/-- ITS FALSE NEIGHBOUR: 'it returns false'. Refute it at one input. -/
def cborOnceWrong : ChangeSpec := { name := "cborOnce", fn := fun _ => fun
  | [d] => { results := [.lit (.bool false)], args := [d] }
  | _ => none }
def CborOnceWrongFalsely : Prop := cborOnceRow.holds Try.pinned (OpenSpec.ofChange cborOnceWrong)

/-- 'shipyardlaw05.CborStays': WHATEVER THE INPUT: true; the input reads as it did. -/
def cborStaysSpec : ChangeSpec := { name := "cborStays", fn := fun _ => fun
  | [d1, d2] => { results := [.lit (.bool true)], args := [d1, d2] }
  | _ => none }
def cborStaysRow : OpenClaim := { program := "ytcneinajeapbhaa", sum := "1d6eea80836909a72b47f6fc1c7239f45c9657499bca7d050df3b8ab0be4b746", func := "shipyard/shipyardlaw05.CborStays", spec := "cborStays", apart := false }
def CborStaysSaid : Prop := cborStaysRow.holds Try.pinned (OpenSpec.ofChange cborStaysSpec)

/-- ITS FALSE NEIGHBOUR: 'it returns false'. Refute it at one input. -/
def cborStaysWrong : ChangeSpec := { name := "cborStays", fn := fun _ => fun
  | [d1, d2] => { results := [.lit (.bool false)], args := [d1, d2] }
  | _ => none }
def CborStaysWrongFalsely : Prop := cborStaysRow.holds Try.pinned (OpenSpec.ofChange cborStaysWrong)

/-- 'shipyardlaw05.CborNil': WHATEVER THE INPUT: true; the input reads as it did. -/
def cborNilSpec : ChangeSpec := { name := "cborNil", fn := fun _ => fun
  | [d] => { results := [.lit (.bool true)], args := [d] }
  | _ => none }
def cborNilRow : OpenClaim := { program := "ytcneinajeapbhaa", sum := "1d6eea80836909a72b47f6fc1c7239f45c9657499bca7d050df3b8ab0be4b746", func := "shipyard/shipyardlaw05.CborNil", spec := "cborNil", apart := false }
def CborNilSaid : Prop := cborNilRow.holds Try.pinned (OpenSpec.ofChange cborNilSpec)

/-- ITS FALSE NEIGHBOUR: 'it returns false'. Refute it at one input. -/
def cborNilWrong : ChangeSpec := { name := "cborNil", fn := fun _ => fun
  | [d] => { results := [.lit (.bool false)], args := [d] }
  | _ => none }
def CborNilWrongFalsely : Prop := cborNilRow.holds Try.pinned (OpenSpec.ofChange cborNilWrong)

/- THE SECOND FORM. 'bulk': how many values and letters a reading holds, each counted each time it is reached (what is shared counts as often as it is met; a slice's spare places count too). A statement '..UptoSaid' is the law's where the arguments, and the package variables that the reading takes, are together of bulk at most 1048576: NARROWER than '..Said'. Prove '..Said' where nothing that the law and all that it calls make is longer than what came in: it says more and counts as full. Else prove '..UptoSaid'. A law counts once. -/
mutual
def uptoBulk {H : Type} : DataW H → Nat
  | .lit (.string bytes) => bytes.length + 1
  | .lit _ => 1
  | .nil => 1
  | .ptr d => uptoBulk d + 1
  | .slice elems spare => uptoBulkAll elems + uptoBulkAll spare + 1
  | .agg parts => uptoBulkAll parts + 1
  | .iface _ d => uptoBulk d + 1
  | .map entries => uptoBulkEntries entries + 1
  | .held _ => 1
def uptoBulkAll {H : Type} : List (DataW H) → Nat
  | [] => 0
  | d :: r => uptoBulk d + uptoBulkAll r
def uptoBulkEntries {H : Type} : List (Lit × DataW H) → Nat
  | [] => 0
  | x :: r => uptoBulkEntry x + uptoBulkEntries r
def uptoBulkEntry {H : Type} : Lit × DataW H → Nat
  | (.string bytes, d) => bytes.length + uptoBulk d + 1
  | (_, d) => uptoBulk d + 1
 end
def uptoSmall : (H : Type) → List (DataW H) → Bool := fun _ ds => decide (uptoBulkAll ds ≤ 1048576)
def OpenSpec.upto (s : _root_.Go.ChangeSpec) : _root_.Go.OpenSpec := { _root_.Go.OpenSpec.ofChange s with cond := some uptoSmall }

/-- 'shipyardlaw05.CborPuts', WHERE WHAT IT READS IS OF BULK AT MOST 1048576: true; the input reads as it did. -/
def cborPutsUptoRow : OpenClaim := { program := "ytcneinajeapbhaa", sum := "1d6eea80836909a72b47f6fc1c7239f45c9657499bca7d050df3b8ab0be4b746", func := "shipyard/shipyardlaw05.CborPuts", spec := "cborPuts", apart := false, narrowed := true }
def CborPutsUptoSaid : Prop := cborPutsUptoRow.holds Try.pinned (OpenSpec.upto cborPutsSpec)

/-- 'shipyardlaw05.CborNumbers', WHERE WHAT IT READS IS OF BULK AT MOST 1048576: true; the input reads as it did. -/
def cborNumbersUptoRow : OpenClaim := { program := "ytcneinajeapbhaa", sum := "1d6eea80836909a72b47f6fc1c7239f45c9657499bca7d050df3b8ab0be4b746", func := "shipyard/shipyardlaw05.CborNumbers", spec := "cborNumbers", apart := false, narrowed := true }
def CborNumbersUptoSaid : Prop := cborNumbersUptoRow.holds Try.pinned (OpenSpec.upto cborNumbersSpec)

/-- 'shipyardlaw05.CborCuts', WHERE WHAT IT READS IS OF BULK AT MOST 1048576: true; the input reads as it did. -/
def cborCutsUptoRow : OpenClaim := { program := "ytcneinajeapbhaa", sum := "1d6eea80836909a72b47f6fc1c7239f45c9657499bca7d050df3b8ab0be4b746", func := "shipyard/shipyardlaw05.CborCuts", spec := "cborCuts", apart := false, narrowed := true }
def CborCutsUptoSaid : Prop := cborCutsUptoRow.holds Try.pinned (OpenSpec.upto cborCutsSpec)

/-- 'shipyardlaw05.CborStrings', WHERE WHAT IT READS IS OF BULK AT MOST 1048576: true; the input reads as it did. -/
def cborStringsUptoRow : OpenClaim := { program := "ytcneinajeapbhaa", sum := "1d6eea80836909a72b47f6fc1c7239f45c9657499bca7d050df3b8ab0be4b746", func := "shipyard/shipyardlaw05.CborStrings", spec := "cborStrings", apart := false, narrowed := true }
def CborStringsUptoSaid : Prop := cborStringsUptoRow.holds Try.pinned (OpenSpec.upto cborStringsSpec)

/-- 'shipyardlaw05.CborReads', WHERE WHAT IT READS IS OF BULK AT MOST 1048576: true; the input reads as it did. -/
def cborReadsUptoRow : OpenClaim := { program := "ytcneinajeapbhaa", sum := "1d6eea80836909a72b47f6fc1c7239f45c9657499bca7d050df3b8ab0be4b746", func := "shipyard/shipyardlaw05.CborReads", spec := "cborReads", apart := false, narrowed := true }
def CborReadsUptoSaid : Prop := cborReadsUptoRow.holds Try.pinned (OpenSpec.upto cborReadsSpec)

/-- 'shipyardlaw05.CborOnce', WHERE WHAT IT READS IS OF BULK AT MOST 1048576: true; the input reads as it did. -/
def cborOnceUptoRow : OpenClaim := { program := "ytcneinajeapbhaa", sum := "1d6eea80836909a72b47f6fc1c7239f45c9657499bca7d050df3b8ab0be4b746", func := "shipyard/shipyardlaw05.CborOnce", spec := "cborOnce", apart := false, narrowed := true }
def CborOnceUptoSaid : Prop := cborOnceUptoRow.holds Try.pinned (OpenSpec.upto cborOnceSpec)

/-- 'shipyardlaw05.CborStays', WHERE WHAT IT READS IS OF BULK AT MOST 1048576: true; the input reads as it did. -/
def cborStaysUptoRow : OpenClaim := { program := "ytcneinajeapbhaa", sum := "1d6eea80836909a72b47f6fc1c7239f45c9657499bca7d050df3b8ab0be4b746", func := "shipyard/shipyardlaw05.CborStays", spec := "cborStays", apart := false, narrowed := true }
def CborStaysUptoSaid : Prop := cborStaysUptoRow.holds Try.pinned (OpenSpec.upto cborStaysSpec)

/-- 'shipyardlaw05.CborNil', WHERE WHAT IT READS IS OF BULK AT MOST 1048576: true; the input reads as it did. -/
def cborNilUptoRow : OpenClaim := { program := "ytcneinajeapbhaa", sum := "1d6eea80836909a72b47f6fc1c7239f45c9657499bca7d050df3b8ab0be4b746", func := "shipyard/shipyardlaw05.CborNil", spec := "cborNil", apart := false, narrowed := true }
def CborNilUptoSaid : Prop := cborNilUptoRow.holds Try.pinned (OpenSpec.upto cborNilSpec)

end Rows
end Go.Proofs.Ytcneinajeapbhaa
