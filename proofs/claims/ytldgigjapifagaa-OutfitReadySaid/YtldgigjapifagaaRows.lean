/-
  No cell of these rows narrows 'for every input' (looked for: loops, veiled, ifaces, maps, wideKeys, modest, calm, conditions, laid).
  DERIVED. THE GIVEN ROWS OF THIS SEAT. 7 by the template 'for every input the law returns true; each argument reads behind the call as it read before'; 0 by the template 'total and deterministic' (their statements: YtldgigjapifagaaTotals.lean).
  GIVEN WITH THE SEED: the statements are not yours to turn. If you find one false, say at which input.
  Laid BY PROGRAM, IN A SANDBOX (cutbox-rows.mjs): the forced cells as the released guide's own fill.sh prints them over the translation b1792f70d556951f… (all of the seat's roots in one cut). By AI agents, Wed Nov 11 2026. No macro, syntax, notation, axiom, sorry.
-/
import Derived.Test.YtldgigjapifagaaChecked
import GoSem.Claim
import GoSem.ClaimJoined
import GoSem.ClaimMapViews
import Derived.JoinedTies
import Derived.KernelRfl
namespace Go.Proofs.Ytldgigjapifagaa
/- THE CELL 'sum', in the pinned program and in every row, IS THE sha256 OF THE DUMP (.gsa) THAT YtldgigjapifagaaProg.lean LOADS. Nothing in Lean hashes anything: it is a label: what it is worth is what the hold of that sum in a sandbox is worth. -/
noncomputable def Try.pinned : Pinned := { name := "ytldgigjapifagaa", sum := "b1792f70d556951f76b368f59d7ff9498b0bf89bbcfc3caedddd63add5bc599f", checked := Try.checked }
namespace Rows
def none {H : Type} : Left H := { results := [], args := [] }

/-- 'shipyardlaw47.OutfitOrders': WHATEVER THE INPUT: true; the input reads as it did. -/
def outfitOrdersSpec : ChangeSpec := { name := "outfitOrders", fn := fun _ => fun
  | [d] => { results := [.lit (.bool true)], args := [d] }
  | _ => none }
def outfitOrdersRow : OpenClaim := { program := "ytldgigjapifagaa", sum := "b1792f70d556951f76b368f59d7ff9498b0bf89bbcfc3caedddd63add5bc599f", func := "shipyard/shipyardlaw47.OutfitOrders", spec := "outfitOrders", unfollowed := true, recurses := true, apart := false }
def OutfitOrdersSaid : Prop := outfitOrdersRow.holds Try.pinned (OpenSpec.ofChange outfitOrdersSpec)

/-- ITS FALSE NEIGHBOUR: 'it returns false'. Refute it at one input. -/
def outfitOrdersWrong : ChangeSpec := { name := "outfitOrders", fn := fun _ => fun
  | [d] => { results := [.lit (.bool false)], args := [d] }
  | _ => none }
def OutfitOrdersWrongFalsely : Prop := outfitOrdersRow.holds Try.pinned (OpenSpec.ofChange outfitOrdersWrong)

/-- 'shipyardlaw47.OutfitAsks': WHATEVER THE INPUT: true; the input reads as it did. -/
def outfitAsksSpec : ChangeSpec := { name := "outfitAsks", fn := fun _ => fun
  | [d1, d2, d3] => { results := [.lit (.bool true)], args := [d1, d2, d3] }
  | _ => none }
def outfitAsksRow : OpenClaim := { program := "ytldgigjapifagaa", sum := "b1792f70d556951f76b368f59d7ff9498b0bf89bbcfc3caedddd63add5bc599f", func := "shipyard/shipyardlaw47.OutfitAsks", spec := "outfitAsks", unfollowed := true, recurses := true, apart := false }
def OutfitAsksSaid : Prop := outfitAsksRow.holds Try.pinned (OpenSpec.ofChange outfitAsksSpec)

/-- ITS FALSE NEIGHBOUR: 'it returns false'. Refute it at one input. -/
def outfitAsksWrong : ChangeSpec := { name := "outfitAsks", fn := fun _ => fun
  | [d1, d2, d3] => { results := [.lit (.bool false)], args := [d1, d2, d3] }
  | _ => none }
def OutfitAsksWrongFalsely : Prop := outfitAsksRow.holds Try.pinned (OpenSpec.ofChange outfitAsksWrong)

/-- 'shipyardlaw47.OutfitSums': WHATEVER THE INPUT: true; the input reads as it did. -/
def outfitSumsSpec : ChangeSpec := { name := "outfitSums", fn := fun _ => fun
  | [d1, d2, d3] => { results := [.lit (.bool true)], args := [d1, d2, d3] }
  | _ => none }
def outfitSumsRow : OpenClaim := { program := "ytldgigjapifagaa", sum := "b1792f70d556951f76b368f59d7ff9498b0bf89bbcfc3caedddd63add5bc599f", func := "shipyard/shipyardlaw47.OutfitSums", spec := "outfitSums", unfollowed := true, recurses := true, apart := false }
def OutfitSumsSaid : Prop := outfitSumsRow.holds Try.pinned (OpenSpec.ofChange outfitSumsSpec)

/-- ITS FALSE NEIGHBOUR: 'it returns false'. Refute it at one input. -/
def outfitSumsWrong : ChangeSpec := { name := "outfitSums", fn := fun _ => fun
  | [d1, d2, d3] => { results := [.lit (.bool false)], args := [d1, d2, d3] }
  | _ => none }
def OutfitSumsWrongFalsely : Prop := outfitSumsRow.holds Try.pinned (OpenSpec.ofChange outfitSumsWrong)

/-- 'shipyardlaw47.OutfitDoes': WHATEVER THE INPUT: true; the input reads as it did. -/
def outfitDoesSpec : ChangeSpec := { name := "outfitDoes", fn := fun _ => fun
  | [d1, d2] => { results := [.lit (.bool true)], args := [d1, d2] }
  | _ => none }
def outfitDoesRow : OpenClaim := { program := "ytldgigjapifagaa", sum := "b1792f70d556951f76b368f59d7ff9498b0bf89bbcfc3caedddd63add5bc599f", func := "shipyard/shipyardlaw47.OutfitDoes", spec := "outfitDoes", unfollowed := true, recurses := true, apart := false }
def OutfitDoesSaid : Prop := outfitDoesRow.holds Try.pinned (OpenSpec.ofChange outfitDoesSpec)

/-- ITS FALSE NEIGHBOUR: 'it returns false'. Refute it at one input. -/
def outfitDoesWrong : ChangeSpec := { name := "outfitDoes", fn := fun _ => fun
  | [d1, d2] => { results := [.lit (.bool false)], args := [d1, d2] }
  | _ => none }
def OutfitDoesWrongFalsely : Prop := outfitDoesRow.holds Try.pinned (OpenSpec.ofChange outfitDoesWrong)

/-- 'shipyardlaw47.OutfitProgress': WHATEVER THE INPUT: true; the input reads as it did. -/
def outfitProgressSpec : ChangeSpec := { name := "outfitProgress", fn := fun _ => fun
  | [d1, d2, d3] => { results := [.lit (.bool true)], args := [d1, d2, d3] }
  | _ => none }
def outfitProgressRow : OpenClaim := { program := "ytldgigjapifagaa", sum := "b1792f70d556951f76b368f59d7ff9498b0bf89bbcfc3caedddd63add5bc599f", func := "shipyard/shipyardlaw47.OutfitProgress", spec := "outfitProgress", unfollowed := true, recurses := true, apart := false }
def OutfitProgressSaid : Prop := outfitProgressRow.holds Try.pinned (OpenSpec.ofChange outfitProgressSpec)

/-- ITS FALSE NEIGHBOUR: 'it returns false'. Refute it at one input. -/
def outfitProgressWrong : ChangeSpec := { name := "outfitProgress", fn := fun _ => fun
  | [d1, d2, d3] => { results := [.lit (.bool false)], args := [d1, d2, d3] }
  | _ => none }
def OutfitProgressWrongFalsely : Prop := outfitProgressRow.holds Try.pinned (OpenSpec.ofChange outfitProgressWrong)

/-- 'shipyardlaw47.OutfitStarts': WHATEVER THE INPUT: true; the input reads as it did. -/
def outfitStartsSpec : ChangeSpec := { name := "outfitStarts", fn := fun _ => fun
  | [d] => { results := [.lit (.bool true)], args := [d] }
  | _ => none }
def outfitStartsRow : OpenClaim := { program := "ytldgigjapifagaa", sum := "b1792f70d556951f76b368f59d7ff9498b0bf89bbcfc3caedddd63add5bc599f", func := "shipyard/shipyardlaw47.OutfitStarts", spec := "outfitStarts", unfollowed := true, recurses := true, apart := false }
def OutfitStartsSaid : Prop := outfitStartsRow.holds Try.pinned (OpenSpec.ofChange outfitStartsSpec)

/-- ITS FALSE NEIGHBOUR: 'it returns false'. Refute it at one input. -/
def outfitStartsWrong : ChangeSpec := { name := "outfitStarts", fn := fun _ => fun
  | [d] => { results := [.lit (.bool false)], args := [d] }
  | _ => none }
def OutfitStartsWrongFalsely : Prop := outfitStartsRow.holds Try.pinned (OpenSpec.ofChange outfitStartsWrong)

/-- 'shipyardlaw47.OutfitReady': WHATEVER THE INPUT: true; the input reads as it did. -/
def outfitReadySpec : ChangeSpec := { name := "outfitReady", fn := fun _ => fun
  | [d1, d2] => { results := [.lit (.bool true)], args := [d1, d2] }
  | _ => none }
def outfitReadyRow : OpenClaim := { program := "ytldgigjapifagaa", sum := "b1792f70d556951f76b368f59d7ff9498b0bf89bbcfc3caedddd63add5bc599f", func := "shipyard/shipyardlaw47.OutfitReady", spec := "outfitReady", unfollowed := true, recurses := true, apart := false }
def OutfitReadySaid : Prop := outfitReadyRow.holds Try.pinned (OpenSpec.ofChange outfitReadySpec)

/-- ITS FALSE NEIGHBOUR: 'it returns false'. Refute it at one input. -/
def outfitReadyWrong : ChangeSpec := { name := "outfitReady", fn := fun _ => fun
  | [d1, d2] => { results := [.lit (.bool false)], args := [d1, d2] }
  | _ => none }
def OutfitReadyWrongFalsely : Prop := outfitReadyRow.holds Try.pinned (OpenSpec.ofChange outfitReadyWrong)

/- THE SECOND FORM. 'bulk': how many values and letters a reading holds, each counted each time it is reached (what is shared counts as often as it is met; a slice's spare places count too). A statement '..UptoSaid' is the law's where the arguments, and the package variables that the reading takes, are together of bulk at most 1048576: NARROWER than '..Said'. Prove '..Said' where nothing that the law and all that it calls make is longer than what came in: it says more and counts as full. Else prove '..UptoSaid'. A law counts once. -/
mutual
def uptoBulk {H : Type} : DataW H → Nat
  | .lit (.string bytes) => bytes.length + 1
  | .lit _ => 1
  | .nil => 1
  | .ptr d => uptoBulk d + 1
  | .slice elems spare => uptoBulkAll elems + uptoBulkAll spare + 1
  | .agg parts => uptoBulkAll parts + 1
  | .iface _ d => uptoBulk d + 1
  | .map entries => uptoBulkEntries entries + 1
  | .held _ => 1
def uptoBulkAll {H : Type} : List (DataW H) → Nat
  | [] => 0
  | d :: r => uptoBulk d + uptoBulkAll r
def uptoBulkEntries {H : Type} : List (Lit × DataW H) → Nat
  | [] => 0
  | x :: r => uptoBulkEntry x + uptoBulkEntries r
def uptoBulkEntry {H : Type} : Lit × DataW H → Nat
  | (.string bytes, d) => bytes.length + uptoBulk d + 1
  | (_, d) => uptoBulk d + 1
 end
def uptoSmall : (H : Type) → List (DataW H) → Bool := fun _ ds => decide (uptoBulkAll ds ≤ 1048576)
def OpenSpec.upto (s : _root_.Go.ChangeSpec) : _root_.Go.OpenSpec := { _root_.Go.OpenSpec.ofChange s with cond := some uptoSmall }

/-- 'shipyardlaw47.OutfitOrders', WHERE WHAT IT READS IS OF BULK AT MOST 1048576: true; the input reads as it did. -/
def outfitOrdersUptoRow : OpenClaim := { program := "ytldgigjapifagaa", sum := "b1792f70d556951f76b368f59d7ff9498b0bf89bbcfc3caedddd63add5bc599f", func := "shipyard/shipyardlaw47.OutfitOrders", spec := "outfitOrders", unfollowed := true, recurses := true, apart := false, narrowed := true }
def OutfitOrdersUptoSaid : Prop := outfitOrdersUptoRow.holds Try.pinned (OpenSpec.upto outfitOrdersSpec)

/-- 'shipyardlaw47.OutfitAsks', WHERE WHAT IT READS IS OF BULK AT MOST 1048576: true; the input reads as it did. -/
def outfitAsksUptoRow : OpenClaim := { program := "ytldgigjapifagaa", sum := "b1792f70d556951f76b368f59d7ff9498b0bf89bbcfc3caedddd63add5bc599f", func := "shipyard/shipyardlaw47.OutfitAsks", spec := "outfitAsks", unfollowed := true, recurses := true, apart := false, narrowed := true }
def OutfitAsksUptoSaid : Prop := outfitAsksUptoRow.holds Try.pinned (OpenSpec.upto outfitAsksSpec)

/-- 'shipyardlaw47.OutfitSums', WHERE WHAT IT READS IS OF BULK AT MOST 1048576: true; the input reads as it did. -/
def outfitSumsUptoRow : OpenClaim := { program := "ytldgigjapifagaa", sum := "b1792f70d556951f76b368f59d7ff9498b0bf89bbcfc3caedddd63add5bc599f", func := "shipyard/shipyardlaw47.OutfitSums", spec := "outfitSums", unfollowed := true, recurses := true, apart := false, narrowed := true }
def OutfitSumsUptoSaid : Prop := outfitSumsUptoRow.holds Try.pinned (OpenSpec.upto outfitSumsSpec)

/-- 'shipyardlaw47.OutfitDoes', WHERE WHAT IT READS IS OF BULK AT MOST 1048576: true; the input reads as it did. -/
def outfitDoesUptoRow : OpenClaim := { program := "ytldgigjapifagaa", sum := "b1792f70d556951f76b368f59d7ff9498b0bf89bbcfc3caedddd63add5bc599f", func := "shipyard/shipyardlaw47.OutfitDoes", spec := "outfitDoes", unfollowed := true, recurses := true, apart := false, narrowed := true }
def OutfitDoesUptoSaid : Prop := outfitDoesUptoRow.holds Try.pinned (OpenSpec.upto outfitDoesSpec)

/-- 'shipyardlaw47.OutfitProgress', WHERE WHAT IT READS IS OF BULK AT MOST 1048576: true; the input reads as it did. -/
def outfitProgressUptoRow : OpenClaim := { program := "ytldgigjapifagaa", sum := "b1792f70d556951f76b368f59d7ff9498b0bf89bbcfc3caedddd63add5bc599f", func := "shipyard/shipyardlaw47.OutfitProgress", spec := "outfitProgress", unfollowed := true, recurses := true, apart := false, narrowed := true }
def OutfitProgressUptoSaid : Prop := outfitProgressUptoRow.holds Try.pinned (OpenSpec.upto outfitProgressSpec)

/-- 'shipyardlaw47.OutfitStarts', WHERE WHAT IT READS IS OF BULK AT MOST 1048576: true; the input reads as it did. -/
def outfitStartsUptoRow : OpenClaim := { program := "ytldgigjapifagaa", sum := "b1792f70d556951f76b368f59d7ff9498b0bf89bbcfc3caedddd63add5bc599f", func := "shipyard/shipyardlaw47.OutfitStarts", spec := "outfitStarts", unfollowed := true, recurses := true, apart := false, narrowed := true }
def OutfitStartsUptoSaid : Prop := outfitStartsUptoRow.holds Try.pinned (OpenSpec.upto outfitStartsSpec)

/-- 'shipyardlaw47.OutfitReady', WHERE WHAT IT READS IS OF BULK AT MOST 1048576: true; the input reads as it did. -/
def outfitReadyUptoRow : OpenClaim := { program := "ytldgigjapifagaa", sum := "b1792f70d556951f76b368f59d7ff9498b0bf89bbcfc3caedddd63add5bc599f", func := "shipyard/shipyardlaw47.OutfitReady", spec := "outfitReady", unfollowed := true, recurses := true, apart := false, narrowed := true }
def OutfitReadyUptoSaid : Prop := outfitReadyUptoRow.holds Try.pinned (OpenSpec.upto outfitReadySpec)

end Rows
end Go.Proofs.Ytldgigjapifagaa
