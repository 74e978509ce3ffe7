/-
  No cell of these rows narrows 'for every input' (looked for: loops, veiled, ifaces, maps, wideKeys, modest, calm, conditions, laid).
  DERIVED. THE GIVEN ROWS OF THIS SEAT. 7 by the template 'for every input the law returns true; each argument reads behind the call as it read before'; 0 by the template 'total and deterministic' (their statements: YtbmchijgejgboaaTotals.lean).
  GIVEN WITH THE SEED: the statements are not yours to turn. If you find one false, say at which input.
  Laid BY PROGRAM, IN A SANDBOX (cutbox-rows.mjs): the forced cells as the released guide's own fill.sh prints them over the translation 73d0d497b0171a6f… (all of the seat's roots in one cut). By AI agents, Wed Nov 11 2026. No macro, syntax, notation, axiom, sorry.
-/
import Derived.Test.YtbmchijgejgboaaChecked
import GoSem.Claim
import GoSem.ClaimJoined
import GoSem.ClaimMapViews
import Derived.JoinedTies
import Derived.KernelRfl
namespace Go.Proofs.Ytbmchijgejgboaa
/- THE CELL 'sum', in the pinned program and in every row, IS THE sha256 OF THE DUMP (.gsa) THAT YtbmchijgejgboaaProg.lean LOADS. Nothing in Lean hashes anything: it is a label: what it is worth is what the hold of that sum in a sandbox is worth. -/
noncomputable def Try.pinned : Pinned := { name := "ytbmchijgejgboaa", sum := "73d0d497b0171a6fca081795d3d59cb0766bc994894b32ca00facb912dbae29e", checked := Try.checked }
namespace Rows
def none {H : Type} : Left H := { results := [], args := [] }

/-- 'shipyardlaw44.RouteChecks': WHATEVER THE INPUT: true; the input reads as it did. -/
def routeChecksSpec : ChangeSpec := { name := "routeChecks", fn := fun _ => fun
  | [d1, d2] => { results := [.lit (.bool true)], args := [d1, d2] }
  | _ => none }
def routeChecksRow : OpenClaim := { program := "ytbmchijgejgboaa", sum := "73d0d497b0171a6fca081795d3d59cb0766bc994894b32ca00facb912dbae29e", func := "shipyard/shipyardlaw44.RouteChecks", spec := "routeChecks", unfollowed := true, recurses := true, plainKeys := false, apart := false }
def RouteChecksSaid : Prop := routeChecksRow.holds Try.pinned (OpenSpec.ofChange routeChecksSpec)

/-- ITS FALSE NEIGHBOUR: 'it returns false'. Refute it at one input. -/
def routeChecksWrong : ChangeSpec := { name := "routeChecks", fn := fun _ => fun
  | [d1, d2] => { results := [.lit (.bool false)], args := [d1, d2] }
  | _ => none }
def RouteChecksWrongFalsely : Prop := routeChecksRow.holds Try.pinned (OpenSpec.ofChange routeChecksWrong)

/-- 'shipyardlaw44.RouteCosts': WHATEVER THE INPUT: true; the input reads as it did. -/
def routeCostsSpec : ChangeSpec := { name := "routeCosts", fn := fun _ => fun
  | [d1, d2] => { results := [.lit (.bool true)], args := [d1, d2] }
  | _ => none }
def routeCostsRow : OpenClaim := { program := "ytbmchijgejgboaa", sum := "73d0d497b0171a6fca081795d3d59cb0766bc994894b32ca00facb912dbae29e", func := "shipyard/shipyardlaw44.RouteCosts", spec := "routeCosts", unfollowed := true, recurses := true, plainKeys := false, apart := false }
def RouteCostsSaid : Prop := routeCostsRow.holds Try.pinned (OpenSpec.ofChange routeCostsSpec)

/-- ITS FALSE NEIGHBOUR: 'it returns false'. Refute it at one input. -/
def routeCostsWrong : ChangeSpec := { name := "routeCosts", fn := fun _ => fun
  | [d1, d2] => { results := [.lit (.bool false)], args := [d1, d2] }
  | _ => none }
def RouteCostsWrongFalsely : Prop := routeCostsRow.holds Try.pinned (OpenSpec.ofChange routeCostsWrong)

/-- 'shipyardlaw44.RoutePaths': WHATEVER THE INPUT: true; the input reads as it did. -/
def routePathsSpec : ChangeSpec := { name := "routePaths", fn := fun _ => fun
  | [d1, d2] => { results := [.lit (.bool true)], args := [d1, d2] }
  | _ => none }
def routePathsRow : OpenClaim := { program := "ytbmchijgejgboaa", sum := "73d0d497b0171a6fca081795d3d59cb0766bc994894b32ca00facb912dbae29e", func := "shipyard/shipyardlaw44.RoutePaths", spec := "routePaths", unfollowed := true, recurses := true, plainKeys := false, apart := false }
def RoutePathsSaid : Prop := routePathsRow.holds Try.pinned (OpenSpec.ofChange routePathsSpec)

/-- ITS FALSE NEIGHBOUR: 'it returns false'. Refute it at one input. -/
def routePathsWrong : ChangeSpec := { name := "routePaths", fn := fun _ => fun
  | [d1, d2] => { results := [.lit (.bool false)], args := [d1, d2] }
  | _ => none }
def RoutePathsWrongFalsely : Prop := routePathsRow.holds Try.pinned (OpenSpec.ofChange routePathsWrong)

/-- 'shipyardlaw44.RouteCheapest': WHATEVER THE INPUT: true; the input reads as it did. -/
def routeCheapestSpec : ChangeSpec := { name := "routeCheapest", fn := fun _ => fun
  | [d1, d2, d3] => { results := [.lit (.bool true)], args := [d1, d2, d3] }
  | _ => none }
def routeCheapestRow : OpenClaim := { program := "ytbmchijgejgboaa", sum := "73d0d497b0171a6fca081795d3d59cb0766bc994894b32ca00facb912dbae29e", func := "shipyard/shipyardlaw44.RouteCheapest", spec := "routeCheapest", unfollowed := true, recurses := true, plainKeys := false, apart := false }
def RouteCheapestSaid : Prop := routeCheapestRow.holds Try.pinned (OpenSpec.ofChange routeCheapestSpec)

/-- ITS FALSE NEIGHBOUR: 'it returns false'. Refute it at one input. -/
def routeCheapestWrong : ChangeSpec := { name := "routeCheapest", fn := fun _ => fun
  | [d1, d2, d3] => { results := [.lit (.bool false)], args := [d1, d2, d3] }
  | _ => none }
def RouteCheapestWrongFalsely : Prop := routeCheapestRow.holds Try.pinned (OpenSpec.ofChange routeCheapestWrong)

/-- 'shipyardlaw44.RouteTurns': WHATEVER THE INPUT: true; the input reads as it did. -/
def routeTurnsSpec : ChangeSpec := { name := "routeTurns", fn := fun _ => fun
  | [d1, d2, d3] => { results := [.lit (.bool true)], args := [d1, d2, d3] }
  | _ => none }
def routeTurnsRow : OpenClaim := { program := "ytbmchijgejgboaa", sum := "73d0d497b0171a6fca081795d3d59cb0766bc994894b32ca00facb912dbae29e", func := "shipyard/shipyardlaw44.RouteTurns", spec := "routeTurns", unfollowed := true, recurses := true, plainKeys := false, apart := false }
def RouteTurnsSaid : Prop := routeTurnsRow.holds Try.pinned (OpenSpec.ofChange routeTurnsSpec)

/-- ITS FALSE NEIGHBOUR: 'it returns false'. Refute it at one input. -/
def routeTurnsWrong : ChangeSpec := { name := "routeTurns", fn := fun _ => fun
  | [d1, d2, d3] => { results := [.lit (.bool false)], args := [d1, d2, d3] }
  | _ => none }
def RouteTurnsWrongFalsely : Prop := routeTurnsRow.holds Try.pinned (OpenSpec.ofChange routeTurnsWrong)

/-- 'shipyardlaw44.RouteCorners': WHATEVER THE INPUT: true; the input reads as it did. -/
def routeCornersSpec : ChangeSpec := { name := "routeCorners", fn := fun _ => fun
  | [d1, d2] => { results := [.lit (.bool true)], args := [d1, d2] }
  | _ => none }
def routeCornersRow : OpenClaim := { program := "ytbmchijgejgboaa", sum := "73d0d497b0171a6fca081795d3d59cb0766bc994894b32ca00facb912dbae29e", func := "shipyard/shipyardlaw44.RouteCorners", spec := "routeCorners", unfollowed := true, recurses := true, plainKeys := false, apart := false }
def RouteCornersSaid : Prop := routeCornersRow.holds Try.pinned (OpenSpec.ofChange routeCornersSpec)

/-- ITS FALSE NEIGHBOUR: 'it returns false'. Refute it at one input. -/
def routeCornersWrong : ChangeSpec := { name := "routeCorners", fn := fun _ => fun
  | [d1, d2] => { results := [.lit (.bool false)], args := [d1, d2] }
  | _ => none }
def RouteCornersWrongFalsely : Prop := routeCornersRow.holds Try.pinned (OpenSpec.ofChange routeCornersWrong)

/-- 'shipyardlaw44.RouteParts': WHATEVER THE INPUT: true; the input reads as it did. -/
def routePartsSpec : ChangeSpec := { name := "routeParts", fn := fun _ => fun
  | [d1, d2, d3] => { results := [.lit (.bool true)], args := [d1, d2, d3] }
  | _ => none }
def routePartsRow : OpenClaim := { program := "ytbmchijgejgboaa", sum := "73d0d497b0171a6fca081795d3d59cb0766bc994894b32ca00facb912dbae29e", func := "shipyard/shipyardlaw44.RouteParts", spec := "routeParts", unfollowed := true, recurses := true, plainKeys := false, apart := false }
def RoutePartsSaid : Prop := routePartsRow.holds Try.pinned (OpenSpec.ofChange routePartsSpec)

/-- ITS FALSE NEIGHBOUR: 'it returns false'. Refute it at one input. -/
def routePartsWrong : ChangeSpec := { name := "routeParts", fn := fun _ => fun
  | [d1, d2, d3] => { results := [.lit (.bool false)], args := [d1, d2, d3] }
  | _ => none }
def RoutePartsWrongFalsely : Prop := routePartsRow.holds Try.pinned (OpenSpec.ofChange routePartsWrong)

/- THE SECOND FORM. 'bulk': how many values and letters a reading holds, each counted each time it is reached (what is shared counts as often as it is met; a slice's spare places count too). A statement '..UptoSaid' is the law's where the arguments, and the package variables that the reading takes, are together of bulk at most 1048576: NARROWER than '..Said'. Prove '..Said' where nothing that the law and all that it calls make is longer than what came in: it says more and counts as full. Else prove '..UptoSaid'. A law counts once. -/
mutual
def uptoBulk {H : Type} : DataW H → Nat
  | .lit (.string bytes) => bytes.length + 1
  | .lit _ => 1
  | .nil => 1
  | .ptr d => uptoBulk d + 1
  | .slice elems spare => uptoBulkAll elems + uptoBulkAll spare + 1
  | .agg parts => uptoBulkAll parts + 1
  | .iface _ d => uptoBulk d + 1
  | .map entries => uptoBulkEntries entries + 1
  | .held _ => 1
def uptoBulkAll {H : Type} : List (DataW H) → Nat
  | [] => 0
  | d :: r => uptoBulk d + uptoBulkAll r
def uptoBulkEntries {H : Type} : List (Lit × DataW H) → Nat
  | [] => 0
  | x :: r => uptoBulkEntry x + uptoBulkEntries r
def uptoBulkEntry {H : Type} : Lit × DataW H → Nat
  | (.string bytes, d) => bytes.length + uptoBulk d + 1
  | (_, d) => uptoBulk d + 1
 end
def uptoSmall : (H : Type) → List (DataW H) → Bool := fun _ ds => decide (uptoBulkAll ds ≤ 1048576)
def OpenSpec.upto (s : _root_.Go.ChangeSpec) : _root_.Go.OpenSpec := { _root_.Go.OpenSpec.ofChange s with cond := some uptoSmall }

/-- 'shipyardlaw44.RouteChecks', WHERE WHAT IT READS IS OF BULK AT MOST 1048576: true; the input reads as it did. -/
def routeChecksUptoRow : OpenClaim := { program := "ytbmchijgejgboaa", sum := "73d0d497b0171a6fca081795d3d59cb0766bc994894b32ca00facb912dbae29e", func := "shipyard/shipyardlaw44.RouteChecks", spec := "routeChecks", unfollowed := true, recurses := true, plainKeys := false, apart := false, narrowed := true }
def RouteChecksUptoSaid : Prop := routeChecksUptoRow.holds Try.pinned (OpenSpec.upto routeChecksSpec)

/-- 'shipyardlaw44.RouteCosts', WHERE WHAT IT READS IS OF BULK AT MOST 1048576: true; the input reads as it did. -/
def routeCostsUptoRow : OpenClaim := { program := "ytbmchijgejgboaa", sum := "73d0d497b0171a6fca081795d3d59cb0766bc994894b32ca00facb912dbae29e", func := "shipyard/shipyardlaw44.RouteCosts", spec := "routeCosts", unfollowed := true, recurses := true, plainKeys := false, apart := false, narrowed := true }
def RouteCostsUptoSaid : Prop := routeCostsUptoRow.holds Try.pinned (OpenSpec.upto routeCostsSpec)

/-- 'shipyardlaw44.RoutePaths', WHERE WHAT IT READS IS OF BULK AT MOST 1048576: true; the input reads as it did. -/
def routePathsUptoRow : OpenClaim := { program := "ytbmchijgejgboaa", sum := "73d0d497b0171a6fca081795d3d59cb0766bc994894b32ca00facb912dbae29e", func := "shipyard/shipyardlaw44.RoutePaths", spec := "routePaths", unfollowed := true, recurses := true, plainKeys := false, apart := false, narrowed := true }
def RoutePathsUptoSaid : Prop := routePathsUptoRow.holds Try.pinned (OpenSpec.upto routePathsSpec)

/-- 'shipyardlaw44.RouteCheapest', WHERE WHAT IT READS IS OF BULK AT MOST 1048576: true; the input reads as it did. -/
def routeCheapestUptoRow : OpenClaim := { program := "ytbmchijgejgboaa", sum := "73d0d497b0171a6fca081795d3d59cb0766bc994894b32ca00facb912dbae29e", func := "shipyard/shipyardlaw44.RouteCheapest", spec := "routeCheapest", unfollowed := true, recurses := true, plainKeys := false, apart := false, narrowed := true }
def RouteCheapestUptoSaid : Prop := routeCheapestUptoRow.holds Try.pinned (OpenSpec.upto routeCheapestSpec)

/-- 'shipyardlaw44.RouteTurns', WHERE WHAT IT READS IS OF BULK AT MOST 1048576: true; the input reads as it did. -/
def routeTurnsUptoRow : OpenClaim := { program := "ytbmchijgejgboaa", sum := "73d0d497b0171a6fca081795d3d59cb0766bc994894b32ca00facb912dbae29e", func := "shipyard/shipyardlaw44.RouteTurns", spec := "routeTurns", unfollowed := true, recurses := true, plainKeys := false, apart := false, narrowed := true }
def RouteTurnsUptoSaid : Prop := routeTurnsUptoRow.holds Try.pinned (OpenSpec.upto routeTurnsSpec)

/-- 'shipyardlaw44.RouteCorners', WHERE WHAT IT READS IS OF BULK AT MOST 1048576: true; the input reads as it did. -/
def routeCornersUptoRow : OpenClaim := { program := "ytbmchijgejgboaa", sum := "73d0d497b0171a6fca081795d3d59cb0766bc994894b32ca00facb912dbae29e", func := "shipyard/shipyardlaw44.RouteCorners", spec := "routeCorners", unfollowed := true, recurses := true, plainKeys := false, apart := false, narrowed := true }
def RouteCornersUptoSaid : Prop := routeCornersUptoRow.holds Try.pinned (OpenSpec.upto routeCornersSpec)

/-- 'shipyardlaw44.RouteParts', WHERE WHAT IT READS IS OF BULK AT MOST 1048576: true; the input reads as it did. -/
def routePartsUptoRow : OpenClaim := { program := "ytbmchijgejgboaa", sum := "73d0d497b0171a6fca081795d3d59cb0766bc994894b32ca00facb912dbae29e", func := "shipyard/shipyardlaw44.RouteParts", spec := "routeParts", unfollowed := true, recurses := true, plainKeys := false, apart := false, narrowed := true }
def RoutePartsUptoSaid : Prop := routePartsUptoRow.holds Try.pinned (OpenSpec.upto routePartsSpec)

end Rows
end Go.Proofs.Ytbmchijgejgboaa
