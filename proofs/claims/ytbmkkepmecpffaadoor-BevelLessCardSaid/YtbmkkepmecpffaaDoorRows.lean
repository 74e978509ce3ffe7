/-
  NARROWER THAN 'FOR EVERY INPUT', by the rows' own cells (each row's printed sentence says how): BevelChecks: laid · BevelFinds: laid · BevelWelds: laid · BevelMatches: laid · BevelOnce: laid · BevelGrows: laid · BevelDense: laid · BevelLess: laid.
  DERIVED. THE GIVEN ROWS OF THIS SEAT. 8 by the template 'for every input the law returns true; each argument reads behind the call as it read before'; 0 by the template 'total and deterministic' (their statements: YtbmkkepmecpffaaDoorTotals.lean).
  GIVEN WITH THE SEED: the statements are not yours to turn. If you find one false, say at which input.
  Laid BY PROGRAM, IN A SANDBOX (cutbox-rows.mjs): the forced cells as the released guide's own fill.sh prints them over the translation 50a11da030b6942e… (all of the seat's roots in one cut). By AI agents, Wed Nov 11 2026. No macro, syntax, notation, axiom, sorry.
-/
import Derived.Test.YtbmkkepmecpffaaDoorChecked
import GoSem.Claim
import GoSem.ClaimJoined
import GoSem.ClaimMapViews
import Derived.JoinedTies
import Derived.KernelRfl
namespace Go.Proofs.YtbmkkepmecpffaaDoor
/- THE CELL 'sum', in the pinned program and in every row, IS THE sha256 OF THE DUMP (.gsa) THAT YtbmkkepmecpffaaDoorProg.lean LOADS. Nothing in Lean hashes anything: it is a label: what it is worth is what the hold of that sum in a sandbox is worth. -/
noncomputable def Tryd.pinned : Pinned := { name := "ytbmkkepmecpffaadoor", sum := "50a11da030b6942ed0ba6d2892d90af2a2fed3c8ecbff7dac22b873e6f87a849", checked := Tryd.checked }
namespace Rows
def none {H : Type} : Left H := { results := [], args := [] }

/- WHAT THE LISTED PACKAGE-LEVEL VARIABLES READ AS WHEN THE CALL BEGINS. Each datum BY PROGRAM (the guide's laid-datum.mjs) off the statement by which the dump's own 'gosem.cut.vars' lays the variable. In a bare row this is a premise. The card (YtbmkkepmecpffaaDoorCards.lean) ties it to the program's text. -/
def laid_shipyard_bevel_kinds {H : Type} : DataW H := .agg [.lit (.int .i64 1), .lit (.int .i64 2)]
def laid_shipyard_bevel_greatest {H : Type} : DataW H := .agg [.lit (.int .i64 20), .lit (.int .i64 300)]

/-- 'shipyardlaw22.BevelChecks': WHATEVER THE INPUT: true; the input reads as it did. -/
def bevelChecksSpec : ChangeSpec := { name := "bevelChecks", fn := fun _ => fun
  | [d] => { results := [.lit (.bool true)], args := [d] }
  | _ => none }
def bevelChecksRow : OpenClaim := { program := "ytbmkkepmecpffaadoor", sum := "50a11da030b6942ed0ba6d2892d90af2a2fed3c8ecbff7dac22b873e6f87a849", func := "shipyard/shipyardlaw22.BevelChecks", spec := "bevelChecks", unfollowed := true, recurses := true, named := ["shipyard/bevel.kinds", "shipyard/bevel.greatest"], apart := false, laid := [("shipyard/bevel.kinds", laid_shipyard_bevel_kinds), ("shipyard/bevel.greatest", laid_shipyard_bevel_greatest)] }
def BevelChecksSaid : Prop := bevelChecksRow.holds Tryd.pinned (OpenSpec.ofChange bevelChecksSpec)

/-- ITS FALSE NEIGHBOUR: 'it returns false'. Refute it at one input. -/
def bevelChecksWrong : ChangeSpec := { name := "bevelChecks", fn := fun _ => fun
  | [d] => { results := [.lit (.bool false)], args := [d] }
  | _ => none }
def BevelChecksWrongFalsely : Prop := bevelChecksRow.holds Tryd.pinned (OpenSpec.ofChange bevelChecksWrong)

/-- 'shipyardlaw22.BevelFinds': WHATEVER THE INPUT: true; the input reads as it did. -/
def bevelFindsSpec : ChangeSpec := { name := "bevelFinds", fn := fun _ => fun
  | [d1, d2, d3] => { results := [.lit (.bool true)], args := [d1, d2, d3] }
  | _ => none }
def bevelFindsRow : OpenClaim := { program := "ytbmkkepmecpffaadoor", sum := "50a11da030b6942ed0ba6d2892d90af2a2fed3c8ecbff7dac22b873e6f87a849", func := "shipyard/shipyardlaw22.BevelFinds", spec := "bevelFinds", unfollowed := true, recurses := true, named := ["shipyard/bevel.kinds", "shipyard/bevel.greatest"], apart := false, laid := [("shipyard/bevel.kinds", laid_shipyard_bevel_kinds), ("shipyard/bevel.greatest", laid_shipyard_bevel_greatest)] }
def BevelFindsSaid : Prop := bevelFindsRow.holds Tryd.pinned (OpenSpec.ofChange bevelFindsSpec)

/-- ITS FALSE NEIGHBOUR: 'it returns false'. Refute it at one input. -/
def bevelFindsWrong : ChangeSpec := { name := "bevelFinds", fn := fun _ => fun
  | [d1, d2, d3] => { results := [.lit (.bool false)], args := [d1, d2, d3] }
  | _ => none }
def BevelFindsWrongFalsely : Prop := bevelFindsRow.holds Tryd.pinned (OpenSpec.ofChange bevelFindsWrong)

/-- 'shipyardlaw22.BevelWelds': WHATEVER THE INPUT: true; the input reads as it did. -/
def bevelWeldsSpec : ChangeSpec := { name := "bevelWelds", fn := fun _ => fun
  | [d1, d2, d3] => { results := [.lit (.bool true)], args := [d1, d2, d3] }
  | _ => none }
def bevelWeldsRow : OpenClaim := { program := "ytbmkkepmecpffaadoor", sum := "50a11da030b6942ed0ba6d2892d90af2a2fed3c8ecbff7dac22b873e6f87a849", func := "shipyard/shipyardlaw22.BevelWelds", spec := "bevelWelds", unfollowed := true, recurses := true, named := ["shipyard/bevel.greatest", "shipyard/bevel.kinds"], apart := false, laid := [("shipyard/bevel.kinds", laid_shipyard_bevel_kinds), ("shipyard/bevel.greatest", laid_shipyard_bevel_greatest)] }
def BevelWeldsSaid : Prop := bevelWeldsRow.holds Tryd.pinned (OpenSpec.ofChange bevelWeldsSpec)

/-- ITS FALSE NEIGHBOUR: 'it returns false'. Refute it at one input. -/
def bevelWeldsWrong : ChangeSpec := { name := "bevelWelds", fn := fun _ => fun
  | [d1, d2, d3] => { results := [.lit (.bool false)], args := [d1, d2, d3] }
  | _ => none }
def BevelWeldsWrongFalsely : Prop := bevelWeldsRow.holds Tryd.pinned (OpenSpec.ofChange bevelWeldsWrong)

/-- 'shipyardlaw22.BevelMatches': WHATEVER THE INPUT: true; the input reads as it did. -/
def bevelMatchesSpec : ChangeSpec := { name := "bevelMatches", fn := fun _ => fun
  | [d1, d2] => { results := [.lit (.bool true)], args := [d1, d2] }
  | _ => none }
def bevelMatchesRow : OpenClaim := { program := "ytbmkkepmecpffaadoor", sum := "50a11da030b6942ed0ba6d2892d90af2a2fed3c8ecbff7dac22b873e6f87a849", func := "shipyard/shipyardlaw22.BevelMatches", spec := "bevelMatches", unfollowed := true, recurses := true, named := ["shipyard/bevel.kinds", "shipyard/bevel.greatest"], apart := false, laid := [("shipyard/bevel.kinds", laid_shipyard_bevel_kinds), ("shipyard/bevel.greatest", laid_shipyard_bevel_greatest)] }
def BevelMatchesSaid : Prop := bevelMatchesRow.holds Tryd.pinned (OpenSpec.ofChange bevelMatchesSpec)

/-- ITS FALSE NEIGHBOUR: 'it returns false'. Refute it at one input. -/
def bevelMatchesWrong : ChangeSpec := { name := "bevelMatches", fn := fun _ => fun
  | [d1, d2] => { results := [.lit (.bool false)], args := [d1, d2] }
  | _ => none }
def BevelMatchesWrongFalsely : Prop := bevelMatchesRow.holds Tryd.pinned (OpenSpec.ofChange bevelMatchesWrong)

/-- 'shipyardlaw22.BevelOnce': WHATEVER THE INPUT: true; the input reads as it did. -/
def bevelOnceSpec : ChangeSpec := { name := "bevelOnce", fn := fun _ => fun
  | [d1, d2, d3] => { results := [.lit (.bool true)], args := [d1, d2, d3] }
  | _ => none }
def bevelOnceRow : OpenClaim := { program := "ytbmkkepmecpffaadoor", sum := "50a11da030b6942ed0ba6d2892d90af2a2fed3c8ecbff7dac22b873e6f87a849", func := "shipyard/shipyardlaw22.BevelOnce", spec := "bevelOnce", unfollowed := true, recurses := true, named := ["shipyard/bevel.kinds", "shipyard/bevel.greatest"], apart := false, laid := [("shipyard/bevel.kinds", laid_shipyard_bevel_kinds), ("shipyard/bevel.greatest", laid_shipyard_bevel_greatest)] }
def BevelOnceSaid : Prop := bevelOnceRow.holds Tryd.pinned (OpenSpec.ofChange bevelOnceSpec)

/-- ITS FALSE NEIGHBOUR: 'it returns false'. Refute it at one input. -/
def bevelOnceWrong : ChangeSpec := { name := "bevelOnce", fn := fun _ => fun
  | [d1, d2, d3] => { results := [.lit (.bool false)], args := [d1, d2, d3] }
  | _ => none }
def BevelOnceWrongFalsely : Prop := bevelOnceRow.holds Tryd.pinned (OpenSpec.ofChange bevelOnceWrong)

/-- 'shipyardlaw22.BevelGrows': WHATEVER THE INPUT: true; the input reads as it did. -/
def bevelGrowsSpec : ChangeSpec := { name := "bevelGrows", fn := fun _ => fun
  | [d1, d2, d3] => { results := [.lit (.bool true)], args := [d1, d2, d3] }
  | _ => none }
def bevelGrowsRow : OpenClaim := { program := "ytbmkkepmecpffaadoor", sum := "50a11da030b6942ed0ba6d2892d90af2a2fed3c8ecbff7dac22b873e6f87a849", func := "shipyard/shipyardlaw22.BevelGrows", spec := "bevelGrows", unfollowed := true, recurses := true, named := ["shipyard/bevel.kinds", "shipyard/bevel.greatest"], apart := false, laid := [("shipyard/bevel.kinds", laid_shipyard_bevel_kinds), ("shipyard/bevel.greatest", laid_shipyard_bevel_greatest)] }
def BevelGrowsSaid : Prop := bevelGrowsRow.holds Tryd.pinned (OpenSpec.ofChange bevelGrowsSpec)

/-- ITS FALSE NEIGHBOUR: 'it returns false'. Refute it at one input. -/
def bevelGrowsWrong : ChangeSpec := { name := "bevelGrows", fn := fun _ => fun
  | [d1, d2, d3] => { results := [.lit (.bool false)], args := [d1, d2, d3] }
  | _ => none }
def BevelGrowsWrongFalsely : Prop := bevelGrowsRow.holds Tryd.pinned (OpenSpec.ofChange bevelGrowsWrong)

/-- 'shipyardlaw22.BevelDense': WHATEVER THE INPUT: true; the input reads as it did. -/
def bevelDenseSpec : ChangeSpec := { name := "bevelDense", fn := fun _ => fun
  | [d1, d2, d3] => { results := [.lit (.bool true)], args := [d1, d2, d3] }
  | _ => none }
def bevelDenseRow : OpenClaim := { program := "ytbmkkepmecpffaadoor", sum := "50a11da030b6942ed0ba6d2892d90af2a2fed3c8ecbff7dac22b873e6f87a849", func := "shipyard/shipyardlaw22.BevelDense", spec := "bevelDense", unfollowed := true, recurses := true, named := ["shipyard/bevel.greatest", "shipyard/bevel.kinds"], apart := false, laid := [("shipyard/bevel.kinds", laid_shipyard_bevel_kinds), ("shipyard/bevel.greatest", laid_shipyard_bevel_greatest)] }
def BevelDenseSaid : Prop := bevelDenseRow.holds Tryd.pinned (OpenSpec.ofChange bevelDenseSpec)

/-- ITS FALSE NEIGHBOUR: 'it returns false'. Refute it at one input. -/
def bevelDenseWrong : ChangeSpec := { name := "bevelDense", fn := fun _ => fun
  | [d1, d2, d3] => { results := [.lit (.bool false)], args := [d1, d2, d3] }
  | _ => none }
def BevelDenseWrongFalsely : Prop := bevelDenseRow.holds Tryd.pinned (OpenSpec.ofChange bevelDenseWrong)

/-- 'shipyardlaw22.BevelLess': WHATEVER THE INPUT: true; the input reads as it did. -/
def bevelLessSpec : ChangeSpec := { name := "bevelLess", fn := fun _ => fun
  | [d1, d2, d3] => { results := [.lit (.bool true)], args := [d1, d2, d3] }
  | _ => none }
def bevelLessRow : OpenClaim := { program := "ytbmkkepmecpffaadoor", sum := "50a11da030b6942ed0ba6d2892d90af2a2fed3c8ecbff7dac22b873e6f87a849", func := "shipyard/shipyardlaw22.BevelLess", spec := "bevelLess", unfollowed := true, recurses := true, named := ["shipyard/bevel.kinds", "shipyard/bevel.greatest"], apart := false, laid := [("shipyard/bevel.kinds", laid_shipyard_bevel_kinds), ("shipyard/bevel.greatest", laid_shipyard_bevel_greatest)] }
def BevelLessSaid : Prop := bevelLessRow.holds Tryd.pinned (OpenSpec.ofChange bevelLessSpec)

/-- ITS FALSE NEIGHBOUR: 'it returns false'. Refute it at one input. -/
def bevelLessWrong : ChangeSpec := { name := "bevelLess", fn := fun _ => fun
  | [d1, d2, d3] => { results := [.lit (.bool false)], args := [d1, d2, d3] }
  | _ => none }
def BevelLessWrongFalsely : Prop := bevelLessRow.holds Tryd.pinned (OpenSpec.ofChange bevelLessWrong)

/- THE SECOND FORM. 'bulk': how many values and letters a reading holds, each counted each time it is reached (what is shared counts as often as it is met; a slice's spare places count too). A statement '..UptoSaid' is the law's where the arguments, and the package variables that the reading takes, are together of bulk at most 1048576: NARROWER than '..Said'. Prove '..Said' where nothing that the law and all that it calls make is longer than what came in: it says more and counts as full. Else prove '..UptoSaid'. A law counts once. -/
mutual
def uptoBulk {H : Type} : DataW H → Nat
  | .lit (.string bytes) => bytes.length + 1
  | .lit _ => 1
  | .nil => 1
  | .ptr d => uptoBulk d + 1
  | .slice elems spare => uptoBulkAll elems + uptoBulkAll spare + 1
  | .agg parts => uptoBulkAll parts + 1
  | .iface _ d => uptoBulk d + 1
  | .map entries => uptoBulkEntries entries + 1
  | .held _ => 1
def uptoBulkAll {H : Type} : List (DataW H) → Nat
  | [] => 0
  | d :: r => uptoBulk d + uptoBulkAll r
def uptoBulkEntries {H : Type} : List (Lit × DataW H) → Nat
  | [] => 0
  | x :: r => uptoBulkEntry x + uptoBulkEntries r
def uptoBulkEntry {H : Type} : Lit × DataW H → Nat
  | (.string bytes, d) => bytes.length + uptoBulk d + 1
  | (_, d) => uptoBulk d + 1
 end
def uptoSmall : (H : Type) → List (DataW H) → Bool := fun _ ds => decide (uptoBulkAll ds ≤ 1048576)
def OpenSpec.upto (s : _root_.Go.ChangeSpec) : _root_.Go.OpenSpec := { _root_.Go.OpenSpec.ofChange s with cond := some uptoSmall }

/-- 'shipyardlaw22.BevelChecks', WHERE WHAT IT READS IS OF BULK AT MOST 1048576: true; the input reads as it did. -/
def bevelChecksUptoRow : OpenClaim := { program := "ytbmkkepmecpffaadoor", sum := "50a11da030b6942ed0ba6d2892d90af2a2fed3c8ecbff7dac22b873e6f87a849", func := "shipyard/shipyardlaw22.BevelChecks", spec := "bevelChecks", unfollowed := true, recurses := true, named := ["shipyard/bevel.kinds", "shipyard/bevel.greatest"], apart := false, laid := [("shipyard/bevel.kinds", laid_shipyard_bevel_kinds), ("shipyard/bevel.greatest", laid_shipyard_bevel_greatest)], narrowed := true }
def BevelChecksUptoSaid : Prop := bevelChecksUptoRow.holds Tryd.pinned (OpenSpec.upto bevelChecksSpec)

/-- 'shipyardlaw22.BevelFinds', WHERE WHAT IT READS IS OF BULK AT MOST 1048576: true; the input reads as it did. -/
def bevelFindsUptoRow : OpenClaim := { program := "ytbmkkepmecpffaadoor", sum := "50a11da030b6942ed0ba6d2892d90af2a2fed3c8ecbff7dac22b873e6f87a849", func := "shipyard/shipyardlaw22.BevelFinds", spec := "bevelFinds", unfollowed := true, recurses := true, named := ["shipyard/bevel.kinds", "shipyard/bevel.greatest"], apart := false, laid := [("shipyard/bevel.kinds", laid_shipyard_bevel_kinds), ("shipyard/bevel.greatest", laid_shipyard_bevel_greatest)], narrowed := true }
def BevelFindsUptoSaid : Prop := bevelFindsUptoRow.holds Tryd.pinned (OpenSpec.upto bevelFindsSpec)

/-- 'shipyardlaw22.BevelWelds', WHERE WHAT IT READS IS OF BULK AT MOST 1048576: true; the input reads as it did. -/
def bevelWeldsUptoRow : OpenClaim := { program := "ytbmkkepmecpffaadoor", sum := "50a11da030b6942ed0ba6d2892d90af2a2fed3c8ecbff7dac22b873e6f87a849", func := "shipyard/shipyardlaw22.BevelWelds", spec := "bevelWelds", unfollowed := true, recurses := true, named := ["shipyard/bevel.greatest", "shipyard/bevel.kinds"], apart := false, laid := [("shipyard/bevel.kinds", laid_shipyard_bevel_kinds), ("shipyard/bevel.greatest", laid_shipyard_bevel_greatest)], narrowed := true }
def BevelWeldsUptoSaid : Prop := bevelWeldsUptoRow.holds Tryd.pinned (OpenSpec.upto bevelWeldsSpec)

/-- 'shipyardlaw22.BevelMatches', WHERE WHAT IT READS IS OF BULK AT MOST 1048576: true; the input reads as it did. -/
def bevelMatchesUptoRow : OpenClaim := { program := "ytbmkkepmecpffaadoor", sum := "50a11da030b6942ed0ba6d2892d90af2a2fed3c8ecbff7dac22b873e6f87a849", func := "shipyard/shipyardlaw22.BevelMatches", spec := "bevelMatches", unfollowed := true, recurses := true, named := ["shipyard/bevel.kinds", "shipyard/bevel.greatest"], apart := false, laid := [("shipyard/bevel.kinds", laid_shipyard_bevel_kinds), ("shipyard/bevel.greatest", laid_shipyard_bevel_greatest)], narrowed := true }
def BevelMatchesUptoSaid : Prop := bevelMatchesUptoRow.holds Tryd.pinned (OpenSpec.upto bevelMatchesSpec)

/-- 'shipyardlaw22.BevelOnce', WHERE WHAT IT READS IS OF BULK AT MOST 1048576: true; the input reads as it did. -/
def bevelOnceUptoRow : OpenClaim := { program := "ytbmkkepmecpffaadoor", sum := "50a11da030b6942ed0ba6d2892d90af2a2fed3c8ecbff7dac22b873e6f87a849", func := "shipyard/shipyardlaw22.BevelOnce", spec := "bevelOnce", unfollowed := true, recurses := true, named := ["shipyard/bevel.kinds", "shipyard/bevel.greatest"], apart := false, laid := [("shipyard/bevel.kinds", laid_shipyard_bevel_kinds), ("shipyard/bevel.greatest", laid_shipyard_bevel_greatest)], narrowed := true }
def BevelOnceUptoSaid : Prop := bevelOnceUptoRow.holds Tryd.pinned (OpenSpec.upto bevelOnceSpec)

/-- 'shipyardlaw22.BevelGrows', WHERE WHAT IT READS IS OF BULK AT MOST 1048576: true; the input reads as it did. -/
def bevelGrowsUptoRow : OpenClaim := { program := "ytbmkkepmecpffaadoor", sum := "50a11da030b6942ed0ba6d2892d90af2a2fed3c8ecbff7dac22b873e6f87a849", func := "shipyard/shipyardlaw22.BevelGrows", spec := "bevelGrows", unfollowed := true, recurses := true, named := ["shipyard/bevel.kinds", "shipyard/bevel.greatest"], apart := false, laid := [("shipyard/bevel.kinds", laid_shipyard_bevel_kinds), ("shipyard/bevel.greatest", laid_shipyard_bevel_greatest)], narrowed := true }
def BevelGrowsUptoSaid : Prop := bevelGrowsUptoRow.holds Tryd.pinned (OpenSpec.upto bevelGrowsSpec)

/-- 'shipyardlaw22.BevelDense', WHERE WHAT IT READS IS OF BULK AT MOST 1048576: true; the input reads as it did. -/
def bevelDenseUptoRow : OpenClaim := { program := "ytbmkkepmecpffaadoor", sum := "50a11da030b6942ed0ba6d2892d90af2a2fed3c8ecbff7dac22b873e6f87a849", func := "shipyard/shipyardlaw22.BevelDense", spec := "bevelDense", unfollowed := true, recurses := true, named := ["shipyard/bevel.greatest", "shipyard/bevel.kinds"], apart := false, laid := [("shipyard/bevel.kinds", laid_shipyard_bevel_kinds), ("shipyard/bevel.greatest", laid_shipyard_bevel_greatest)], narrowed := true }
def BevelDenseUptoSaid : Prop := bevelDenseUptoRow.holds Tryd.pinned (OpenSpec.upto bevelDenseSpec)

/-- 'shipyardlaw22.BevelLess', WHERE WHAT IT READS IS OF BULK AT MOST 1048576: true; the input reads as it did. -/
def bevelLessUptoRow : OpenClaim := { program := "ytbmkkepmecpffaadoor", sum := "50a11da030b6942ed0ba6d2892d90af2a2fed3c8ecbff7dac22b873e6f87a849", func := "shipyard/shipyardlaw22.BevelLess", spec := "bevelLess", unfollowed := true, recurses := true, named := ["shipyard/bevel.kinds", "shipyard/bevel.greatest"], apart := false, laid := [("shipyard/bevel.kinds", laid_shipyard_bevel_kinds), ("shipyard/bevel.greatest", laid_shipyard_bevel_greatest)], narrowed := true }
def BevelLessUptoSaid : Prop := bevelLessUptoRow.holds Tryd.pinned (OpenSpec.upto bevelLessSpec)

end Rows
end Go.Proofs.YtbmkkepmecpffaaDoor
