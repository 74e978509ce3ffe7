/-
  DERIVED. GIVEN WITH THE SEED: THE CARDS: each row of YtbmkkepmecpffaaDoorRows.lean that lists a variable, with what it lists TIED to the program's text (the seventh form; the later family's looks); each row that meets fmt, with fmt's text TOLD by the authors' own Lean function (tested against real Go, not proved from fmt's source: count such statements apart). THE CARD IS WHAT COUNTS. Prove the row's statement (the work); the ties are given (YtbmkkepmecpffaaDoorTie.lean); close each card by the builder's one call (the guide's Derived/Test/ToyasCard.lean, 'card_holds'). Laid BY PROGRAM, IN A SANDBOX (cutbox-door.mjs). By AI agents, Wed Nov 11 2026. No macro, syntax, notation, axiom, sorry.
-/
import Derived.Test.YtbmkkepmecpffaaDoorRows
import GoSem.ClaimSeven
namespace Go.Proofs.YtbmkkepmecpffaaDoor
namespace Rows

/-- THE TIED CARD OF 'shipyardlaw22.BevelChecks'. -/
def bevelChecksCard : Claim7 := { stood := { row := bevelChecksRow, standIns := [], harness := (true, "8f885781525c68a6574ec2333a72267f532d0fe2f445809f6f95c22faadce64e"), looks := false }, kinds := [], alts := [], laidByText := true, laidKinds := [.widerDeep, .data], laidTests := true, laidLooks := .later }
def BevelChecksCardSaid : Prop := Claim7.holds Tryd.pinned (.plain (OpenSpec.ofChange bevelChecksSpec)) bevelChecksCard

/-- THE TIED CARD OF 'shipyardlaw22.BevelFinds'. -/
def bevelFindsCard : Claim7 := { stood := { row := bevelFindsRow, standIns := [], harness := (true, "8f885781525c68a6574ec2333a72267f532d0fe2f445809f6f95c22faadce64e"), looks := false }, kinds := [], alts := [], laidByText := true, laidKinds := [.widerDeep, .data], laidTests := true, laidLooks := .later }
def BevelFindsCardSaid : Prop := Claim7.holds Tryd.pinned (.plain (OpenSpec.ofChange bevelFindsSpec)) bevelFindsCard

/-- THE TIED CARD OF 'shipyardlaw22.BevelWelds'. -/
def bevelWeldsCard : Claim7 := { stood := { row := bevelWeldsRow, standIns := [], harness := (true, "8f885781525c68a6574ec2333a72267f532d0fe2f445809f6f95c22faadce64e"), looks := false }, kinds := [], alts := [], laidByText := true, laidKinds := [.widerDeep, .data], laidTests := true, laidLooks := .later }
def BevelWeldsCardSaid : Prop := Claim7.holds Tryd.pinned (.plain (OpenSpec.ofChange bevelWeldsSpec)) bevelWeldsCard

/-- THE TIED CARD OF 'shipyardlaw22.BevelMatches'. -/
def bevelMatchesCard : Claim7 := { stood := { row := bevelMatchesRow, standIns := [], harness := (true, "8f885781525c68a6574ec2333a72267f532d0fe2f445809f6f95c22faadce64e"), looks := false }, kinds := [], alts := [], laidByText := true, laidKinds := [.widerDeep, .data], laidTests := true, laidLooks := .later }
def BevelMatchesCardSaid : Prop := Claim7.holds Tryd.pinned (.plain (OpenSpec.ofChange bevelMatchesSpec)) bevelMatchesCard

/-- THE TIED CARD OF 'shipyardlaw22.BevelOnce'. -/
def bevelOnceCard : Claim7 := { stood := { row := bevelOnceRow, standIns := [], harness := (true, "8f885781525c68a6574ec2333a72267f532d0fe2f445809f6f95c22faadce64e"), looks := false }, kinds := [], alts := [], laidByText := true, laidKinds := [.widerDeep, .data], laidTests := true, laidLooks := .later }
def BevelOnceCardSaid : Prop := Claim7.holds Tryd.pinned (.plain (OpenSpec.ofChange bevelOnceSpec)) bevelOnceCard

/-- THE TIED CARD OF 'shipyardlaw22.BevelGrows'. -/
def bevelGrowsCard : Claim7 := { stood := { row := bevelGrowsRow, standIns := [], harness := (true, "8f885781525c68a6574ec2333a72267f532d0fe2f445809f6f95c22faadce64e"), looks := false }, kinds := [], alts := [], laidByText := true, laidKinds := [.widerDeep, .data], laidTests := true, laidLooks := .later }
def BevelGrowsCardSaid : Prop := Claim7.holds Tryd.pinned (.plain (OpenSpec.ofChange bevelGrowsSpec)) bevelGrowsCard

/-- THE TIED CARD OF 'shipyardlaw22.BevelDense'. -/
def bevelDenseCard : Claim7 := { stood := { row := bevelDenseRow, standIns := [], harness := (true, "8f885781525c68a6574ec2333a72267f532d0fe2f445809f6f95c22faadce64e"), looks := false }, kinds := [], alts := [], laidByText := true, laidKinds := [.widerDeep, .data], laidTests := true, laidLooks := .later }
def BevelDenseCardSaid : Prop := Claim7.holds Tryd.pinned (.plain (OpenSpec.ofChange bevelDenseSpec)) bevelDenseCard

/-- THE TIED CARD OF 'shipyardlaw22.BevelLess'. -/
def bevelLessCard : Claim7 := { stood := { row := bevelLessRow, standIns := [], harness := (true, "8f885781525c68a6574ec2333a72267f532d0fe2f445809f6f95c22faadce64e"), looks := false }, kinds := [], alts := [], laidByText := true, laidKinds := [.widerDeep, .data], laidTests := true, laidLooks := .later }
def BevelLessCardSaid : Prop := Claim7.holds Tryd.pinned (.plain (OpenSpec.ofChange bevelLessSpec)) bevelLessCard

/-- THE SECOND FORM's CARD OF 'shipyardlaw22.BevelChecks'. -/
def bevelChecksUptoCard : Claim7 := { stood := { row := bevelChecksUptoRow, standIns := [], harness := (true, "8f885781525c68a6574ec2333a72267f532d0fe2f445809f6f95c22faadce64e"), looks := false }, kinds := [], alts := [], laidByText := true, laidKinds := [.widerDeep, .data], laidTests := true, laidLooks := .later }
def BevelChecksUptoCardSaid : Prop := Claim7.holds Tryd.pinned (.plain (OpenSpec.upto bevelChecksSpec)) bevelChecksUptoCard

/-- THE SECOND FORM's CARD OF 'shipyardlaw22.BevelFinds'. -/
def bevelFindsUptoCard : Claim7 := { stood := { row := bevelFindsUptoRow, standIns := [], harness := (true, "8f885781525c68a6574ec2333a72267f532d0fe2f445809f6f95c22faadce64e"), looks := false }, kinds := [], alts := [], laidByText := true, laidKinds := [.widerDeep, .data], laidTests := true, laidLooks := .later }
def BevelFindsUptoCardSaid : Prop := Claim7.holds Tryd.pinned (.plain (OpenSpec.upto bevelFindsSpec)) bevelFindsUptoCard

/-- THE SECOND FORM's CARD OF 'shipyardlaw22.BevelWelds'. -/
def bevelWeldsUptoCard : Claim7 := { stood := { row := bevelWeldsUptoRow, standIns := [], harness := (true, "8f885781525c68a6574ec2333a72267f532d0fe2f445809f6f95c22faadce64e"), looks := false }, kinds := [], alts := [], laidByText := true, laidKinds := [.widerDeep, .data], laidTests := true, laidLooks := .later }
def BevelWeldsUptoCardSaid : Prop := Claim7.holds Tryd.pinned (.plain (OpenSpec.upto bevelWeldsSpec)) bevelWeldsUptoCard

/-- THE SECOND FORM's CARD OF 'shipyardlaw22.BevelMatches'. -/
def bevelMatchesUptoCard : Claim7 := { stood := { row := bevelMatchesUptoRow, standIns := [], harness := (true, "8f885781525c68a6574ec2333a72267f532d0fe2f445809f6f95c22faadce64e"), looks := false }, kinds := [], alts := [], laidByText := true, laidKinds := [.widerDeep, .data], laidTests := true, laidLooks := .later }
def BevelMatchesUptoCardSaid : Prop := Claim7.holds Tryd.pinned (.plain (OpenSpec.upto bevelMatchesSpec)) bevelMatchesUptoCard

/-- THE SECOND FORM's CARD OF 'shipyardlaw22.BevelOnce'. -/
def bevelOnceUptoCard : Claim7 := { stood := { row := bevelOnceUptoRow, standIns := [], harness := (true, "8f885781525c68a6574ec2333a72267f532d0fe2f445809f6f95c22faadce64e"), looks := false }, kinds := [], alts := [], laidByText := true, laidKinds := [.widerDeep, .data], laidTests := true, laidLooks := .later }
def BevelOnceUptoCardSaid : Prop := Claim7.holds Tryd.pinned (.plain (OpenSpec.upto bevelOnceSpec)) bevelOnceUptoCard

/-- THE SECOND FORM's CARD OF 'shipyardlaw22.BevelGrows'. -/
def bevelGrowsUptoCard : Claim7 := { stood := { row := bevelGrowsUptoRow, standIns := [], harness := (true, "8f885781525c68a6574ec2333a72267f532d0fe2f445809f6f95c22faadce64e"), looks := false }, kinds := [], alts := [], laidByText := true, laidKinds := [.widerDeep, .data], laidTests := true, laidLooks := .later }
def BevelGrowsUptoCardSaid : Prop := Claim7.holds Tryd.pinned (.plain (OpenSpec.upto bevelGrowsSpec)) bevelGrowsUptoCard

/-- THE SECOND FORM's CARD OF 'shipyardlaw22.BevelDense'. -/
def bevelDenseUptoCard : Claim7 := { stood := { row := bevelDenseUptoRow, standIns := [], harness := (true, "8f885781525c68a6574ec2333a72267f532d0fe2f445809f6f95c22faadce64e"), looks := false }, kinds := [], alts := [], laidByText := true, laidKinds := [.widerDeep, .data], laidTests := true, laidLooks := .later }
def BevelDenseUptoCardSaid : Prop := Claim7.holds Tryd.pinned (.plain (OpenSpec.upto bevelDenseSpec)) bevelDenseUptoCard

/-- THE SECOND FORM's CARD OF 'shipyardlaw22.BevelLess'. -/
def bevelLessUptoCard : Claim7 := { stood := { row := bevelLessUptoRow, standIns := [], harness := (true, "8f885781525c68a6574ec2333a72267f532d0fe2f445809f6f95c22faadce64e"), looks := false }, kinds := [], alts := [], laidByText := true, laidKinds := [.widerDeep, .data], laidTests := true, laidLooks := .later }
def BevelLessUptoCardSaid : Prop := Claim7.holds Tryd.pinned (.plain (OpenSpec.upto bevelLessSpec)) bevelLessUptoCard
end Rows
end Go.Proofs.YtbmkkepmecpffaaDoor
