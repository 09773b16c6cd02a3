/-
  DERIVED. GIVEN WITH THE SEED: THE CARDS: each row of YtflkghdndffacaaGreatDoorRows.lean that lists a variable, with what it lists TIED to the program's text (the seventh form; the later family's looks); each row that meets fmt, with fmt's text TOLD by the authors' own Lean function (tested against real Go, not proved from fmt's source: count such statements apart). THE CARD IS WHAT COUNTS. Prove the row's statement (the work); the ties are given (YtflkghdndffacaaGreatDoorTie.lean); close each card by the builder's one call (the guide's Derived/Test/ToyasCard.lean, 'card_holds'). Laid BY PROGRAM, IN A SANDBOX (cutbox-door.mjs). By AI agents, Wed Nov 11 2026. No macro, syntax, notation, axiom, sorry.
-/
import Derived.Test.YtflkghdndffacaaGreatDoorRows
import GoSem.ClaimSeven
namespace Go.Proofs.YtflkghdndffacaaGreatDoor
namespace Rows

/-- THE TIED CARD OF 'brooklaw10.AclAll'. -/
def aclAllCard : Claim7 := { stood := { row := aclAllRow, standIns := [], harness := (true, "49970f92565f6e4faf8726abc74050c3ee573fb2242b6eee95eaa2b1f65bcce2"), looks := false }, kinds := [], alts := [], laidByText := true, laidKinds := [.data, .pinned], laidTests := true, laidLooks := .later }
def AclAllCardSaid : Prop := Claim7.holds Tryz.pinned (.plain (OpenSpec.ofChange aclAllSpec)) aclAllCard

/-- THE SECOND FORM's CARD OF 'brooklaw10.AclAll'. -/
def aclAllUptoCard : Claim7 := { stood := { row := aclAllUptoRow, standIns := [], harness := (true, "49970f92565f6e4faf8726abc74050c3ee573fb2242b6eee95eaa2b1f65bcce2"), looks := false }, kinds := [], alts := [], laidByText := true, laidKinds := [.data, .pinned], laidTests := true, laidLooks := .later }
def AclAllUptoCardSaid : Prop := Claim7.holds Tryz.pinned (.plain (OpenSpec.upto aclAllSpec)) aclAllUptoCard
end Rows
end Go.Proofs.YtflkghdndffacaaGreatDoor
