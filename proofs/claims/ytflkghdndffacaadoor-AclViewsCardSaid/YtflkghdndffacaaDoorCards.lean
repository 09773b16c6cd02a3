/-
  DERIVED. GIVEN WITH THE SEED: THE CARDS: each row of YtflkghdndffacaaDoorRows.lean that lists a variable, with what it lists TIED to the program's text (the seventh form; the later family's looks); each row that meets fmt, with fmt's text TOLD by the authors' own Lean function (tested against real Go, not proved from fmt's source: count such statements apart). THE CARD IS WHAT COUNTS. Prove the row's statement (the work); the ties are given (YtflkghdndffacaaDoorTie.lean); close each card by the builder's one call (the guide's Derived/Test/ToyasCard.lean, 'card_holds'). Laid BY PROGRAM, IN A SANDBOX (cutbox-door.mjs). By AI agents, Wed Nov 11 2026. No macro, syntax, notation, axiom, sorry.
-/
import Derived.Test.YtflkghdndffacaaDoorRows
import GoSem.ClaimSeven
namespace Go.Proofs.YtflkghdndffacaaDoor
namespace Rows

/-- THE TIED CARD OF 'brooklaw2.DnLists'. -/
def dnListsCard : Claim7 := { stood := { row := dnListsRow, standIns := [], harness := (true, "07fe55da1d291c498e8d2167955012ff257bbeddb105668acac5023c724f9146"), looks := false }, kinds := [], alts := [], laidByText := true, laidKinds := [.data, .pinned], laidTests := true, laidLooks := .later }
def DnListsCardSaid : Prop := Claim7.holds Tryd.pinned (.plain (OpenSpec.ofChange dnListsSpec)) dnListsCard

/-- THE TIED CARD OF 'brooklaw2.DnBack'. -/
def dnBackCard : Claim7 := { stood := { row := dnBackRow, standIns := [], harness := (true, "07fe55da1d291c498e8d2167955012ff257bbeddb105668acac5023c724f9146"), looks := false }, kinds := [], alts := [], laidByText := true, laidKinds := [.data, .pinned], laidTests := true, laidLooks := .later }
def DnBackCardSaid : Prop := Claim7.holds Tryd.pinned (.plain (OpenSpec.ofChange dnBackSpec)) dnBackCard

/-- THE TIED CARD OF 'brooklaw2.DnKeys'. -/
def dnKeysCard : Claim7 := { stood := { row := dnKeysRow, standIns := [], harness := (true, "07fe55da1d291c498e8d2167955012ff257bbeddb105668acac5023c724f9146"), looks := false }, kinds := [], alts := [], laidByText := true, laidKinds := [.data, .pinned], laidTests := true, laidLooks := .later }
def DnKeysCardSaid : Prop := Claim7.holds Tryd.pinned (.plain (OpenSpec.ofChange dnKeysSpec)) dnKeysCard

/-- THE TIED CARD OF 'brooklaw2.DnBad'. -/
def dnBadCard : Claim7 := { stood := { row := dnBadRow, standIns := [], harness := (true, "07fe55da1d291c498e8d2167955012ff257bbeddb105668acac5023c724f9146"), looks := false }, kinds := [], alts := [], laidByText := true, laidKinds := [.data, .pinned], laidTests := true, laidLooks := .later }
def DnBadCardSaid : Prop := Claim7.holds Tryd.pinned (.plain (OpenSpec.ofChange dnBadSpec)) dnBadCard

/-- THE TIED CARD OF 'brooklaw2.DnFold'. -/
def dnFoldCard : Claim7 := { stood := { row := dnFoldRow, standIns := [], harness := (true, "07fe55da1d291c498e8d2167955012ff257bbeddb105668acac5023c724f9146"), looks := false }, kinds := [], alts := [], laidByText := true, laidKinds := [.data, .pinned], laidTests := true, laidLooks := .later }
def DnFoldCardSaid : Prop := Claim7.holds Tryd.pinned (.plain (OpenSpec.ofChange dnFoldSpec)) dnFoldCard

/-- THE TIED CARD OF 'brooklaw2.DnAll'. -/
def dnAllCard : Claim7 := { stood := { row := dnAllRow, standIns := [], harness := (true, "07fe55da1d291c498e8d2167955012ff257bbeddb105668acac5023c724f9146"), looks := false }, kinds := [], alts := [], laidByText := true, laidKinds := [.data, .pinned], laidTests := true, laidLooks := .later }
def DnAllCardSaid : Prop := Claim7.holds Tryd.pinned (.plain (OpenSpec.ofChange dnAllSpec)) dnAllCard

/-- THE TIED CARD OF 'brooklaw2.DnUnder'. -/
def dnUnderCard : Claim7 := { stood := { row := dnUnderRow, standIns := [], harness := (true, "07fe55da1d291c498e8d2167955012ff257bbeddb105668acac5023c724f9146"), looks := false }, kinds := [], alts := [], laidByText := true, laidKinds := [.data, .pinned], laidTests := true, laidLooks := .later }
def DnUnderCardSaid : Prop := Claim7.holds Tryd.pinned (.plain (OpenSpec.ofChange dnUnderSpec)) dnUnderCard

/-- THE TIED CARD OF 'brooklaw2.DnSteps'. -/
def dnStepsCard : Claim7 := { stood := { row := dnStepsRow, standIns := [], harness := (true, "07fe55da1d291c498e8d2167955012ff257bbeddb105668acac5023c724f9146"), looks := false }, kinds := [], alts := [], laidByText := true, laidKinds := [.data, .pinned], laidTests := true, laidLooks := .later }
def DnStepsCardSaid : Prop := Claim7.holds Tryd.pinned (.plain (OpenSpec.ofChange dnStepsSpec)) dnStepsCard

/-- THE TIED CARD OF 'brooklaw10.AclFirst'. -/
def aclFirstCard : Claim7 := { stood := { row := aclFirstRow, standIns := [], harness := (true, "07fe55da1d291c498e8d2167955012ff257bbeddb105668acac5023c724f9146"), looks := false }, kinds := [], alts := [], laidByText := true, laidKinds := [.data, .pinned], laidTests := true, laidLooks := .later }
def AclFirstCardSaid : Prop := Claim7.holds Tryd.pinned (.plain (OpenSpec.ofChange aclFirstSpec)) aclFirstCard

/-- THE TIED CARD OF 'brooklaw10.AclWho'. -/
def aclWhoCard : Claim7 := { stood := { row := aclWhoRow, standIns := [], harness := (true, "07fe55da1d291c498e8d2167955012ff257bbeddb105668acac5023c724f9146"), looks := false }, kinds := [], alts := [], laidByText := true, laidKinds := [.data, .pinned], laidTests := true, laidLooks := .later }
def AclWhoCardSaid : Prop := Claim7.holds Tryd.pinned (.plain (OpenSpec.ofChange aclWhoSpec)) aclWhoCard

/-- THE TIED CARD OF 'brooklaw10.AclMade'. -/
def aclMadeCard : Claim7 := { stood := { row := aclMadeRow, standIns := [], harness := (true, "07fe55da1d291c498e8d2167955012ff257bbeddb105668acac5023c724f9146"), looks := false }, kinds := [], alts := [], laidByText := true, laidKinds := [.data, .pinned], laidTests := true, laidLooks := .later }
def AclMadeCardSaid : Prop := Claim7.holds Tryd.pinned (.plain (OpenSpec.ofChange aclMadeSpec)) aclMadeCard

/-- THE TIED CARD OF 'brooklaw10.AclViews'. -/
def aclViewsCard : Claim7 := { stood := { row := aclViewsRow, standIns := [], harness := (true, "07fe55da1d291c498e8d2167955012ff257bbeddb105668acac5023c724f9146"), looks := false }, kinds := [], alts := [], laidByText := true, laidKinds := [.data, .pinned], laidTests := true, laidLooks := .later }
def AclViewsCardSaid : Prop := Claim7.holds Tryd.pinned (.plain (OpenSpec.ofChange aclViewsSpec)) aclViewsCard

/-- THE SECOND FORM's CARD OF 'brooklaw2.DnLists'. -/
def dnListsUptoCard : Claim7 := { stood := { row := dnListsUptoRow, standIns := [], harness := (true, "07fe55da1d291c498e8d2167955012ff257bbeddb105668acac5023c724f9146"), looks := false }, kinds := [], alts := [], laidByText := true, laidKinds := [.data, .pinned], laidTests := true, laidLooks := .later }
def DnListsUptoCardSaid : Prop := Claim7.holds Tryd.pinned (.plain (OpenSpec.upto dnListsSpec)) dnListsUptoCard

/-- THE SECOND FORM's CARD OF 'brooklaw2.DnBack'. -/
def dnBackUptoCard : Claim7 := { stood := { row := dnBackUptoRow, standIns := [], harness := (true, "07fe55da1d291c498e8d2167955012ff257bbeddb105668acac5023c724f9146"), looks := false }, kinds := [], alts := [], laidByText := true, laidKinds := [.data, .pinned], laidTests := true, laidLooks := .later }
def DnBackUptoCardSaid : Prop := Claim7.holds Tryd.pinned (.plain (OpenSpec.upto dnBackSpec)) dnBackUptoCard

/-- THE SECOND FORM's CARD OF 'brooklaw2.DnKeys'. -/
def dnKeysUptoCard : Claim7 := { stood := { row := dnKeysUptoRow, standIns := [], harness := (true, "07fe55da1d291c498e8d2167955012ff257bbeddb105668acac5023c724f9146"), looks := false }, kinds := [], alts := [], laidByText := true, laidKinds := [.data, .pinned], laidTests := true, laidLooks := .later }
def DnKeysUptoCardSaid : Prop := Claim7.holds Tryd.pinned (.plain (OpenSpec.upto dnKeysSpec)) dnKeysUptoCard

/-- THE SECOND FORM's CARD OF 'brooklaw2.DnBad'. -/
def dnBadUptoCard : Claim7 := { stood := { row := dnBadUptoRow, standIns := [], harness := (true, "07fe55da1d291c498e8d2167955012ff257bbeddb105668acac5023c724f9146"), looks := false }, kinds := [], alts := [], laidByText := true, laidKinds := [.data, .pinned], laidTests := true, laidLooks := .later }
def DnBadUptoCardSaid : Prop := Claim7.holds Tryd.pinned (.plain (OpenSpec.upto dnBadSpec)) dnBadUptoCard

/-- THE SECOND FORM's CARD OF 'brooklaw2.DnFold'. -/
def dnFoldUptoCard : Claim7 := { stood := { row := dnFoldUptoRow, standIns := [], harness := (true, "07fe55da1d291c498e8d2167955012ff257bbeddb105668acac5023c724f9146"), looks := false }, kinds := [], alts := [], laidByText := true, laidKinds := [.data, .pinned], laidTests := true, laidLooks := .later }
def DnFoldUptoCardSaid : Prop := Claim7.holds Tryd.pinned (.plain (OpenSpec.upto dnFoldSpec)) dnFoldUptoCard

/-- THE SECOND FORM's CARD OF 'brooklaw2.DnAll'. -/
def dnAllUptoCard : Claim7 := { stood := { row := dnAllUptoRow, standIns := [], harness := (true, "07fe55da1d291c498e8d2167955012ff257bbeddb105668acac5023c724f9146"), looks := false }, kinds := [], alts := [], laidByText := true, laidKinds := [.data, .pinned], laidTests := true, laidLooks := .later }
def DnAllUptoCardSaid : Prop := Claim7.holds Tryd.pinned (.plain (OpenSpec.upto dnAllSpec)) dnAllUptoCard

/-- THE SECOND FORM's CARD OF 'brooklaw2.DnUnder'. -/
def dnUnderUptoCard : Claim7 := { stood := { row := dnUnderUptoRow, standIns := [], harness := (true, "07fe55da1d291c498e8d2167955012ff257bbeddb105668acac5023c724f9146"), looks := false }, kinds := [], alts := [], laidByText := true, laidKinds := [.data, .pinned], laidTests := true, laidLooks := .later }
def DnUnderUptoCardSaid : Prop := Claim7.holds Tryd.pinned (.plain (OpenSpec.upto dnUnderSpec)) dnUnderUptoCard

/-- THE SECOND FORM's CARD OF 'brooklaw2.DnSteps'. -/
def dnStepsUptoCard : Claim7 := { stood := { row := dnStepsUptoRow, standIns := [], harness := (true, "07fe55da1d291c498e8d2167955012ff257bbeddb105668acac5023c724f9146"), looks := false }, kinds := [], alts := [], laidByText := true, laidKinds := [.data, .pinned], laidTests := true, laidLooks := .later }
def DnStepsUptoCardSaid : Prop := Claim7.holds Tryd.pinned (.plain (OpenSpec.upto dnStepsSpec)) dnStepsUptoCard

/-- THE SECOND FORM's CARD OF 'brooklaw10.AclFirst'. -/
def aclFirstUptoCard : Claim7 := { stood := { row := aclFirstUptoRow, standIns := [], harness := (true, "07fe55da1d291c498e8d2167955012ff257bbeddb105668acac5023c724f9146"), looks := false }, kinds := [], alts := [], laidByText := true, laidKinds := [.data, .pinned], laidTests := true, laidLooks := .later }
def AclFirstUptoCardSaid : Prop := Claim7.holds Tryd.pinned (.plain (OpenSpec.upto aclFirstSpec)) aclFirstUptoCard

/-- THE SECOND FORM's CARD OF 'brooklaw10.AclWho'. -/
def aclWhoUptoCard : Claim7 := { stood := { row := aclWhoUptoRow, standIns := [], harness := (true, "07fe55da1d291c498e8d2167955012ff257bbeddb105668acac5023c724f9146"), looks := false }, kinds := [], alts := [], laidByText := true, laidKinds := [.data, .pinned], laidTests := true, laidLooks := .later }
def AclWhoUptoCardSaid : Prop := Claim7.holds Tryd.pinned (.plain (OpenSpec.upto aclWhoSpec)) aclWhoUptoCard

/-- THE SECOND FORM's CARD OF 'brooklaw10.AclMade'. -/
def aclMadeUptoCard : Claim7 := { stood := { row := aclMadeUptoRow, standIns := [], harness := (true, "07fe55da1d291c498e8d2167955012ff257bbeddb105668acac5023c724f9146"), looks := false }, kinds := [], alts := [], laidByText := true, laidKinds := [.data, .pinned], laidTests := true, laidLooks := .later }
def AclMadeUptoCardSaid : Prop := Claim7.holds Tryd.pinned (.plain (OpenSpec.upto aclMadeSpec)) aclMadeUptoCard

/-- THE SECOND FORM's CARD OF 'brooklaw10.AclViews'. -/
def aclViewsUptoCard : Claim7 := { stood := { row := aclViewsUptoRow, standIns := [], harness := (true, "07fe55da1d291c498e8d2167955012ff257bbeddb105668acac5023c724f9146"), looks := false }, kinds := [], alts := [], laidByText := true, laidKinds := [.data, .pinned], laidTests := true, laidLooks := .later }
def AclViewsUptoCardSaid : Prop := Claim7.holds Tryd.pinned (.plain (OpenSpec.upto aclViewsSpec)) aclViewsUptoCard
end Rows
end Go.Proofs.YtflkghdndffacaaDoor
