/-
  NARROWER THAN 'FOR EVERY INPUT', by the rows' own cells (each row's printed sentence says how): DnLists: laid · DnBack: laid · DnKeys: laid · DnBad: laid · DnFold: laid · DnAll: laid · DnUnder: laid · DnSteps: laid · AclFirst: laid · AclWho: laid · AclMade: laid · AclViews: laid.
  DERIVED. THE GIVEN ROWS OF THIS SEAT. 12 by the template 'for every input the law returns true; each argument reads behind the call as it read before'; 0 by the template 'total and deterministic' (their statements: YtflkghdndffacaaDoorTotals.lean).
  GIVEN WITH THE SEED: the statements are not yours to turn. If you find one false, say at which input.
  Laid BY PROGRAM, IN A SANDBOX (cutbox-rows.mjs): the forced cells as the released guide's own fill.sh prints them over the translation c9fa23743ecdb87e… (all of the seat's roots in one cut). By AI agents, Wed Nov 11 2026. No macro, syntax, notation, axiom, sorry.
-/
import Derived.Test.YtflkghdndffacaaDoorChecked
import GoSem.PinnedTables
import GoSem.Claim
import GoSem.ClaimJoined
import GoSem.ClaimMapViews
import Derived.JoinedTies
import Derived.KernelRfl
namespace Go.Proofs.YtflkghdndffacaaDoor
/- THE CELL 'sum', in the pinned program and in every row, IS THE sha256 OF THE DUMP (.gsa) THAT YtflkghdndffacaaDoorProg.lean LOADS. Nothing in Lean hashes anything: it is a label: what it is worth is what the hold of that sum in a sandbox is worth. -/
noncomputable def Tryd.pinned : Pinned := { name := "ytflkghdndffacaadoor", sum := "c9fa23743ecdb87e540dc45f00c64d87e5f7e1187a86f135047fe26389c62c4d", checked := Tryd.checked }
namespace Rows
def none {H : Type} : Left H := { results := [], args := [] }

/- WHAT THE LISTED PACKAGE-LEVEL VARIABLES READ AS WHEN THE CALL BEGINS. Each datum BY PROGRAM (the guide's laid-datum.mjs) off the statement by which the dump's own 'gosem.cut.vars' lays the variable. In a bare row this is a premise. The card (YtflkghdndffacaaDoorCards.lean) ties it to the program's text. -/
def laid_unicode_utf8_acceptRanges {H : Type} : DataW H := .agg [.agg [.lit (.int .u8 128), .lit (.int .u8 191)], .agg [.lit (.int .u8 160), .lit (.int .u8 191)], .agg [.lit (.int .u8 128), .lit (.int .u8 159)], .agg [.lit (.int .u8 144), .lit (.int .u8 191)], .agg [.lit (.int .u8 128), .lit (.int .u8 143)], .agg [.lit (.int .u8 0), .lit (.int .u8 0)], .agg [.lit (.int .u8 0), .lit (.int .u8 0)], .agg [.lit (.int .u8 0), .lit (.int .u8 0)], .agg [.lit (.int .u8 0), .lit (.int .u8 0)], .agg [.lit (.int .u8 0), .lit (.int .u8 0)], .agg [.lit (.int .u8 0), .lit (.int .u8 0)], .agg [.lit (.int .u8 0), .lit (.int .u8 0)], .agg [.lit (.int .u8 0), .lit (.int .u8 0)], .agg [.lit (.int .u8 0), .lit (.int .u8 0)], .agg [.lit (.int .u8 0), .lit (.int .u8 0)], .agg [.lit (.int .u8 0), .lit (.int .u8 0)]]
/-- One of Go's own tables, pinned by name: the form's constant. -/
def laid_unicode_utf8_first : DataW Unit := Go.Pinned.utf8First

/-- 'brooklaw2.DnLists': WHATEVER THE INPUT: true; the input reads as it did. -/
def dnListsSpec : ChangeSpec := { name := "dnLists", fn := fun _ => fun
  | [d] => { results := [.lit (.bool true)], args := [d] }
  | _ => none }
def dnListsRow : OpenClaim := { program := "ytflkghdndffacaadoor", sum := "c9fa23743ecdb87e540dc45f00c64d87e5f7e1187a86f135047fe26389c62c4d", func := "brook/brooklaw2.DnLists", spec := "dnLists", inPlace := ["internal/bytealg.IndexByteString", "internal/bytealg.IndexString", "internal/abi.NoEscape"], named := ["internal/bytealg.MaxLen", "unicode/utf8.first", "unicode/utf8.acceptRanges"], apart := false, laid := [("unicode/utf8.acceptRanges", laid_unicode_utf8_acceptRanges), ("unicode/utf8.first", laid_unicode_utf8_first)] }
def DnListsSaid : Prop := dnListsRow.holds Tryd.pinned (OpenSpec.ofChange dnListsSpec)

/-- ITS FALSE NEIGHBOUR: 'it returns false'. Refute it at one input. -/
def dnListsWrong : ChangeSpec := { name := "dnLists", fn := fun _ => fun
  | [d] => { results := [.lit (.bool false)], args := [d] }
  | _ => none }
def DnListsWrongFalsely : Prop := dnListsRow.holds Tryd.pinned (OpenSpec.ofChange dnListsWrong)

/-- 'brooklaw2.DnBack': WHATEVER THE INPUT: true; the input reads as it did. -/
def dnBackSpec : ChangeSpec := { name := "dnBack", fn := fun _ => fun
  | [d1, d2] => { results := [.lit (.bool true)], args := [d1, d2] }
  | _ => none }
def dnBackRow : OpenClaim := { program := "ytflkghdndffacaadoor", sum := "c9fa23743ecdb87e540dc45f00c64d87e5f7e1187a86f135047fe26389c62c4d", func := "brook/brooklaw2.DnBack", spec := "dnBack", inPlace := ["internal/abi.NoEscape", "internal/bytealg.IndexByteString", "internal/bytealg.IndexString"], named := ["internal/bytealg.MaxLen", "unicode/utf8.first", "unicode/utf8.acceptRanges"], apart := false, laid := [("unicode/utf8.acceptRanges", laid_unicode_utf8_acceptRanges), ("unicode/utf8.first", laid_unicode_utf8_first)] }
def DnBackSaid : Prop := dnBackRow.holds Tryd.pinned (OpenSpec.ofChange dnBackSpec)

/-- ITS FALSE NEIGHBOUR: 'it returns false'. Refute it at one input. -/
def dnBackWrong : ChangeSpec := { name := "dnBack", fn := fun _ => fun
  | [d1, d2] => { results := [.lit (.bool false)], args := [d1, d2] }
  | _ => none }
def DnBackWrongFalsely : Prop := dnBackRow.holds Tryd.pinned (OpenSpec.ofChange dnBackWrong)

/-- 'brooklaw2.DnKeys': WHATEVER THE INPUT: true; the input reads as it did. -/
def dnKeysSpec : ChangeSpec := { name := "dnKeys", fn := fun _ => fun
  | [d1, d2, d3] => { results := [.lit (.bool true)], args := [d1, d2, d3] }
  | _ => none }
def dnKeysRow : OpenClaim := { program := "ytflkghdndffacaadoor", sum := "c9fa23743ecdb87e540dc45f00c64d87e5f7e1187a86f135047fe26389c62c4d", func := "brook/brooklaw2.DnKeys", spec := "dnKeys", inPlace := ["internal/abi.NoEscape", "internal/bytealg.IndexByteString", "internal/bytealg.IndexString"], named := ["internal/bytealg.MaxLen", "unicode/utf8.first", "unicode/utf8.acceptRanges"], apart := false, laid := [("unicode/utf8.acceptRanges", laid_unicode_utf8_acceptRanges), ("unicode/utf8.first", laid_unicode_utf8_first)] }
def DnKeysSaid : Prop := dnKeysRow.holds Tryd.pinned (OpenSpec.ofChange dnKeysSpec)

/-- ITS FALSE NEIGHBOUR: 'it returns false'. Refute it at one input. -/
def dnKeysWrong : ChangeSpec := { name := "dnKeys", fn := fun _ => fun
  | [d1, d2, d3] => { results := [.lit (.bool false)], args := [d1, d2, d3] }
  | _ => none }
def DnKeysWrongFalsely : Prop := dnKeysRow.holds Tryd.pinned (OpenSpec.ofChange dnKeysWrong)

/-- 'brooklaw2.DnBad': WHATEVER THE INPUT: true; the input reads as it did. -/
def dnBadSpec : ChangeSpec := { name := "dnBad", fn := fun _ => fun
  | [d1, d2] => { results := [.lit (.bool true)], args := [d1, d2] }
  | _ => none }
def dnBadRow : OpenClaim := { program := "ytflkghdndffacaadoor", sum := "c9fa23743ecdb87e540dc45f00c64d87e5f7e1187a86f135047fe26389c62c4d", func := "brook/brooklaw2.DnBad", spec := "dnBad", inPlace := ["internal/bytealg.IndexByteString", "internal/bytealg.IndexString", "internal/abi.NoEscape"], named := ["internal/bytealg.MaxLen", "unicode/utf8.first", "unicode/utf8.acceptRanges"], apart := false, laid := [("unicode/utf8.acceptRanges", laid_unicode_utf8_acceptRanges), ("unicode/utf8.first", laid_unicode_utf8_first)] }
def DnBadSaid : Prop := dnBadRow.holds Tryd.pinned (OpenSpec.ofChange dnBadSpec)

/-- ITS FALSE NEIGHBOUR: 'it returns false'. Refute it at one input. -/
def dnBadWrong : ChangeSpec := { name := "dnBad", fn := fun _ => fun
  | [d1, d2] => { results := [.lit (.bool false)], args := [d1, d2] }
  | _ => none }
def DnBadWrongFalsely : Prop := dnBadRow.holds Tryd.pinned (OpenSpec.ofChange dnBadWrong)

/-- 'brooklaw2.DnFold': WHATEVER THE INPUT: true; the input reads as it did. -/
def dnFoldSpec : ChangeSpec := { name := "dnFold", fn := fun _ => fun
  | [d1, d2] => { results := [.lit (.bool true)], args := [d1, d2] }
  | _ => none }
def dnFoldRow : OpenClaim := { program := "ytflkghdndffacaadoor", sum := "c9fa23743ecdb87e540dc45f00c64d87e5f7e1187a86f135047fe26389c62c4d", func := "brook/brooklaw2.DnFold", spec := "dnFold", inPlace := ["internal/bytealg.IndexByteString", "internal/bytealg.IndexString", "internal/abi.NoEscape"], named := ["internal/bytealg.MaxLen", "unicode/utf8.first", "unicode/utf8.acceptRanges"], apart := false, laid := [("unicode/utf8.acceptRanges", laid_unicode_utf8_acceptRanges), ("unicode/utf8.first", laid_unicode_utf8_first)] }
def DnFoldSaid : Prop := dnFoldRow.holds Tryd.pinned (OpenSpec.ofChange dnFoldSpec)

/-- ITS FALSE NEIGHBOUR: 'it returns false'. Refute it at one input. -/
def dnFoldWrong : ChangeSpec := { name := "dnFold", fn := fun _ => fun
  | [d1, d2] => { results := [.lit (.bool false)], args := [d1, d2] }
  | _ => none }
def DnFoldWrongFalsely : Prop := dnFoldRow.holds Tryd.pinned (OpenSpec.ofChange dnFoldWrong)

/-- 'brooklaw2.DnAll': WHATEVER THE INPUT: true; the input reads as it did. -/
def dnAllSpec : ChangeSpec := { name := "dnAll", fn := fun _ => fun
  | [d1, d2] => { results := [.lit (.bool true)], args := [d1, d2] }
  | _ => none }
def dnAllRow : OpenClaim := { program := "ytflkghdndffacaadoor", sum := "c9fa23743ecdb87e540dc45f00c64d87e5f7e1187a86f135047fe26389c62c4d", func := "brook/brooklaw2.DnAll", spec := "dnAll", inPlace := ["internal/bytealg.IndexByteString", "internal/bytealg.IndexString", "internal/abi.NoEscape"], named := ["internal/bytealg.MaxLen", "unicode/utf8.first", "unicode/utf8.acceptRanges"], apart := false, laid := [("unicode/utf8.acceptRanges", laid_unicode_utf8_acceptRanges), ("unicode/utf8.first", laid_unicode_utf8_first)] }
def DnAllSaid : Prop := dnAllRow.holds Tryd.pinned (OpenSpec.ofChange dnAllSpec)

/-- ITS FALSE NEIGHBOUR: 'it returns false'. Refute it at one input. -/
def dnAllWrong : ChangeSpec := { name := "dnAll", fn := fun _ => fun
  | [d1, d2] => { results := [.lit (.bool false)], args := [d1, d2] }
  | _ => none }
def DnAllWrongFalsely : Prop := dnAllRow.holds Tryd.pinned (OpenSpec.ofChange dnAllWrong)

/-- 'brooklaw2.DnUnder': WHATEVER THE INPUT: true; the input reads as it did. -/
def dnUnderSpec : ChangeSpec := { name := "dnUnder", fn := fun _ => fun
  | [d1, d2, d3] => { results := [.lit (.bool true)], args := [d1, d2, d3] }
  | _ => none }
def dnUnderRow : OpenClaim := { program := "ytflkghdndffacaadoor", sum := "c9fa23743ecdb87e540dc45f00c64d87e5f7e1187a86f135047fe26389c62c4d", func := "brook/brooklaw2.DnUnder", spec := "dnUnder", inPlace := ["internal/bytealg.IndexByteString", "internal/bytealg.IndexString", "internal/abi.NoEscape"], named := ["internal/bytealg.MaxLen", "unicode/utf8.first", "unicode/utf8.acceptRanges"], apart := false, laid := [("unicode/utf8.acceptRanges", laid_unicode_utf8_acceptRanges), ("unicode/utf8.first", laid_unicode_utf8_first)] }
def DnUnderSaid : Prop := dnUnderRow.holds Tryd.pinned (OpenSpec.ofChange dnUnderSpec)

/-- ITS FALSE NEIGHBOUR: 'it returns false'. Refute it at one input. -/
def dnUnderWrong : ChangeSpec := { name := "dnUnder", fn := fun _ => fun
  | [d1, d2, d3] => { results := [.lit (.bool false)], args := [d1, d2, d3] }
  | _ => none }
def DnUnderWrongFalsely : Prop := dnUnderRow.holds Tryd.pinned (OpenSpec.ofChange dnUnderWrong)

/-- 'brooklaw2.DnSteps': WHATEVER THE INPUT: true; the input reads as it did. -/
def dnStepsSpec : ChangeSpec := { name := "dnSteps", fn := fun _ => fun
  | [d1, d2] => { results := [.lit (.bool true)], args := [d1, d2] }
  | _ => none }
def dnStepsRow : OpenClaim := { program := "ytflkghdndffacaadoor", sum := "c9fa23743ecdb87e540dc45f00c64d87e5f7e1187a86f135047fe26389c62c4d", func := "brook/brooklaw2.DnSteps", spec := "dnSteps", inPlace := ["internal/abi.NoEscape", "internal/bytealg.IndexByteString", "internal/bytealg.IndexString"], named := ["internal/bytealg.MaxLen", "unicode/utf8.first", "unicode/utf8.acceptRanges"], apart := false, laid := [("unicode/utf8.acceptRanges", laid_unicode_utf8_acceptRanges), ("unicode/utf8.first", laid_unicode_utf8_first)] }
def DnStepsSaid : Prop := dnStepsRow.holds Tryd.pinned (OpenSpec.ofChange dnStepsSpec)

/-- ITS FALSE NEIGHBOUR: 'it returns false'. Refute it at one input. -/
def dnStepsWrong : ChangeSpec := { name := "dnSteps", fn := fun _ => fun
  | [d1, d2] => { results := [.lit (.bool false)], args := [d1, d2] }
  | _ => none }
def DnStepsWrongFalsely : Prop := dnStepsRow.holds Tryd.pinned (OpenSpec.ofChange dnStepsWrong)

/-- 'brooklaw10.AclFirst': WHATEVER THE INPUT: true; the input reads as it did. -/
def aclFirstSpec : ChangeSpec := { name := "aclFirst", fn := fun _ => fun
  | [d1, d2, d3, d4, d5] => { results := [.lit (.bool true)], args := [d1, d2, d3, d4, d5] }
  | _ => none }
def aclFirstRow : OpenClaim := { program := "ytflkghdndffacaadoor", sum := "c9fa23743ecdb87e540dc45f00c64d87e5f7e1187a86f135047fe26389c62c4d", func := "brook/brooklaw10.AclFirst", spec := "aclFirst", inPlace := ["internal/bytealg.IndexByteString", "internal/bytealg.IndexString", "internal/abi.NoEscape"], unfollowed := true, recurses := true, named := ["internal/bytealg.MaxLen", "unicode/utf8.first", "unicode/utf8.acceptRanges"], apart := false, laid := [("unicode/utf8.acceptRanges", laid_unicode_utf8_acceptRanges), ("unicode/utf8.first", laid_unicode_utf8_first)] }
def AclFirstSaid : Prop := aclFirstRow.holds Tryd.pinned (OpenSpec.ofChange aclFirstSpec)

/-- ITS FALSE NEIGHBOUR: 'it returns false'. Refute it at one input. -/
def aclFirstWrong : ChangeSpec := { name := "aclFirst", fn := fun _ => fun
  | [d1, d2, d3, d4, d5] => { results := [.lit (.bool false)], args := [d1, d2, d3, d4, d5] }
  | _ => none }
def AclFirstWrongFalsely : Prop := aclFirstRow.holds Tryd.pinned (OpenSpec.ofChange aclFirstWrong)

/-- 'brooklaw10.AclWho': WHATEVER THE INPUT: true; the input reads as it did. -/
def aclWhoSpec : ChangeSpec := { name := "aclWho", fn := fun _ => fun
  | [d1, d2, d3, d4] => { results := [.lit (.bool true)], args := [d1, d2, d3, d4] }
  | _ => none }
def aclWhoRow : OpenClaim := { program := "ytflkghdndffacaadoor", sum := "c9fa23743ecdb87e540dc45f00c64d87e5f7e1187a86f135047fe26389c62c4d", func := "brook/brooklaw10.AclWho", spec := "aclWho", inPlace := ["internal/bytealg.IndexByteString", "internal/bytealg.IndexString", "internal/abi.NoEscape"], unfollowed := true, recurses := true, named := ["internal/bytealg.MaxLen", "unicode/utf8.first", "unicode/utf8.acceptRanges"], apart := false, laid := [("unicode/utf8.acceptRanges", laid_unicode_utf8_acceptRanges), ("unicode/utf8.first", laid_unicode_utf8_first)] }
def AclWhoSaid : Prop := aclWhoRow.holds Tryd.pinned (OpenSpec.ofChange aclWhoSpec)

/-- ITS FALSE NEIGHBOUR: 'it returns false'. Refute it at one input. -/
def aclWhoWrong : ChangeSpec := { name := "aclWho", fn := fun _ => fun
  | [d1, d2, d3, d4] => { results := [.lit (.bool false)], args := [d1, d2, d3, d4] }
  | _ => none }
def AclWhoWrongFalsely : Prop := aclWhoRow.holds Tryd.pinned (OpenSpec.ofChange aclWhoWrong)

/-- 'brooklaw10.AclMade': WHATEVER THE INPUT: true; the input reads as it did. -/
def aclMadeSpec : ChangeSpec := { name := "aclMade", fn := fun _ => fun
  | [d1, d2, d3, d4] => { results := [.lit (.bool true)], args := [d1, d2, d3, d4] }
  | _ => none }
def aclMadeRow : OpenClaim := { program := "ytflkghdndffacaadoor", sum := "c9fa23743ecdb87e540dc45f00c64d87e5f7e1187a86f135047fe26389c62c4d", func := "brook/brooklaw10.AclMade", spec := "aclMade", inPlace := ["internal/bytealg.IndexByteString", "internal/bytealg.IndexString", "internal/abi.NoEscape"], unfollowed := true, recurses := true, named := ["internal/bytealg.MaxLen", "unicode/utf8.first", "unicode/utf8.acceptRanges"], apart := false, laid := [("unicode/utf8.acceptRanges", laid_unicode_utf8_acceptRanges), ("unicode/utf8.first", laid_unicode_utf8_first)] }
def AclMadeSaid : Prop := aclMadeRow.holds Tryd.pinned (OpenSpec.ofChange aclMadeSpec)

/-- ITS FALSE NEIGHBOUR: 'it returns false'. Refute it at one input. -/
def aclMadeWrong : ChangeSpec := { name := "aclMade", fn := fun _ => fun
  | [d1, d2, d3, d4] => { results := [.lit (.bool false)], args := [d1, d2, d3, d4] }
  | _ => none }
def AclMadeWrongFalsely : Prop := aclMadeRow.holds Tryd.pinned (OpenSpec.ofChange aclMadeWrong)

/-- 'brooklaw10.AclViews': WHATEVER THE INPUT: true; the input reads as it did. -/
def aclViewsSpec : ChangeSpec := { name := "aclViews", fn := fun _ => fun
  | [d1, d2, d3, d4] => { results := [.lit (.bool true)], args := [d1, d2, d3, d4] }
  | _ => none }
def aclViewsRow : OpenClaim := { program := "ytflkghdndffacaadoor", sum := "c9fa23743ecdb87e540dc45f00c64d87e5f7e1187a86f135047fe26389c62c4d", func := "brook/brooklaw10.AclViews", spec := "aclViews", inPlace := ["internal/bytealg.IndexByteString", "internal/bytealg.IndexString", "internal/abi.NoEscape"], unfollowed := true, recurses := true, named := ["internal/bytealg.MaxLen", "unicode/utf8.first", "unicode/utf8.acceptRanges"], apart := false, laid := [("unicode/utf8.acceptRanges", laid_unicode_utf8_acceptRanges), ("unicode/utf8.first", laid_unicode_utf8_first)] }
def AclViewsSaid : Prop := aclViewsRow.holds Tryd.pinned (OpenSpec.ofChange aclViewsSpec)

/-- ITS FALSE NEIGHBOUR: 'it returns false'. Refute it at one input. -/
def aclViewsWrong : ChangeSpec := { name := "aclViews", fn := fun _ => fun
  | [d1, d2, d3, d4] => { results := [.lit (.bool false)], args := [d1, d2, d3, d4] }
  | _ => none }
def AclViewsWrongFalsely : Prop := aclViewsRow.holds Tryd.pinned (OpenSpec.ofChange aclViewsWrong)

/- THE SECOND FORM. 'bulk': how many values and letters a reading holds, each counted each time it is reached (what is shared counts as often as it is met; a slice's spare places count too). A statement '..UptoSaid' is the law's where the arguments, and the package variables that the reading takes, are together of bulk at most 1048576: NARROWER than '..Said'. Prove '..Said' where nothing that the law and all that it calls make is longer than what came in: it says more and counts as full. Else prove '..UptoSaid'. A law counts once. -/
mutual
def uptoBulk {H : Type} : DataW H → Nat
  | .lit (.string bytes) => bytes.length + 1
  | .lit _ => 1
  | .nil => 1
  | .ptr d => uptoBulk d + 1
  | .slice elems spare => uptoBulkAll elems + uptoBulkAll spare + 1
  | .agg parts => uptoBulkAll parts + 1
  | .iface _ d => uptoBulk d + 1
  | .map entries => uptoBulkEntries entries + 1
  | .held _ => 1
def uptoBulkAll {H : Type} : List (DataW H) → Nat
  | [] => 0
  | d :: r => uptoBulk d + uptoBulkAll r
def uptoBulkEntries {H : Type} : List (Lit × DataW H) → Nat
  | [] => 0
  | x :: r => uptoBulkEntry x + uptoBulkEntries r
def uptoBulkEntry {H : Type} : Lit × DataW H → Nat
  | (.string bytes, d) => bytes.length + uptoBulk d + 1
  | (_, d) => uptoBulk d + 1
 end
def uptoSmall : (H : Type) → List (DataW H) → Bool := fun _ ds => decide (uptoBulkAll ds ≤ 1048576)
def OpenSpec.upto (s : _root_.Go.ChangeSpec) : _root_.Go.OpenSpec := { _root_.Go.OpenSpec.ofChange s with cond := some uptoSmall }

/-- 'brooklaw2.DnLists', WHERE WHAT IT READS IS OF BULK AT MOST 1048576: true; the input reads as it did. -/
def dnListsUptoRow : OpenClaim := { program := "ytflkghdndffacaadoor", sum := "c9fa23743ecdb87e540dc45f00c64d87e5f7e1187a86f135047fe26389c62c4d", func := "brook/brooklaw2.DnLists", spec := "dnLists", inPlace := ["internal/bytealg.IndexByteString", "internal/bytealg.IndexString", "internal/abi.NoEscape"], named := ["internal/bytealg.MaxLen", "unicode/utf8.first", "unicode/utf8.acceptRanges"], apart := false, laid := [("unicode/utf8.acceptRanges", laid_unicode_utf8_acceptRanges), ("unicode/utf8.first", laid_unicode_utf8_first)], narrowed := true }
def DnListsUptoSaid : Prop := dnListsUptoRow.holds Tryd.pinned (OpenSpec.upto dnListsSpec)

/-- 'brooklaw2.DnBack', WHERE WHAT IT READS IS OF BULK AT MOST 1048576: true; the input reads as it did. -/
def dnBackUptoRow : OpenClaim := { program := "ytflkghdndffacaadoor", sum := "c9fa23743ecdb87e540dc45f00c64d87e5f7e1187a86f135047fe26389c62c4d", func := "brook/brooklaw2.DnBack", spec := "dnBack", inPlace := ["internal/abi.NoEscape", "internal/bytealg.IndexByteString", "internal/bytealg.IndexString"], named := ["internal/bytealg.MaxLen", "unicode/utf8.first", "unicode/utf8.acceptRanges"], apart := false, laid := [("unicode/utf8.acceptRanges", laid_unicode_utf8_acceptRanges), ("unicode/utf8.first", laid_unicode_utf8_first)], narrowed := true }
def DnBackUptoSaid : Prop := dnBackUptoRow.holds Tryd.pinned (OpenSpec.upto dnBackSpec)

/-- 'brooklaw2.DnKeys', WHERE WHAT IT READS IS OF BULK AT MOST 1048576: true; the input reads as it did. -/
def dnKeysUptoRow : OpenClaim := { program := "ytflkghdndffacaadoor", sum := "c9fa23743ecdb87e540dc45f00c64d87e5f7e1187a86f135047fe26389c62c4d", func := "brook/brooklaw2.DnKeys", spec := "dnKeys", inPlace := ["internal/abi.NoEscape", "internal/bytealg.IndexByteString", "internal/bytealg.IndexString"], named := ["internal/bytealg.MaxLen", "unicode/utf8.first", "unicode/utf8.acceptRanges"], apart := false, laid := [("unicode/utf8.acceptRanges", laid_unicode_utf8_acceptRanges), ("unicode/utf8.first", laid_unicode_utf8_first)], narrowed := true }
def DnKeysUptoSaid : Prop := dnKeysUptoRow.holds Tryd.pinned (OpenSpec.upto dnKeysSpec)

/-- 'brooklaw2.DnBad', WHERE WHAT IT READS IS OF BULK AT MOST 1048576: true; the input reads as it did. -/
def dnBadUptoRow : OpenClaim := { program := "ytflkghdndffacaadoor", sum := "c9fa23743ecdb87e540dc45f00c64d87e5f7e1187a86f135047fe26389c62c4d", func := "brook/brooklaw2.DnBad", spec := "dnBad", inPlace := ["internal/bytealg.IndexByteString", "internal/bytealg.IndexString", "internal/abi.NoEscape"], named := ["internal/bytealg.MaxLen", "unicode/utf8.first", "unicode/utf8.acceptRanges"], apart := false, laid := [("unicode/utf8.acceptRanges", laid_unicode_utf8_acceptRanges), ("unicode/utf8.first", laid_unicode_utf8_first)], narrowed := true }
def DnBadUptoSaid : Prop := dnBadUptoRow.holds Tryd.pinned (OpenSpec.upto dnBadSpec)

/-- 'brooklaw2.DnFold', WHERE WHAT IT READS IS OF BULK AT MOST 1048576: true; the input reads as it did. -/
def dnFoldUptoRow : OpenClaim := { program := "ytflkghdndffacaadoor", sum := "c9fa23743ecdb87e540dc45f00c64d87e5f7e1187a86f135047fe26389c62c4d", func := "brook/brooklaw2.DnFold", spec := "dnFold", inPlace := ["internal/bytealg.IndexByteString", "internal/bytealg.IndexString", "internal/abi.NoEscape"], named := ["internal/bytealg.MaxLen", "unicode/utf8.first", "unicode/utf8.acceptRanges"], apart := false, laid := [("unicode/utf8.acceptRanges", laid_unicode_utf8_acceptRanges), ("unicode/utf8.first", laid_unicode_utf8_first)], narrowed := true }
def DnFoldUptoSaid : Prop := dnFoldUptoRow.holds Tryd.pinned (OpenSpec.upto dnFoldSpec)

/-- 'brooklaw2.DnAll', WHERE WHAT IT READS IS OF BULK AT MOST 1048576: true; the input reads as it did. -/
def dnAllUptoRow : OpenClaim := { program := "ytflkghdndffacaadoor", sum := "c9fa23743ecdb87e540dc45f00c64d87e5f7e1187a86f135047fe26389c62c4d", func := "brook/brooklaw2.DnAll", spec := "dnAll", inPlace := ["internal/bytealg.IndexByteString", "internal/bytealg.IndexString", "internal/abi.NoEscape"], named := ["internal/bytealg.MaxLen", "unicode/utf8.first", "unicode/utf8.acceptRanges"], apart := false, laid := [("unicode/utf8.acceptRanges", laid_unicode_utf8_acceptRanges), ("unicode/utf8.first", laid_unicode_utf8_first)], narrowed := true }
def DnAllUptoSaid : Prop := dnAllUptoRow.holds Tryd.pinned (OpenSpec.upto dnAllSpec)

/-- 'brooklaw2.DnUnder', WHERE WHAT IT READS IS OF BULK AT MOST 1048576: true; the input reads as it did. -/
def dnUnderUptoRow : OpenClaim := { program := "ytflkghdndffacaadoor", sum := "c9fa23743ecdb87e540dc45f00c64d87e5f7e1187a86f135047fe26389c62c4d", func := "brook/brooklaw2.DnUnder", spec := "dnUnder", inPlace := ["internal/bytealg.IndexByteString", "internal/bytealg.IndexString", "internal/abi.NoEscape"], named := ["internal/bytealg.MaxLen", "unicode/utf8.first", "unicode/utf8.acceptRanges"], apart := false, laid := [("unicode/utf8.acceptRanges", laid_unicode_utf8_acceptRanges), ("unicode/utf8.first", laid_unicode_utf8_first)], narrowed := true }
def DnUnderUptoSaid : Prop := dnUnderUptoRow.holds Tryd.pinned (OpenSpec.upto dnUnderSpec)

/-- 'brooklaw2.DnSteps', WHERE WHAT IT READS IS OF BULK AT MOST 1048576: true; the input reads as it did. -/
def dnStepsUptoRow : OpenClaim := { program := "ytflkghdndffacaadoor", sum := "c9fa23743ecdb87e540dc45f00c64d87e5f7e1187a86f135047fe26389c62c4d", func := "brook/brooklaw2.DnSteps", spec := "dnSteps", inPlace := ["internal/abi.NoEscape", "internal/bytealg.IndexByteString", "internal/bytealg.IndexString"], named := ["internal/bytealg.MaxLen", "unicode/utf8.first", "unicode/utf8.acceptRanges"], apart := false, laid := [("unicode/utf8.acceptRanges", laid_unicode_utf8_acceptRanges), ("unicode/utf8.first", laid_unicode_utf8_first)], narrowed := true }
def DnStepsUptoSaid : Prop := dnStepsUptoRow.holds Tryd.pinned (OpenSpec.upto dnStepsSpec)

/-- 'brooklaw10.AclFirst', WHERE WHAT IT READS IS OF BULK AT MOST 1048576: true; the input reads as it did. -/
def aclFirstUptoRow : OpenClaim := { program := "ytflkghdndffacaadoor", sum := "c9fa23743ecdb87e540dc45f00c64d87e5f7e1187a86f135047fe26389c62c4d", func := "brook/brooklaw10.AclFirst", spec := "aclFirst", inPlace := ["internal/bytealg.IndexByteString", "internal/bytealg.IndexString", "internal/abi.NoEscape"], unfollowed := true, recurses := true, named := ["internal/bytealg.MaxLen", "unicode/utf8.first", "unicode/utf8.acceptRanges"], apart := false, laid := [("unicode/utf8.acceptRanges", laid_unicode_utf8_acceptRanges), ("unicode/utf8.first", laid_unicode_utf8_first)], narrowed := true }
def AclFirstUptoSaid : Prop := aclFirstUptoRow.holds Tryd.pinned (OpenSpec.upto aclFirstSpec)

/-- 'brooklaw10.AclWho', WHERE WHAT IT READS IS OF BULK AT MOST 1048576: true; the input reads as it did. -/
def aclWhoUptoRow : OpenClaim := { program := "ytflkghdndffacaadoor", sum := "c9fa23743ecdb87e540dc45f00c64d87e5f7e1187a86f135047fe26389c62c4d", func := "brook/brooklaw10.AclWho", spec := "aclWho", inPlace := ["internal/bytealg.IndexByteString", "internal/bytealg.IndexString", "internal/abi.NoEscape"], unfollowed := true, recurses := true, named := ["internal/bytealg.MaxLen", "unicode/utf8.first", "unicode/utf8.acceptRanges"], apart := false, laid := [("unicode/utf8.acceptRanges", laid_unicode_utf8_acceptRanges), ("unicode/utf8.first", laid_unicode_utf8_first)], narrowed := true }
def AclWhoUptoSaid : Prop := aclWhoUptoRow.holds Tryd.pinned (OpenSpec.upto aclWhoSpec)

/-- 'brooklaw10.AclMade', WHERE WHAT IT READS IS OF BULK AT MOST 1048576: true; the input reads as it did. -/
def aclMadeUptoRow : OpenClaim := { program := "ytflkghdndffacaadoor", sum := "c9fa23743ecdb87e540dc45f00c64d87e5f7e1187a86f135047fe26389c62c4d", func := "brook/brooklaw10.AclMade", spec := "aclMade", inPlace := ["internal/bytealg.IndexByteString", "internal/bytealg.IndexString", "internal/abi.NoEscape"], unfollowed := true, recurses := true, named := ["internal/bytealg.MaxLen", "unicode/utf8.first", "unicode/utf8.acceptRanges"], apart := false, laid := [("unicode/utf8.acceptRanges", laid_unicode_utf8_acceptRanges), ("unicode/utf8.first", laid_unicode_utf8_first)], narrowed := true }
def AclMadeUptoSaid : Prop := aclMadeUptoRow.holds Tryd.pinned (OpenSpec.upto aclMadeSpec)

/-- 'brooklaw10.AclViews', WHERE WHAT IT READS IS OF BULK AT MOST 1048576: true; the input reads as it did. -/
def aclViewsUptoRow : OpenClaim := { program := "ytflkghdndffacaadoor", sum := "c9fa23743ecdb87e540dc45f00c64d87e5f7e1187a86f135047fe26389c62c4d", func := "brook/brooklaw10.AclViews", spec := "aclViews", inPlace := ["internal/bytealg.IndexByteString", "internal/bytealg.IndexString", "internal/abi.NoEscape"], unfollowed := true, recurses := true, named := ["internal/bytealg.MaxLen", "unicode/utf8.first", "unicode/utf8.acceptRanges"], apart := false, laid := [("unicode/utf8.acceptRanges", laid_unicode_utf8_acceptRanges), ("unicode/utf8.first", laid_unicode_utf8_first)], narrowed := true }
def AclViewsUptoSaid : Prop := aclViewsUptoRow.holds Tryd.pinned (OpenSpec.upto aclViewsSpec)

end Rows
end Go.Proofs.YtflkghdndffacaaDoor
