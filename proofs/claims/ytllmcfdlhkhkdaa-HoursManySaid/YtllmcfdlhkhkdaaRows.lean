/-
  No cell of these rows narrows 'for every input' (looked for: loops, veiled, ifaces, maps, wideKeys, modest, calm, conditions, laid).
  DERIVED. THE GIVEN ROWS OF THIS SEAT. 2 by the template 'for every input the law returns true; each argument reads behind the call as it read before'; 0 by the template 'total and deterministic' (their statements: YtllmcfdlhkhkdaaTotals.lean).
  GIVEN WITH THE SEED: the statements are not yours to turn. If you find one false, say at which input.
  Laid BY PROGRAM, IN A SANDBOX (cutbox-rows.mjs): the forced cells as the released guide's own fill.sh prints them over the translation f711087806a7144d… (all of the seat's roots in one cut). By AI agents, Wed Nov 11 2026. No macro, syntax, notation, axiom, sorry.
-/
import Derived.Test.YtllmcfdlhkhkdaaChecked
import GoSem.Claim
import GoSem.ClaimJoined
import GoSem.ClaimMapViews
import Derived.JoinedTies
import Derived.KernelRfl
namespace Go.Proofs.Ytllmcfdlhkhkdaa
/- THE CELL 'sum', in the pinned program and in every row, IS THE sha256 OF THE DUMP (.gsa) THAT YtllmcfdlhkhkdaaProg.lean LOADS. Nothing in Lean hashes anything: it is a label: what it is worth is what the hold of that sum in a sandbox is worth. -/
noncomputable def Try.pinned : Pinned := { name := "ytllmcfdlhkhkdaa", sum := "f711087806a7144db3023aff18448d7296794226df56ad2f198a3fb299846f9f", checked := Try.checked }
namespace Rows
def none {H : Type} : Left H := { results := [], args := [] }

/-- 'brooklaw22.HoursDays': WHATEVER THE INPUT: true; the input reads as it did. -/
def hoursDaysSpec : ChangeSpec := { name := "hoursDays", fn := fun _ => fun
  | [d1, d2, d3, d4] => { results := [.lit (.bool true)], args := [d1, d2, d3, d4] }
  | _ => none }
def hoursDaysRow : OpenClaim := { program := "ytllmcfdlhkhkdaa", sum := "f711087806a7144db3023aff18448d7296794226df56ad2f198a3fb299846f9f", func := "brook/brooklaw22.HoursDays", spec := "hoursDays", apart := false }
def HoursDaysSaid : Prop := hoursDaysRow.holds Try.pinned (OpenSpec.ofChange hoursDaysSpec)

/-- ITS FALSE NEIGHBOUR: 'it returns false'. Refute it at one input. -/
def hoursDaysWrong : ChangeSpec := { name := "hoursDays", fn := fun _ => fun
  | [d1, d2, d3, d4] => { results := [.lit (.bool false)], args := [d1, d2, d3, d4] }
  | _ => none }
def HoursDaysWrongFalsely : Prop := hoursDaysRow.holds Try.pinned (OpenSpec.ofChange hoursDaysWrong)

/-- 'brooklaw22.HoursMany': WHATEVER THE INPUT: true; the input reads as it did. -/
def hoursManySpec : ChangeSpec := { name := "hoursMany", fn := fun _ => fun
  | [d1, d2, d3] => { results := [.lit (.bool true)], args := [d1, d2, d3] }
  | _ => none }
def hoursManyRow : OpenClaim := { program := "ytllmcfdlhkhkdaa", sum := "f711087806a7144db3023aff18448d7296794226df56ad2f198a3fb299846f9f", func := "brook/brooklaw22.HoursMany", spec := "hoursMany", apart := false }
def HoursManySaid : Prop := hoursManyRow.holds Try.pinned (OpenSpec.ofChange hoursManySpec)

/-- ITS FALSE NEIGHBOUR: 'it returns false'. Refute it at one input. -/
def hoursManyWrong : ChangeSpec := { name := "hoursMany", fn := fun _ => fun
  | [d1, d2, d3] => { results := [.lit (.bool false)], args := [d1, d2, d3] }
  | _ => none }
def HoursManyWrongFalsely : Prop := hoursManyRow.holds Try.pinned (OpenSpec.ofChange hoursManyWrong)

/- THE SECOND FORM. 'bulk': how many values and letters a reading holds, each counted each time it is reached (what is shared counts as often as it is met; a slice's spare places count too). A statement '..UptoSaid' is the law's where the arguments, and the package variables that the reading takes, are together of bulk at most 1048576: NARROWER than '..Said'. Prove '..Said' where nothing that the law and all that it calls make is longer than what came in: it says more and counts as full. Else prove '..UptoSaid'. A law counts once. -/
mutual
def uptoBulk {H : Type} : DataW H → Nat
  | .lit (.string bytes) => bytes.length + 1
  | .lit _ => 1
  | .nil => 1
  | .ptr d => uptoBulk d + 1
  | .slice elems spare => uptoBulkAll elems + uptoBulkAll spare + 1
  | .agg parts => uptoBulkAll parts + 1
  | .iface _ d => uptoBulk d + 1
  | .map entries => uptoBulkEntries entries + 1
  | .held _ => 1
def uptoBulkAll {H : Type} : List (DataW H) → Nat
  | [] => 0
  | d :: r => uptoBulk d + uptoBulkAll r
def uptoBulkEntries {H : Type} : List (Lit × DataW H) → Nat
  | [] => 0
  | x :: r => uptoBulkEntry x + uptoBulkEntries r
def uptoBulkEntry {H : Type} : Lit × DataW H → Nat
  | (.string bytes, d) => bytes.length + uptoBulk d + 1
  | (_, d) => uptoBulk d + 1
 end
def uptoSmall : (H : Type) → List (DataW H) → Bool := fun _ ds => decide (uptoBulkAll ds ≤ 1048576)
def OpenSpec.upto (s : _root_.Go.ChangeSpec) : _root_.Go.OpenSpec := { _root_.Go.OpenSpec.ofChange s with cond := some uptoSmall }

/-- 'brooklaw22.HoursDays', WHERE WHAT IT READS IS OF BULK AT MOST 1048576: true; the input reads as it did. -/
def hoursDaysUptoRow : OpenClaim := { program := "ytllmcfdlhkhkdaa", sum := "f711087806a7144db3023aff18448d7296794226df56ad2f198a3fb299846f9f", func := "brook/brooklaw22.HoursDays", spec := "hoursDays", apart := false, narrowed := true }
def HoursDaysUptoSaid : Prop := hoursDaysUptoRow.holds Try.pinned (OpenSpec.upto hoursDaysSpec)

/-- 'brooklaw22.HoursMany', WHERE WHAT IT READS IS OF BULK AT MOST 1048576: true; the input reads as it did. -/
def hoursManyUptoRow : OpenClaim := { program := "ytllmcfdlhkhkdaa", sum := "f711087806a7144db3023aff18448d7296794226df56ad2f198a3fb299846f9f", func := "brook/brooklaw22.HoursMany", spec := "hoursMany", apart := false, narrowed := true }
def HoursManyUptoSaid : Prop := hoursManyUptoRow.holds Try.pinned (OpenSpec.upto hoursManySpec)

end Rows
end Go.Proofs.Ytllmcfdlhkhkdaa
