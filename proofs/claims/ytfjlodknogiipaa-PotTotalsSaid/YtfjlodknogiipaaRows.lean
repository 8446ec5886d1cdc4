/-
  No cell of these rows narrows 'for every input' (looked for: loops, veiled, ifaces, maps, wideKeys, modest, calm, conditions, laid).
  DERIVED. THE GIVEN ROWS OF THIS SEAT. 6 by the template 'for every input the law returns true; each argument reads behind the call as it read before'; 0 by the template 'total and deterministic' (their statements: YtfjlodknogiipaaTotals.lean).
  GIVEN WITH THE SEED: the statements are not yours to turn. If you find one false, say at which input.
  Laid BY PROGRAM, IN A SANDBOX (cutbox-rows.mjs): the forced cells as the released guide's own fill.sh prints them over the translation b68bcbf3df449cb7… (all of the seat's roots in one cut). By AI agents, Wed Nov 11 2026. No macro, syntax, notation, axiom, sorry.
-/
import Derived.Test.YtfjlodknogiipaaChecked
import GoSem.Claim
import GoSem.ClaimJoined
import GoSem.ClaimMapViews
import Derived.JoinedTies
import Derived.KernelRfl
namespace Go.Proofs.Ytfjlodknogiipaa
/- THE CELL 'sum', in the pinned program and in every row, IS THE sha256 OF THE DUMP (.gsa) THAT YtfjlodknogiipaaProg.lean LOADS. Nothing in Lean hashes anything: it is a label: what it is worth is what the hold of that sum in a sandbox is worth. -/
noncomputable def Try.pinned : Pinned := { name := "ytfjlodknogiipaa", sum := "b68bcbf3df449cb7110a0055c08f133db758d87d6999bab9b926c45c689e471c", checked := Try.checked }
namespace Rows
def none {H : Type} : Left H := { results := [], args := [] }

/-- 'ententelaw05.PotChecks': WHATEVER THE INPUT: true; the input reads as it did. -/
def potChecksSpec : ChangeSpec := { name := "potChecks", fn := fun _ => fun
  | [d] => { results := [.lit (.bool true)], args := [d] }
  | _ => none }
def potChecksRow : OpenClaim := { program := "ytfjlodknogiipaa", sum := "b68bcbf3df449cb7110a0055c08f133db758d87d6999bab9b926c45c689e471c", func := "entente/ententelaw05.PotChecks", spec := "potChecks", apart := false }
def PotChecksSaid : Prop := potChecksRow.holds Try.pinned (OpenSpec.ofChange potChecksSpec)

/-- ITS FALSE NEIGHBOUR: 'it returns false'. Refute it at one input. -/
def potChecksWrong : ChangeSpec := { name := "potChecks", fn := fun _ => fun
  | [d] => { results := [.lit (.bool false)], args := [d] }
  | _ => none }
def PotChecksWrongFalsely : Prop := potChecksRow.holds Try.pinned (OpenSpec.ofChange potChecksWrong)

/-- 'ententelaw05.PotMoves': WHATEVER THE INPUT: true; the input reads as it did. -/
def potMovesSpec : ChangeSpec := { name := "potMoves", fn := fun _ => fun
  | [d1, d2, d3] => { results := [.lit (.bool true)], args := [d1, d2, d3] }
  | _ => none }
def potMovesRow : OpenClaim := { program := "ytfjlodknogiipaa", sum := "b68bcbf3df449cb7110a0055c08f133db758d87d6999bab9b926c45c689e471c", func := "entente/ententelaw05.PotMoves", spec := "potMoves", apart := false }
def PotMovesSaid : Prop := potMovesRow.holds Try.pinned (OpenSpec.ofChange potMovesSpec)

/-- ITS FALSE NEIGHBOUR: 'it returns false'. Refute it at one input. -/
def potMovesWrong : ChangeSpec := { name := "potMoves", fn := fun _ => fun
  | [d1, d2, d3] => { results := [.lit (.bool false)], args := [d1, d2, d3] }
  | _ => none }
def PotMovesWrongFalsely : Prop := potMovesRow.holds Try.pinned (OpenSpec.ofChange potMovesWrong)

/-- 'ententelaw05.PotPending': WHATEVER THE INPUT: true; the input reads as it did. -/
def potPendingSpec : ChangeSpec := { name := "potPending", fn := fun _ => fun
  | [d1, d2] => { results := [.lit (.bool true)], args := [d1, d2] }
  | _ => none }
def potPendingRow : OpenClaim := { program := "ytfjlodknogiipaa", sum := "b68bcbf3df449cb7110a0055c08f133db758d87d6999bab9b926c45c689e471c", func := "entente/ententelaw05.PotPending", spec := "potPending", apart := false }
def PotPendingSaid : Prop := potPendingRow.holds Try.pinned (OpenSpec.ofChange potPendingSpec)

/-- ITS FALSE NEIGHBOUR: 'it returns false'. Refute it at one input. -/
def potPendingWrong : ChangeSpec := { name := "potPending", fn := fun _ => fun
  | [d1, d2] => { results := [.lit (.bool false)], args := [d1, d2] }
  | _ => none }
def PotPendingWrongFalsely : Prop := potPendingRow.holds Try.pinned (OpenSpec.ofChange potPendingWrong)

/-- 'ententelaw05.PotOrder': WHATEVER THE INPUT: true; the input reads as it did. -/
def potOrderSpec : ChangeSpec := { name := "potOrder", fn := fun _ => fun
  | [d1, d2] => { results := [.lit (.bool true)], args := [d1, d2] }
  | _ => none }
def potOrderRow : OpenClaim := { program := "ytfjlodknogiipaa", sum := "b68bcbf3df449cb7110a0055c08f133db758d87d6999bab9b926c45c689e471c", func := "entente/ententelaw05.PotOrder", spec := "potOrder", apart := false }
def PotOrderSaid : Prop := potOrderRow.holds Try.pinned (OpenSpec.ofChange potOrderSpec)

/-- ITS FALSE NEIGHBOUR: 'it returns false'. Refute it at one input. -/
def potOrderWrong : ChangeSpec := { name := "potOrder", fn := fun _ => fun
  | [d1, d2] => { results := [.lit (.bool false)], args := [d1, d2] }
  | _ => none }
def PotOrderWrongFalsely : Prop := potOrderRow.holds Try.pinned (OpenSpec.ofChange potOrderWrong)

/-- 'ententelaw05.PotUndone': WHATEVER THE INPUT: true; the input reads as it did. -/
def potUndoneSpec : ChangeSpec := { name := "potUndone", fn := fun _ => fun
  | [d1, d2, d3] => { results := [.lit (.bool true)], args := [d1, d2, d3] }
  | _ => none }
def potUndoneRow : OpenClaim := { program := "ytfjlodknogiipaa", sum := "b68bcbf3df449cb7110a0055c08f133db758d87d6999bab9b926c45c689e471c", func := "entente/ententelaw05.PotUndone", spec := "potUndone", apart := false }
def PotUndoneSaid : Prop := potUndoneRow.holds Try.pinned (OpenSpec.ofChange potUndoneSpec)

/-- ITS FALSE NEIGHBOUR: 'it returns false'. Refute it at one input. -/
def potUndoneWrong : ChangeSpec := { name := "potUndone", fn := fun _ => fun
  | [d1, d2, d3] => { results := [.lit (.bool false)], args := [d1, d2, d3] }
  | _ => none }
def PotUndoneWrongFalsely : Prop := potUndoneRow.holds Try.pinned (OpenSpec.ofChange potUndoneWrong)

/-- 'ententelaw05.PotTotals': WHATEVER THE INPUT: true; the input reads as it did. -/
def potTotalsSpec : ChangeSpec := { name := "potTotals", fn := fun _ => fun
  | [d] => { results := [.lit (.bool true)], args := [d] }
  | _ => none }
def potTotalsRow : OpenClaim := { program := "ytfjlodknogiipaa", sum := "b68bcbf3df449cb7110a0055c08f133db758d87d6999bab9b926c45c689e471c", func := "entente/ententelaw05.PotTotals", spec := "potTotals", inPlace := ["math/bits.Add64"], apart := false }
def PotTotalsSaid : Prop := potTotalsRow.holds Try.pinned (OpenSpec.ofChange potTotalsSpec)

/-- ITS FALSE NEIGHBOUR: 'it returns false'. Refute it at one input. -/
def potTotalsWrong : ChangeSpec := { name := "potTotals", fn := fun _ => fun
  | [d] => { results := [.lit (.bool false)], args := [d] }
  | _ => none }
def PotTotalsWrongFalsely : Prop := potTotalsRow.holds Try.pinned (OpenSpec.ofChange potTotalsWrong)

/- THE SECOND FORM. 'bulk': how many values and letters a reading holds, each counted each time it is reached (what is shared counts as often as it is met; a slice's spare places count too). A statement '..UptoSaid' is the law's where the arguments, and the package variables that the reading takes, are together of bulk at most 1048576: NARROWER than '..Said'. Prove '..Said' where nothing that the law and all that it calls make is longer than what came in: it says more and counts as full. Else prove '..UptoSaid'. A law counts once. -/
mutual
def uptoBulk {H : Type} : DataW H → Nat
  | .lit (.string bytes) => bytes.length + 1
  | .lit _ => 1
  | .nil => 1
  | .ptr d => uptoBulk d + 1
  | .slice elems spare => uptoBulkAll elems + uptoBulkAll spare + 1
  | .agg parts => uptoBulkAll parts + 1
  | .iface _ d => uptoBulk d + 1
  | .map entries => uptoBulkEntries entries + 1
  | .held _ => 1
def uptoBulkAll {H : Type} : List (DataW H) → Nat
  | [] => 0
  | d :: r => uptoBulk d + uptoBulkAll r
def uptoBulkEntries {H : Type} : List (Lit × DataW H) → Nat
  | [] => 0
  | x :: r => uptoBulkEntry x + uptoBulkEntries r
def uptoBulkEntry {H : Type} : Lit × DataW H → Nat
  | (.string bytes, d) => bytes.length + uptoBulk d + 1
  | (_, d) => uptoBulk d + 1
 end
def uptoSmall : (H : Type) → List (DataW H) → Bool := fun _ ds => decide (uptoBulkAll ds ≤ 1048576)
def OpenSpec.upto (s : _root_.Go.ChangeSpec) : _root_.Go.OpenSpec := { _root_.Go.OpenSpec.ofChange s with cond := some uptoSmall }

/-- 'ententelaw05.PotChecks', WHERE WHAT IT READS IS OF BULK AT MOST 1048576: true; the input reads as it did. -/
def potChecksUptoRow : OpenClaim := { program := "ytfjlodknogiipaa", sum := "b68bcbf3df449cb7110a0055c08f133db758d87d6999bab9b926c45c689e471c", func := "entente/ententelaw05.PotChecks", spec := "potChecks", apart := false, narrowed := true }
def PotChecksUptoSaid : Prop := potChecksUptoRow.holds Try.pinned (OpenSpec.upto potChecksSpec)

/-- 'ententelaw05.PotMoves', WHERE WHAT IT READS IS OF BULK AT MOST 1048576: true; the input reads as it did. -/
def potMovesUptoRow : OpenClaim := { program := "ytfjlodknogiipaa", sum := "b68bcbf3df449cb7110a0055c08f133db758d87d6999bab9b926c45c689e471c", func := "entente/ententelaw05.PotMoves", spec := "potMoves", apart := false, narrowed := true }
def PotMovesUptoSaid : Prop := potMovesUptoRow.holds Try.pinned (OpenSpec.upto potMovesSpec)

/-- 'ententelaw05.PotPending', WHERE WHAT IT READS IS OF BULK AT MOST 1048576: true; the input reads as it did. -/
def potPendingUptoRow : OpenClaim := { program := "ytfjlodknogiipaa", sum := "b68bcbf3df449cb7110a0055c08f133db758d87d6999bab9b926c45c689e471c", func := "entente/ententelaw05.PotPending", spec := "potPending", apart := false, narrowed := true }
def PotPendingUptoSaid : Prop := potPendingUptoRow.holds Try.pinned (OpenSpec.upto potPendingSpec)

/-- 'ententelaw05.PotOrder', WHERE WHAT IT READS IS OF BULK AT MOST 1048576: true; the input reads as it did. -/
def potOrderUptoRow : OpenClaim := { program := "ytfjlodknogiipaa", sum := "b68bcbf3df449cb7110a0055c08f133db758d87d6999bab9b926c45c689e471c", func := "entente/ententelaw05.PotOrder", spec := "potOrder", apart := false, narrowed := true }
def PotOrderUptoSaid : Prop := potOrderUptoRow.holds Try.pinned (OpenSpec.upto potOrderSpec)

/-- 'ententelaw05.PotUndone', WHERE WHAT IT READS IS OF BULK AT MOST 1048576: true; the input reads as it did. -/
def potUndoneUptoRow : OpenClaim := { program := "ytfjlodknogiipaa", sum := "b68bcbf3df449cb7110a0055c08f133db758d87d6999bab9b926c45c689e471c", func := "entente/ententelaw05.PotUndone", spec := "potUndone", apart := false, narrowed := true }
def PotUndoneUptoSaid : Prop := potUndoneUptoRow.holds Try.pinned (OpenSpec.upto potUndoneSpec)

/-- 'ententelaw05.PotTotals', WHERE WHAT IT READS IS OF BULK AT MOST 1048576: true; the input reads as it did. -/
def potTotalsUptoRow : OpenClaim := { program := "ytfjlodknogiipaa", sum := "b68bcbf3df449cb7110a0055c08f133db758d87d6999bab9b926c45c689e471c", func := "entente/ententelaw05.PotTotals", spec := "potTotals", inPlace := ["math/bits.Add64"], apart := false, narrowed := true }
def PotTotalsUptoSaid : Prop := potTotalsUptoRow.holds Try.pinned (OpenSpec.upto potTotalsSpec)

end Rows
end Go.Proofs.Ytfjlodknogiipaa
