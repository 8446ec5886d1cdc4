/-
  No cell of these rows narrows 'for every input' (looked for: loops, veiled, ifaces, maps, wideKeys, modest, calm, conditions, laid).
  DERIVED. THE GIVEN ROWS OF THIS SEAT. 4 by the template 'for every input the law returns true; each argument reads behind the call as it read before'; 0 by the template 'total and deterministic' (their statements: YtmfpgjpekmaemaaTotals.lean).
  GIVEN WITH THE SEED: the statements are not yours to turn. If you find one false, say at which input.
  Laid BY PROGRAM, IN A SANDBOX (cutbox-rows.mjs): the forced cells as the released guide's own fill.sh prints them over the translation 86c77fe43460f474… (all of the seat's roots in one cut). By AI agents, Wed Nov 11 2026. No macro, syntax, notation, axiom, sorry.
-/
import Derived.Test.YtmfpgjpekmaemaaChecked
import GoSem.Claim
import GoSem.ClaimJoined
import GoSem.ClaimMapViews
import Derived.JoinedTies
import Derived.KernelRfl
namespace Go.Proofs.Ytmfpgjpekmaemaa
/- THE CELL 'sum', in the pinned program and in every row, IS THE sha256 OF THE DUMP (.gsa) THAT YtmfpgjpekmaemaaProg.lean LOADS. Nothing in Lean hashes anything: it is a label: what it is worth is what the hold of that sum in a sandbox is worth. -/
noncomputable def Try.pinned : Pinned := { name := "ytmfpgjpekmaemaa", sum := "86c77fe43460f474b2ac44a4dabbf67b3025bcdf3fb450631740c3678772fbcc", checked := Try.checked }
namespace Rows
def none {H : Type} : Left H := { results := [], args := [] }

/-- 'ententelaw06.ActChecks': WHATEVER THE INPUT: true; the input reads as it did. -/
def actChecksSpec : ChangeSpec := { name := "actChecks", fn := fun _ => fun
  | [d1, d2, d3] => { results := [.lit (.bool true)], args := [d1, d2, d3] }
  | _ => none }
def actChecksRow : OpenClaim := { program := "ytmfpgjpekmaemaa", sum := "86c77fe43460f474b2ac44a4dabbf67b3025bcdf3fb450631740c3678772fbcc", func := "entente/ententelaw06.ActChecks", spec := "actChecks", unfollowed := true, recurses := true, apart := false }
def ActChecksSaid : Prop := actChecksRow.holds Try.pinned (OpenSpec.ofChange actChecksSpec)

/-- ITS FALSE NEIGHBOUR: 'it returns false'. Refute it at one input. -/
def actChecksWrong : ChangeSpec := { name := "actChecks", fn := fun _ => fun
  | [d1, d2, d3] => { results := [.lit (.bool false)], args := [d1, d2, d3] }
  | _ => none }
def ActChecksWrongFalsely : Prop := actChecksRow.holds Try.pinned (OpenSpec.ofChange actChecksWrong)

/-- 'ententelaw06.ActTotals': WHATEVER THE INPUT: true; the input reads as it did. -/
def actTotalsSpec : ChangeSpec := { name := "actTotals", fn := fun _ => fun
  | [d1, d2] => { results := [.lit (.bool true)], args := [d1, d2] }
  | _ => none }
def actTotalsRow : OpenClaim := { program := "ytmfpgjpekmaemaa", sum := "86c77fe43460f474b2ac44a4dabbf67b3025bcdf3fb450631740c3678772fbcc", func := "entente/ententelaw06.ActTotals", spec := "actTotals", unfollowed := true, recurses := true, apart := false }
def ActTotalsSaid : Prop := actTotalsRow.holds Try.pinned (OpenSpec.ofChange actTotalsSpec)

/-- ITS FALSE NEIGHBOUR: 'it returns false'. Refute it at one input. -/
def actTotalsWrong : ChangeSpec := { name := "actTotals", fn := fun _ => fun
  | [d1, d2] => { results := [.lit (.bool false)], args := [d1, d2] }
  | _ => none }
def ActTotalsWrongFalsely : Prop := actTotalsRow.holds Try.pinned (OpenSpec.ofChange actTotalsWrong)

/-- 'ententelaw06.ActDoes': WHATEVER THE INPUT: true; the input reads as it did. -/
def actDoesSpec : ChangeSpec := { name := "actDoes", fn := fun _ => fun
  | [d1, d2] => { results := [.lit (.bool true)], args := [d1, d2] }
  | _ => none }
def actDoesRow : OpenClaim := { program := "ytmfpgjpekmaemaa", sum := "86c77fe43460f474b2ac44a4dabbf67b3025bcdf3fb450631740c3678772fbcc", func := "entente/ententelaw06.ActDoes", spec := "actDoes", unfollowed := true, recurses := true, apart := false }
def ActDoesSaid : Prop := actDoesRow.holds Try.pinned (OpenSpec.ofChange actDoesSpec)

/-- ITS FALSE NEIGHBOUR: 'it returns false'. Refute it at one input. -/
def actDoesWrong : ChangeSpec := { name := "actDoes", fn := fun _ => fun
  | [d1, d2] => { results := [.lit (.bool false)], args := [d1, d2] }
  | _ => none }
def ActDoesWrongFalsely : Prop := actDoesRow.holds Try.pinned (OpenSpec.ofChange actDoesWrong)

/-- 'ententelaw06.ActUndone': WHATEVER THE INPUT: true; the input reads as it did. -/
def actUndoneSpec : ChangeSpec := { name := "actUndone", fn := fun _ => fun
  | [d1, d2] => { results := [.lit (.bool true)], args := [d1, d2] }
  | _ => none }
def actUndoneRow : OpenClaim := { program := "ytmfpgjpekmaemaa", sum := "86c77fe43460f474b2ac44a4dabbf67b3025bcdf3fb450631740c3678772fbcc", func := "entente/ententelaw06.ActUndone", spec := "actUndone", unfollowed := true, recurses := true, apart := false }
def ActUndoneSaid : Prop := actUndoneRow.holds Try.pinned (OpenSpec.ofChange actUndoneSpec)

/-- ITS FALSE NEIGHBOUR: 'it returns false'. Refute it at one input. -/
def actUndoneWrong : ChangeSpec := { name := "actUndone", fn := fun _ => fun
  | [d1, d2] => { results := [.lit (.bool false)], args := [d1, d2] }
  | _ => none }
def ActUndoneWrongFalsely : Prop := actUndoneRow.holds Try.pinned (OpenSpec.ofChange actUndoneWrong)

/- THE SECOND FORM. 'bulk': how many values and letters a reading holds, each counted each time it is reached (what is shared counts as often as it is met; a slice's spare places count too). A statement '..UptoSaid' is the law's where the arguments, and the package variables that the reading takes, are together of bulk at most 1048576: NARROWER than '..Said'. Prove '..Said' where nothing that the law and all that it calls make is longer than what came in: it says more and counts as full. Else prove '..UptoSaid'. A law counts once. -/
mutual
def uptoBulk {H : Type} : DataW H → Nat
  | .lit (.string bytes) => bytes.length + 1
  | .lit _ => 1
  | .nil => 1
  | .ptr d => uptoBulk d + 1
  | .slice elems spare => uptoBulkAll elems + uptoBulkAll spare + 1
  | .agg parts => uptoBulkAll parts + 1
  | .iface _ d => uptoBulk d + 1
  | .map entries => uptoBulkEntries entries + 1
  | .held _ => 1
def uptoBulkAll {H : Type} : List (DataW H) → Nat
  | [] => 0
  | d :: r => uptoBulk d + uptoBulkAll r
def uptoBulkEntries {H : Type} : List (Lit × DataW H) → Nat
  | [] => 0
  | x :: r => uptoBulkEntry x + uptoBulkEntries r
def uptoBulkEntry {H : Type} : Lit × DataW H → Nat
  | (.string bytes, d) => bytes.length + uptoBulk d + 1
  | (_, d) => uptoBulk d + 1
 end
def uptoSmall : (H : Type) → List (DataW H) → Bool := fun _ ds => decide (uptoBulkAll ds ≤ 1048576)
def OpenSpec.upto (s : _root_.Go.ChangeSpec) : _root_.Go.OpenSpec := { _root_.Go.OpenSpec.ofChange s with cond := some uptoSmall }

/-- 'ententelaw06.ActChecks', WHERE WHAT IT READS IS OF BULK AT MOST 1048576: true; the input reads as it did. -/
def actChecksUptoRow : OpenClaim := { program := "ytmfpgjpekmaemaa", sum := "86c77fe43460f474b2ac44a4dabbf67b3025bcdf3fb450631740c3678772fbcc", func := "entente/ententelaw06.ActChecks", spec := "actChecks", unfollowed := true, recurses := true, apart := false, narrowed := true }
def ActChecksUptoSaid : Prop := actChecksUptoRow.holds Try.pinned (OpenSpec.upto actChecksSpec)

/-- 'ententelaw06.ActTotals', WHERE WHAT IT READS IS OF BULK AT MOST 1048576: true; the input reads as it did. -/
def actTotalsUptoRow : OpenClaim := { program := "ytmfpgjpekmaemaa", sum := "86c77fe43460f474b2ac44a4dabbf67b3025bcdf3fb450631740c3678772fbcc", func := "entente/ententelaw06.ActTotals", spec := "actTotals", unfollowed := true, recurses := true, apart := false, narrowed := true }
def ActTotalsUptoSaid : Prop := actTotalsUptoRow.holds Try.pinned (OpenSpec.upto actTotalsSpec)

/-- 'ententelaw06.ActDoes', WHERE WHAT IT READS IS OF BULK AT MOST 1048576: true; the input reads as it did. -/
def actDoesUptoRow : OpenClaim := { program := "ytmfpgjpekmaemaa", sum := "86c77fe43460f474b2ac44a4dabbf67b3025bcdf3fb450631740c3678772fbcc", func := "entente/ententelaw06.ActDoes", spec := "actDoes", unfollowed := true, recurses := true, apart := false, narrowed := true }
def ActDoesUptoSaid : Prop := actDoesUptoRow.holds Try.pinned (OpenSpec.upto actDoesSpec)

/-- 'ententelaw06.ActUndone', WHERE WHAT IT READS IS OF BULK AT MOST 1048576: true; the input reads as it did. -/
def actUndoneUptoRow : OpenClaim := { program := "ytmfpgjpekmaemaa", sum := "86c77fe43460f474b2ac44a4dabbf67b3025bcdf3fb450631740c3678772fbcc", func := "entente/ententelaw06.ActUndone", spec := "actUndone", unfollowed := true, recurses := true, apart := false, narrowed := true }
def ActUndoneUptoSaid : Prop := actUndoneUptoRow.holds Try.pinned (OpenSpec.upto actUndoneSpec)

end Rows
end Go.Proofs.Ytmfpgjpekmaemaa
