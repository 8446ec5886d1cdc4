/-
  No cell of these rows narrows 'for every input' (looked for: loops, veiled, ifaces, maps, wideKeys, modest, calm, conditions, laid).
  DERIVED. THE GIVEN ROWS OF THIS SEAT. 4 by the template 'for every input the law returns true; each argument reads behind the call as it read before'; 0 by the template 'total and deterministic' (their statements: YtcgmoeiknkdljaaTotals.lean).
  GIVEN WITH THE SEED: the statements are not yours to turn. If you find one false, say at which input.
  Laid BY PROGRAM, IN A SANDBOX (cutbox-rows.mjs): the forced cells as the released guide's own fill.sh prints them over the translation f964485f449c2ee7… (all of the seat's roots in one cut). By AI agents, Wed Nov 11 2026. No macro, syntax, notation, axiom, sorry.
-/
import Derived.Test.YtcgmoeiknkdljaaChecked
import GoSem.Claim
import GoSem.ClaimJoined
import GoSem.ClaimMapViews
import Derived.JoinedTies
import Derived.KernelRfl
namespace Go.Proofs.Ytcgmoeiknkdljaa
/- THE CELL 'sum', in the pinned program and in every row, IS THE sha256 OF THE DUMP (.gsa) THAT YtcgmoeiknkdljaaProg.lean LOADS. Nothing in Lean hashes anything: it is a label: what it is worth is what the hold of that sum in a sandbox is worth. -/
noncomputable def Try.pinned : Pinned := { name := "ytcgmoeiknkdljaa", sum := "f964485f449c2ee74578e811a65eff9eb86c92f2beb797b5b793b9953c2fd7f9", checked := Try.checked }
namespace Rows
def none {H : Type} : Left H := { results := [], args := [] }

/-- 'ententelaw19.OutboxPushes': WHATEVER THE INPUT: true; the input reads as it did. -/
def outboxPushesSpec : ChangeSpec := { name := "outboxPushes", fn := fun _ => fun
  | [d1, d2, d3] => { results := [.lit (.bool true)], args := [d1, d2, d3] }
  | _ => none }
def outboxPushesRow : OpenClaim := { program := "ytcgmoeiknkdljaa", sum := "f964485f449c2ee74578e811a65eff9eb86c92f2beb797b5b793b9953c2fd7f9", func := "entente/ententelaw19.OutboxPushes", spec := "outboxPushes", unfollowed := true, recurses := true, apart := false }
def OutboxPushesSaid : Prop := outboxPushesRow.holds Try.pinned (OpenSpec.ofChange outboxPushesSpec)

/-- ITS FALSE NEIGHBOUR: 'it returns false'. Refute it at one input. -/
def outboxPushesWrong : ChangeSpec := { name := "outboxPushes", fn := fun _ => fun
  | [d1, d2, d3] => { results := [.lit (.bool false)], args := [d1, d2, d3] }
  | _ => none }
def OutboxPushesWrongFalsely : Prop := outboxPushesRow.holds Try.pinned (OpenSpec.ofChange outboxPushesWrong)

/-- 'ententelaw19.OutboxDue': WHATEVER THE INPUT: true; the input reads as it did. -/
def outboxDueSpec : ChangeSpec := { name := "outboxDue", fn := fun _ => fun
  | [d1, d2] => { results := [.lit (.bool true)], args := [d1, d2] }
  | _ => none }
def outboxDueRow : OpenClaim := { program := "ytcgmoeiknkdljaa", sum := "f964485f449c2ee74578e811a65eff9eb86c92f2beb797b5b793b9953c2fd7f9", func := "entente/ententelaw19.OutboxDue", spec := "outboxDue", unfollowed := true, recurses := true, apart := false }
def OutboxDueSaid : Prop := outboxDueRow.holds Try.pinned (OpenSpec.ofChange outboxDueSpec)

/-- ITS FALSE NEIGHBOUR: 'it returns false'. Refute it at one input. -/
def outboxDueWrong : ChangeSpec := { name := "outboxDue", fn := fun _ => fun
  | [d1, d2] => { results := [.lit (.bool false)], args := [d1, d2] }
  | _ => none }
def OutboxDueWrongFalsely : Prop := outboxDueRow.holds Try.pinned (OpenSpec.ofChange outboxDueWrong)

/-- 'ententelaw19.OutboxGoes': WHATEVER THE INPUT: true; the input reads as it did. -/
def outboxGoesSpec : ChangeSpec := { name := "outboxGoes", fn := fun _ => fun
  | [d1, d2, d3] => { results := [.lit (.bool true)], args := [d1, d2, d3] }
  | _ => none }
def outboxGoesRow : OpenClaim := { program := "ytcgmoeiknkdljaa", sum := "f964485f449c2ee74578e811a65eff9eb86c92f2beb797b5b793b9953c2fd7f9", func := "entente/ententelaw19.OutboxGoes", spec := "outboxGoes", unfollowed := true, recurses := true, apart := false }
def OutboxGoesSaid : Prop := outboxGoesRow.holds Try.pinned (OpenSpec.ofChange outboxGoesSpec)

/-- ITS FALSE NEIGHBOUR: 'it returns false'. Refute it at one input. -/
def outboxGoesWrong : ChangeSpec := { name := "outboxGoes", fn := fun _ => fun
  | [d1, d2, d3] => { results := [.lit (.bool false)], args := [d1, d2, d3] }
  | _ => none }
def OutboxGoesWrongFalsely : Prop := outboxGoesRow.holds Try.pinned (OpenSpec.ofChange outboxGoesWrong)

/-- 'ententelaw19.OutboxAnswered': WHATEVER THE INPUT: true; the input reads as it did. -/
def outboxAnsweredSpec : ChangeSpec := { name := "outboxAnswered", fn := fun _ => fun
  | [d1, d2] => { results := [.lit (.bool true)], args := [d1, d2] }
  | _ => none }
def outboxAnsweredRow : OpenClaim := { program := "ytcgmoeiknkdljaa", sum := "f964485f449c2ee74578e811a65eff9eb86c92f2beb797b5b793b9953c2fd7f9", func := "entente/ententelaw19.OutboxAnswered", spec := "outboxAnswered", unfollowed := true, recurses := true, apart := false }
def OutboxAnsweredSaid : Prop := outboxAnsweredRow.holds Try.pinned (OpenSpec.ofChange outboxAnsweredSpec)

/-- ITS FALSE NEIGHBOUR: 'it returns false'. Refute it at one input. -/
def outboxAnsweredWrong : ChangeSpec := { name := "outboxAnswered", fn := fun _ => fun
  | [d1, d2] => { results := [.lit (.bool false)], args := [d1, d2] }
  | _ => none }
def OutboxAnsweredWrongFalsely : Prop := outboxAnsweredRow.holds Try.pinned (OpenSpec.ofChange outboxAnsweredWrong)

/- THE SECOND FORM. 'bulk': how many values and letters a reading holds, each counted each time it is reached (what is shared counts as often as it is met; a slice's spare places count too). A statement '..UptoSaid' is the law's where the arguments, and the package variables that the reading takes, are together of bulk at most 1048576: NARROWER than '..Said'. Prove '..Said' where nothing that the law and all that it calls make is longer than what came in: it says more and counts as full. Else prove '..UptoSaid'. A law counts once. -/
mutual
def uptoBulk {H : Type} : DataW H → Nat
  | .lit (.string bytes) => bytes.length + 1
  | .lit _ => 1
  | .nil => 1
  | .ptr d => uptoBulk d + 1
  | .slice elems spare => uptoBulkAll elems + uptoBulkAll spare + 1
  | .agg parts => uptoBulkAll parts + 1
  | .iface _ d => uptoBulk d + 1
  | .map entries => uptoBulkEntries entries + 1
  | .held _ => 1
def uptoBulkAll {H : Type} : List (DataW H) → Nat
  | [] => 0
  | d :: r => uptoBulk d + uptoBulkAll r
def uptoBulkEntries {H : Type} : List (Lit × DataW H) → Nat
  | [] => 0
  | x :: r => uptoBulkEntry x + uptoBulkEntries r
def uptoBulkEntry {H : Type} : Lit × DataW H → Nat
  | (.string bytes, d) => bytes.length + uptoBulk d + 1
  | (_, d) => uptoBulk d + 1
 end
def uptoSmall : (H : Type) → List (DataW H) → Bool := fun _ ds => decide (uptoBulkAll ds ≤ 1048576)
def OpenSpec.upto (s : _root_.Go.ChangeSpec) : _root_.Go.OpenSpec := { _root_.Go.OpenSpec.ofChange s with cond := some uptoSmall }

/-- 'ententelaw19.OutboxPushes', WHERE WHAT IT READS IS OF BULK AT MOST 1048576: true; the input reads as it did. -/
def outboxPushesUptoRow : OpenClaim := { program := "ytcgmoeiknkdljaa", sum := "f964485f449c2ee74578e811a65eff9eb86c92f2beb797b5b793b9953c2fd7f9", func := "entente/ententelaw19.OutboxPushes", spec := "outboxPushes", unfollowed := true, recurses := true, apart := false, narrowed := true }
def OutboxPushesUptoSaid : Prop := outboxPushesUptoRow.holds Try.pinned (OpenSpec.upto outboxPushesSpec)

/-- 'ententelaw19.OutboxDue', WHERE WHAT IT READS IS OF BULK AT MOST 1048576: true; the input reads as it did. -/
def outboxDueUptoRow : OpenClaim := { program := "ytcgmoeiknkdljaa", sum := "f964485f449c2ee74578e811a65eff9eb86c92f2beb797b5b793b9953c2fd7f9", func := "entente/ententelaw19.OutboxDue", spec := "outboxDue", unfollowed := true, recurses := true, apart := false, narrowed := true }
def OutboxDueUptoSaid : Prop := outboxDueUptoRow.holds Try.pinned (OpenSpec.upto outboxDueSpec)

/-- 'ententelaw19.OutboxGoes', WHERE WHAT IT READS IS OF BULK AT MOST 1048576: true; the input reads as it did. -/
def outboxGoesUptoRow : OpenClaim := { program := "ytcgmoeiknkdljaa", sum := "f964485f449c2ee74578e811a65eff9eb86c92f2beb797b5b793b9953c2fd7f9", func := "entente/ententelaw19.OutboxGoes", spec := "outboxGoes", unfollowed := true, recurses := true, apart := false, narrowed := true }
def OutboxGoesUptoSaid : Prop := outboxGoesUptoRow.holds Try.pinned (OpenSpec.upto outboxGoesSpec)

/-- 'ententelaw19.OutboxAnswered', WHERE WHAT IT READS IS OF BULK AT MOST 1048576: true; the input reads as it did. -/
def outboxAnsweredUptoRow : OpenClaim := { program := "ytcgmoeiknkdljaa", sum := "f964485f449c2ee74578e811a65eff9eb86c92f2beb797b5b793b9953c2fd7f9", func := "entente/ententelaw19.OutboxAnswered", spec := "outboxAnswered", unfollowed := true, recurses := true, apart := false, narrowed := true }
def OutboxAnsweredUptoSaid : Prop := outboxAnsweredUptoRow.holds Try.pinned (OpenSpec.upto outboxAnsweredSpec)

end Rows
end Go.Proofs.Ytcgmoeiknkdljaa
