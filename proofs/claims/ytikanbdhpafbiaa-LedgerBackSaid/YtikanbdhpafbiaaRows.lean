/-
  No cell of these rows narrows 'for every input' (looked for: loops, veiled, ifaces, maps, wideKeys, modest, calm, conditions, laid).
  DERIVED. THE GIVEN ROWS OF THIS SEAT. 5 by the template 'for every input the law returns true; each argument reads behind the call as it read before'; 0 by the template 'total and deterministic' (their statements: YtikanbdhpafbiaaTotals.lean).
  GIVEN WITH THE SEED: the statements are not yours to turn. If you find one false, say at which input.
  Laid BY PROGRAM, IN A SANDBOX (cutbox-rows.mjs): the forced cells as the released guide's own fill.sh prints them over the translation 3c994dbee6a11427… (all of the seat's roots in one cut). By AI agents, Wed Nov 11 2026. No macro, syntax, notation, axiom, sorry.
-/
import Derived.Test.YtikanbdhpafbiaaChecked
import GoSem.Claim
import GoSem.ClaimJoined
import GoSem.ClaimMapViews
import Derived.JoinedTies
import Derived.KernelRfl
namespace Go.Proofs.Ytikanbdhpafbiaa
/- THE CELL 'sum', in the pinned program and in every row, IS THE sha256 OF THE DUMP (.gsa) THAT YtikanbdhpafbiaaProg.lean LOADS. Nothing in Lean hashes anything: it is a label: what it is worth is what the hold of that sum in a sandbox is worth. -/
noncomputable def Try.pinned : Pinned := { name := "ytikanbdhpafbiaa", sum := "3c994dbee6a114279fc4beb29246d5d5e401a45c39136e76be58b4c53de299b7", checked := Try.checked }
namespace Rows
def none {H : Type} : Left H := { results := [], args := [] }

/-- 'ententelaw07.LedgerDoes': WHATEVER THE INPUT: true; the input reads as it did. -/
def ledgerDoesSpec : ChangeSpec := { name := "ledgerDoes", fn := fun _ => fun
  | [d1, d2] => { results := [.lit (.bool true)], args := [d1, d2] }
  | _ => none }
def ledgerDoesRow : OpenClaim := { program := "ytikanbdhpafbiaa", sum := "3c994dbee6a114279fc4beb29246d5d5e401a45c39136e76be58b4c53de299b7", func := "entente/ententelaw07.LedgerDoes", spec := "ledgerDoes", inPlace := ["internal/bytealg.abigen_runtime_cmpstring", "slices.overlaps[entente/api.Account]", "slices.overlaps[entente/api.Mark]"], unfollowed := true, recurses := true, apart := false }
def LedgerDoesSaid : Prop := ledgerDoesRow.holds Try.pinned (OpenSpec.ofChange ledgerDoesSpec)

/-- ITS FALSE NEIGHBOUR: 'it returns false'. Refute it at one input. -/
def ledgerDoesWrong : ChangeSpec := { name := "ledgerDoes", fn := fun _ => fun
  | [d1, d2] => { results := [.lit (.bool false)], args := [d1, d2] }
  | _ => none }
def LedgerDoesWrongFalsely : Prop := ledgerDoesRow.holds Try.pinned (OpenSpec.ofChange ledgerDoesWrong)

/-- 'ententelaw07.LedgerOnce': WHATEVER THE INPUT: true; the input reads as it did. -/
def ledgerOnceSpec : ChangeSpec := { name := "ledgerOnce", fn := fun _ => fun
  | [d] => { results := [.lit (.bool true)], args := [d] }
  | _ => none }
def ledgerOnceRow : OpenClaim := { program := "ytikanbdhpafbiaa", sum := "3c994dbee6a114279fc4beb29246d5d5e401a45c39136e76be58b4c53de299b7", func := "entente/ententelaw07.LedgerOnce", spec := "ledgerOnce", inPlace := ["internal/bytealg.abigen_runtime_cmpstring", "slices.overlaps[entente/api.Account]", "slices.overlaps[entente/api.Mark]"], unfollowed := true, recurses := true, apart := false }
def LedgerOnceSaid : Prop := ledgerOnceRow.holds Try.pinned (OpenSpec.ofChange ledgerOnceSpec)

/-- ITS FALSE NEIGHBOUR: 'it returns false'. Refute it at one input. -/
def ledgerOnceWrong : ChangeSpec := { name := "ledgerOnce", fn := fun _ => fun
  | [d] => { results := [.lit (.bool false)], args := [d] }
  | _ => none }
def LedgerOnceWrongFalsely : Prop := ledgerOnceRow.holds Try.pinned (OpenSpec.ofChange ledgerOnceWrong)

/-- 'ententelaw07.LedgerMays': WHATEVER THE INPUT: true; the input reads as it did. -/
def ledgerMaysSpec : ChangeSpec := { name := "ledgerMays", fn := fun _ => fun
  | [d1, d2, d3] => { results := [.lit (.bool true)], args := [d1, d2, d3] }
  | _ => none }
def ledgerMaysRow : OpenClaim := { program := "ytikanbdhpafbiaa", sum := "3c994dbee6a114279fc4beb29246d5d5e401a45c39136e76be58b4c53de299b7", func := "entente/ententelaw07.LedgerMays", spec := "ledgerMays", inPlace := ["internal/bytealg.abigen_runtime_cmpstring", "slices.overlaps[entente/api.Account]", "slices.overlaps[entente/api.Mark]", "math/bits.Add64"], unfollowed := true, recurses := true, apart := false }
def LedgerMaysSaid : Prop := ledgerMaysRow.holds Try.pinned (OpenSpec.ofChange ledgerMaysSpec)

/-- ITS FALSE NEIGHBOUR: 'it returns false'. Refute it at one input. -/
def ledgerMaysWrong : ChangeSpec := { name := "ledgerMays", fn := fun _ => fun
  | [d1, d2, d3] => { results := [.lit (.bool false)], args := [d1, d2, d3] }
  | _ => none }
def LedgerMaysWrongFalsely : Prop := ledgerMaysRow.holds Try.pinned (OpenSpec.ofChange ledgerMaysWrong)

/-- 'ententelaw07.LedgerBalance': WHATEVER THE INPUT: true; the input reads as it did. -/
def ledgerBalanceSpec : ChangeSpec := { name := "ledgerBalance", fn := fun _ => fun
  | [d] => { results := [.lit (.bool true)], args := [d] }
  | _ => none }
def ledgerBalanceRow : OpenClaim := { program := "ytikanbdhpafbiaa", sum := "3c994dbee6a114279fc4beb29246d5d5e401a45c39136e76be58b4c53de299b7", func := "entente/ententelaw07.LedgerBalance", spec := "ledgerBalance", inPlace := ["internal/bytealg.abigen_runtime_cmpstring", "slices.overlaps[entente/api.Account]", "slices.overlaps[entente/api.Mark]", "math/bits.Add64"], unfollowed := true, recurses := true, apart := false }
def LedgerBalanceSaid : Prop := ledgerBalanceRow.holds Try.pinned (OpenSpec.ofChange ledgerBalanceSpec)

/-- ITS FALSE NEIGHBOUR: 'it returns false'. Refute it at one input. -/
def ledgerBalanceWrong : ChangeSpec := { name := "ledgerBalance", fn := fun _ => fun
  | [d] => { results := [.lit (.bool false)], args := [d] }
  | _ => none }
def LedgerBalanceWrongFalsely : Prop := ledgerBalanceRow.holds Try.pinned (OpenSpec.ofChange ledgerBalanceWrong)

/-- 'ententelaw07.LedgerBack': WHATEVER THE INPUT: true; the input reads as it did. -/
def ledgerBackSpec : ChangeSpec := { name := "ledgerBack", fn := fun _ => fun
  | [d] => { results := [.lit (.bool true)], args := [d] }
  | _ => none }
def ledgerBackRow : OpenClaim := { program := "ytikanbdhpafbiaa", sum := "3c994dbee6a114279fc4beb29246d5d5e401a45c39136e76be58b4c53de299b7", func := "entente/ententelaw07.LedgerBack", spec := "ledgerBack", inPlace := ["internal/bytealg.abigen_runtime_cmpstring", "slices.overlaps[entente/api.Account]", "slices.overlaps[entente/api.Mark]", "math/bits.Add64"], unfollowed := true, recurses := true, apart := false }
def LedgerBackSaid : Prop := ledgerBackRow.holds Try.pinned (OpenSpec.ofChange ledgerBackSpec)

/-- ITS FALSE NEIGHBOUR: 'it returns false'. Refute it at one input. -/
def ledgerBackWrong : ChangeSpec := { name := "ledgerBack", fn := fun _ => fun
  | [d] => { results := [.lit (.bool false)], args := [d] }
  | _ => none }
def LedgerBackWrongFalsely : Prop := ledgerBackRow.holds Try.pinned (OpenSpec.ofChange ledgerBackWrong)

/- THE SECOND FORM. 'bulk': how many values and letters a reading holds, each counted each time it is reached (what is shared counts as often as it is met; a slice's spare places count too). A statement '..UptoSaid' is the law's where the arguments, and the package variables that the reading takes, are together of bulk at most 1048576: NARROWER than '..Said'. Prove '..Said' where nothing that the law and all that it calls make is longer than what came in: it says more and counts as full. Else prove '..UptoSaid'. A law counts once. -/
mutual
def uptoBulk {H : Type} : DataW H → Nat
  | .lit (.string bytes) => bytes.length + 1
  | .lit _ => 1
  | .nil => 1
  | .ptr d => uptoBulk d + 1
  | .slice elems spare => uptoBulkAll elems + uptoBulkAll spare + 1
  | .agg parts => uptoBulkAll parts + 1
  | .iface _ d => uptoBulk d + 1
  | .map entries => uptoBulkEntries entries + 1
  | .held _ => 1
def uptoBulkAll {H : Type} : List (DataW H) → Nat
  | [] => 0
  | d :: r => uptoBulk d + uptoBulkAll r
def uptoBulkEntries {H : Type} : List (Lit × DataW H) → Nat
  | [] => 0
  | x :: r => uptoBulkEntry x + uptoBulkEntries r
def uptoBulkEntry {H : Type} : Lit × DataW H → Nat
  | (.string bytes, d) => bytes.length + uptoBulk d + 1
  | (_, d) => uptoBulk d + 1
 end
def uptoSmall : (H : Type) → List (DataW H) → Bool := fun _ ds => decide (uptoBulkAll ds ≤ 1048576)
def OpenSpec.upto (s : _root_.Go.ChangeSpec) : _root_.Go.OpenSpec := { _root_.Go.OpenSpec.ofChange s with cond := some uptoSmall }

/-- 'ententelaw07.LedgerDoes', WHERE WHAT IT READS IS OF BULK AT MOST 1048576: true; the input reads as it did. -/
def ledgerDoesUptoRow : OpenClaim := { program := "ytikanbdhpafbiaa", sum := "3c994dbee6a114279fc4beb29246d5d5e401a45c39136e76be58b4c53de299b7", func := "entente/ententelaw07.LedgerDoes", spec := "ledgerDoes", inPlace := ["internal/bytealg.abigen_runtime_cmpstring", "slices.overlaps[entente/api.Account]", "slices.overlaps[entente/api.Mark]"], unfollowed := true, recurses := true, apart := false, narrowed := true }
def LedgerDoesUptoSaid : Prop := ledgerDoesUptoRow.holds Try.pinned (OpenSpec.upto ledgerDoesSpec)

/-- 'ententelaw07.LedgerOnce', WHERE WHAT IT READS IS OF BULK AT MOST 1048576: true; the input reads as it did. -/
def ledgerOnceUptoRow : OpenClaim := { program := "ytikanbdhpafbiaa", sum := "3c994dbee6a114279fc4beb29246d5d5e401a45c39136e76be58b4c53de299b7", func := "entente/ententelaw07.LedgerOnce", spec := "ledgerOnce", inPlace := ["internal/bytealg.abigen_runtime_cmpstring", "slices.overlaps[entente/api.Account]", "slices.overlaps[entente/api.Mark]"], unfollowed := true, recurses := true, apart := false, narrowed := true }
def LedgerOnceUptoSaid : Prop := ledgerOnceUptoRow.holds Try.pinned (OpenSpec.upto ledgerOnceSpec)

/-- 'ententelaw07.LedgerMays', WHERE WHAT IT READS IS OF BULK AT MOST 1048576: true; the input reads as it did. -/
def ledgerMaysUptoRow : OpenClaim := { program := "ytikanbdhpafbiaa", sum := "3c994dbee6a114279fc4beb29246d5d5e401a45c39136e76be58b4c53de299b7", func := "entente/ententelaw07.LedgerMays", spec := "ledgerMays", inPlace := ["internal/bytealg.abigen_runtime_cmpstring", "slices.overlaps[entente/api.Account]", "slices.overlaps[entente/api.Mark]", "math/bits.Add64"], unfollowed := true, recurses := true, apart := false, narrowed := true }
def LedgerMaysUptoSaid : Prop := ledgerMaysUptoRow.holds Try.pinned (OpenSpec.upto ledgerMaysSpec)

/-- 'ententelaw07.LedgerBalance', WHERE WHAT IT READS IS OF BULK AT MOST 1048576: true; the input reads as it did. -/
def ledgerBalanceUptoRow : OpenClaim := { program := "ytikanbdhpafbiaa", sum := "3c994dbee6a114279fc4beb29246d5d5e401a45c39136e76be58b4c53de299b7", func := "entente/ententelaw07.LedgerBalance", spec := "ledgerBalance", inPlace := ["internal/bytealg.abigen_runtime_cmpstring", "slices.overlaps[entente/api.Account]", "slices.overlaps[entente/api.Mark]", "math/bits.Add64"], unfollowed := true, recurses := true, apart := false, narrowed := true }
def LedgerBalanceUptoSaid : Prop := ledgerBalanceUptoRow.holds Try.pinned (OpenSpec.upto ledgerBalanceSpec)

/-- 'ententelaw07.LedgerBack', WHERE WHAT IT READS IS OF BULK AT MOST 1048576: true; the input reads as it did. -/
def ledgerBackUptoRow : OpenClaim := { program := "ytikanbdhpafbiaa", sum := "3c994dbee6a114279fc4beb29246d5d5e401a45c39136e76be58b4c53de299b7", func := "entente/ententelaw07.LedgerBack", spec := "ledgerBack", inPlace := ["internal/bytealg.abigen_runtime_cmpstring", "slices.overlaps[entente/api.Account]", "slices.overlaps[entente/api.Mark]", "math/bits.Add64"], unfollowed := true, recurses := true, apart := false, narrowed := true }
def LedgerBackUptoSaid : Prop := ledgerBackUptoRow.holds Try.pinned (OpenSpec.upto ledgerBackSpec)

end Rows
end Go.Proofs.Ytikanbdhpafbiaa
