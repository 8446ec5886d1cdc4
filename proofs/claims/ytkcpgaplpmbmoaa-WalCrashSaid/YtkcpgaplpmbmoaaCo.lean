/- A law of this session's own: a cell of a row of the call's own, where a row of another type is appended to. -/
import Derived.Test.YtkcpgaplpmbmoaaMy
import Derived.Test.YtkcpgaplpmbmoaaWMore
namespace Go.Proofs.Ytkcpgaplpmbmoaa.My
open Go.RowKit Go.Proofs.YtkcpgaplpmbmoaaW.PrintWords Go.Proofs.YtkcpgaplpmbmoaaW.PrintLast
set_option linter.unusedVariables false
/-- A cell of a row of the call's own stays where a row of another type is appended to. -/
theorem cell_over {α β : Type} {d : Kd α} {d' : Kd β} {e e' b b' n c i : Nat} {W w1 : World} {ok ok' : Nat → Prop} {v x : Value} {xs : List α} {ys : List β} {ad : Addr} (hg : W.grownBy w1 v.ownBlock) (hc : W.cell? (ad.add i) = some x) (h : Kd.R d e W b ok (.slice (some ad) n c) xs) (h' : Kd.R d' e' W b' ok' v ys) (hne : e' ≠ e) :
    w1.cell? (ad.add i) = some x := by
  obtain ⟨cs, hcs⟩ := Kd.R_typed h (ad.add i).block (by rw [add_block]; rfl)
  have hb := hg.block (ad.add i).block (World.block_lt_of_cell? W _ hc) (Kd.R_ne h' hcs hne)
  simpa [World.cell?, hb] using hc
end Go.Proofs.Ytkcpgaplpmbmoaa.My
