/- Laws of this session's own: copies of elements of any size; slices.Insert of one element into a row of the call's own. -/
import Derived.Test.YtkcpgaplpmbmoaaGreatMy
import Derived.Test.YtkcpgaplpmbmoaaGreatWMore
import Derived.Laws.CopyOwn
import Derived.Lib.AppendZerosOnto
import Derived.Lib.AppendZeros
import Derived.Lib.Overlaps
namespace Go.Proofs.YtkcpgaplpmbmoaaGreat.My
open Go.RowKit Go.Proofs.YtkcpgaplpmbmoaaGreatW.PrintWords Go.Proofs.YtkcpgaplpmbmoaaGreatW.PrintLast
set_option linter.unusedVariables false
set_option linter.unusedSimpArgs false
variable {P : Program}
theorem reps_cons {α : Type} {R : α → List Value → Prop} {ps : List α} {cs : List Value} {p : α} {v : Value} (hp : R p [v]) (h : Reps R 1 ps cs) : Reps R 1 (p :: ps) (v :: cs) := by
  refine ⟨by simp [h.1], fun j q hq => ?_⟩
  rcases j with _ | j
  · obtain rfl : p = q := by simpa using hq
    simpa using hp
  · have := h.2 j q (by simpa using hq)
    simpa using this
theorem reps_enc {α : Type} (enc : α → Value) (xs : List α) : ∀ cs : List Value, Reps (fun (x : α) cs => cs = [enc x]) 1 xs cs → cs = xs.map enc := by
  induction xs with
  | nil => intro cs h; exact List.eq_nil_of_length_eq_zero (by simpa using h.1)
  | cons x xs ih =>
    intro cs h
    rcases cs with _ | ⟨c, cs⟩
    · simp [Reps] at h
    · have h0 := h.2 0 x rfl
      simp at h0
      subst h0
      rw [List.map_cons, ih cs ⟨by have := h.1; simp at this ⊢; omega, fun j p hj => by have := h.2 (j + 1) p (by simpa using hj); simpa using this⟩]
theorem enc_reps {α : Type} (enc : α → Value) (xs : List α) : Reps (fun (x : α) cs => cs = [enc x]) 1 xs (xs.map enc) := by
  induction xs with
  | nil => exact Reps.none _ _
  | cons x xs ih =>
    exact reps_cons rfl ih
end Go.Proofs.YtkcpgaplpmbmoaaGreat.My
