/- Laws of this session's own: an element is laid into a row, and what the row then tells. -/
import Derived.Test.YtkcpgaplpmbmoaaGreatMy
import Derived.Test.YtkcpgaplpmbmoaaGreatSl
import Derived.Test.YtkcpgaplpmbmoaaGreatWArr
namespace Go.Proofs.YtkcpgaplpmbmoaaGreat.My
open Go.RowKit Go.Proofs.YtkcpgaplpmbmoaaGreatW.PrintWords
theorem reps_take {α : Type} {R : α → List Value → Prop} {sz : Nat} {ps : List α} {cs : List Value} (h : Reps R sz ps cs) (i : Nat) (hi : i ≤ ps.length) : Reps R sz (ps.take i) (cs.take (i * sz)) := by
  have hle : i * sz ≤ ps.length * sz := Nat.mul_le_mul_right _ hi
  refine ⟨by rw [List.length_take, List.length_take, h.1, Nat.min_eq_left hle, Nat.min_eq_left hi], fun j p hj => ?_⟩
  rw [List.getElem?_take] at hj
  split at hj
  · rename_i hji
    have h1 := h.2 j p hj
    have h2 : j * sz + sz ≤ i * sz := by rw [← Nat.succ_mul]; exact Nat.mul_le_mul_right _ hji
    rw [List.drop_take, List.take_take, Nat.min_eq_left (by omega)]
    exact h1
  · cases hj
end Go.Proofs.YtkcpgaplpmbmoaaGreat.My
