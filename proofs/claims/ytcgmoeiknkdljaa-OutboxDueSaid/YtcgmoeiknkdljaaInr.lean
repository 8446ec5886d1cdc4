/- Laws of this session's own: an element is laid into a row, and what the row then tells. -/
import Derived.Test.YtcgmoeiknkdljaaMy
import Derived.Test.YtcgmoeiknkdljaaSl
import Derived.Test.YtcgmoeiknkdljaaWArr
namespace Go.Proofs.Ytcgmoeiknkdljaa.My
open Go.RowKit Go.Proofs.YtcgmoeiknkdljaaW.PrintWords
theorem reps_take {α : Type} {R : α → List Value → Prop} {sz : Nat} {ps : List α} {cs : List Value} (h : Reps R sz ps cs) (i : Nat) (hi : i ≤ ps.length) : Reps R sz (ps.take i) (cs.take (i * sz)) := by
  have hle : i * sz ≤ ps.length * sz := Nat.mul_le_mul_right _ hi
  refine ⟨by rw [List.length_take, List.length_take, h.1, Nat.min_eq_left hle, Nat.min_eq_left hi], fun j p hj => ?_⟩
  rw [List.getElem?_take] at hj
  split at hj
  · rename_i hji
    have h1 := h.2 j p hj
    have h2 : j * sz + sz ≤ i * sz := by rw [← Nat.succ_mul]; exact Nat.mul_le_mul_right _ hji
    rw [List.drop_take, List.take_take, Nat.min_eq_left (by omega)]
    exact h1
  · cases hj
theorem reps_drop {α : Type} {R : α → List Value → Prop} {sz : Nat} {ps : List α} {cs : List Value} (h : Reps R sz ps cs) (i : Nat) : Reps R sz (ps.drop i) (cs.drop (i * sz)) := by
  refine ⟨by rw [List.length_drop, List.length_drop, h.1, Nat.sub_mul], fun j p hj => ?_⟩
  rw [List.getElem?_drop] at hj
  have h1 := h.2 (i + j) p hj
  rw [Nat.add_mul] at h1
  rw [List.drop_drop]
  exact h1
theorem reps_app {α : Type} {R : α → List Value → Prop} {sz : Nat} {ps qs : List α} {cs ds : List Value} (h : Reps R sz ps cs) (g : Reps R sz qs ds) : Reps R sz (ps ++ qs) (cs ++ ds) := by
  refine ⟨by rw [List.length_append, List.length_append, h.1, g.1, Nat.add_mul], fun j p hj => ?_⟩
  by_cases c : j < ps.length
  · rw [List.getElem?_append_left c] at hj
    have h1 := h.2 j p hj
    have h2 : j * sz + sz ≤ ps.length * sz := by rw [← Nat.succ_mul]; exact Nat.mul_le_mul_right _ c
    have h3 := h.1
    rw [List.drop_append_of_le_length (by omega), List.take_append_of_le_length (by rw [List.length_drop]; omega)]
    exact h1
  · rw [List.getElem?_append_right (by omega)] at hj
    have h1 := g.2 (j - ps.length) p hj
    rw [Nat.sub_mul] at h1
    have h2 : ps.length * sz ≤ j * sz := Nat.mul_le_mul_right _ (by omega)
    have h3 := h.1
    rw [List.drop_append, List.drop_eq_nil_of_le (by omega), List.nil_append, h3]
    exact h1
theorem R_base {α : Type} {d : Kd α} {e base : Nat} {w : World} {ok : Nat → Prop} {v : Value} {xs : List α} (h : d.R e w base ok v xs) : ∀ q, v.ownBlock = some q → base ≤ q := fun q hq => by
  obtain ⟨inner, ho⟩ := Kd.R_own h
  exact own_base ho q hq
end Go.Proofs.Ytcgmoeiknkdljaa.My
