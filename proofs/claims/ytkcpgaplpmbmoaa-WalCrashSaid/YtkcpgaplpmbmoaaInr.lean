/- Laws of this session's own: an element is laid into a row, and what the row then tells. -/
import Derived.Test.YtkcpgaplpmbmoaaMy
import Derived.Test.YtkcpgaplpmbmoaaSl
import Derived.Test.YtkcpgaplpmbmoaaWArr
namespace Go.Proofs.Ytkcpgaplpmbmoaa.My
open Go.RowKit Go.Proofs.YtkcpgaplpmbmoaaW.PrintWords
theorem reps_take {α : Type} {R : α → List Value → Prop} {sz : Nat} {ps : List α} {cs : List Value} (h : Reps R sz ps cs) (i : Nat) (hi : i ≤ ps.length) : Reps R sz (ps.take i) (cs.take (i * sz)) := by
  have hle : i * sz ≤ ps.length * sz := Nat.mul_le_mul_right _ hi
  refine ⟨by rw [List.length_take, List.length_take, h.1, Nat.min_eq_left hle, Nat.min_eq_left hi], fun j p hj => ?_⟩
  rw [List.getElem?_take] at hj
  split at hj
  · rename_i hji
    have h1 := h.2 j p hj
    have h2 : j * sz + sz ≤ i * sz := by rw [← Nat.succ_mul]; exact Nat.mul_le_mul_right _ hji
    rw [List.drop_take, List.take_take, Nat.min_eq_left (by omega)]
    exact h1
  · cases hj
theorem reps_drop {α : Type} {R : α → List Value → Prop} {sz : Nat} {ps : List α} {cs : List Value} (h : Reps R sz ps cs) (i : Nat) : Reps R sz (ps.drop i) (cs.drop (i * sz)) := by
  refine ⟨by rw [List.length_drop, List.length_drop, h.1, Nat.sub_mul], fun j p hj => ?_⟩
  rw [List.getElem?_drop] at hj
  have h1 := h.2 (i + j) p hj
  rw [Nat.add_mul] at h1
  rw [List.drop_drop]
  exact h1
theorem reps_app {α : Type} {R : α → List Value → Prop} {sz : Nat} {ps qs : List α} {cs ds : List Value} (h : Reps R sz ps cs) (g : Reps R sz qs ds) : Reps R sz (ps ++ qs) (cs ++ ds) := by
  refine ⟨by rw [List.length_append, List.length_append, h.1, g.1, Nat.add_mul], fun j p hj => ?_⟩
  by_cases c : j < ps.length
  · rw [List.getElem?_append_left c] at hj
    have h1 := h.2 j p hj
    have h2 : j * sz + sz ≤ ps.length * sz := by rw [← Nat.succ_mul]; exact Nat.mul_le_mul_right _ c
    have h3 := h.1
    rw [List.drop_append_of_le_length (by omega), List.take_append_of_le_length (by rw [List.length_drop]; omega)]
    exact h1
  · rw [List.getElem?_append_right (by omega)] at hj
    have h1 := g.2 (j - ps.length) p hj
    rw [Nat.sub_mul] at h1
    have h2 : ps.length * sz ≤ j * sz := Nat.mul_le_mul_right _ (by omega)
    have h3 := h.1
    rw [List.drop_append, List.drop_eq_nil_of_le (by omega), List.nil_append, h3]
    exact h1
theorem reps_insert {α : Type} {R : α → List Value → Prop} {sz : Nat} {ps : List α} {cs c : List Value} {p : α} (h : Reps R sz ps cs) (hp : R p c) (hc : c.length = sz) (i : Nat) (hi : i ≤ ps.length) : Reps R sz (ps.take i ++ p :: ps.drop i) (cs.take (i * sz) ++ c ++ cs.drop (i * sz)) := by
  have h1 : Reps R sz [p] c := ⟨by simp [hc], fun j q hj => by
    cases j with
    | zero => simp at hj; subst hj; simp [← hc]; exact hp
    | succ j => simp at hj⟩
  have h2 := reps_app (reps_take h i hi) (reps_app h1 (reps_drop h i))
  rw [List.append_assoc]
  exact h2
theorem reps_one1 {α : Type} {R : α → List Value → Prop} {size : Nat} {ps : List α} {cs : List Value} (h : Reps R size ps cs) (hs0 : 0 < size) (hR : ∀ p c, R p c → ∀ u ∈ c, u.oneCell' = true) : ∀ u ∈ cs, u.oneCell' = true := Kd.reps_one h hs0 hR
/-- Two rows of unlike types: the second one's blocks are none of the first one's. -/
theorem R_apart {α β : Type} {d : Kd α} {d' : Kd β} {e e' base base' : Nat} {w : World} {ok ok' : Nat → Prop} {v v' : Value} {xs : List α} {ys : List β} (h : d.R e w base ok v xs) (h' : d'.R e' w base' ok' v' ys) (ht : ∀ q, q ∈ e' :: d'.E → q ≠ e) :
    d'.R e' w base' (fun k => ok' k ∧ some k ≠ v.ownBlock) v' ys := by
  cases hv : v.ownBlock with
  | none => exact Kd.R_mono h' (fun k hk => ⟨hk, by simp⟩)
  | some g =>
    obtain ⟨inner, ho⟩ := Kd.R_own h
    obtain ⟨cells, hc⟩ := own_typed ho g hv
    exact Kd.R_mono (Kd.R_types h' hc ht) (fun k hk => ⟨hk.1, by simpa using hk.2⟩)
theorem R_base {α : Type} {d : Kd α} {e base : Nat} {w : World} {ok : Nat → Prop} {v : Value} {xs : List α} (h : d.R e w base ok v xs) : ∀ q, v.ownBlock = some q → base ≤ q := fun q hq => by
  obtain ⟨inner, ho⟩ := Kd.R_own h
  exact own_base ho q hq
end Go.Proofs.Ytkcpgaplpmbmoaa.My
