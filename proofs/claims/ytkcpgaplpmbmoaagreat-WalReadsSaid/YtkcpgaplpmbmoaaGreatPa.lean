/- Laws of this session's own: what the printed texts say again and again, told in short. -/
import Derived.Test.YtkcpgaplpmbmoaaGreatMy
import Derived.Test.YtkcpgaplpmbmoaaGreatWMore
import Derived.Test.YtkcpgaplpmbmoaaGreatWTab
import Derived.Test.YtkcpgaplpmbmoaaGreatWLast
import Derived.Test.YtkcpgaplpmbmoaaGreatWGuard
namespace Go.Proofs.YtkcpgaplpmbmoaaGreat.My
open Go.RowKit Go.Proofs.YtkcpgaplpmbmoaaGreatW.PrintWords Go.Proofs.YtkcpgaplpmbmoaaGreatW.PrintLast Go.Proofs.YtkcpgaplpmbmoaaGreatW.PrintMore
set_option linter.unusedVariables false
theorem am {p : Prop} (h : p) : Aside0 p := ⟨h⟩
section
variable {w W W1 : World} {g g' : Nat} {o : Obj}
theorem at_ (h : Aside0 (w.heap[g]? = some o)) (k : w.heap[g]? = some o → W.heap[g]? = some o := by intro h_; (with_reducible repeat (first | refine blk_drewN ?_ _ | refine blk_drew ?_ | refine blk_alloc ?_ _)); exact h_) : W.heap[g]? = some o := k h.out
theorem bsA {j : Nat} {v : Value} (h : Below w.heap.size w W) (hg : Aside0 (w.heap.size ≤ g)) : Below w.heap.size w (W.setCell ⟨g, j, none⟩ v) := below_set h hg.out
theorem bl_ (h : Aside0 (Below w.heap.size w W)) (k : Below w.heap.size w W → Below w.heap.size w W1 := by intro h_; repeat (first | (with_reducible first | exact h_ | apply below_alloc | apply pw_below_drewN | apply below_drew1) | refine My.bsA ?_ (by assumption) | exact h_)) : Below w.heap.size w W1 := k h.out
theorem ab {W2 : World} (h : Aside0 (w.heap[g]? = some o)) (hb : Below W.heap.size W W2) (k : w.heap[g]? = some o → W.heap[g]? = some o := by intro h_; (with_reducible repeat (first | refine blk_drewN ?_ _ | refine blk_drew ?_ | refine blk_alloc ?_ _)); exact h_) : Aside0 (W2.heap[g]? = some o) := ⟨blk_below (k h.out) hb⟩
theorem st {W2 : World} (h : Aside0 (Below w.heap.size w W)) (hb : Below W1.heap.size W1 W2) (k : Below w.heap.size w W → Below w.heap.size w W1 := by intro h_; repeat (first | (with_reducible first | exact h_ | apply below_alloc | apply pw_below_drewN | apply below_drew1) | refine My.bsA ?_ (by assumption) | exact h_)) : Aside0 (Below w.heap.size w W2) := ⟨below_step (k h.out) hb⟩
theorem nb {W2 : World} (hg : g' = W.heap.size) (hb : Below W.heap.size W W2) (h : Aside0 (w.heap[g]? = some o)) (k : w.heap[g]? = some o → W.heap[g]? = some o := by intro h_; (with_reducible repeat (first | refine blk_drewN ?_ _ | refine blk_drew ?_ | refine blk_alloc ?_ _)); exact h_) : Aside0 (g ≠ g') ∧ Aside0 (g' ≠ g) ∧ Aside0 (W2.heap[g]? = some o) := ⟨⟨by rw [hg]; exact Nat.ne_of_lt (blk_lt (k h.out))⟩, ⟨by rw [hg]; exact Nat.ne_of_gt (blk_lt (k h.out))⟩, ⟨blk_below (k h.out) hb⟩⟩
theorem ds {α : Type} {p : Prop} [Decidable p] {x : Option α} {r : α} (H : (if p then x else none) = some r) : decide p = true ∧ x = some r := by
  by_cases c : p
  · rw [if_pos c] at H
    exact ⟨decide_eq_true c, H⟩
  · rw [if_neg c] at H
    cases H
theorem nn {α : Type} {p G : Prop} [Decidable p] {x : Option α} {r : α} (c : ¬ p) (H : (if p then x else none) = some r) : G := by
  rw [if_neg c] at H
  cases H
theorem nge (hg : g = W.heap.size) (h : Below w.heap.size w W) : Aside0 (w.heap.size ≤ g) := ⟨by rw [hg]; exact below_size h⟩
theorem nlt (hg : g' = W.heap.size) (h : W.heap[g]? = some o) : Aside0 (g ≠ g') := ⟨by rw [hg]; exact Nat.ne_of_lt (blk_lt h)⟩
theorem b_ {cs : Array Value} {t : TypeId} (h : Aside0 (w.heap[g]? = some (.cells cs t (0, 0)))) (i : Nat) {v : Value} (e : cs[i]? = some v := by rfl) : w.cell? ⟨g, i, none⟩ = some v := (blk_cell h.out i).trans e
theorem gx {p : Prop} (h : p := by (try simp only [List.map_toArray, List.map_cons, List.map_nil]); first | done | rfl | (simp only [List.length_drop, List.length_take]; rfl)) : p := h
end
section
variable {w W : World} {g : Nat} {o : Obj} {t : TypeId}
theorem farA {g' j : Nat} {u : Value} (h : w.heap[g]? = some o) (hne : Aside0 (g ≠ g')) : (w.setCell ⟨g', j, none⟩ u).heap[g]? = some o := (Below.heap_setCell w ⟨g', j, none⟩ u g hne.out).trans h
theorem put2 {x0 x1 v0 v1 : Value} (h : w.heap[g]? = some (.cells #[x0, x1] t (0, 0))) : ((w.setCell ⟨g, 0, none⟩ v0).setCell ⟨g, 1, none⟩ v1).heap[g]? = some (.cells #[v0, v1] t (0, 0)) := blk_put (cs' := #[v0, v1]) (blk_put (cs' := #[v0, x1]) h 0 _ rfl) 1 _ rfl
theorem put3 {x0 x1 x2 v0 v1 v2 : Value} (h : w.heap[g]? = some (.cells #[x0, x1, x2] t (0, 0))) : (((w.setCell ⟨g, 0, none⟩ v0).setCell ⟨g, 1, none⟩ v1).setCell ⟨g, 2, none⟩ v2).heap[g]? = some (.cells #[v0, v1, v2] t (0, 0)) := blk_put (cs' := #[v0, v1, v2]) (blk_put (cs' := #[v0, v1, x2]) (blk_put (cs' := #[v0, x1, x2]) h 0 _ rfl) 1 _ rfl) 2 _ rfl
theorem put5 {x0 x1 x2 x3 x4 v0 v1 v2 v3 v4 : Value} (h : w.heap[g]? = some (.cells #[x0, x1, x2, x3, x4] t (0, 0))) : (((((w.setCell ⟨g, 0, none⟩ v0).setCell ⟨g, 1, none⟩ v1).setCell ⟨g, 2, none⟩ v2).setCell ⟨g, 3, none⟩ v3).setCell ⟨g, 4, none⟩ v4).heap[g]? = some (.cells #[v0, v1, v2, v3, v4] t (0, 0)) :=
  blk_put (cs' := #[v0, v1, v2, v3, v4]) (blk_put (cs' := #[v0, v1, v2, v3, x4]) (blk_put (cs' := #[v0, v1, v2, x3, x4]) (blk_put (cs' := #[v0, v1, x2, x3, x4]) (blk_put (cs' := #[v0, x1, x2, x3, x4]) h 0 _ rfl) 1 _ rfl) 2 _ rfl) 3 _ rfl) 4 _ rfl
theorem put7 {x0 x1 x2 x3 x4 x5 x6 v0 v1 v2 v3 v4 v5 v6 : Value} (h : w.heap[g]? = some (.cells #[x0, x1, x2, x3, x4, x5, x6] t (0, 0))) : (((((((w.setCell ⟨g, 0, none⟩ v0).setCell ⟨g, 1, none⟩ v1).setCell ⟨g, 2, none⟩ v2).setCell ⟨g, 3, none⟩ v3).setCell ⟨g, 4, none⟩ v4).setCell ⟨g, 5, none⟩ v5).setCell ⟨g, 6, none⟩ v6).heap[g]? = some (.cells #[v0, v1, v2, v3, v4, v5, v6] t (0, 0)) :=
  blk_put (cs' := #[v0, v1, v2, v3, v4, v5, v6]) (blk_put (cs' := #[v0, v1, v2, v3, v4, v5, x6]) (blk_put (cs' := #[v0, v1, v2, v3, v4, x5, x6]) (blk_put (cs' := #[v0, v1, v2, v3, x4, x5, x6]) (blk_put (cs' := #[v0, v1, v2, x3, x4, x5, x6]) (blk_put (cs' := #[v0, v1, x2, x3, x4, x5, x6]) (blk_put (cs' := #[v0, x1, x2, x3, x4, x5, x6]) h 0 _ rfl) 1 _ rfl) 2 _ rfl) 3 _ rfl) 4 _ rfl) 5 _ rfl) 6 _ rfl
theorem put9 {x0 x1 x2 x3 x4 x5 x6 x7 x8 v0 v1 v2 v3 v4 v5 v6 v7 v8 : Value} (h : w.heap[g]? = some (.cells #[x0, x1, x2, x3, x4, x5, x6, x7, x8] t (0, 0))) : (((((((((w.setCell ⟨g, 0, none⟩ v0).setCell ⟨g, 1, none⟩ v1).setCell ⟨g, 2, none⟩ v2).setCell ⟨g, 3, none⟩ v3).setCell ⟨g, 4, none⟩ v4).setCell ⟨g, 5, none⟩ v5).setCell ⟨g, 6, none⟩ v6).setCell ⟨g, 7, none⟩ v7).setCell ⟨g, 8, none⟩ v8).heap[g]? = some (.cells #[v0, v1, v2, v3, v4, v5, v6, v7, v8] t (0, 0)) := blk_put (cs' := #[v0, v1, v2, v3, v4, v5, v6, v7, v8]) (blk_put (cs' := #[v0, v1, v2, v3, v4, v5, v6, v7, x8]) (blk_put (cs' := #[v0, v1, v2, v3, v4, v5, v6, x7, x8]) (blk_put (cs' := #[v0, v1, v2, v3, v4, v5, x6, x7, x8]) (blk_put (cs' := #[v0, v1, v2, v3, v4, x5, x6, x7, x8]) (blk_put (cs' := #[v0, v1, v2, v3, x4, x5, x6, x7, x8]) (blk_put (cs' := #[v0, v1, v2, x3, x4, x5, x6, x7, x8]) (blk_put (cs' := #[v0, v1, x2, x3, x4, x5, x6, x7, x8]) (blk_put (cs' := #[v0, x1, x2, x3, x4, x5, x6, x7, x8]) h 0 _ rfl) 1 _ rfl) 2 _ rfl) 3 _ rfl) 4 _ rfl) 5 _ rfl) 6 _ rfl) 7 _ rfl) 8 _ rfl
theorem p90 {x0 x1 x2 x3 x4 x5 x6 x7 x8 u : Value} (h : w.heap[g]? = some (.cells #[x0, x1, x2, x3, x4, x5, x6, x7, x8] t (0, 0))) : (w.setCell ⟨g, 0, none⟩ u).heap[g]? = some (.cells #[u, x1, x2, x3, x4, x5, x6, x7, x8] t (0, 0)) := blk_put h 0 u rfl
theorem p91 {x0 x1 x2 x3 x4 x5 x6 x7 x8 u : Value} (h : w.heap[g]? = some (.cells #[x0, x1, x2, x3, x4, x5, x6, x7, x8] t (0, 0))) : (w.setCell ⟨g, 1, none⟩ u).heap[g]? = some (.cells #[x0, u, x2, x3, x4, x5, x6, x7, x8] t (0, 0)) := blk_put h 1 u rfl
theorem p92 {x0 x1 x2 x3 x4 x5 x6 x7 x8 u : Value} (h : w.heap[g]? = some (.cells #[x0, x1, x2, x3, x4, x5, x6, x7, x8] t (0, 0))) : (w.setCell ⟨g, 2, none⟩ u).heap[g]? = some (.cells #[x0, x1, u, x3, x4, x5, x6, x7, x8] t (0, 0)) := blk_put h 2 u rfl
theorem p93 {x0 x1 x2 x3 x4 x5 x6 x7 x8 u : Value} (h : w.heap[g]? = some (.cells #[x0, x1, x2, x3, x4, x5, x6, x7, x8] t (0, 0))) : (w.setCell ⟨g, 3, none⟩ u).heap[g]? = some (.cells #[x0, x1, x2, u, x4, x5, x6, x7, x8] t (0, 0)) := blk_put h 3 u rfl
theorem p94 {x0 x1 x2 x3 x4 x5 x6 x7 x8 u : Value} (h : w.heap[g]? = some (.cells #[x0, x1, x2, x3, x4, x5, x6, x7, x8] t (0, 0))) : (w.setCell ⟨g, 4, none⟩ u).heap[g]? = some (.cells #[x0, x1, x2, x3, u, x5, x6, x7, x8] t (0, 0)) := blk_put h 4 u rfl
theorem p95 {x0 x1 x2 x3 x4 x5 x6 x7 x8 u : Value} (h : w.heap[g]? = some (.cells #[x0, x1, x2, x3, x4, x5, x6, x7, x8] t (0, 0))) : (w.setCell ⟨g, 5, none⟩ u).heap[g]? = some (.cells #[x0, x1, x2, x3, x4, u, x6, x7, x8] t (0, 0)) := blk_put h 5 u rfl
theorem p96 {x0 x1 x2 x3 x4 x5 x6 x7 x8 u : Value} (h : w.heap[g]? = some (.cells #[x0, x1, x2, x3, x4, x5, x6, x7, x8] t (0, 0))) : (w.setCell ⟨g, 6, none⟩ u).heap[g]? = some (.cells #[x0, x1, x2, x3, x4, x5, u, x7, x8] t (0, 0)) := blk_put h 6 u rfl
theorem p97 {x0 x1 x2 x3 x4 x5 x6 x7 x8 u : Value} (h : w.heap[g]? = some (.cells #[x0, x1, x2, x3, x4, x5, x6, x7, x8] t (0, 0))) : (w.setCell ⟨g, 7, none⟩ u).heap[g]? = some (.cells #[x0, x1, x2, x3, x4, x5, x6, u, x8] t (0, 0)) := blk_put h 7 u rfl
theorem p98 {x0 x1 x2 x3 x4 x5 x6 x7 x8 u : Value} (h : w.heap[g]? = some (.cells #[x0, x1, x2, x3, x4, x5, x6, x7, x8] t (0, 0))) : (w.setCell ⟨g, 8, none⟩ u).heap[g]? = some (.cells #[x0, x1, x2, x3, x4, x5, x6, x7, u] t (0, 0)) := blk_put h 8 u rfl
theorem p20 {x0 x1 u : Value} (h : w.heap[g]? = some (.cells #[x0, x1] t (0, 0))) : (w.setCell ⟨g, 0, none⟩ u).heap[g]? = some (.cells #[u, x1] t (0, 0)) := blk_put h 0 u rfl
theorem p21 {x0 x1 u : Value} (h : w.heap[g]? = some (.cells #[x0, x1] t (0, 0))) : (w.setCell ⟨g, 1, none⟩ u).heap[g]? = some (.cells #[x0, u] t (0, 0)) := blk_put h 1 u rfl
theorem p30 {x0 x1 x2 u : Value} (h : w.heap[g]? = some (.cells #[x0, x1, x2] t (0, 0))) : (w.setCell ⟨g, 0, none⟩ u).heap[g]? = some (.cells #[u, x1, x2] t (0, 0)) := blk_put h 0 u rfl
theorem p31 {x0 x1 x2 u : Value} (h : w.heap[g]? = some (.cells #[x0, x1, x2] t (0, 0))) : (w.setCell ⟨g, 1, none⟩ u).heap[g]? = some (.cells #[x0, u, x2] t (0, 0)) := blk_put h 1 u rfl
theorem p32 {x0 x1 x2 u : Value} (h : w.heap[g]? = some (.cells #[x0, x1, x2] t (0, 0))) : (w.setCell ⟨g, 2, none⟩ u).heap[g]? = some (.cells #[x0, x1, u] t (0, 0)) := blk_put h 2 u rfl
theorem p50 {x0 x1 x2 x3 x4 u : Value} (h : w.heap[g]? = some (.cells #[x0, x1, x2, x3, x4] t (0, 0))) : (w.setCell ⟨g, 0, none⟩ u).heap[g]? = some (.cells #[u, x1, x2, x3, x4] t (0, 0)) := blk_put h 0 u rfl
theorem p51 {x0 x1 x2 x3 x4 u : Value} (h : w.heap[g]? = some (.cells #[x0, x1, x2, x3, x4] t (0, 0))) : (w.setCell ⟨g, 1, none⟩ u).heap[g]? = some (.cells #[x0, u, x2, x3, x4] t (0, 0)) := blk_put h 1 u rfl
theorem p52 {x0 x1 x2 x3 x4 u : Value} (h : w.heap[g]? = some (.cells #[x0, x1, x2, x3, x4] t (0, 0))) : (w.setCell ⟨g, 2, none⟩ u).heap[g]? = some (.cells #[x0, x1, u, x3, x4] t (0, 0)) := blk_put h 2 u rfl
theorem p53 {x0 x1 x2 x3 x4 u : Value} (h : w.heap[g]? = some (.cells #[x0, x1, x2, x3, x4] t (0, 0))) : (w.setCell ⟨g, 3, none⟩ u).heap[g]? = some (.cells #[x0, x1, x2, u, x4] t (0, 0)) := blk_put h 3 u rfl
theorem p54 {x0 x1 x2 x3 x4 u : Value} (h : w.heap[g]? = some (.cells #[x0, x1, x2, x3, x4] t (0, 0))) : (w.setCell ⟨g, 4, none⟩ u).heap[g]? = some (.cells #[x0, x1, x2, x3, u] t (0, 0)) := blk_put h 4 u rfl
theorem p70 {x0 x1 x2 x3 x4 x5 x6 u : Value} (h : w.heap[g]? = some (.cells #[x0, x1, x2, x3, x4, x5, x6] t (0, 0))) : (w.setCell ⟨g, 0, none⟩ u).heap[g]? = some (.cells #[u, x1, x2, x3, x4, x5, x6] t (0, 0)) := blk_put h 0 u rfl
theorem p71 {x0 x1 x2 x3 x4 x5 x6 u : Value} (h : w.heap[g]? = some (.cells #[x0, x1, x2, x3, x4, x5, x6] t (0, 0))) : (w.setCell ⟨g, 1, none⟩ u).heap[g]? = some (.cells #[x0, u, x2, x3, x4, x5, x6] t (0, 0)) := blk_put h 1 u rfl
theorem p72 {x0 x1 x2 x3 x4 x5 x6 u : Value} (h : w.heap[g]? = some (.cells #[x0, x1, x2, x3, x4, x5, x6] t (0, 0))) : (w.setCell ⟨g, 2, none⟩ u).heap[g]? = some (.cells #[x0, x1, u, x3, x4, x5, x6] t (0, 0)) := blk_put h 2 u rfl
theorem p73 {x0 x1 x2 x3 x4 x5 x6 u : Value} (h : w.heap[g]? = some (.cells #[x0, x1, x2, x3, x4, x5, x6] t (0, 0))) : (w.setCell ⟨g, 3, none⟩ u).heap[g]? = some (.cells #[x0, x1, x2, u, x4, x5, x6] t (0, 0)) := blk_put h 3 u rfl
theorem p74 {x0 x1 x2 x3 x4 x5 x6 u : Value} (h : w.heap[g]? = some (.cells #[x0, x1, x2, x3, x4, x5, x6] t (0, 0))) : (w.setCell ⟨g, 4, none⟩ u).heap[g]? = some (.cells #[x0, x1, x2, x3, u, x5, x6] t (0, 0)) := blk_put h 4 u rfl
theorem p75 {x0 x1 x2 x3 x4 x5 x6 u : Value} (h : w.heap[g]? = some (.cells #[x0, x1, x2, x3, x4, x5, x6] t (0, 0))) : (w.setCell ⟨g, 5, none⟩ u).heap[g]? = some (.cells #[x0, x1, x2, x3, x4, u, x6] t (0, 0)) := blk_put h 5 u rfl
theorem p76 {x0 x1 x2 x3 x4 x5 x6 u : Value} (h : w.heap[g]? = some (.cells #[x0, x1, x2, x3, x4, x5, x6] t (0, 0))) : (w.setCell ⟨g, 6, none⟩ u).heap[g]? = some (.cells #[x0, x1, x2, x3, x4, x5, u] t (0, 0)) := blk_put h 6 u rfl
theorem p10 {x0 u : Value} (h : w.heap[g]? = some (.cells #[x0] t (0, 0))) : (w.setCell ⟨g, 0, none⟩ u).heap[g]? = some (.cells #[u] t (0, 0)) := blk_put h 0 u rfl
theorem p40 {x0 x1 x2 x3 u : Value} (h : w.heap[g]? = some (.cells #[x0, x1, x2, x3] t (0, 0))) : (w.setCell ⟨g, 0, none⟩ u).heap[g]? = some (.cells #[u, x1, x2, x3] t (0, 0)) := blk_put h 0 u rfl
theorem p41 {x0 x1 x2 x3 u : Value} (h : w.heap[g]? = some (.cells #[x0, x1, x2, x3] t (0, 0))) : (w.setCell ⟨g, 1, none⟩ u).heap[g]? = some (.cells #[x0, u, x2, x3] t (0, 0)) := blk_put h 1 u rfl
theorem p42 {x0 x1 x2 x3 u : Value} (h : w.heap[g]? = some (.cells #[x0, x1, x2, x3] t (0, 0))) : (w.setCell ⟨g, 2, none⟩ u).heap[g]? = some (.cells #[x0, x1, u, x3] t (0, 0)) := blk_put h 2 u rfl
theorem p43 {x0 x1 x2 x3 u : Value} (h : w.heap[g]? = some (.cells #[x0, x1, x2, x3] t (0, 0))) : (w.setCell ⟨g, 3, none⟩ u).heap[g]? = some (.cells #[x0, x1, x2, u] t (0, 0)) := blk_put h 3 u rfl
theorem p60 {x0 x1 x2 x3 x4 x5 u : Value} (h : w.heap[g]? = some (.cells #[x0, x1, x2, x3, x4, x5] t (0, 0))) : (w.setCell ⟨g, 0, none⟩ u).heap[g]? = some (.cells #[u, x1, x2, x3, x4, x5] t (0, 0)) := blk_put h 0 u rfl
theorem p61 {x0 x1 x2 x3 x4 x5 u : Value} (h : w.heap[g]? = some (.cells #[x0, x1, x2, x3, x4, x5] t (0, 0))) : (w.setCell ⟨g, 1, none⟩ u).heap[g]? = some (.cells #[x0, u, x2, x3, x4, x5] t (0, 0)) := blk_put h 1 u rfl
theorem p62 {x0 x1 x2 x3 x4 x5 u : Value} (h : w.heap[g]? = some (.cells #[x0, x1, x2, x3, x4, x5] t (0, 0))) : (w.setCell ⟨g, 2, none⟩ u).heap[g]? = some (.cells #[x0, x1, u, x3, x4, x5] t (0, 0)) := blk_put h 2 u rfl
theorem p63 {x0 x1 x2 x3 x4 x5 u : Value} (h : w.heap[g]? = some (.cells #[x0, x1, x2, x3, x4, x5] t (0, 0))) : (w.setCell ⟨g, 3, none⟩ u).heap[g]? = some (.cells #[x0, x1, x2, u, x4, x5] t (0, 0)) := blk_put h 3 u rfl
theorem p64 {x0 x1 x2 x3 x4 x5 u : Value} (h : w.heap[g]? = some (.cells #[x0, x1, x2, x3, x4, x5] t (0, 0))) : (w.setCell ⟨g, 4, none⟩ u).heap[g]? = some (.cells #[x0, x1, x2, x3, u, x5] t (0, 0)) := blk_put h 4 u rfl
theorem p65 {x0 x1 x2 x3 x4 x5 u : Value} (h : w.heap[g]? = some (.cells #[x0, x1, x2, x3, x4, x5] t (0, 0))) : (w.setCell ⟨g, 5, none⟩ u).heap[g]? = some (.cells #[x0, x1, x2, x3, x4, u] t (0, 0)) := blk_put h 5 u rfl
/-- A block's cells behind stores, draws and new blocks. -/
theorem sv_ {o' : Obj} (h : Aside0 (w.heap[g]? = some o)) (k : w.heap[g]? = some o → W.heap[g]? = some o' := by intro h_; repeat (first | (with_reducible exact h_) | (with_reducible first | refine blk_drewN ?_ _ | refine blk_drew ?_ | refine blk_alloc ?_ _) | (refine My.farA ?_ (by assumption)) | (with_reducible first | apply My.put9 | apply My.put7 | apply My.put5 | apply My.put3 | apply My.put2 | apply My.p20 | apply My.p21 | apply My.p30 | apply My.p31 | apply My.p32 | apply My.p50 | apply My.p51 | apply My.p52 | apply My.p53 | apply My.p54 | apply My.p70 | apply My.p71 | apply My.p72 | apply My.p73 | apply My.p74 | apply My.p75 | apply My.p76 | apply My.p10 | apply My.p40 | apply My.p41 | apply My.p42 | apply My.p43 | apply My.p60 | apply My.p61 | apply My.p62 | apply My.p63 | apply My.p64 | apply My.p65 | apply My.p90 | apply My.p91 | apply My.p92 | apply My.p93 | apply My.p94 | apply My.p95 | apply My.p96 | apply My.p97 | apply My.p98))) : W.heap[g]? = some o' := k h.out
theorem up1 {a : Addr} {v : Value} (hb : Aside0 (Below w.heap.size w W)) (h : w.cell? a = some v) : W.cell? a = some v := (hb.out.cell (World.block_lt_of_cell? w _ h)).trans h
theorem up3 {A : Option Addr} {p0 p1 p2 : Addr → Addr} {v0 v1 v2 : Value} (hb : Aside0 (Below w.heap.size w W)) (h : ∃ ad, A = some ad ∧ w.cell? (p0 ad) = some v0 ∧ w.cell? (p1 ad) = some v1 ∧ w.cell? (p2 ad) = some v2) : ∃ ad, A = some ad ∧ W.cell? (p0 ad) = some v0 ∧ W.cell? (p1 ad) = some v1 ∧ W.cell? (p2 ad) = some v2 := by
  obtain ⟨ad, e, h0, h1, h2⟩ := h
  exact ⟨ad, e, up1 hb h0, up1 hb h1, up1 hb h2⟩
theorem up {W1 : World} {a : Addr} {v : Value} (hb : Aside0 (Below w.heap.size w W)) (h : w.cell? a = some v) (k : W.cell? a = some v → W1.cell? a = some v := by intro h_; exact h_) : W1.cell? a = some v := k ((hb.out.cell (World.block_lt_of_cell? w _ h)).trans h)
theorem as_ {p : Prop} [Decidable p] (h : decide p = true := by first | (with_reducible assumption) | assumption) : p := of_decide_eq_true h
theorem r1 {p : Prop} (h : p := by first | rfl | (simp; done) | (simp [*]; done)) : p := h
theorem r2 {p : Prop} (h : p := by first | rfl | (simp [errW_none, errW_some] <;> rfl) | (simp [*, errW_none, errW_some] <;> rfl)) : p := h
theorem r3 {p : Prop} (h : p := by first | exact Kd.R_nil _ _ _ _ _ | exact Kd.N_nil _ _ _ _ _ | exact Kd.V_nil _ _ _ _ _ | exact Kd.Q_nil _ _ _ _ _ | exact Kd.S_nil _ _ _ _ _) : p := h
theorem r4 {p : Prop} (h : p := by first | omega | exact Nat.le_refl _) : p := h
end
def Mb (n m : Nat) : Array Bool := ⟨(List.range n).map fun i => m.testBit i⟩
section
variable {P : Program} {ops : Array Oper} {Q : Exit → Act → World → Prop} {md : Region.Mode} {S : World → Prop} {ds : List Nat} {T : Bool × List (List Nat × List Nat)}
theorem pv_ {oi : Oper} {v : Value} {fuel : Nat} {l : Array Bool} {a : Act} {w : World} (i N n m : Nat) (hT : rtab md ops = T) {a' : Act} (h : wpAnyLast P md ops Q S ds fuel (Mb n m) a' w)
    (hi : ops[i]? = some oi := by rfl) (hN : oi.dst = some N := by rfl) (hc : anyT T l.toList (Mb n m).toList i = true := by kernel_rfl) (hQ : ∀ c a w, Q (.panic c) (a.put oi.dst v) w → Q (.panic c) a w := by exact fun _ _ _ h => h)
    (hw : Region.wanted oi (yielded ops a.tmps) = true := by rfl) (hy : ∀ w, (execOp a.eval oi).run P w = .ok (.value v) w := by intro w'; go_simp; with_reducible rfl)
    (ha : a.put (some N) v = a' := by simp only [Act.put, List.setIfInBounds_toArray, List.set_cons_zero, List.set_cons_succ, i64_w, i32_w]; rfl) : wpAnyLast P md ops Q S ds (fuel + 1) l a w :=
  pure_ (Mb n m) hi hN (any_of hT hc) hQ (Or.inl ⟨hw, hy⟩) ha h
theorem pw_ {oi : Oper} {fuel : Nat} {l : Array Bool} {a : Act} {w : World} (i N n m : Nat) (hT : rtab md ops = T) {a' : Act} (h : wpAnyLast P md ops Q S ds fuel (Mb n m) a' w)
    (hi : ops[i]? = some oi := by rfl) (hN : oi.dst = some N := by rfl) (hc : anyT T l.toList (Mb n m).toList i = true := by kernel_rfl) (hQ : ∀ c a w, Q (.panic c) (a.put oi.dst undef) w → Q (.panic c) a w := by exact fun _ _ _ h => h)
    (hw : Region.wanted oi (yielded ops a.tmps) = false := by rfl)
    (ha : a.put (some N) undef = a' := by simp only [Act.put, List.setIfInBounds_toArray, List.set_cons_zero, List.set_cons_succ, i64_w, i32_w]; rfl) : wpAnyLast P md ops Q S ds (fuel + 1) l a w :=
  pure_ (v := undef) (Mb n m) hi hN (any_of hT hc) hQ (Or.inr ⟨hw, rfl⟩) ha h
theorem tv_ {B : List Nat} {oi : Oper} {v : Value} {fuel : Nat} {l : Array Bool} {a : Act} {w : World} (i N n m : Nat) (hT : rtab md ops = T) (hB : waitsOk T.2 B = true) (hS : S w) (hi : ops[i]? = some oi) (hN : oi.dst = some N) (hy : ∀ w, S w → (execOp a.eval oi).run P w = .ok (.value v) w) {a' : Act} (h : wpAnyLast P md ops Q S ds fuel (Mb n m) a' w)
    (hc : takeW T B ds l.toList (Mb n m).toList i = true := by kernel_rfl) (hQ : ∀ c a w, Q (.panic c) (a.put oi.dst v) w → Q (.panic c) a w := by exact fun _ _ _ h => h)
    (hw : Region.wanted oi (yielded ops a.tmps) = true := by rfl)
    (ha : a.put (some N) v = a' := by simp only [Act.put, List.setIfInBounds_toArray, List.set_cons_zero, List.set_cons_succ, i64_w, i32_w]; rfl) : wpAnyLast P md ops Q S ds (fuel + 1) l a w :=
  take_ (Mb n m) hi hN (take_ofW hT hB hc) hQ (Or.inl ⟨hw, hy⟩) hS ha h
end
section
variable {P : Program} {ops : Array Oper} {Q : Exit → Act → World → Prop} {rest : List Oper} {o : Oper} {a : Act} {W : World}
theorem bx (N : Tmp) (cs : Array Value) (t : TypeId) (h : ∀ g, g = W.heap.size → ∀ w1, w1.heap[g]? = some (.cells cs t (0, 0)) → Below W.heap.size W w1 → wpList P ops Q rest (a.put o.dst (.pointer (some ⟨g, 0, none⟩))) w1)
    (hg : o.guard = none := by rfl) (hd : o.dst = some N := by rfl) (hr : (execOp a.eval o).run P W = .ok (.value (.pointer (some ⟨W.heap.size, 0, none⟩))) (W.alloc (.cells cs t (0, 0))) := by first | (go_simp; done) | (go_simp; rfl)) : wpList P ops Q (o :: rest) a W :=
  box_event hg hd hr h
end
section
variable {w : World} {g : Nat} {t : TypeId} {a0 a1 a2 a3 a4 a5 a6 a7 : Value}
theorem cz1 (h : Aside0 (w.heap[g]? = some (.cells #[a0] t (0, 0)))) : w.cell? ⟨g, 0, none⟩ = some a0 ∧ ∀ i, w.frozen? ⟨g, i, none⟩ = false := ⟨b_ h 0, fun i => blk_frozen h.out i⟩
theorem cz2 (h : Aside0 (w.heap[g]? = some (.cells #[a0, a1] t (0, 0)))) : w.cell? ⟨g, 0, none⟩ = some a0 ∧ w.cell? ⟨g, 1, none⟩ = some a1 ∧ ∀ i, w.frozen? ⟨g, i, none⟩ = false := ⟨b_ h 0, b_ h 1, fun i => blk_frozen h.out i⟩
theorem cz3 (h : Aside0 (w.heap[g]? = some (.cells #[a0, a1, a2] t (0, 0)))) : w.cell? ⟨g, 0, none⟩ = some a0 ∧ w.cell? ⟨g, 1, none⟩ = some a1 ∧ w.cell? ⟨g, 2, none⟩ = some a2 ∧ ∀ i, w.frozen? ⟨g, i, none⟩ = false := ⟨b_ h 0, b_ h 1, b_ h 2, fun i => blk_frozen h.out i⟩
end
/-- Draws and new blocks ahead of a row's relation. -/
theorem dr {P Q : Prop} (x : P) (y : P → Q := by intro h_; (with_reducible repeat (first | apply Kd.R_alloc | apply Kd.R_drewN | apply Kd.R_drew)); exact h_) : Q := y x
/-! third packing -/
section
variable {α : Type} {d : Kd α} {e base : Nat} {ok : Nat → Prop} {w W : World} {v : Value} {xs : List α}
theorem dR (x : d.R e w base ok v xs) (k : d.R e w base ok v xs → d.R e W base ok v xs := by intro h_; (with_reducible repeat (first | apply Kd.R_alloc | apply Kd.R_drewN | apply Kd.R_drew)); exact h_) : d.R e W base ok v xs := k x
end
section
variable {w : World} {a : Addr} {g i0 i1 i2 i3 i4 i5 i6 : Nat} {u0 u1 u2 u3 u4 u5 u6 v : Value}
theorem c2 {r : Option Value} (h : a.block ≠ g) (e : w.cell? a = r) : ((w.setCell ⟨g, i0, none⟩ u0).setCell ⟨g, i1, none⟩ u1).cell? a = r := (cell_far (p := ⟨g, i1, none⟩) h _).trans ((cell_far (p := ⟨g, i0, none⟩) h _).trans e)
theorem c3 {r : Option Value} (h : a.block ≠ g) (e : w.cell? a = r) : (((w.setCell ⟨g, i0, none⟩ u0).setCell ⟨g, i1, none⟩ u1).setCell ⟨g, i2, none⟩ u2).cell? a = r := (cell_far (p := ⟨g, i2, none⟩) h _).trans (c2 h e)
theorem c5 {r : Option Value} (h : a.block ≠ g) (e : w.cell? a = r) : (((((w.setCell ⟨g, i0, none⟩ u0).setCell ⟨g, i1, none⟩ u1).setCell ⟨g, i2, none⟩ u2).setCell ⟨g, i3, none⟩ u3).setCell ⟨g, i4, none⟩ u4).cell? a = r := (cell_far (p := ⟨g, i4, none⟩) h _).trans ((cell_far (p := ⟨g, i3, none⟩) h _).trans (c3 h e))
theorem c7 {r : Option Value} (h : a.block ≠ g) (e : w.cell? a = r) : (((((((w.setCell ⟨g, i0, none⟩ u0).setCell ⟨g, i1, none⟩ u1).setCell ⟨g, i2, none⟩ u2).setCell ⟨g, i3, none⟩ u3).setCell ⟨g, i4, none⟩ u4).setCell ⟨g, i5, none⟩ u5).setCell ⟨g, i6, none⟩ u6).cell? a = r := (cell_far (p := ⟨g, i6, none⟩) h _).trans ((cell_far (p := ⟨g, i5, none⟩) h _).trans (c5 h e))
end
section
variable {P : Program} {ops : Array Oper} {Q : Exit → Act → World → Prop} {md : Region.Mode} {S : World → Prop} {ds : List Nat}
theorem nm {fuel : Nat} {l : Array Bool} {d : Option Tmp} {v : Value} {a a' : Act} {w : World} (N : Nat) (h : wpAnyLast P md ops Q S ds fuel l a' w) (hd : d = some N := by rfl) (ha : a.put (some N) v = a' := by simp only [Act.put, List.setIfInBounds_toArray, List.set_cons_zero, List.set_cons_succ, i64_w, i32_w]; rfl) : wpAnyLast P md ops Q S ds fuel l (a.put d v) w := norm_ (hd ▸ ha) h
end
end Go.Proofs.YtkcpgaplpmbmoaaGreat.My
