/- Laws of this session's own: the printed steps of a region that draws its order, told in short. -/
import Derived.Test.YtkcpgaplpmbmoaaGreatMy
import Derived.Test.YtkcpgaplpmbmoaaGreatWTab
import Derived.Test.YtkcpgaplpmbmoaaGreatWLast
namespace Go.Proofs.YtkcpgaplpmbmoaaGreat.My
open Go.RowKit Go.Proofs.YtkcpgaplpmbmoaaGreatW.PrintWords Go.Proofs.YtkcpgaplpmbmoaaGreatW.PrintLast
def Mk (n i : Nat) : Array Bool := ⟨List.replicate i true ++ List.replicate (n - i) false⟩
section
variable {P : Program} {ops : Array Oper} {Q : Exit → Act → World → Prop} {md : Region.Mode} {S : World → Prop} {ds : List Nat} {T : Bool × List (List Nat × List Nat)}
theorem pu_ {oi : Oper} {v : Value} {fuel : Nat} {l : Array Bool} {a : Act} {w : World} (i N n : Nat) (hT : rtab md ops = T) {a' : Act} (h : wpAnyLast P md ops Q S ds fuel (Mk n (i + 1)) a' w)
    (hi : ops[i]? = some oi := by rfl) (hN : oi.dst = some N := by rfl) (hc : anyT T l.toList (Mk n (i + 1)).toList i = true := by kernel_rfl) (hQ : ∀ c a w, Q (.panic c) (a.put oi.dst v) w → Q (.panic c) a w := by exact fun _ _ _ h => h)
    (hw : Region.wanted oi (yielded ops a.tmps) = true := by rfl) (hy : ∀ w, (execOp a.eval oi).run P w = .ok (.value v) w := by intro w'; go_simp; with_reducible rfl)
    (ha : a.put (some N) v = a' := by simp only [Act.put, List.setIfInBounds_toArray, List.set_cons_zero, List.set_cons_succ, i64_w, i32_w]; rfl) : wpAnyLast P md ops Q S ds (fuel + 1) l a w :=
  pure_ (Mk n (i + 1)) hi hN (any_of hT hc) hQ (Or.inl ⟨hw, hy⟩) ha h
theorem pn_ {oi : Oper} {fuel : Nat} {l : Array Bool} {a : Act} {w : World} (i N n : Nat) (hT : rtab md ops = T) {a' : Act} (h : wpAnyLast P md ops Q S ds fuel (Mk n (i + 1)) a' w)
    (hi : ops[i]? = some oi := by rfl) (hN : oi.dst = some N := by rfl) (hc : anyT T l.toList (Mk n (i + 1)).toList i = true := by kernel_rfl) (hQ : ∀ c a w, Q (.panic c) (a.put oi.dst undef) w → Q (.panic c) a w := by exact fun _ _ _ h => h)
    (hw : Region.wanted oi (yielded ops a.tmps) = false := by rfl)
    (ha : a.put (some N) undef = a' := by simp only [Act.put, List.setIfInBounds_toArray, List.set_cons_zero, List.set_cons_succ, i64_w, i32_w]; rfl) : wpAnyLast P md ops Q S ds (fuel + 1) l a w :=
  pure_ (v := undef) (Mk n (i + 1)) hi hN (any_of hT hc) hQ (Or.inr ⟨hw, rfl⟩) ha h
theorem ta_ {B : List Nat} {oi : Oper} {v : Value} {fuel : Nat} {l : Array Bool} {a : Act} {w : World} (i N n : Nat) (hT : rtab md ops = T) (hB : waitsOk T.2 B = true) (hS : S w) (hi : ops[i]? = some oi) (hN : oi.dst = some N) (hy : ∀ w, S w → (execOp a.eval oi).run P w = .ok (.value v) w) {a' : Act} (h : wpAnyLast P md ops Q S ds fuel (Mk n (i + 1)) a' w)
    (hc : takeW T B ds l.toList (Mk n (i + 1)).toList i = true := by kernel_rfl) (hQ : ∀ c a w, Q (.panic c) (a.put oi.dst v) w → Q (.panic c) a w := by exact fun _ _ _ h => h)
    (hw : Region.wanted oi (yielded ops a.tmps) = true := by rfl)
    (ha : a.put (some N) v = a' := by simp only [Act.put, List.setIfInBounds_toArray, List.set_cons_zero, List.set_cons_succ, i64_w, i32_w]; rfl) : wpAnyLast P md ops Q S ds (fuel + 1) l a w :=
  take_ (Mk n (i + 1)) hi hN (take_ofW hT hB hc) hQ (Or.inl ⟨hw, hy⟩) hS ha h
end
end Go.Proofs.YtkcpgaplpmbmoaaGreat.My
