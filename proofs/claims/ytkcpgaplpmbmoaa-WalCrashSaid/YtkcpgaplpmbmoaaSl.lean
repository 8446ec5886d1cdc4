/- Laws of this session's own: copies of elements of any size; slices.Insert of one element into a row of the call's own. -/
import Derived.Test.YtkcpgaplpmbmoaaMy
import Derived.Test.YtkcpgaplpmbmoaaWMore
import Derived.Laws.CopyOwn
import Derived.Lib.AppendZerosOnto
import Derived.Lib.AppendZeros
import Derived.Lib.Overlaps
namespace Go.Proofs.Ytkcpgaplpmbmoaa.My
open Go.RowKit Go.Proofs.YtkcpgaplpmbmoaaW.PrintWords Go.Proofs.YtkcpgaplpmbmoaaW.PrintLast
set_option linter.unusedVariables false
set_option linter.unusedSimpArgs false
variable {P : Program}
theorem run_copy_k (w : World) (dT sT ty elem : TypeId) (g o dLen dCap : Nat) (a : Addr) (sLen sCap : Nat) (cur : Array Value) (t : TypeId) (cs : List Value) (k : Nat)
    (hu : P.underlying dT = some (.slice elem)) (hs : (P.info? elem).map (·.size) = some k) (hg : w.heap[g]? = some (.cells cur t (0, 0))) (hn : cs.length = Nat.min sLen dLen * k)
    (hsrc : ∀ j v, cs[j]? = some v → w.cell? (a.add j) = some v) (hfit : o + cs.length ≤ cur.size) (h1 : ∀ v ∈ cs, v.oneCell' = true) :
    (Builtin.copy_ #[dT, sT] ty #[.slice (some ⟨g, o, none⟩) dLen dCap, .slice (some a) sLen sCap]).run P w = .ok (goInt (Nat.min sLen dLen)) (w.setRow g (splice cur.toList o cs).toArray) := by
  have hl := run_loadCells_list (P := P) w a cs hsrc
  have hst := run_storeCells_at (P := P) g o t cs 0 cur w hg (by simpa using hfit) h1
  have hsp : (cur.toList.take (o + 0) ++ cs ++ cur.toList.drop (o + 0 + cs.length)) = splice cur.toList o cs := by simp [splice]
  rw [hsp] at hst
  cases hq : P.info? elem with
  | none => simp [hq] at hs
  | some i =>
    have hi : i.size = k := by simpa [hq] using hs
    simp [Builtin.copy_, run_underlying hu, Builtin.lenOf, Builtin.firstCells, sizeOf, typeInfo, hq, hi, ← hn, hl, hst]
theorem wp_copy_run (w : World) {o : Oper} {a : Act} {K : Act → World → Prop} {Q : Exit → Act → World → Prop} (d s : Operand) (t t' : TypeId)
    (ho : o.op = .call { callee := .builtin .copy, args := #[d, s], argTypes := #[t, t'] }) (v u : Value) (hd : a.eval d = v) (hs : a.eval s = u) {v' : Value} {w' : World}
    (hr : (Builtin.copy_ #[t, t'] o.type #[v, u]).run P w = .ok v' w') (h : K (a.put o.dst v') w') : o.wp P a w K Q := by
  unfold Oper.wp execOp
  simp only [ho, resolve, invoke, builtin, Sem.run_bind, Sem.run_pure, Result.andThen_ok, List.map_toArray, List.map_cons, List.map_nil, hd, hs, hr]
  exact h
theorem wpList_copy_k {w : World} {ops : Array Oper} {rest : List Oper} {o : Oper} {a : Act} {Q : Exit → Act → World → Prop} (hgd : o.guard = none) (d s : Operand) (dT sT : TypeId)
    (ho : o.op = .call { callee := .builtin .copy, args := #[d, s], argTypes := #[dT, sT] }) (elem : TypeId) (k : Nat) (hu : P.underlying dT = some (.slice elem)) (hsz : (P.info? elem).map (·.size) = some k)
    (g o' dLen dCap : Nat) (ad : Addr) (sLen sCap : Nat) (hd : a.eval d = .slice (some ⟨g, o', none⟩) dLen dCap) (hs : a.eval s = .slice (some ad) sLen sCap)
    (cur : Array Value) (t : TypeId) (hg : w.heap[g]? = some (.cells cur t (0, 0))) (cs : List Value) (hn : cs.length = Nat.min sLen dLen * k)
    (hsrc : ∀ j v, cs[j]? = some v → w.cell? (ad.add j) = some v) (hfit : o' + cs.length ≤ cur.size) (h1 : ∀ v ∈ cs, v.oneCell' = true)
    (h : ∀ w', w'.heap[g]? = some (.cells (splice cur.toList o' cs).toArray t (0, 0)) → w.grownBy w' (some g) → wpList P ops Q rest (a.put o.dst (goInt (Nat.min sLen dLen))) w') :
    wpList P ops Q (o :: rest) a w :=
  wpList_plain hgd fun _ hK => wp_copy_run w d s dT sT ho _ _ hd hs (run_copy_k w dT sT o.type elem g o' dLen dCap ad sLen sCap cur t cs k hu hsz hg hn hsrc hfit h1)
    (hK _ _ (h _ (setRow_heap w g cur _ t _ hg) ⟨rfl, rfl, rfl, by simp, fun j _ hk => setRow_other w g j _ (fun e => hk (by rw [e]))⟩))
theorem step_copy_k {ops : Array Oper} {o : Oper} {a : Act} {w : World} {K : Act → World → Prop} {Q : Exit → Act → World → Prop} {E : Prop} (hgd : o.guard = none) (d s : Operand) (dT sT : TypeId)
    (ho : o.op = .call { callee := .builtin .copy, args := #[d, s], argTypes := #[dT, sT] }) (elem : TypeId) (k : Nat) (hu : P.underlying dT = some (.slice elem)) (hsz : (P.info? elem).map (·.size) = some k)
    (g o' dLen dCap : Nat) (ad : Addr) (sLen sCap : Nat) (hd : a.eval d = .slice (some ⟨g, o', none⟩) dLen dCap) (hs : a.eval s = .slice (some ad) sLen sCap)
    (cur : Array Value) (t : TypeId) (hg : w.heap[g]? = some (.cells cur t (0, 0))) (cs : List Value) (hn : cs.length = Nat.min sLen dLen * k)
    (hsrc : ∀ j v, cs[j]? = some v → w.cell? (ad.add j) = some v) (hfit : o' + cs.length ≤ cur.size) (h1 : ∀ v ∈ cs, v.oneCell' = true)
    (h : ∀ w', w'.heap[g]? = some (.cells (splice cur.toList o' cs).toArray t (0, 0)) → w.grownBy w' (some g) → K (a.put o.dst (goInt (Nat.min sLen dLen))) w') :
    if Region.wanted o (yielded ops a.tmps) = true then Oper.wp P o a w K Q else E := by
  have hw : Region.wanted o (yielded ops a.tmps) = true := by simp [Region.wanted, hgd]
  rw [if_pos hw]
  exact wp_copy_run w d s dT sT ho _ _ hd hs (run_copy_k w dT sT o.type elem g o' dLen dCap ad sLen sCap cur t cs k hu hsz hg hn hsrc hfit h1)
    (h _ (setRow_heap w g cur _ t _ hg) ⟨rfl, rfl, rfl, by simp, fun j _ hk => setRow_other w g j _ (fun e => hk (by rw [e]))⟩)
theorem splice_len {α : Type} (L : List α) (off : Nat) (cs : List α) (h : off + cs.length ≤ L.length) : (splice L off cs).length = L.length := length_splice L off cs h
/-- What stands in a row after an insertion in place. -/
theorem ins_room {α : Type} (L : List α) (i n k : Nat) (vs : List α) (hv : vs.length = k) (hi : i ≤ n) (hL : (n + 1) * k ≤ L.length) :
    (splice (splice L ((i + 1) * k) ((L.drop (i * k)).take ((n - i) * k))) (i * k) vs).take ((n + 1) * k) = (L.take (n * k)).take (i * k) ++ vs ++ (L.take (n * k)).drop (i * k) := by
  have e1 : (i + 1) * k = i * k + k := by rw [Nat.add_mul, Nat.one_mul]
  have e2 : (n + 1) * k = n * k + k := by rw [Nat.add_mul, Nat.one_mul]
  have e3 : (n - i) * k = n * k - i * k := Nat.sub_mul n i k
  have e4 : i * k ≤ n * k := Nat.mul_le_mul_right k hi
  rw [e1, e3]
  rw [e2] at hL ⊢
  generalize i * k = a at *
  generalize n * k = b at *
  have hl : ((L.drop a).take (b - a)).length = b - a := by rw [List.length_take, List.length_drop]; omega
  apply List.ext_getElem?
  intro j
  unfold splice
  simp only [List.getElem?_take, List.getElem?_append, List.getElem?_drop, List.length_take, List.length_append, List.length_drop, hl, hv]
  repeat' split
  all_goals first | rfl | omega | (congr 1; omega) | (symm; apply List.getElem?_eq_none; omega) | (apply List.getElem?_eq_none; omega) | skip
theorem ins_grow {α : Type} (L cs : List α) (i n k : Nat) (vs : List α) (hv : vs.length = k) (hi : i ≤ n) (hL : (n + 1) * k ≤ L.length) (hc : cs.length = n * k) (hLc : L.take (i * k) = cs.take (i * k)) :
    (splice (splice L (i * k) vs) ((i + 1) * k) (cs.drop (i * k))).take ((n + 1) * k) = cs.take (i * k) ++ vs ++ cs.drop (i * k) := by
  have e1 : (i + 1) * k = i * k + k := by rw [Nat.add_mul, Nat.one_mul]
  have e2 : (n + 1) * k = n * k + k := by rw [Nat.add_mul, Nat.one_mul]
  have e4 : i * k ≤ n * k := Nat.mul_le_mul_right k hi
  rw [e1]
  rw [e2] at hL ⊢
  generalize i * k = a at *
  generalize n * k = b at *
  have h1 : splice L a vs = cs.take a ++ (vs ++ L.drop (a + k)) := by unfold splice; rw [hLc, hv]
  have hl1 : (cs.take a).length = a := by rw [List.length_take]; omega
  rw [h1]
  unfold splice
  have h2 : (cs.take a ++ (vs ++ L.drop (a + k))).take (a + k) = cs.take a ++ vs := by
    rw [← List.append_assoc, List.take_append_of_le_length (by rw [List.length_append]; omega), List.take_of_length_le (by rw [List.length_append]; omega)]
  rw [h2, ← List.append_assoc, List.take_append_of_le_length (by rw [List.length_append, List.length_append, List.length_drop]; omega), List.take_of_length_le (by rw [List.length_append, List.length_append, List.length_drop]; omega)]
theorem reps_cons {α : Type} {R : α → List Value → Prop} {ps : List α} {cs : List Value} {p : α} {v : Value} (hp : R p [v]) (h : Reps R 1 ps cs) : Reps R 1 (p :: ps) (v :: cs) := by
  refine ⟨by simp [h.1], fun j q hq => ?_⟩
  rcases j with _ | j
  · obtain rfl : p = q := by simpa using hq
    simpa using hp
  · have := h.2 j q (by simpa using hq)
    simpa using this
theorem reps_enc {α : Type} (enc : α → Value) (xs : List α) : ∀ cs : List Value, Reps (fun (x : α) cs => cs = [enc x]) 1 xs cs → cs = xs.map enc := by
  induction xs with
  | nil => intro cs h; exact List.eq_nil_of_length_eq_zero (by simpa using h.1)
  | cons x xs ih =>
    intro cs h
    rcases cs with _ | ⟨c, cs⟩
    · simp [Reps] at h
    · have h0 := h.2 0 x rfl
      simp at h0
      subst h0
      rw [List.map_cons, ih cs ⟨by have := h.1; simp at this ⊢; omega, fun j p hj => by have := h.2 (j + 1) p (by simpa using hj); simpa using this⟩]
theorem enc_reps {α : Type} (enc : α → Value) (xs : List α) : Reps (fun (x : α) cs => cs = [enc x]) 1 xs (xs.map enc) := by
  induction xs with
  | nil => exact Reps.none _ _
  | cons x xs ih =>
    exact reps_cons rfl ih
theorem gtrans {a b c : World} {row row' : Option Nat} (h : a.grownBy b row) (k : b.grownBy c row') (hr : ∀ j, row' = some j → a.heap.size ≤ j ∨ row = some j) : a.grownBy c row :=
  ⟨k.os.trans h.os, k.tape.trans h.tape, k.output.trans h.output, Nat.le_trans h.size k.size, fun j hj hn => (k.block j (Nat.lt_of_lt_of_le hj h.size) (fun e => by rcases hr j e.symm with q | q; omega; exact hn q.symm)).trans (h.block j hj hn)⟩
theorem gbut {a c : World} (h : a.grownBy c none) (row : Option Nat) : a.grownBy c row := ⟨h.os, h.tape, h.output, h.size, fun i hi _ => h.block i hi (by simp)⟩
theorem gset (w : World) (p : Addr) (u : Value) : w.grownBy (w.setCell p u) (some p.block) := ⟨rfl, rfl, rfl, by simp, fun k _ hk => Below.heap_setCell w p u k (fun e => hk (by rw [e]))⟩
theorem gdrew (w : World) (row : Option Nat) : w.grownBy w.drew row := ⟨rfl, rfl, rfl, Nat.le_refl _, fun _ _ _ => rfl⟩
theorem zc_size (z : Value) (m : Nat) : (Builtin.zeroCells z.cells m).size = m * z.cells.size := by
  unfold Builtin.zeroCells
  induction m with
  | zero => simp
  | succ m ih => simp [Nat.add_mul]
end Go.Proofs.Ytkcpgaplpmbmoaa.My
