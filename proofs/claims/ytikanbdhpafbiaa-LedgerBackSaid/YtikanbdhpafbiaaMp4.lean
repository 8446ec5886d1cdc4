/- Laws of this session's own: a map of the call's own from texts to four numbers, as a function. -/
import Derived.Test.YtikanbdhpafbiaaMy
import Derived.Maps.Views
import Derived.Maps.OwnSet
import Derived.StringKeys
namespace Go.Proofs.Ytikanbdhpafbiaa.My
open Go.RowKit Go.Maps
set_option linter.unusedVariables false
abbrev Q4 := Int × Int × Int × Int
def v4 (q : Q4) : Value := .agg #[.int .i64 q.1, .int .i64 q.2.1, .int .i64 q.2.2.1, .int .i64 q.2.2.2]
def d4 (q : Q4) : DataW Unit := .agg [.lit (.int .i64 q.1), .lit (.int .i64 q.2.1), .lit (.int .i64 q.2.2.1), .lit (.int .i64 q.2.2.2)]
def q4 (v : Value) : Option (DataW Unit × List MemPlace) :=
  match v with
  | .agg xs => (match xs.toList with
    | [.int .i64 a, .int .i64 b, .int .i64 c, .int .i64 d] => some (d4 (a, b, c, d), [])
    | _ => none)
  | _ => none
theorem q4_mk (q : Q4) : q4 (v4 q) = some (d4 q, []) := rfl
theorem d4_inj {p q : Q4} (h : d4 p = d4 q) : p = q := by
  obtain ⟨a, b, c, d⟩ := p
  obtain ⟨a', b', c', d'⟩ := q
  simp only [d4, DataW.agg.injEq, List.cons.injEq, DataW.lit.injEq, Lit.int.injEq, and_true, true_and] at h
  obtain ⟨rfl, rfl, rfl, rfl⟩ := h
  rfl
theorem q4_inv {v : Value} {q : Q4} {ps : List MemPlace} (h : q4 v = some (d4 q, ps)) : v = v4 q ∧ ps = [] := by
  unfold q4 at h
  split at h
  · rename_i xs
    split at h
    · rename_i a b c d hx
      simp only [Option.some.injEq, Prod.mk.injEq] at h
      obtain ⟨h1, h2⟩ := h
      obtain rfl := d4_inj h1
      refine ⟨?_, h2.symm⟩
      unfold v4
      rw [← hx]
    · cases h
  · cases h
/-- Block b is a map of at most n texts, whose four numbers f tells (0, 0, 0, 0 where there is none). -/
def MapFn (P : Program) (w : World) (k : TypeId) (b n : Nat) (f : ByteArray → Q4) : Prop :=
  ∃ D : DataW Unit, w.ownsMap P k q4 b n D ∧ ∀ s : ByteArray, s.size ≤ maxLen → D.atKey (.string s.data.toList) (d4 (0, 0, 0, 0)) = d4 (f s)
variable {P : Program} {w : World} {k b n : Nat} {f : ByteArray → Q4}
theorem MapFn.made (w : World) (P : Program) (k : TypeId) : MapFn P (w.alloc (.map #[] 0)) k w.heap.size 0 (fun _ => (0, 0, 0, 0)) := ⟨.map [], World.ownsMap_made w P k q4, fun s _ => rfl⟩
theorem MapFn.mono (h : MapFn P w k b n f) {n' : Nat} (hn : n ≤ n') : MapFn P w k b n' f := by
  obtain ⟨D, h1, h2⟩ := h
  exact ⟨D, h1.mono hn, h2⟩
theorem MapFn.lt (h : MapFn P w k b n f) : b < w.heap.size := by
  obtain ⟨D, h1, _⟩ := h
  exact h1.lt
theorem MapFn.kept {w' : World} {row : Option Nat} (h : MapFn P w k b n f) (hg : w.grownBy w' row) (hne : some b ≠ row) : MapFn P w' k b n f := by
  obtain ⟨D, h1, h2⟩ := h
  exact ⟨D, h1.kept hg hne, h2⟩
theorem MapFn.alloc (h : MapFn P w k b n f) (o : Obj) : MapFn P (w.alloc o) k b n f := h.kept (World.grownBy_alloc w o none) (by simp)
theorem MapFn.drew (h : MapFn P w k b n f) : MapFn P w.drew k b n f := h
theorem MapFn.setCell (h : MapFn P w k b n f) {a : Addr} (ha : b ≠ a.block) (u : Value) : MapFn P (w.setCell a u) k b n f := by
  obtain ⟨D, h1, h2⟩ := h
  exact ⟨D, h1.setCell ha u, h2⟩
theorem MapFn.lookup {t e : TypeId} (h : MapFn P w k b n f) (hk : P.underlying k = some .string) (ht : P.underlying t = some (.map k e)) (hz : (zeroValue e).run P w = .ok (v4 (0, 0, 0, 0)) w) {s : ByteArray} (hs : s.size ≤ maxLen) :
    (Instr.lookup t (.map (some b)) (.string s) false).run P w = .ok (v4 (f s)) w := by
  obtain ⟨D, h1, h2⟩ := h
  obtain ⟨v, ps, hr, hv⟩ := h1.lookup (string_keyed hk) ht hz (q4_mk _) (Go.WideMaps.keyOf_string_mk hk hs)
  rw [h2 s hs] at hv
  rw [hr, (q4_inv hv).1]
theorem MapFn.update {t e : TypeId} (h : MapFn P w k b n f) (hk : P.underlying k = some .string) (ht : P.underlying t = some (.map k e)) (hn : n < maxLen) {s : ByteArray} (hs : s.size ≤ maxLen) (q : Q4) :
    ∃ w', (Instr.mapUpdate t (.map (some b)) (.string s) (v4 q)).run P w = .ok () w' ∧ MapFn P w' k b (n + 1) (fun z => if z = s then q else f z) ∧ w.grownBy w' (some b) := by
  obtain ⟨D, h1, h2⟩ := h
  obtain ⟨w', r1, r2, r3⟩ := h1.update (string_keyed hk) ht hn (Go.WideMaps.keyOf_string_mk hk hs) (q4_mk q)
  refine ⟨w', r1, ⟨_, r2, fun z hz => ?_⟩, r3⟩
  by_cases c : z = s
  · subst c
    dsimp only
    rw [if_pos rfl, atKey_put_same h1.isMap (show WideAt.IsKeyLit (.string z.data.toList) from trivial)]
  · dsimp only
    rw [if_neg c, atKey_put_other (fun e => c ?_), h2 z hz]
    injection e with e
    exact ByteArray.ext (Array.toList_inj.1 e)
theorem wpList_mapUpdate_fn {ops : Array Oper} {rest : List Oper} {o : Oper} {a : Act} {Q : Exit → Act → World → Prop}
    (hg : o.guard = none) (m x v : Operand) (t e : TypeId) (hop : o.op = Op.mapUpdate t m x v) (hk : P.underlying k = some .string) (ht : P.underlying t = some (.map k e))
    (hm : a.eval m = .map (some b)) (h : MapFn P w k b n f) (hn : n < maxLen) (s : ByteArray) (q : Q4) (hx : a.eval x = .string s) (hv : a.eval v = v4 q) (hs : s.size ≤ maxLen)
    (hK : ∀ w', MapFn P w' k b (n + 1) (fun z => if z = s then q else f z) → w.grownBy w' (some b) → wpList P ops Q rest (a.put o.dst undef) w') :
    wpList P ops Q (o :: rest) a w := by
  refine wpList_plain hg fun K' hK' => ?_
  obtain ⟨w', hrun, r1, r2⟩ := h.update hk ht hn hs q
  unfold Oper.wp
  simp [execOp, hop, hm, hx, hv, hrun, Result.andThen]
  exact hK' _ _ (hK w' r1 r2)
end Go.Proofs.Ytikanbdhpafbiaa.My
