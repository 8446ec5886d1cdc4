/- Laws of this session's own: a range over a function, for one loop at a time (the iterator may write a variable of the caller's). -/
import Derived.Test.YtkcpgaplpmbmoaaGreatMy
import Derived.Test.YtkcpgaplpmbmoaaGreatSl
import Derived.RangeFuncNested
import Derived.RangeFuncBound
import Derived.RangeFuncCalls
import Derived.RangeFuncLeaves
import Derived.Shelf.Abstract
import Derived.Shelf.RegionOpen
import Derived.WalkKit
import Derived.OwnWalkIn
import Derived.TacticsInMore
import Derived.LoopNIn
import Derived.LoopIn
import Derived.Sort.LoopGhostIn
namespace Go.Proofs.YtkcpgaplpmbmoaaGreat.My
open Go.RowKit Go.Shelf
set_option linter.unusedVariables false
variable {F : Fence} {n m : Nat} {P : Program}
/-- The record of a loop over a function, as it stands between two rounds, within one, behind the last. -/
def loopRec (fn : FuncId) (tmps : Array Value) (ps : Array Tmp) (assign body : Code) (D : Nat) (st : LoopState) (pe : Option Code) : Obj :=
  .loop { state := st, pending := pe, fn := fn, tmps := tmps, params := ps, assign := assign, body := body, defers := D }
theorem range_wp {g : Operand} {ps : Array Tmp} {assign body : Code} {Q : Exit → Act → World → Prop} {a : Act} {w : World}
    (hro : F.round = none) (h1 : 1 ≤ n) {gf : Nat} {lb : Array Value} (hg : a.eval g = .func (.func gf) #[] lb) (hFg : F.fn gf) (eg : ∀ args w, (callFunc gf args).run P w = .ok (.enter gf args) w)
    (Fin : Option Code → World → Prop)
    (H : ∀ fn, F.fn fn → ∀ rec : LoopState → Option Code → Obj, rec = loopRec fn a.tmps ps assign body w.heap.size → ∀ W0, W0 = (w.alloc (.deferred (some []))).alloc (rec .ready none) → W0.heap[w.heap.size + 1]? = some (rec .ready none) → W0.heap[w.heap.size]? = some (.deferred (some [])) →
      CallsIn F (n - 1) P gf (#[.func (.yield (w.heap.size + 1)) #[] #[]] ++ lb) W0 fun e W => (∃ v, e = .returned v) ∧ W.heap[w.heap.size]? = some (.deferred (some [])) ∧
        ((W.heap[w.heap.size + 1]? = some (rec .ready none) ∧ Fin none W) ∨ ∃ c, W.heap[w.heap.size + 1]? = some (rec .done (some c)) ∧ Fin (some c) W))
    (hdone : ∀ W o, W.heap[w.heap.size]? = some (.deferred (some [])) → w.heap.size + 1 < W.heap.size → Fin none W → Q .normal { a with defers := { target := .collected w.heap.size, args := #[] } :: a.defers } (W.putObj (w.heap.size + 1) o))
    (hstop : ∀ c W o, W.heap[w.heap.size]? = some (.deferred (some [])) → w.heap.size + 1 < W.heap.size → Fin (some c) W → c.wpIn F n P Q { a with defers := { target := .collected w.heap.size, args := #[] } :: a.defers } (W.putObj (w.heap.size + 1) o)) :
    (Code.rangeFunc g ps assign body).wpIn F n P Q a w := by
  refine wpIn_rangeFunc ?_
  intro fn hfn
  rw [hro]
  have hL1 : ((w.alloc (.deferred (some []))).alloc (loopRec fn a.tmps ps assign body w.heap.size .ready none)).heap[w.heap.size + 1]? = some (loopRec fn a.tmps ps assign body w.heap.size .ready none) := by
    have := World.alloc_heap_new (w.alloc (.deferred (some []))) (loopRec fn a.tmps ps assign body w.heap.size .ready none)
    rwa [World.size_alloc] at this
  have hK1 : ((w.alloc (.deferred (some []))).alloc (loopRec fn a.tmps ps assign body w.heap.size .ready none)).heap[w.heap.size]? = some (.deferred (some [])) :=
    (Below.heap_alloc _ _ _ (by simp)).trans (World.alloc_heap_new w _)
  obtain ⟨W1, hW1⟩ : ∃ W1, (w.alloc (.deferred (some []))).alloc (loopRec fn a.tmps ps assign body w.heap.size .ready none) = W1 := ⟨_, rfl⟩
  rw [hW1] at hL1 hK1
  refine ⟨w.heap.size + 1, [{ target := .collected w.heap.size, args := #[] }], W1, { target := .fn (.func gf) lb, args := #[.func (.yield (w.heap.size + 1)) #[] #[]] }, W1, gf,
    #[.func (.yield (w.heap.size + 1)) #[] #[]] ++ lb, W1, ?_, ?_, ?_, ?_, fun _ => h1, ?_⟩
  · rw [← hW1]
    exact run_enterLoop_outer _ _ _ _ _
  · simp only [resolve, hg]
    simp [go_sem]
  · intro f' hf'
    simp [Target.leads] at hf'
    subst hf'
    exact hFg
  · simp [invoke, go_sem, eg]
  · refine (H fn hfn _ rfl W1 hW1.symm hL1 hK1).mono ?_
    rintro e W ⟨⟨v, rfl⟩, hk, (⟨hl, hf⟩ | ⟨c, hl, hf⟩)⟩
    · exact ⟨none, _, run_endLoop hl (by simp), hdone _ _ hk (Array.getElem?_eq_some_iff.1 hl).1 hf⟩
    · exact ⟨some c, _, run_endLoop hl (by simp), hstop c _ _ hk (Array.getElem?_eq_some_iff.1 hl).1 hf⟩
/-- How a round's body is left. -/
def roundEnd (rec : LoopState → Option Code → Obj) (l : Nat) (R : Option Code → World → Prop) : Exit → Act → World → Prop
  | .normal, _, W => W.heap[l]? = some (rec .busy none) ∧ R none (W.putObj l (rec .ready none))
  | .ret, _, W => W.heap[l]? = some (rec .busy none) ∧ R (some .ret) (W.putObj l (rec .done (some .ret)))
  | .exit id, _, W => W.heap[l]? = some (rec .busy none) ∧ R (some (.exit id)) (W.putObj l (rec .done (some (.exit id))))
  | _, _, _ => False
theorem yield_wp {l : Nat} {fn : FuncId} (hfn : F.fn fn) {tmps : Array Value} {ps : Array Tmp} {assign body : Code} {D : Nat} {W : World} {rec : LoopState → Option Code → Obj} (hrec : rec = loopRec fn tmps ps assign body D) (hl : W.heap[l]? = some (rec .ready none))
    {vals : Array Value} (hs : vals.size = ps.size) (a1 : Act) (R : Option Code → World → Prop)
    (hassign : ∀ K : Act → World → Prop, K a1 W → assign.wpIn (F.inRound l) m P (Exit.then K (fun _ _ _ => False)) { tmps := (ps.zip vals).foldl (fun t (p, v) => t.setIfInBounds p v) tmps, defers := [] } W)
    (hbody : body.wpIn (F.inRound l) m P (roundEnd rec l R) a1 (W.putObj l (rec .busy none))) :
    YieldAt F m P l vals W fun e W' => (e = .returned (.bool true) ∧ R none W') ∨ (e = .returned (.bool false) ∧ ∃ c, R (some c) W') := by
  subst hrec
  have hy := run_yield (P := P) (args := vals) hl hs
  refine ⟨fn, _, assign, body, hy, roundIn_of_wpIn hfn (hassign _ ⟨_, run_beginRound hl rfl, ?_⟩)⟩
  refine wpIn_mono hbody ?_
  rintro e a3 W3 hp
  cases e with
  | normal => exact ⟨_, _, run_endRound none hp.1, .inl ⟨rfl, hp.2⟩⟩
  | ret => exact ⟨_, _, run_endRound (some .ret) hp.1, .inr ⟨rfl, _, hp.2⟩⟩
  | exit id => exact ⟨_, _, run_endRound (some (.exit id)) hp.1, .inr ⟨rfl, _, hp.2⟩⟩
  | goto t => exact hp.elim
  | panic ch => exact hp.elim
  | outgrown => exact hp.elim
/-- The same where the assignment lays blocks (the loop's variable in memory). -/
theorem yield_wp2 {l : Nat} {fn : FuncId} (hfn : F.fn fn) {tmps : Array Value} {ps : Array Tmp} {assign body : Code} {D : Nat} {W W1 : World} {rec : LoopState → Option Code → Obj} (hrec : rec = loopRec fn tmps ps assign body D) (hl : W.heap[l]? = some (rec .ready none)) (hl1 : W1.heap[l]? = some (rec .ready none))
    {vals : Array Value} (hs : vals.size = ps.size) (a1 : Act) (R : Option Code → World → Prop)
    (hassign : ∀ K : Act → World → Prop, K a1 W1 → assign.wpIn (F.inRound l) m P (Exit.then K (fun _ _ _ => False)) { tmps := (ps.zip vals).foldl (fun t (p, v) => t.setIfInBounds p v) tmps, defers := [] } W)
    (hbody : body.wpIn (F.inRound l) m P (roundEnd rec l R) a1 (W1.putObj l (rec .busy none))) :
    YieldAt F m P l vals W fun e W' => (e = .returned (.bool true) ∧ R none W') ∨ (e = .returned (.bool false) ∧ ∃ c, R (some c) W') := by
  subst hrec
  have hy := run_yield (P := P) (args := vals) hl hs
  refine ⟨fn, _, assign, body, hy, roundIn_of_wpIn hfn (hassign _ ⟨_, run_beginRound hl1 rfl, ?_⟩)⟩
  refine wpIn_mono hbody ?_
  rintro e a3 W3 hp
  cases e with
  | normal => exact ⟨_, _, run_endRound none hp.1, .inl ⟨rfl, hp.2⟩⟩
  | ret => exact ⟨_, _, run_endRound (some .ret) hp.1, .inr ⟨rfl, _, hp.2⟩⟩
  | exit id => exact ⟨_, _, run_endRound (some (.exit id)) hp.1, .inr ⟨rfl, _, hp.2⟩⟩
  | goto t => exact hp.elim
  | panic ch => exact hp.elim
  | outgrown => exact hp.elim
end Go.Proofs.YtkcpgaplpmbmoaaGreat.My
