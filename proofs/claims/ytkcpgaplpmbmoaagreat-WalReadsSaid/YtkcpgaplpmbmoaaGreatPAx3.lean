-- Written by a program of this session (wip/tools/mp.py over the kit's printer); Lean checks it.
import Derived.Test.YtkcpgaplpmbmoaaGreatPAx0
import Derived.Test.YtkcpgaplpmbmoaaGreatPAx2
namespace Go.Proofs.YtkcpgaplpmbmoaaGreat.PA
open Go.RowKit Go.Proofs.YtkcpgaplpmbmoaaGreatW.PrintWords Go.Proofs.YtkcpgaplpmbmoaaGreatW.PrintLast Go.Proofs.YtkcpgaplpmbmoaaGreatW.PrintMore
attribute [local go_sem] max2_int min2_int max_two min_two max_three min_three max_four min_four   -- for this text's walks alone
set_option linter.unusedVariables false
set_option maxHeartbeats 8000000
set_option maxRecDepth 100000
set_option linter.unusedSimpArgs false

/-! ### seal_Cut: function 40 -/
section
open Go.Shelf Go.Proofs.YtkcpgaplpmbmoaaGreat.My
def seal_Cut.l0 : Nat → ByteArray → Int → Int → List ByteArray → Option (List ByteArray × Int × Int)
 | 0, _, _, _, _ => none
 | k + 1, s, v, p, out => if p < (s.size : Int) then ((seal_Open.f k s p v).bind fun t => if t.2.2 = 0 then (if out.length < 8796093022208 then seal_Cut.l0 k s v t.2.1 (out ++ [t.1]) else none) else some (out, p, t.2.2)) else some (out, p, 0)
def seal_Cut.f (k : Nat) (s : ByteArray) (v : Int) : Option (List ByteArray × Int × Int) := if v < 0 then some ([], 0, 2) else if v > 255 then some ([], 0, 2) else seal_Cut.l0 k s v 0 []
theorem seal_Cut.mono_l : ∀ k s v p out, LeO (seal_Cut.l0 k s v p out) (seal_Cut.l0 (k + 1) s v p out)
 | 0 => fun _ _ _ _ r h => by simp [seal_Cut.l0] at h
 | k + 1 => fun s v p out => by
  rw [seal_Cut.l0, seal_Cut.l0]
  refine LeO.ite (LeO.bind (seal_Open.mono _ _ _ k) (fun _ => LeO.ite (LeO.ite (seal_Cut.mono_l k _ _ _ _) (LeO.refl _)) (LeO.refl _))) (LeO.refl _)
theorem seal_Cut.mono : ∀ a0 a1 k, LeO (seal_Cut.f k a0 a1) (seal_Cut.f (k + 1) a0 a1) := by
 intro a0 a1 k
 unfold seal_Cut.f
 exact LeO.ite (LeO.refl _) (LeO.ite (LeO.refl _) (seal_Cut.mono_l k _ _ _ _))
attribute [local go_sem] Oper.semAt_some
set_option maxHeartbeats 4000000 in
/-- The iterator, whatever the loop's round does with J. -/
theorem seal_frames_walk (n l bs bv bp bw : Nat) (s : ByteArray) (v : Int) (J : List ByteArray → Int → World → Prop)
  (hn : 1 ≤ n) (hJb : ∀ out a W W', J out a W → Below W.heap.size W W' → J out a W')
  (hJc : ∀ out a W, J out a W → W.cell? ⟨bs, 0, none⟩ = some (.string s) ∧ W.cell? ⟨bv, 0, none⟩ = some (.int .i64 v) ∧ W.cell? ⟨bp, 0, none⟩ = some (.pointer (some ⟨bw, 0, none⟩)) ∧ W.cell? ⟨bw, 0, none⟩ = some (.int .i64 0) ∧ W.frozen? ⟨bw, 0, none⟩ = false)
  (hY : ∀ out a W body q, J out a W → out.length < 8796093022208 → YieldAt Fence.wide (n - 1) Tryz.prog l #[.string body, .int .i64 q] W fun e W' => e = .returned (.bool true) ∧ J (out ++ [body]) q W')
  (k : Nat) (r : List ByteArray × Int × Int) (h : seal_Cut.l0 k s v 0 [] = some r) (W : World) (hJ : J [] 0 W) :
  CallsIn Fence.wide n Tryz.prog 81 #[.func (.yield l) #[] #[], .pointer (some ⟨bs, 0, none⟩), .pointer (some ⟨bv, 0, none⟩), .pointer (some ⟨bp, 0, none⟩)] W fun e W' => (∃ u, e = .returned u) ∧
   ∃ W1, J r.1 r.2.1 W1 ∧ ((r.2.2 = 0 ∧ W' = W1) ∨ W' = W1.setCell ⟨bw, 0, none⟩ (.int .i64 r.2.2)) := by
 have H0 := My.am h
 have HJ := My.am hJ
 have HJb := My.am hJb
 have HJc := My.am hJc
 have HY := My.am hY
 clear h hJ hJb hJc hY
 refine callsIn_of_wp Tryz.func81 rfl trivial ?_ rfl
 simp only [Tryz.ntmps81, List.size_toArray, List.length_cons, List.length_nil, Nat.reduceAdd, Nat.reduceSub, Array.replicate_succ, Array.replicate_zero, List.push_toArray, List.append_toArray, List.nil_append, List.cons_append]
 gi_wp2
 gi_loopg [5] k (fun kq v5 wr => ∃ (p : Int) (out : List ByteArray), v5 = .int .i64 p ∧ Aside0 (seal_Cut.l0 kq s v p out = some r) ∧ Aside0 (J out p wr))
 case atStart => exact ⟨0, [], rfl, H0, HJ⟩
 case round =>
  obtain ⟨p, out, rfl, HA, HJ1⟩ := hrel
  clear H0 HJ
  cases gk with
  | zero => exact absurd HA.out (by simp [seal_Cut.l0])
  | succ k1 =>
   have H := HA.out
   clear HA
   simp only [seal_Cut.l0] at H
   obtain ⟨f1, f2, f3, f4, f5⟩ := HJc.out _ _ _ HJ1.out
   by_cases c1 : p < (s.size : Int)
   rotate_left
   ·rw [if_neg c1] at H
    have c1b : decide (p < (s.size : Int)) = false := decide_eq_false c1
    obtain rfl := Option.some.inj H
    clear H c1
    gi_wp2
    go_end0
    exact ⟨⟨_, rfl⟩, _, HJ1.out, .inl rfl⟩
   rw [if_pos c1] at H
   have c1b : decide (p < (s.size : Int)) = true := decide_eq_true c1
   obtain ⟨⟨b, q, e⟩, ho, H2⟩ := Option.bind_eq_some_iff.1 H
   clear H c1
   have HO := My.am ho
   clear ho
   by_cases c2 : e = 0
   ·subst c2
    rw [if_pos rfl] at H2
    by_cases c3 : out.length < 8796093022208
    ·rw [if_pos c3] at H2
     have H3 := My.am H2
     clear H2
     gi_wp2_with (refine ⟨trivial, ?_⟩; gi_at_call 39; refine (callsIn_wide.2 (seal_Open.calls k1 s p v _ _ _ _ HO.out)).mono ?_; rintro e w1 ⟨rfl, hb⟩; have HJ2 := My.am (HJb.out _ _ _ _ HJ1.out hb); clear hb; obtain ⟨fn, tmps, assign, body, hy, hR⟩ := HY.out _ _ _ b q HJ2.out c3; have HR := My.am hR; clear hR)
     refine HR.out.mono ?_
     rintro e w2 ⟨rfl, hj⟩
     have HJ3 := My.am hj
     clear hj
     gi_wp2
     gi_roundg k1
     case measure => omega
     case rel => exact ⟨q, out ++ [b], rfl, H3, HJ3⟩
    rw [if_neg c3] at H2
    cases H2
   rw [if_neg c2] at H2
   have c2b : (e != 0) = true := bne_iff_ne.2 c2
   obtain rfl := Option.some.inj H2
   clear H2 c2
   gi_wp2_with (refine ⟨trivial, ?_⟩; gi_at_call 39; refine (callsIn_wide.2 (seal_Open.calls k1 s p v _ _ _ _ HO.out)).mono ?_; rintro e w1 ⟨rfl, hb⟩; have HJ2 := My.am (HJb.out _ _ _ _ HJ1.out hb); clear hb; obtain ⟨g1, g2, g3, g4, g5⟩ := HJc.out _ _ _ HJ2.out)
   refine bodyPost_ret (results_none rfl _ _ _) rfl ?_
   exact ⟨⟨_, rfl⟩, _, HJ2.out, .inr rfl⟩
theorem seal_frames.calls (s : ByteArray) (v : Int) (p : Option Addr) (w : World) :
  Calls Tryz.prog 64 #[.string s, .int .i64 v, .pointer p] w fun e w' => e = .returned (.func (.func 81) #[] #[.pointer (some ⟨w.heap.size, 0, none⟩), .pointer (some ⟨w.heap.size + 1, 0, none⟩), .pointer (some ⟨w.heap.size + 2, 0, none⟩)]) ∧
   w' = ((w.alloc (.cells #[.string s] 9)).alloc (.cells #[.int .i64 v] 3)).alloc (.cells #[.pointer p] 120) := by
 go_enter Tryz.func64, Tryz.ntmps64
 go_wp2
 go_ret
 exact ⟨rfl, rfl⟩
/-- What the rounds of Cut keep. -/
structure CutJ (w : World) (rec : Obj) (D b0 : Nat) (s : ByteArray) (v : Int) (out : List ByteArray) (p : Int) (W : World) : Prop where
 bel : Below w.heap.size w W
 bD : b0 + 6 ≤ D
 lt : D + 1 < W.heap.size
 hd : W.heap[D]? = some (.deferred (some []))
 hl : W.heap[D + 1]? = some rec
 h1 : W.heap[b0 + 1]? = some (.cells #[.int .i64 p] 3 (0, 0))
 h2 : W.heap[b0 + 2]? = some (.cells #[.int .i64 0] 27 (0, 0))
 h3 : W.heap[b0 + 3]? = some (.cells #[.string s] 9 (0, 0))
 h4 : W.heap[b0 + 4]? = some (.cells #[.int .i64 v] 3 (0, 0))
 h5 : W.heap[b0 + 5]? = some (.cells #[.pointer (some ⟨b0 + 2, 0, none⟩)] 120 (0, 0))
 row : ∃ ov, W.heap[b0]? = some (.cells #[ov] 34 (0, 0)) ∧ W.ownsRow (b0 + 6) 9 1 ov out.length (out.map Value.string)
theorem CutJ.move {w W W' : World} {rec : Obj} {D b0 : Nat} {s : ByteArray} {v : Int} {out : List ByteArray} {p : Int} (h : CutJ w rec D b0 s v out p W) (hb : Below W.heap.size W W') : CutJ w rec D b0 s v out p W' := by
 have g : ∀ {k : Nat} {o : Obj}, W.heap[k]? = some o → W'.heap[k]? = some o := fun hk => (hb.block _ (blk_lt hk)).trans hk
 obtain ⟨ov, r1, r2⟩ := h.row
 exact ⟨below_then h.bel h.bel.size hb, h.bD, Nat.lt_of_lt_of_le h.lt hb.size, g h.hd, g h.hl, g h.h1, g h.h2, g h.h3, g h.h4, g h.h5, ov, g r1, own_move r2 (fun k hk => hb.block k (own_lt r2 k hk))⟩
/-- The loop's own record turns. -/
theorem CutJ.put {w W : World} {rec rec' : Obj} {D b0 : Nat} {s : ByteArray} {v : Int} {out : List ByteArray} {p : Int} (hw : w.heap.size ≤ b0) (hr : rec.isCells = false) (h : CutJ w rec D b0 s v out p W) : CutJ w rec' D b0 s v out p (W.putObj (D + 1) rec') := by
 have g : ∀ {k : Nat} {o : Obj}, k ≠ D + 1 → W.heap[k]? = some o → (W.putObj (D + 1) rec').heap[k]? = some o := fun hk ho => (World.putObj_heap_other hk).trans ho
 obtain ⟨ov, r1, r2⟩ := h.row
 have := h.bD
 refine ⟨h.bel.grown (grownBy_putObj' W (D + 1) rec') h.bel.size (fun k e => by cases e; omega), h.bD, by have := h.lt; simpa [World.putObj] using this, g (by omega) h.hd, World.putObj_heap_same h.lt, g (by omega) h.h1, g (by omega) h.h2, g (by omega) h.h3, g (by omega) h.h4, g (by omega) h.h5, ov, g (by omega) r1, own_move r2 (fun k hk => World.putObj_heap_other (fun e => ?_))⟩
 subst e
 obtain ⟨cells, hc⟩ := own_typed r2 _ hk
 rw [h.hl] at hc
 injection hc with hc
 rw [hc] at hr
 cases hr
theorem CutJ.cells {w W : World} {rec : Obj} {D b0 : Nat} {s : ByteArray} {v : Int} {out : List ByteArray} {p : Int} (h : CutJ w rec D b0 s v out p W) :
  W.cell? ⟨b0 + 3, 0, none⟩ = some (.string s) ∧ W.cell? ⟨b0 + 4, 0, none⟩ = some (.int .i64 v) ∧ W.cell? ⟨b0 + 5, 0, none⟩ = some (.pointer (some ⟨b0 + 2, 0, none⟩)) ∧ W.cell? ⟨b0 + 2, 0, none⟩ = some (.int .i64 0) ∧ W.frozen? ⟨b0 + 2, 0, none⟩ = false :=
 ⟨(blk_cell h.h3 0).trans rfl, (blk_cell h.h4 0).trans rfl, (blk_cell h.h5 0).trans rfl, (blk_cell h.h2 0).trans rfl, by simp [World.frozen?, h.h2]⟩
theorem CutJ.next {w W w9 : World} {rec o : Obj} {D b0 : Nat} {s : ByteArray} {v : Int} {out : List ByteArray} {p q : Int} {body : ByteArray} {ov v1 : Value} (hw : w.heap.size ≤ b0) (hr : rec.isCells = false) (h : CutJ w rec D b0 s v out p W) (r1 : W.heap[b0]? = some (.cells #[ov] 34 (0, 0))) (r2 : W.ownsRow (b0 + 6) 9 1 ov out.length (out.map Value.string))
  (hown : w9.ownsRow (b0 + 6) 9 1 v1 (out.length + 1) (out.map Value.string ++ [.string body])) (hg : (W.alloc o).grownBy w9 ov.ownBlock) : CutJ w rec D b0 s v (out ++ [body]) q ((w9.setCell ⟨b0, 0, none⟩ v1).setCell ⟨b0 + 1, 0, none⟩ (.int .i64 q)) := by
 have hob : ∀ k, ov.ownBlock = some k → b0 + 6 ≤ k ∧ k ≠ D ∧ k ≠ D + 1 := fun k hk => by
  refine ⟨own_base r2 k hk, fun e => ?_, fun e => ?_⟩
  ·obtain ⟨cells, hc⟩ := own_typed r2 k hk
   rw [e, h.hd] at hc
   cases hc
  ·obtain ⟨cells, hc⟩ := own_typed r2 k hk
   rw [e, h.hl] at hc
   injection hc with hc
   rw [hc] at hr
   cases hr
 have g0 : ∀ {k : Nat} {o' : Obj}, (ov.ownBlock ≠ some k) → W.heap[k]? = some o' → w9.heap[k]? = some o' := fun hk ho =>
  (hg.block _ (by have := blk_lt ho; simp; omega) (fun e => hk e.symm)).trans (blk_alloc ho _)
 have g : ∀ {k : Nat} {o' : Obj}, k ≠ b0 → k ≠ b0 + 1 → (ov.ownBlock ≠ some k) → W.heap[k]? = some o' → ((w9.setCell ⟨b0, 0, none⟩ v1).setCell ⟨b0 + 1, 0, none⟩ (.int .i64 q)).heap[k]? = some o' := fun h0 h1 hk ho => by
  rw [Below.heap_setCell _ _ _ _ (by exact h1), Below.heap_setCell _ _ _ _ (by exact h0)]
  exact g0 hk ho
 have hb := h.bD
 have sm : ∀ k, k < b0 + 6 → ov.ownBlock ≠ some k := fun k hk e => by have := (hob k e).1; omega
 have hv1 : ∀ k, v1.ownBlock = some k → b0 + 6 ≤ k := fun k hk => own_base hown k hk
 refine ⟨?_, h.bD, ?_, g (by omega) (by omega) (fun e => (hob _ e).2.1 rfl) h.hd, g (by omega) (by omega) (fun e => (hob _ e).2.2 rfl) h.hl, ?_, g (by omega) (by omega) (sm _ (by omega)) h.h2, g (by omega) (by omega) (sm _ (by omega)) h.h3, g (by omega) (by omega) (sm _ (by omega)) h.h4, g (by omega) (by omega) (sm _ (by omega)) h.h5, v1, ?_, ?_⟩
 ·have e1 : Below w.heap.size w w9 := (below_alloc h.bel o).grown hg (by have := h.bel.size; simp; omega) (fun k hk => by have := (hob k hk).1; omega)
  exact (e1.setCell (p := ⟨b0, 0, none⟩) hw _).setCell (p := ⟨b0 + 1, 0, none⟩) (by show w.heap.size ≤ b0 + 1; omega) _
 ·have := hg.size
  have := h.lt
  simp at *
  omega
 ·have e1 : (w9.setCell ⟨b0, 0, none⟩ v1).heap[b0 + 1]? = some (.cells #[.int .i64 p] 3 (0, 0)) := by
   rw [Below.heap_setCell _ _ _ _ (by show b0 + 1 ≠ b0; omega)]
   exact g0 (sm _ (by omega)) h.h1
  exact blk_put e1 0 _ rfl
 ·rw [Below.heap_setCell _ _ _ _ (by show b0 ≠ b0 + 1; omega)]
  exact blk_put (g0 (sm _ (by omega)) r1) 0 _ rfl
 ·rw [List.length_append, List.length_singleton, List.map_append]
  refine own_move hown (fun k hk => ?_)
  have := hv1 k hk
  rw [Below.heap_setCell _ _ _ _ (by show k ≠ b0 + 1; omega), Below.heap_setCell _ _ _ _ (by show k ≠ b0; omega)]
theorem CutJ.boxes {w W w9 : World} {rec o : Obj} {D b0 : Nat} {s : ByteArray} {v : Int} {out : List ByteArray} {p : Int} {ov : Value} (h : CutJ w rec D b0 s v out p W) (r1 : W.heap[b0]? = some (.cells #[ov] 34 (0, 0))) (r2 : W.ownsRow (b0 + 6) 9 1 ov out.length (out.map Value.string)) (hg : (W.alloc o).grownBy w9 ov.ownBlock) :
  w9.cell? ⟨b0, 0, none⟩ = some ov ∧ w9.frozen? ⟨b0, 0, none⟩ = false ∧ w9.cell? ⟨b0 + 1, 0, none⟩ = some (.int .i64 p) ∧ w9.frozen? ⟨b0 + 1, 0, none⟩ = false := by
 have g0 : ∀ {k : Nat} {o' : Obj}, k < b0 + 6 → W.heap[k]? = some o' → w9.heap[k]? = some o' := fun hk ho =>
  (hg.block _ (by have := blk_lt ho; simp; omega) (fun e => by have := own_base r2 _ e.symm; omega)).trans (blk_alloc ho _)
 have e0 := g0 (by omega) r1
 have e1 := g0 (by omega) h.h1
 exact ⟨(blk_cell e0 0).trans rfl, by simp [World.frozen?, e0], (blk_cell e1 0).trans rfl, by simp [World.frozen?, e1]⟩
theorem seal_Cut.info : (Tryz.prog.info? 9).map (fun i => (i.zero, i.size, i.bytes)) = some (some (.string ⟨#[]⟩), 1, 16) := by kernel_rfl
theorem heap6 (w : World) (a b c d e f : Obj) : ((((((w.alloc a).alloc b).alloc c).alloc d).alloc e).alloc f).heap[w.heap.size]? = some a ∧ ((((((w.alloc a).alloc b).alloc c).alloc d).alloc e).alloc f).heap[w.heap.size + 1]? = some b ∧ ((((((w.alloc a).alloc b).alloc c).alloc d).alloc e).alloc f).heap[w.heap.size + 2]? = some c ∧ ((((((w.alloc a).alloc b).alloc c).alloc d).alloc e).alloc f).heap[w.heap.size + 3]? = some d ∧
  ((((((w.alloc a).alloc b).alloc c).alloc d).alloc e).alloc f).heap[w.heap.size + 4]? = some e ∧ ((((((w.alloc a).alloc b).alloc c).alloc d).alloc e).alloc f).heap[w.heap.size + 5]? = some f ∧ ((((((w.alloc a).alloc b).alloc c).alloc d).alloc e).alloc f).heap.size = w.heap.size + 6 := by
 have e0 : ((((((w.alloc a).alloc b).alloc c).alloc d).alloc e).alloc f).heap = (((((w.heap.push a).push b).push c).push d).push e).push f := rfl
 rw [e0]
 refine ⟨?_, ?_, ?_, ?_, ?_, ?_, ?_⟩
 all_goals (simp only [Array.getElem?_push, Array.size_push])
 all_goals (repeat' split)
 all_goals first | rfl | omega | exact absurd trivial (by assumption)
theorem seal_Cut.calls (k : Nat) (a0 : ByteArray) (a1 : Int) (r1 : List ByteArray) (r2 : Int) (r3 : Int) (w : World) (h : seal_Cut.f k a0 a1 = some (r1, r2, r3)) :
  Calls Tryz.prog 40 #[.string a0, .int .i64 a1] w fun e w' => ∃ v0_ : Value, e = .returned (.tuple #[v0_, .int .i64 r2, .int .i64 r3]) ∧ Kd.R Kd.string 9 w' w.heap.size (fun _ => True) v0_ r1 ∧ Below w.heap.size w w' := by
 unfold seal_Cut.f at h
 by_cases c1 : a1 < 0
 ·rw [if_pos c1] at h
  have c1b : decide (a1 < 0) = true := decide_eq_true c1
  obtain ⟨rfl, rfl, rfl⟩ : [] = r1 ∧ 0 = r2 ∧ 2 = r3 := by simpa using h
  clear h
  go_enter Tryz.func40, Tryz.ntmps40
  go_wp2
  go_ret3
  exact ⟨_, rfl, Kd.R_nil _ _ _ _ _, Below.refl _ _⟩
 rw [if_neg c1] at h
 by_cases c2 : a1 > 255
 ·rw [if_pos c2] at h
  have c1b : decide (a1 < 0) = false := decide_eq_false c1
  have c2b : decide (255 < a1) = true := decide_eq_true c2
  obtain ⟨rfl, rfl, rfl⟩ : [] = r1 ∧ 0 = r2 ∧ 2 = r3 := by simpa using h
  clear h
  go_enter Tryz.func40, Tryz.ntmps40
  go_wp2
  go_ret3
  exact ⟨_, rfl, Kd.R_nil _ _ _ _ _, Below.refl _ _⟩
 rw [if_neg c2] at h
 have c1b : decide (a1 < 0) = false := decide_eq_false c1
 have c2b : decide (255 < a1) = false := decide_eq_false c2
 have H0 := My.am h
 clear h c1 c2
 refine callsIn_wide (n := 9).1 ?_
 refine callsIn_of_wp_marks Tryz.func40 rfl trivial ?_ rfl
 simp only [Tryz.ntmps40, List.size_toArray, List.length_cons, List.length_nil, Nat.reduceAdd, Nat.reduceSub, Array.replicate_succ, Array.replicate_zero, List.push_toArray, List.append_toArray, List.nil_append, List.cons_append]
 gi_wp2_with (refine ⟨trivial, ?_⟩; gi_at_call 64; refine (callsIn_wide.2 (seal_frames.calls a0 a1 _ _)).mono ?_; rintro e w1 ⟨rfl, rfl⟩)
 simp only [Nat.add_assoc, Nat.reduceAdd]
 have g0 := heap6 w (.cells #[.slice none 0 0] 34) (.cells #[.int .i64 0] 3) (.cells #[.int .i64 0] 27) (.cells #[.string a0] 9) (.cells #[.int .i64 a1] 3) (.cells #[.pointer (some ⟨w.heap.size + 2, 0, none⟩)] 120)
 have gb : Below w.heap.size w ((((((w.alloc (.cells #[.slice none 0 0] 34)).alloc (.cells #[.int .i64 0] 3)).alloc (.cells #[.int .i64 0] 27)).alloc (.cells #[.string a0] 9)).alloc (.cells #[.int .i64 a1] 3)).alloc (.cells #[.pointer (some ⟨w.heap.size + 2, 0, none⟩)] 120)) :=
  below_alloc (below_alloc (below_alloc (below_alloc (below_alloc (below_alloc (Below.refl w.heap.size w) _) _) _) _) _) _
 generalize ((((((w.alloc (.cells #[.slice none 0 0] 34)).alloc (.cells #[.int .i64 0] 3)).alloc (.cells #[.int .i64 0] 27)).alloc (.cells #[.string a0] 9)).alloc (.cells #[.int .i64 a1] 3)).alloc (.cells #[.pointer (some ⟨w.heap.size + 2, 0, none⟩)] 120)) = w6 at g0 gb ⊢
 obtain ⟨z0, z1, z2, z3, z4, z5, z6⟩ := g0
 have Z6 := My.am z6
 clear z6
 have HZ := My.am (And.intro z0 (And.intro z1 (And.intro z2 (And.intro z3 (And.intro z4 z5)))))
 have HB := My.am gb
 clear z0 z1 z2 z3 z4 z5 gb
 refine range_wp (n := 9) rfl (by decide) (gf := 81) (lb := #[.pointer (some ⟨w.heap.size + 3, 0, none⟩), .pointer (some ⟨w.heap.size + 4, 0, none⟩), .pointer (some ⟨w.heap.size + 5, 0, none⟩)]) rfl trivial (enters_of Tryz.func81 (by kernel_rfl) rfl)
  (fun c W => c = none ∧ ∃ W1 rec, rec.isCells = false ∧ CutJ w rec w6.heap.size w.heap.size a0 a1 r1 r2 W1 ∧ ((r3 = 0 ∧ W = W1) ∨ W = W1.setCell ⟨w.heap.size + 2, 0, none⟩ (.int .i64 r3))) ?it ?done ?stop
 case stop =>
  rintro c W o _ _ ⟨h, _⟩
  cases h
 case done =>
  rintro W o hd hlt ⟨_, W1, rec, hrec, hJ, hW⟩
  obtain ⟨ov, q1, q2⟩ := hJ.row
  have hD := hJ.bD
  have hob : ∀ k, ov.ownBlock = some k → w.heap.size + 6 ≤ k := fun k hk => own_base q2 k hk
  have g : W.heap[w.heap.size]? = some (.cells #[ov] 34 (0, 0)) ∧ W.heap[w.heap.size + 1]? = some (.cells #[.int .i64 r2] 3 (0, 0)) ∧ W.heap[w.heap.size + 2]? = some (.cells #[.int .i64 r3] 27 (0, 0)) ∧ W.ownsRow (w.heap.size + 6) 9 1 ov r1.length (r1.map Value.string) ∧ Below w.heap.size w W := by
   rcases hW with ⟨e, rfl⟩ | rfl
   ·rw [e]
    exact ⟨q1, hJ.h1, hJ.h2, q2, hJ.bel⟩
   refine ⟨?_, ?_, blk_put hJ.h2 0 _ rfl, own_move q2 (fun k hk => ?_), hJ.bel.setCell (p := ⟨w.heap.size + 2, 0, none⟩) (by show w.heap.size ≤ w.heap.size + 2; omega) _⟩
   ·rw [Below.heap_setCell _ _ _ _ (by show w.heap.size ≠ w.heap.size + 2; omega)]
    exact q1
   ·rw [Below.heap_setCell _ _ _ _ (by show w.heap.size + 1 ≠ w.heap.size + 2; omega)]
    exact hJ.h1
   have := hob k hk
   rw [Below.heap_setCell _ _ _ _ (by show k ≠ w.heap.size + 2; omega)]
  obtain ⟨g0, g1, g2, g3, g4⟩ := g
  have hno : ∀ k, ov.ownBlock = some k → k ≠ w6.heap.size ∧ k ≠ w6.heap.size + 1 := fun k hk => by
   refine ⟨fun e => ?_, fun e => ?_⟩
   ·obtain ⟨cells, hc⟩ := own_typed g3 k hk
    rw [e, hd] at hc
    cases hc
   obtain ⟨cells, hc⟩ := own_typed q2 k hk
   rw [e, hJ.hl] at hc
   injection hc with hc
   rw [hc] at hrec
   cases hrec
  have p0 : (W.putObj (w6.heap.size + 1) o).heap[w.heap.size]? = some (.cells #[ov] 34 (0, 0)) := (World.putObj_heap_other (by omega)).trans g0
  have p1 : (W.putObj (w6.heap.size + 1) o).heap[w.heap.size + 1]? = some (.cells #[.int .i64 r2] 3 (0, 0)) := (World.putObj_heap_other (by omega)).trans g1
  have p2 : (W.putObj (w6.heap.size + 1) o).heap[w.heap.size + 2]? = some (.cells #[.int .i64 r3] 27 (0, 0)) := (World.putObj_heap_other (by omega)).trans g2
  have p3 : (W.putObj (w6.heap.size + 1) o).ownsRow (w.heap.size + 6) 9 1 ov r1.length (r1.map Value.string) := own_move g3 (fun k hk => World.putObj_heap_other (hno k hk).2)
  have p4 : Below w.heap.size w (W.putObj (w6.heap.size + 1) o) := g4.grown (grownBy_putObj' W _ o) g4.size (fun k e => by cases e; omega)
  have p5 : (W.putObj (w6.heap.size + 1) o).heap[w6.heap.size]? = some (.deferred (some [])) := (World.putObj_heap_other (by omega)).trans hd
  clear hd hlt hJ hW q1 q2 g0 g1 g2 g3 g4
  generalize W.putObj (w6.heap.size + 1) o = WF at p0 p1 p2 p3 p4 p5 ⊢
  have c0 : WF.cell? ⟨w.heap.size, 0, none⟩ = some ov := (blk_cell p0 0).trans rfl
  have c1 : WF.cell? ⟨w.heap.size + 1, 0, none⟩ = some (.int .i64 r2) := (blk_cell p1 0).trans rfl
  have c2 : WF.cell? ⟨w.heap.size + 2, 0, none⟩ = some (.int .i64 r3) := (blk_cell p2 0).trans rfl
  have P3 := My.am p3
  have P4 := My.am p4
  have P5 := My.am p5
  clear p0 p1 p2 p3 p4 p5 HZ HB
  gi_wp2
  gi_quiet (fail)
  gi_wp2
  have hK : (WF.drewN nq).heap[w6.heap.size]? = some (.deferred (some [])) := P5.out
  refine ⟨by simp, .inl ⟨_, _, rfl, run_takeDeferred hK, ?_⟩⟩
  refine ⟨_, results_tmp3 rfl _ _ _, ov, rfl, ⟨fun _ _ => trivial, r1.map Value.string, ?_, enc_reps Value.string r1⟩, ?_⟩
  ·refine own_weaken (own_move (own_move P3.out (fun k hk => (rfl : (WF.drewN nq).heap[k]? = WF.heap[k]?))) (fun k hk => World.putObj_heap_other (hno k hk).1)) (by omega)
  ·exact (pw_below_drewN P4.out nq).grown (grownBy_putObj' _ _ _) (by have := P4.out.size; exact this) (fun k e => by cases e; omega)
 case it =>
  intro fn hfn rec hrec W0 hW0 hl0 hd0
  obtain ⟨z0, z1, z2, z3, z4, z5⟩ := HZ.out
  have hJ0 : CutJ w (rec .ready none) w6.heap.size w.heap.size a0 a1 [] 0 W0 := ⟨by rw [hW0]; exact below_alloc (below_alloc HB.out _) _, by have := Z6.out; omega, (Array.getElem?_eq_some_iff.1 hl0).1, hd0, hl0, by rw [hW0]; exact blk_alloc (blk_alloc z1 _) _, by rw [hW0]; exact blk_alloc (blk_alloc z2 _) _, by rw [hW0]; exact blk_alloc (blk_alloc z3 _) _,
   by rw [hW0]; exact blk_alloc (blk_alloc z4 _) _, by rw [hW0]; exact blk_alloc (blk_alloc z5 _) _, .slice none 0 0, by rw [hW0]; exact blk_alloc (blk_alloc z0 _) _, World.ownsRow_nil _ _ _ _⟩
  clear hW0 hl0 hd0 HZ HB z0 z1 z2 z3 z4 z5
  refine (seal_frames_walk 8 (w6.heap.size + 1) (w.heap.size + 3) (w.heap.size + 4) (w.heap.size + 5) (w.heap.size + 2) a0 a1 (fun out p W => CutJ w (rec .ready none) w6.heap.size w.heap.size a0 a1 out p W) (by decide) (fun out p W W' h hb => h.move hb) (fun out p W h => h.cells) ?hy k (r1, r2, r3) H0.out W0 hJ0).mono ?fin
  case fin =>
   rintro e W ⟨⟨u, rfl⟩, W1, hJ, hW⟩
   refine ⟨⟨u, rfl⟩, ?_, .inl ⟨?_, rfl, W1, _, by rw [hrec]; rfl, hJ, hW⟩⟩
   ·rcases hW with ⟨_, rfl⟩ | rfl
    ·exact hJ.hd
    rw [Below.heap_setCell _ _ _ _ (by show w6.heap.size ≠ w.heap.size + 2; have := Z6.out; omega)]
    exact hJ.hd
   rcases hW with ⟨_, rfl⟩ | rfl
   ·exact hJ.hl
   rw [Below.heap_setCell _ _ _ _ (by show w6.heap.size + 1 ≠ w.heap.size + 2; have := Z6.out; omega)]
   exact hJ.hl
  clear H0 hJ0 W0
  intro out p W body q hJ hlen
  refine (yield_wp (m := 7) (F := Fence.wide) hfn hrec hJ.hl (vals := #[.string body, .int .i64 q]) rfl
   { tmps := #[.string a0, .int .i64 a1, undef, undef, .slice none 0 0, .int .i64 0, .int .i64 0, .pointer (some ⟨w.heap.size, 0, none⟩), .pointer (some ⟨w.heap.size + 1, 0, none⟩), .pointer (some ⟨w.heap.size + 2, 0, none⟩), .string body, .int .i64 q, .int .i64 a1, .bool false, .bool false, .int .i64 a1, .bool false, .bool false, .string a0, .int .i64 a1, .func (.func 81) #[] #[.pointer (some ⟨w.heap.size + 3, 0, none⟩), .pointer (some ⟨w.heap.size + 4, 0, none⟩), .pointer (some ⟨w.heap.size + 5, 0, none⟩)], .string body, .int .i64 q, undef, undef, undef, undef, undef, undef, undef, undef], defers := [] }
   (fun c W' => c = none ∧ CutJ w (rec .ready none) w6.heap.size w.heap.size a0 a1 (out ++ [body]) q W') ?asg ?bd).mono ?fin2
  case asg =>
   intro K hK
   gi_wp2
   exact hK
  case bd =>
   have hnc : ∀ st pe, (rec st pe).isCells = false := fun st pe => by rw [hrec]; rfl
   have hJB := hJ.put (rec' := rec .busy none) (Nat.le_refl _) (hnc _ _)
   clear hJ
   generalize W.putObj (w6.heap.size + 1) (rec .busy none) = WB at hJB ⊢
   obtain ⟨ov, q1, q2⟩ := hJB.row
   have c0 : WB.cell? ⟨w.heap.size, 0, none⟩ = some ov := (blk_cell q1 0).trans rfl
   have HQ1 := My.am q1
   have HQ2 := My.am q2
   have HJ := My.am hJB
   have HN := My.am hnc
   have HR := My.am hrec
   have hsz : w.heap.size + 6 ≤ WB.heap.size := by have := hJB.bD; have := hJB.lt; omega
   have hl16 : (out.length + 1) * 16 ≤ 140737488355328 := by omega
   clear q1 q2 hJB hnc hrec
   obtain ⟨i0, hi, hz0, hz1, hz2⟩ := info_parts seal_Cut.info
   gi_wp2_with (gi_at_builtin; refine wpListIn_append_own _ rfl _ _ 34 rfl (w.heap.size + 6) 9 i0 (.string ⟨#[]⟩) 1 16 Tryz.underlying34 hi hz0 hz1 hz2 rfl (by decide) ov out.length (out.map Value.string) rfl (own_alloc HQ2.out _) ⟨WB.heap.size, 0, none⟩ 1 1 [.string body] rfl rfl (fun j u hj => by rcases j with _ | j; (cases hj; exact (blk_cell (blk_new WB _) 0).trans rfl); (cases hj)) (fun u hu => by rw [List.mem_singleton.1 hu]; rfl) (by unfold maxLen; omega) hl16 (by simp; omega) ?_; intro v' w9 hown' hgrow _; have HO := My.am hown'; have HG := My.am hgrow; obtain ⟨g', cap', rfl⟩ := ownsRow_succ hown'; clear hown' hgrow; obtain ⟨x0, x1, x2, x3⟩ := CutJ.boxes HJ.out HQ1.out HQ2.out HG.out)
   have hN := CutJ.next (q := q) (body := body) (Nat.le_refl _) (HN.out _ _) HJ.out HQ1.out HQ2.out HO.out HG.out
   exact ⟨hN.hl, rfl, hN.put (Nat.le_refl _) (HN.out _ _)⟩
  case fin2 =>
   rintro e W' (⟨rfl, _, h⟩ | ⟨_, c, h, _⟩)
   ·exact ⟨rfl, h⟩
   cases h
end


-- NOT PRINTED: function 38 (segment_Look_2)

-- NOT PRINTED: function 65 (api_File_1_65)

-- NOT PRINTED: function 41 (api_File_41)

/-! ### slices_Reverse_int_int: function 42 -/
def slices_Reverse_int_int.l0 : Nat → List Int → Int → Int → Option (List Int)
 | 0, _, _, _ => none
 | k + 1, x0, x2, x3 => if x2 < x3 then (if 0 ≤ x3 then (if x3 < (x0.length : Int) then (if 0 ≤ x2 then (if x2 < (x0.length : Int) then (slices_Reverse_int_int.l0 k ((x0.set (x2 : Int).toNat (rd x0 x3)).set (x3 : Int).toNat (rd x0 x2)) (wrap64 (x2 + 1)) (wrap64 (x3 - 1))) else (none)) else (none)) else (none)) else (none)) else (some x0)
def slices_Reverse_int_int.f (k : Nat) (l0 : List Int) : Option (List Int) := slices_Reverse_int_int.l0 k l0 0 (wrap64 ((l0.length : Int) - 1))
theorem slices_Reverse_int_int.mono_l : ∀ k, (∀ y0 y1 y2, LeO (slices_Reverse_int_int.l0 k y0 y1 y2) (slices_Reverse_int_int.l0 (k + 1) y0 y1 y2))
 | 0 => fun _ _ _ r h => by simp [slices_Reverse_int_int.l0] at h
 | k + 1 => by
  have ih0 := slices_Reverse_int_int.mono_l k
  intro y0 y1 y2
  unfold slices_Reverse_int_int.l0
  repeat' (with_reducible first | exact ih0 _ _ _ | exact LeO.refl _ | exact LeO.none _ | apply LeO.ite | refine LeO.bind ?_ (fun _ => ?_))
theorem slices_Reverse_int_int.mono : ∀ a0 k, LeO (slices_Reverse_int_int.f k a0) (slices_Reverse_int_int.f (k + 1) a0) := by
 intro a0 k
 have ih0 := slices_Reverse_int_int.mono_l k
 unfold slices_Reverse_int_int.f
 repeat' (with_reducible first | exact ih0 _ _ _ | exact LeO.refl _ | exact LeO.none _ | apply LeO.ite | refine LeO.bind ?_ (fun _ => ?_))
def slices_Reverse_int_int.T3 : Bool × List (List Nat × List Nat) := (true, [([], []), ([], []), ([], []), ([], []), ([], []), ([], []), ([4, 5], [4, 5]), ([6], [6]), ([], []), ([], []), ([8, 9], [8, 9]), ([10], [10]), ([0, 1, 0, 1, 4, 5, 6, 7, 11], [0, 1]), ([12, 7, 0, 1, 4, 5, 6, 7, 11], [7, 12]), ([2, 3, 0, 1, 2, 3, 4, 5, 6, 7, 8, 9, 10, 11, 12, 13], [2, 3]), ([14, 11, 13, 0, 1, 2, 3, 4, 5, 6, 7, 8, 9, 10, 11, 12, 13], [11, 14])])
def slices_Reverse_int_int.B3 : List Nat := [0, 0, 0, 0, 0, 0, 48, 112, 0, 0, 768, 1792, 4083, 8179, 16383, 32767]
theorem slices_Reverse_int_int.tab3 : rtab .any (opsOf Tryz.f42 3) = slices_Reverse_int_int.T3 := by kernel_rfl
theorem slices_Reverse_int_int.bits3 : waitsOk slices_Reverse_int_int.T3.2 slices_Reverse_int_int.B3 = true := by kernel_rfl
theorem slices_Reverse_int_int.calls (k : Nat) (P0_ : Nat → Prop) (u9000_ : Value) (l0 : List Int) (r : List Int) (w0 w : World) (hB : Below w0.heap.size w0 w) (ho0 : Kd.R (Kd.int .i64) 3 w w0.heap.size P0_ u9000_ l0) (h : slices_Reverse_int_int.f k l0 = some r) :
  Calls Tryz.prog 42 #[u9000_] w fun e w' => e = .returned (.tuple #[]) ∧ Kd.R (Kd.int .i64) 3 w' w0.heap.size (fun k_ => (P0_ k_ ∨ w.heap.size ≤ k_)) u9000_ r ∧ Below w0.heap.size w0 w' ∧ Kept w w' (fun k_ => P0_ k_) := by
 have HO0 := My.am (show Kd.R (Kd.int .i64) 3 w w0.heap.size (fun k_ => (P0_ k_ ∨ w.heap.size ≤ k_)) u9000_ l0 from Kd.R_mono ho0 (fun k_ hk => (.inl hk)))
 have HK := My.am (Kept.refl w (fun k_ => P0_ k_))
 have HW0 := My.am hB.size
 have HB := My.am hB
 clear hB
 unfold slices_Reverse_int_int.f at h
 have H := h
 clear h
 have H' := My.am H
 clear H
 obtain ⟨Ao2, co2, eo2⟩ := Kd.R_slice HO0.out
 subst eo2
 go_enter Tryz.func42, Tryz.ntmps42
 go_wp2
 go_loopg [2, 3] k (fun kq v2 v3 w' => ∃ (x0_1 : List Int) (x2_1 : Int) (x3_1 : Int), v2 = .int .i64 x2_1 ∧ v3 = .int .i64 x3_1 ∧ Aside0 (slices_Reverse_int_int.l0 kq x0_1 x2_1 x3_1 = some r) ∧ Aside0 (kq ≤ k) ∧ Aside0 (Kd.R (Kd.int .i64) 3 w' w0.heap.size (fun k_ => (P0_ k_ ∨ w.heap.size ≤ k_)) (.slice Ao2 l0.length co2) x0_1) ∧ Aside0 (Kept w w' (fun k_ => P0_ k_)) ∧ Aside0 (Below w0.heap.size w0 w'))
 case atStart => exact ⟨(l0), (0), (wrap64 ((l0.length : Int) - 1)), My.r1, My.r1, H', ⟨Nat.le_refl _⟩, ⟨My.dR HO0.out⟩, ⟨by repeat (first | (with_reducible first | exact HK.out | apply Kept.alloc | apply Kept.drewN | apply Kept.drew) | exact HK.out)⟩, ⟨(My.bl_ HB)⟩⟩
 case round =>
  clear H'
  obtain ⟨x0_1, x2_1, x3_1, rfl, rfl, HA, HK1, HO_0, HK, HB⟩ := hrel
  have hl0_1 := (Kd.R_reads' HO_0.out).1
  rw [hl0_1] at HO_0
  (try simp only [hl0_1])
  cases gk with
  | zero => exact absurd HA.out (by simp [slices_Reverse_int_int.l0])
  | succ k1 =>
   have H := HA.out
   clear HA
   simp only [slices_Reverse_int_int.l0] at H
   by_cases c3 : x2_1 < x3_1
   rotate_left
   ·rw [if_neg c3] at H
    have c3b0 := decide_eq_false c3
    clear c3
    obtain rfl := Option.some.inj H
    go_wp2
    first | go_end0 | ((try simp only [Exit.inBlock, Exit.then]); refine bodyPost_ret (results_none rfl _ _ _) rfl ?_)
    exact ⟨My.r2, (by first | exact (My.dr HO_0.out) | (simp only [hl0_1]; exact (My.dr HO_0.out))), (My.bl_ HB), by repeat (first | (with_reducible first | exact HK.out | apply Kept.alloc | apply Kept.drewN | apply Kept.drew) | exact HK.out)⟩

   rw [if_pos c3] at H
   have c3b0 := decide_eq_true c3
   clear c3
   replace H := My.ds H
   obtain ⟨c4b0, H⟩ := H
   replace H := My.ds H
   obtain ⟨c5b0, H⟩ := H
   replace H := My.ds H
   obtain ⟨c6b0, H⟩ := H
   replace H := My.ds H
   obtain ⟨c7b0, H⟩ := H
   obtain ⟨y117, hy117⟩ : ∃ y_ : List Int, y_ = (x0_1.set (x2_1 : Int).toNat (rd x0_1 x3_1)) := ⟨_, rfl⟩
   replace H : (slices_Reverse_int_int.l0 k1 (y117.set (x3_1 : Int).toNat (rd x0_1 x2_1)) (wrap64 (x2_1 + 1)) (wrap64 (x3_1 - 1))) = some r := by first | (rw [hy117]; with_reducible exact H) | (have H2_ := (Option.bind_some _ _).symm.trans H; rw [hy117]; with_reducible exact H2_) | (have H2_ := (Option.bind_some _ _).symm.trans H; with_reducible exact H2_) | with_reducible exact H | (rw [hy117]; exact H) | exact H
   have Ny117 := My.am hy117
   clear hy117
   obtain ⟨y118, hy118⟩ : ∃ y_ : List Int, y_ = (y117.set (x3_1 : Int).toNat (rd x0_1 x2_1)) := ⟨_, rfl⟩
   replace H : (slices_Reverse_int_int.l0 k1 y118 (wrap64 (x2_1 + 1)) (wrap64 (x3_1 - 1))) = some r := by first | (rw [hy118]; with_reducible exact H) | (have H2_ := (Option.bind_some _ _).symm.trans H; rw [hy118]; with_reducible exact H2_) | (have H2_ := (Option.bind_some _ _).symm.trans H; with_reducible exact H2_) | with_reducible exact H | (rw [hy118]; exact H) | exact H
   have Ny118 := My.am hy118
   clear hy118
   have H' := My.am H
   clear H
   try go_wp2
   replace HO_0 := My.am (Kd.R_drew HO_0.out)
   replace HK := My.am (Kept.drew HK.out)
   replace HB := My.am (below_drew1 HB.out)
   have p115 : 0 ≤ (x3_1 : Int) := My.as_
   have q115 : x3_1 < (x0_1.length : Int) := My.as_
   obtain ⟨ad115, e115, hx115_0⟩ := Kd.at_int (Kd.R_reads' HO_0.out).2.2 x3_1 p115 q115
   cases e115
   replace p115 := eq_true p115
   replace q115 := eq_true q115
   have p116 : 0 ≤ (x2_1 : Int) := My.as_
   have q116 : x2_1 < (x0_1.length : Int) := My.as_
   obtain ⟨ad116, e116, hx116_0⟩ := Kd.at_int (Kd.R_reads' HO_0.out).2.2 x2_1 p116 q116
   obtain rfl : ad115 = ad116 := (by injection e116)
   replace p116 := eq_true p116
   replace q116 := eq_true q116
   have p8 : 0 ≤ (x2_1 : Int) := My.as_
   have q8 : (x2_1 : Int) < ((x0_1.length : Int) : Int) := My.as_
   obtain ⟨go8, co8, eo8, gb8, gl8, cl8, HG8⟩ := Kd.R_form HO_0.out (by omega)
   (first | cases eo8 | (injection eo8 with ea_ en_ ec_; (first | subst ea_ | (injection ea_ with ea_; subst ea_)); subst ec_; clear en_))
   have GB8 := My.am gb8
   have GG8 := My.am HG8
   clear gb8 gl8 HG8
   have HMgo8 := My.am (show (P0_ go8 ∨ w.heap.size ≤ go8) from (HO_0.out.1 _ rfl))
   (first | simp only [add_plain] at hx115_0 | skip)
   (first | simp only [add_plain] at hx116_0 | skip)
   obtain ⟨hx8_0, hf8_0⟩ := Kd.R_celln 0 HO_0.out (x2_1 : Int) p8 q8
   replace p8 := eq_true p8
   replace q8 := eq_true q8
   have HP11 := Kd.R_putn HO_0.out (x2_1 : Int) (rd x0_1 x3_1)
   rw [← Ny117.out] at HP11
   have HQ11 := My.am HP11
   clear HP11
   have p9 : 0 ≤ (x3_1 : Int) := My.as_
   have q9 : (x3_1 : Int) < ((x0_1.length : Int) : Int) := My.as_
   obtain ⟨hx9_0, hf9_0⟩ := Kd.R_celln 0 HQ11.out (x3_1 : Int) p9 q9
   replace p9 := eq_true p9
   replace q9 := eq_true q9
   have HP12 := Kd.R_putn HQ11.out (x3_1 : Int) (rd x0_1 x2_1)
   rw [← Ny118.out] at HP12
   have HQ12 := My.am HP12
   clear HP12
   refine start_ (n := 16) (S := fun w' => w'.cell? ⟨go8, (x3_1).toNat, none⟩ = some (.int .i64 (rd x0_1 x3_1)) ∧ w'.cell? ⟨go8, (x2_1).toNat, none⟩ = some (.int .i64 (rd x0_1 x2_1))) (ds := [13, 15]) #[false, false, false, false, false, false, false, false, false, false, false, false, false, false, false, false] (by kernel_rfl) rfl rfl ⟨hx115_0, hx116_0⟩ (fun hHeld => ?_); refine with_tabW slices_Reverse_int_int.tab3 slices_Reverse_int_int.bits3 (fun HT_ HW_ => ?_)
   generalize wr.drew = w10 at HO_0 HK HB GG8 HQ11 HQ12 hf8_0 hf9_0 hx115_0 hx116_0 hx8_0 hx9_0 hHeld ⊢
   refine My.pu_ 0 14 16 HT_.out ?_
   refine My.pu_ 1 15 16 HT_.out ?_
   refine My.pu_ 2 16 16 HT_.out ?_
   refine My.pu_ 3 17 16 HT_.out ?_
   refine My.pu_ 4 18 16 HT_.out ?_
   refine My.pu_ 5 19 16 HT_.out ?_
   refine My.pu_ 6 20 16 HT_.out ?_
   refine My.pv_ 8 22 16 383 HT_.out ?_
   refine My.pv_ 9 23 16 895 HT_.out ?_
   refine My.pv_ 10 24 16 1919 HT_.out ?_
   refine My.tv_ 7 21 16 2047 HT_.out HW_.out hHeld rfl rfl (by rintro w' ⟨s0, s1⟩; go_simp; with_reducible rfl) ?_
   refine My.ta_ 11 25 16 HT_.out HW_.out hHeld rfl rfl (by rintro w' ⟨s0, s1⟩; go_simp; with_reducible rfl) ?_
   refine My.pu_ 12 26 16 HT_.out ?_
   refine last_ (i := 13) (N := none) (My.Mb 16 16383) rfl rfl (one_of HT_.out (by kernel_rfl)) (by decide) (fun K hK => ?_)
   refine skip_ (w1 := ?_) (by rfl) rfl ?_ ?_
   rotate_left
   ·go_simp
    rfl
   refine hK.out _ _ ?_
   clear hK K
   refine My.pu_ 14 27 16 HT_.out ?_
   refine last_ (i := 15) (N := none) (My.Mb 16 65535) rfl rfl (one_of HT_.out (by kernel_rfl)) (by decide) (fun K hK => ?_)
   refine skip_ (w1 := ?_) (by rfl) rfl ?_ ?_
   rotate_left
   ·go_simp
    rfl
   refine hK.out _ _ ?_
   clear hK K
   refine done_ (done_of HT_.out (by kernel_rfl)) ?_
   try go_wp2
   (try simp only [← hl0_1])
   go_roundg k1
   case measure => have := HK1.out; omega
   case rel => exact ⟨(y118), (wrap64 (x2_1 + 1)), (wrap64 (x3_1 - 1)), My.r1, My.r1, H', ⟨by have := HK1.out; omega⟩, ⟨by (try simp only [hl0_1]); (with_reducible repeat (first | apply Kd.R_alloc | apply Kd.R_drewN | apply Kd.R_drew)); exact HQ12.out⟩, ⟨by repeat (first | (with_reducible first | exact HK.out | apply Kept.alloc | apply Kept.drewN | apply Kept.drew | refine Kept.setCell ?_ HMgo8.out _ | refine Kept.setCell ?_ HMgo8.out _) | exact HK.out)⟩, ⟨(My.bl_ HB)⟩⟩
end Go.Proofs.YtkcpgaplpmbmoaaGreat.PA
