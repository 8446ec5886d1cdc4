-- Written by a program of this session (wip/tools/mp.py over the kit's printer); Lean checks it.
import Derived.Test.YtkcpgaplpmbmoaaGreatPAx0
import Derived.Test.YtkcpgaplpmbmoaaGreatPAx2
import Derived.Test.YtkcpgaplpmbmoaaGreatPAx3
namespace Go.Proofs.YtkcpgaplpmbmoaaGreat.PA
open Go.RowKit Go.Proofs.YtkcpgaplpmbmoaaGreatW.PrintWords Go.Proofs.YtkcpgaplpmbmoaaGreatW.PrintLast Go.Proofs.YtkcpgaplpmbmoaaGreatW.PrintMore
attribute [local go_sem] max2_int min2_int max_two min_two max_three min_three max_four min_four   -- for this text's walks alone
set_option linter.unusedVariables false
set_option maxHeartbeats 8000000
set_option maxRecDepth 100000
set_option linter.unusedSimpArgs false

/-! ### segment_Look: function 19 -/
section
open Go.Shelf Go.Proofs.YtkcpgaplpmbmoaaGreat.My
/-- Greater and greater numbers. -/
def segment_Look.sorted : List S24 → Bool
 | [] => true
 | x :: r => (match r with | [] => true | y :: _ => decide (x.f0 < y.f0)) && segment_Look.sorted r
/-- What one file does. -/
def segment_Look.step (k : Nat) (f : S24) (num good : Int) (bodies : List ByteArray) (drop : List Int) (met : Bool) : Option (Int × Int × List ByteArray × List Int × Bool × Int) :=
 (seal_Open.f k f.f1 0 3).bind fun t => if t.2.2 = 10 ∨ met = true then (if drop.length < 1000000000 then some (num, good, bodies, drop ++ [f.f0], met, 0) else none)
  else ((seal_Cut.f k f.f1 3).bind fun c => if t.2.2 ≠ 0 ∨ c.2.2 ≠ 0 ∧ c.2.2 ≠ 10 then some (num, good, bodies, drop, met, 170) else some (f.f0, c.2.1, c.1, drop, true, 0))
def segment_Look.go (k : Nat) : List S24 → Int → Int → List ByteArray → List Int → Bool → Option (Int × Int × List ByteArray × List Int × Int)
 | [], num, good, bodies, drop, _ => some (num, good, bodies, drop, 0)
 | f :: r, num, good, bodies, drop, met => (segment_Look.step k f num good bodies drop met).bind fun t => if t.2.2.2.2.2 = 0 then segment_Look.go k r t.1 t.2.1 t.2.2.1 t.2.2.2.1 t.2.2.2.2.1 else some (t.1, t.2.1, t.2.2.1, t.2.2.2.1, t.2.2.2.2.2)
def segment_Look.f (k : Nat) (l0 : List S24) : Option (Int × Int × List ByteArray × List Int × Int) :=
 if segment_Look.sorted l0 = true then ((segment_Look.go k l0.reverse (-1) 0 [] [] false).bind fun t => if t.2.2.2.2 = 0 then ((slices_Reverse_int_int.f k t.2.2.2.1).bind fun d => some (t.1, t.2.1, t.2.2.1, d, 0)) else some (0, 0, [], [], t.2.2.2.2)) else some (0, 0, [], [], 2)
theorem segment_Look.step_mono (k : Nat) (f : S24) (num good : Int) (bodies : List ByteArray) (drop : List Int) (met : Bool) : LeO (segment_Look.step k f num good bodies drop met) (segment_Look.step (k + 1) f num good bodies drop met) := by
 unfold segment_Look.step
 exact LeO.bind (seal_Open.mono _ _ _ k) (fun _ => LeO.ite (LeO.refl _) (LeO.bind (seal_Cut.mono _ _ k) (fun _ => LeO.refl _)))
theorem segment_Look.go_mono (k : Nat) (l : List S24) : ∀ num good bodies drop met, LeO (segment_Look.go k l num good bodies drop met) (segment_Look.go (k + 1) l num good bodies drop met) := by
 induction l with
 | nil => intro num good bodies drop met; exact LeO.refl _
 | cons f r ih =>
  intro num good bodies drop met
  unfold segment_Look.go
  exact LeO.bind (segment_Look.step_mono k _ _ _ _ _ _) (fun _ => LeO.ite (ih _ _ _ _ _) (LeO.refl _))
theorem segment_Look.mono : ∀ a0 k, LeO (segment_Look.f k a0) (segment_Look.f (k + 1) a0) := by
 intro a0 k
 unfold segment_Look.f
 exact LeO.ite (LeO.bind (segment_Look.go_mono k _ _ _ _ _ _) (fun _ => LeO.ite (LeO.bind (slices_Reverse_int_int.mono _ k) (fun _ => LeO.refl _)) (LeO.refl _))) (LeO.refl _)
/-! the pieces -/
theorem segment_Look1.calls (a b : S24) (w : World) :
  Calls Tryz.prog 37 #[.agg #[.int .i64 a.f0, .string a.f1, .int .i64 a.f2], .agg #[.int .i64 b.f0, .string b.f1, .int .i64 b.f2]] w fun e w' => e = .returned (.int .i64 (if a.f0 ≤ b.f0 then -1 else 1)) ∧ Below w.heap.size w w' := by
 have hu := Tryz.underlying24
 by_cases c : a.f0 ≤ b.f0
 ·rw [if_pos c]
  have cb : decide (a.f0 ≤ b.f0) = true := decide_eq_true c
  clear c
  go_enter Tryz.func37, Tryz.ntmps37
  go_wp2
  go_ret
  exact ⟨rfl, below_alloc (below_alloc (Below.refl _ _) _) _⟩
 ·rw [if_neg c]
  have cb : decide (a.f0 ≤ b.f0) = false := decide_eq_false c
  clear c
  go_enter Tryz.func37, Tryz.ntmps37
  go_wp2
  go_ret
  exact ⟨rfl, below_alloc (below_alloc (Below.refl _ _) _) _⟩
theorem segment_Look.sorted_two (l : List S24) (i : Nat) (h : i + 1 < l.length) : segment_Look.sorted (l.drop i) = (decide ((rd_T24 l (i : Int)).f0 < (rd_T24 l ((i + 1 : Nat) : Int)).f0) && segment_Look.sorted (l.drop (i + 1))) := by
 have e0 : l.drop i = rd_T24 l (i : Int) :: l.drop (i + 1) := by
  rw [List.drop_eq_getElem_cons (by omega)]
  congr 1
  unfold rd_T24
  rw [Int.toNat_natCast, List.getD_eq_getElem?_getD, List.getElem?_eq_getElem (by omega)]
  rfl
 have e1 : l.drop (i + 1) = rd_T24 l ((i + 1 : Nat) : Int) :: l.drop (i + 1 + 1) := by
  rw [List.drop_eq_getElem_cons h]
  congr 1
  unfold rd_T24
  rw [Int.toNat_natCast, List.getD_eq_getElem?_getD, List.getElem?_eq_getElem h]
  rfl
 rw [e0]
 conv => lhs; unfold segment_Look.sorted
 rw [e1]
theorem segment_Look.sorted_short (l : List S24) (h : l.length ≤ 1) : segment_Look.sorted l = true := by
 match l, h with
 | [], _ => rfl
 | [x], _ => rfl
theorem segment_Look.sorted_drop (l : List S24) (h : segment_Look.sorted l = true) (i : Nat) : segment_Look.sorted (l.drop i) = true := by
 induction i with
 | zero => exact h
 | succ i ih =>
  by_cases c : i + 1 < l.length
  ·rw [segment_Look.sorted_two l i c, Bool.and_eq_true] at ih
   exact ih.2
  exact segment_Look.sorted_short _ (by rw [List.length_drop]; omega)
theorem segment_sorted.calls (A0 : Option Addr) (c0 : Nat) (l0 : List S24) (w : World) (hr0 : Kd.C k24 w A0 l0.length l0) (hc0 : l0.length ≤ c0) :
  Calls Tryz.prog 36 #[.slice A0 l0.length c0, .func (.func 37) #[] #[]] w fun e w' => e = .returned (.bool (segment_Look.sorted l0)) ∧ Below w.heap.size w w' := by
 have hmax : l0.length ≤ 9223372036854775807 := hr0.2.1
 have HR := My.am hr0
 have HB := My.am (Below.refl w.heap.size w)
 clear hr0
 go_enter Tryz.func36, Tryz.ntmps36
 go_wp2
 go_loopg [5] (l0.length + 1) (fun kq v5 w' => ∃ (m : Nat) (i : Int), kq = m + 1 ∧ v5 = .int .i64 i ∧ Aside0 (i = (m : Int) - 1) ∧ m ≤ l0.length ∧ Aside0 (segment_Look.sorted (l0.drop (m - 1)) = true) ∧ Aside0 (Below w.heap.size w w'))
 case atStart => exact ⟨l0.length, _, rfl, rfl, ⟨rfl⟩, Nat.le_refl _, ⟨segment_Look.sorted_short _ (by rw [List.length_drop]; omega)⟩, HB⟩
 case round =>
  obtain ⟨m, i, rfl, rfl, hi, hm, HS, HW⟩ := hrel
  by_cases c : 2 ≤ m
  rotate_left
  ·have hi' := hi.out
   have d0 : i ≤ (0 : Int) := by omega
   have d1 : decide ((0 : Int) < i) = false := by simp; omega
   clear hi'
   go_wp2
   go_ret
   refine ⟨?_, HW.out⟩
   have := HS.out
   have e : m - 1 = 0 := by omega
   rw [e, List.drop_zero] at this
   rw [this]
   rfl
  have hi' := hi.out
  have d0 : (0 : Int) < i := by omega
  have d1 : decide ((0 : Int) < i) = true := by simp; omega
  have z1 : (1 : Int) ≤ i := by omega
  have z2 : i < (l0.length : Int) := by omega
  have z3 : i - 1 < (l0.length : Int) := by omega
  have z4 : (0 : Int) ≤ i - 1 := by omega
  have z6 : (0 : Int) ≤ i := by omega
  have z5 : IntKind.i64.wrap (i - 1) = i - 1 := by rw [IntKind.wrap_i64]; omega
  clear hi'
  have hC := Kd.C_below HR.out HW.out
  obtain ⟨ad, rfl, x0, x1, x2⟩ := at_T24 hC i z6 z2
  obtain ⟨ad2, e2, y0, y1, y2⟩ := at_T24 hC (i - 1) z4 z3
  cases e2
  rw [show (i - 1).toNat = i.toNat - 1 from by omega] at y0 y1 y2
  clear hC
  go_wp2
  go_still_tail 10, (by kernel_rfl)
  change wpList _ _ _ _ _ wr.drew
  have HW2 := My.am (below_drew HW.out)
  clear HW x0 x1 x2 y0 y1 y2 z5
  generalize wr.drew = w3 at HW2 ⊢
  by_cases ct : (rd_T24 l0 i).f0 ≤ (rd_T24 l0 (i - 1)).f0
  ·have hcmp := segment_Look1.calls (rd_T24 l0 i) (rd_T24 l0 (i - 1)) w3
   rw [if_pos ct] at hcmp
   have HC := My.am hcmp
   clear hcmp
   go_wp2_with (go_at_call 37; refine HC.out.mono ?_; rintro e w4 ⟨rfl, hb⟩; have HB4 := My.am (below_step HW2.out hb); clear hb)
   go_ret
   refine ⟨?_, HB4.out⟩
   have hi' := hi.out
   have e1 : i = ((m - 2 + 1 : Nat) : Int) := by omega
   have e2 : i - 1 = ((m - 2 : Nat) : Int) := by omega
   cases hs : segment_Look.sorted l0 with
   | false => rfl
   | true =>
    have h2 := segment_Look.sorted_drop l0 hs (m - 2)
    rw [segment_Look.sorted_two l0 (m - 2) (by omega), Bool.and_eq_true, decide_eq_true_eq, ← e1, ← e2] at h2
    omega
  have hcmp := segment_Look1.calls (rd_T24 l0 i) (rd_T24 l0 (i - 1)) w3
  rw [if_neg ct] at hcmp
  have HC := My.am hcmp
  clear hcmp
  go_wp2_with (go_at_call 37; refine HC.out.mono ?_; rintro e w4 ⟨rfl, hb⟩; have HB4 := My.am (below_step HW2.out hb); clear hb)
  go_roundg m
  case measure => omega
  case rel =>
   refine ⟨m - 1, i - 1, by omega, rfl, ⟨by have := hi.out; omega⟩, by omega, ⟨?_⟩, HB4⟩
   have hi' := hi.out
   have e1 : i = ((m - 2 + 1 : Nat) : Int) := by omega
   have e2 : i - 1 = ((m - 2 : Nat) : Int) := by omega
   have h1 := HS.out
   rw [show m - 1 - 1 = m - 2 from by omega, segment_Look.sorted_two l0 (m - 2) (by omega), ← e1, ← e2, show m - 2 + 1 = m - 1 from by omega, h1, decide_eq_true (by omega)]
   rfl
theorem segment_backward.calls (A : Option Addr) (n c : Nat) (w : World) :
  Calls Tryz.prog 41 #[.slice A n c] w fun e w' => e = .returned (.func (.func 65) #[] #[.pointer (some ⟨w.heap.size, 0, none⟩)]) ∧ w' = w.alloc (.cells #[.slice A n c] 22) := by
 go_enter Tryz.func41, Tryz.ntmps41
 go_wp2
 go_ret
 exact ⟨rfl, rfl⟩
section
attribute [local go_sem] Oper.semAt_some
set_option maxHeartbeats 4000000 in
/-- The library's iterator, from the last element on; whatever the loop's rounds do with J. -/
theorem segment_backward_walk (n l bs : Nat) (A : Option Addr) (c0 : Nat) (l0 : List S24) (J : Nat → World → Prop) (Jx : World → Prop) (hn : 1 ≤ n) (hmax : l0.length ≤ 9223372036854775807)
  (hJc : ∀ m W, J m W → W.cell? ⟨bs, 0, none⟩ = some (.slice A l0.length c0) ∧ Kd.C k24 W A l0.length l0)
  (hY : ∀ m W, m < l0.length → J (m + 1) W → YieldAt Fence.wide (n - 1) Tryz.prog l #[.int .i64 (m : Int), .agg #[.int .i64 (rd_T24 l0 (m : Int)).f0, .string (rd_T24 l0 (m : Int)).f1, .int .i64 (rd_T24 l0 (m : Int)).f2]] W fun e W' => (e = .returned (.bool true) ∧ J m W') ∨ (e = .returned (.bool false) ∧ Jx W'))
  (W : World) (hJ : J l0.length W) :
  CallsIn Fence.wide n Tryz.prog 65 #[.func (.yield l) #[] #[], .pointer (some ⟨bs, 0, none⟩)] W fun e W' => (∃ u, e = .returned u) ∧ (J 0 W' ∨ Jx W') := by
 have HJ := My.am hJ
 have HJc := My.am hJc
 have HY := My.am hY
 obtain ⟨s1, _⟩ := hJc _ _ hJ
 clear hJ hJc hY
 refine callsIn_of_wp Tryz.func65 rfl trivial ?_ rfl
 simp only [Tryz.ntmps65, List.size_toArray, List.length_cons, List.length_nil, Nat.reduceAdd, Nat.reduceSub, Array.replicate_succ, Array.replicate_zero, List.push_toArray, List.append_toArray, List.nil_append, List.cons_append]
 gi_wp2
 gi_loopg [3] (l0.length + 1) (fun kq v3 wr => ∃ (m : Nat) (i : Int), kq = m + 1 ∧ v3 = .int .i64 i ∧ Aside0 (i = (m : Int) - 1) ∧ m ≤ l0.length ∧ Aside0 (J m wr))
 case atStart => exact ⟨l0.length, _, rfl, rfl, ⟨rfl⟩, Nat.le_refl _, HJ⟩
 case round =>
  obtain ⟨m, i, rfl, rfl, hi, hm, HJ1⟩ := hrel
  clear s1 HJ
  by_cases c : 1 ≤ m
  rotate_left
  ·have d0 : i < (0 : Int) := by have := hi.out; omega
   have d1 : decide ((0 : Int) ≤ i) = false := by simp; omega
   obtain rfl : m = 0 := by omega
   gi_wp2
   go_end0
   exact ⟨⟨_, rfl⟩, .inl HJ1.out⟩
  obtain ⟨m, rfl⟩ : ∃ q, m = q + 1 := ⟨m - 1, by omega⟩
  obtain rfl : i = (m : Int) := by have := hi.out; omega
  obtain ⟨s1, s2⟩ := HJc.out _ _ HJ1.out
  have z0 : (0 : Int) ≤ (m : Int) := by omega
  have z2 : (m : Int) < (l0.length : Int) := by omega
  have z3 : m < l0.length := by omega
  have d1 : decide ((0 : Int) ≤ (m : Int)) = true := by simp
  obtain ⟨ad, rfl, x0, x1, x2⟩ := at_T24 s2 (m : Int) z0 z2
  rw [Int.toNat_natCast] at x0 x1 x2
  obtain ⟨fn, tmps, assign, body, hy, hR⟩ := HY.out m _ z3 HJ1.out
  have HR := My.am hR
  clear hR s2
  gi_wp2
  refine HR.out.mono ?_
  rintro e w2 (⟨rfl, hj⟩ | ⟨rfl, hx⟩)
  ·have HJ2 := My.am hj
   clear hj
   gi_wp2
   gi_roundg (m + 1)
   case measure => omega
   case rel => exact ⟨m, (m : Int) - 1, rfl, rfl, ⟨rfl⟩, by omega, HJ2⟩
  have HX := My.am hx
  clear hx
  gi_wp2
  refine bodyPost_ret (results_none rfl _ _ _) rfl ?_
  exact ⟨⟨_, rfl⟩, .inr HX.out⟩
end
/-- What Look has found so far: its variables in memory. -/
structure LkS (w : World) (B bo bm : Nat) (num good : Int) (bodies : List ByteArray) (drop : List Int) (met : Bool) (W : World) : Prop where
 bel : Below w.heap.size w W
 b1 : w.heap.size ≤ bo
 b2 : bo + 1 = bm
 b3 : bm < B
 b4 : B ≤ W.heap.size
 hm : W.heap[bm]? = some (.cells #[.bool met] 4 (0, 0))
 ho : ∃ vb vd, W.heap[bo]? = some (.cells #[.int .i64 num, .int .i64 good, vb, vd] 57 (0, 0)) ∧ W.ownsRow B 9 1 vb bodies.length (bodies.map Value.string) ∧ W.ownsRow B 3 1 vd drop.length (drop.map (Value.int .i64))
theorem LkS.move {w W W' : World} {B bo bm : Nat} {num good : Int} {bodies : List ByteArray} {drop : List Int} {met : Bool} (h : LkS w B bo bm num good bodies drop met W) (hb : Below W.heap.size W W') : LkS w B bo bm num good bodies drop met W' := by
 have g : ∀ {k : Nat} {o : Obj}, W.heap[k]? = some o → W'.heap[k]? = some o := fun hk => (hb.block _ (blk_lt hk)).trans hk
 obtain ⟨vb, vd, h1, h2, h3⟩ := h.ho
 exact ⟨below_then h.bel h.bel.size hb, h.b1, h.b2, h.b3, Nat.le_trans h.b4 hb.size, g h.hm, vb, vd, g h1, own_move h2 (fun k hk => hb.block k (own_lt h2 k hk)), own_move h3 (fun k hk => hb.block k (own_lt h3 k hk))⟩
theorem LkS.cells {w W : World} {B bo bm : Nat} {num good : Int} {bodies : List ByteArray} {drop : List Int} {met : Bool} (h : LkS w B bo bm num good bodies drop met W) {vb vd : Value} (h1 : W.heap[bo]? = some (.cells #[.int .i64 num, .int .i64 good, vb, vd] 57 (0, 0))) :
  W.cell? ⟨bm, 0, none⟩ = some (.bool met) ∧ W.frozen? ⟨bm, 0, none⟩ = false ∧ W.cell? ⟨bo, 0, none⟩ = some (.int .i64 num) ∧ W.cell? ⟨bo, 1, none⟩ = some (.int .i64 good) ∧ W.cell? ⟨bo, 2, none⟩ = some vb ∧ W.cell? ⟨bo, 3, none⟩ = some vd ∧ W.frozen? ⟨bo, 0, none⟩ = false ∧ W.frozen? ⟨bo, 1, none⟩ = false ∧ W.frozen? ⟨bo, 2, none⟩ = false ∧ W.frozen? ⟨bo, 3, none⟩ = false :=
 ⟨(blk_cell h.hm 0).trans rfl, by simp [World.frozen?, h.hm], (blk_cell h1 0).trans rfl, (blk_cell h1 1).trans rfl, (blk_cell h1 2).trans rfl, (blk_cell h1 3).trans rfl, by simp [World.frozen?, h1], by simp [World.frozen?, h1], by simp [World.frozen?, h1], by simp [World.frozen?, h1]⟩
/-- What a file leaves as it lay. -/
def LkKeep (B bo bm : Nat) (W W' : World) : Prop := W.heap.size ≤ W'.heap.size ∧ ∀ k o, W.heap[k]? = some o → (k < B ∧ k ≠ bo ∧ k ≠ bm ∨ o.isCells = false) → W'.heap[k]? = some o
theorem LkKeep.below {B bo bm : Nat} {W W' : World} (h : Below W.heap.size W W') : LkKeep B bo bm W W' := ⟨h.size, fun k o hk _ => (h.block _ (blk_lt hk)).trans hk⟩
theorem LkKeep.trans {B bo bm : Nat} {W W' W'' : World} (h : LkKeep B bo bm W W') (h' : LkKeep B bo bm W' W'') : LkKeep B bo bm W W'' := ⟨Nat.le_trans h.1 h'.1, fun k o hk hc => h'.2 k o (h.2 k o hk hc) hc⟩
theorem LkS.dropped {w W w2 : World} {B bo bm : Nat} {num good n : Int} {bodies : List ByteArray} {drop : List Int} {met : Bool} {vb vd v1 : Value} {o : Obj} (h : LkS w B bo bm num good bodies drop met W) (h1 : W.heap[bo]? = some (.cells #[.int .i64 num, .int .i64 good, vb, vd] 57 (0, 0)))
  (h2 : W.ownsRow B 9 1 vb bodies.length (bodies.map Value.string)) (h3 : W.ownsRow B 3 1 vd drop.length (drop.map (Value.int .i64))) (hown : w2.ownsRow B 3 1 v1 (drop.length + 1) (drop.map (Value.int .i64) ++ [.int .i64 n])) (hg : (W.alloc o).grownBy w2 vd.ownBlock) :
  (w2.cell? ⟨bo, 3, none⟩ = some vd ∧ w2.frozen? ⟨bo, 3, none⟩ = false) ∧ LkS w B bo bm num good bodies (drop ++ [n]) met (w2.setCell ⟨bo, 3, none⟩ v1) ∧ LkKeep B bo bm W (w2.setCell ⟨bo, 3, none⟩ v1) := by
 have b2 := h.b2
 have b3 := h.b3
 have b4 := h.b4
 have hvd : ∀ k, vd.ownBlock = some k → B ≤ k := fun k hk => own_base h3 k hk
 have g0 : ∀ {k : Nat} {o' : Obj}, vd.ownBlock ≠ some k → W.heap[k]? = some o' → w2.heap[k]? = some o' := fun hk ho =>
  (hg.block _ (by have := blk_lt ho; simp; omega) (fun e => hk e.symm)).trans (blk_alloc ho _)
 have sm : ∀ k, k < B → vd.ownBlock ≠ some k := fun k hk e => by have := hvd k e; omega
 have nc : ∀ {k : Nat} {o' : Obj}, W.heap[k]? = some o' → o'.isCells = false → vd.ownBlock ≠ some k := fun hk hc e => by
  obtain ⟨cells, hc2⟩ := own_typed h3 _ e
  rw [hk] at hc2
  injection hc2 with hc2
  rw [hc2] at hc
  cases hc
 have e1 := g0 (sm bo (by omega)) h1
 have hsz : W.heap.size ≤ w2.heap.size := by have := hg.size; simp at this; omega
 refine ⟨⟨(blk_cell e1 3).trans rfl, by simp [World.frozen?, e1]⟩, ⟨?_, h.b1, b2, b3, by rw [show (w2.setCell ⟨bo, 3, none⟩ v1).heap.size = w2.heap.size by simp]; omega, ?_, vb, v1, blk_put e1 3 _ rfl, ?_, ?_⟩, by rw [show (w2.setCell ⟨bo, 3, none⟩ v1).heap.size = w2.heap.size by simp]; exact hsz, ?_⟩
 ·have e2 : Below w.heap.size w w2 := (below_alloc h.bel o).grown hg (by have := h.bel.size; simp; omega) (fun k hk => by have := hvd k hk; have := h.b1; omega)
  exact e2.setCell (p := ⟨bo, 3, none⟩) h.b1 _
 ·rw [Below.heap_setCell _ _ _ _ (by show bm ≠ bo; omega)]
  exact g0 (sm bm (by omega)) h.hm
 ·refine own_move h2 (fun k hk => ?_)
  have hk1 := own_base h2 k hk
  rw [Below.heap_setCell _ _ _ _ (by show k ≠ bo; omega)]
  obtain ⟨cells, hc⟩ := own_typed h2 k hk
  rw [hc]
  refine g0 (fun e => ?_) hc
  obtain ⟨cells', hc'⟩ := own_typed h3 k e
  rw [hc] at hc'
  injection hc' with hc'
  injection hc' with _ hc'
  exact absurd hc' (by decide)
 ·rw [List.length_append, List.length_singleton, List.map_append]
  refine own_move hown (fun k hk => ?_)
  have := own_base hown k hk
  rw [Below.heap_setCell _ _ _ _ (by show k ≠ bo; omega)]
 ·intro k o' hk hc
  rcases hc with ⟨c1, c2, c3⟩ | hc
  ·rw [Below.heap_setCell _ _ _ _ (by show k ≠ bo; omega)]
   exact g0 (sm k c1) hk
  have hne : k ≠ bo := fun e => by
   rw [e, h1] at hk
   injection hk with hk
   rw [← hk] at hc
   cases hc
  rw [Below.heap_setCell _ _ _ _ (by exact hne)]
  exact g0 (nc hk hc) hk
theorem LkS.found {w W : World} {B bo bm : Nat} {num good n q : Int} {bodies bs : List ByteArray} {drop : List Int} {met : Bool} {vb vd v1 : Value} (h : LkS w B bo bm num good bodies drop met W) (h1 : W.heap[bo]? = some (.cells #[.int .i64 num, .int .i64 good, vb, vd] 57 (0, 0)))
  (h3 : W.ownsRow B 3 1 vd drop.length (drop.map (Value.int .i64))) (hown : W.ownsRow B 9 1 v1 bs.length (bs.map Value.string)) :
  LkS w B bo bm n q bs drop true ((((W.setCell ⟨bo, 0, none⟩ (.int .i64 n)).setCell ⟨bo, 2, none⟩ v1).setCell ⟨bo, 1, none⟩ (.int .i64 q)).setCell ⟨bm, 0, none⟩ (.bool true)) ∧ LkKeep B bo bm W ((((W.setCell ⟨bo, 0, none⟩ (.int .i64 n)).setCell ⟨bo, 2, none⟩ v1).setCell ⟨bo, 1, none⟩ (.int .i64 q)).setCell ⟨bm, 0, none⟩ (.bool true)) := by
 have b1 := h.b1
 have b2 := h.b2
 have b3 := h.b3
 have b4 := h.b4
 have e0 : ∀ k, k ≠ bo → k ≠ bm → ((((W.setCell ⟨bo, 0, none⟩ (.int .i64 n)).setCell ⟨bo, 2, none⟩ v1).setCell ⟨bo, 1, none⟩ (.int .i64 q)).setCell ⟨bm, 0, none⟩ (.bool true)).heap[k]? = W.heap[k]? := fun k hk hk2 => by
  rw [Below.heap_setCell _ _ _ _ (by exact hk2), Below.heap_setCell _ _ _ _ (by exact hk), Below.heap_setCell _ _ _ _ (by exact hk), Below.heap_setCell _ _ _ _ (by exact hk)]
 have x1 := blk_put (blk_put (blk_put h1 0 (.int .i64 n) rfl) 2 v1 rfl) 1 (.int .i64 q) rfl
 have xm : (((W.setCell ⟨bo, 0, none⟩ (.int .i64 n)).setCell ⟨bo, 2, none⟩ v1).setCell ⟨bo, 1, none⟩ (.int .i64 q)).heap[bm]? = some (.cells #[.bool met] 4 (0, 0)) := by
  rw [Below.heap_setCell _ _ _ _ (by show bm ≠ bo; omega), Below.heap_setCell _ _ _ _ (by show bm ≠ bo; omega), Below.heap_setCell _ _ _ _ (by show bm ≠ bo; omega)]
  exact h.hm
 refine ⟨⟨?_, b1, b2, b3, by simpa using b4, blk_put xm 0 _ rfl, v1, vd, ?_, own_move hown (fun k hk => ?_), own_move h3 (fun k hk => ?_)⟩, by simp, fun k o' hk hc => ?_⟩
 ·exact (((h.bel.setCell (p := ⟨bo, 0, none⟩) b1 _).setCell (p := ⟨bo, 2, none⟩) b1 _).setCell (p := ⟨bo, 1, none⟩) b1 _).setCell (p := ⟨bm, 0, none⟩) (by show w.heap.size ≤ bm; omega) _
 ·rw [Below.heap_setCell _ _ _ _ (by show bo ≠ bm; omega)]
  exact x1
 ·have := own_base hown k hk
  exact e0 k (by omega) (by omega)
 ·have := own_base h3 k hk
  exact e0 k (by omega) (by omega)
 ·rcases hc with ⟨_, c2, c3⟩ | hc
  ·rw [e0 k c2 c3]
   exact hk
  have n1 : k ≠ bo := fun e => by
   rw [e, h1] at hk
   injection hk with hk
   rw [← hk] at hc
   cases hc
  have n2 : k ≠ bm := fun e => by
   rw [e, h.hm] at hk
   injection hk with hk
   rw [← hk] at hc
   cases hc
  rw [e0 k n1 n2]
  exact hk
theorem segment_Look.info : (Tryz.prog.info? 3).map (fun i => (i.zero, i.size, i.bytes)) = some (some (.int .i64 0), 1, 8) := by kernel_rfl
theorem segment_Look2.calls (k : Nat) (f : S24) (num good : Int) (bodies : List ByteArray) (drop : List Int) (met : Bool) (r1 r2 : Int) (r3 : List ByteArray) (r4 : List Int) (r5 : Bool) (r6 : Int)
  (h : segment_Look.step k f num good bodies drop met = some (r1, r2, r3, r4, r5, r6)) (w W : World) (B bo bm : Nat) (hS : LkS w B bo bm num good bodies drop met W) :
  Calls Tryz.prog 38 #[.agg #[.int .i64 f.f0, .string f.f1, .int .i64 f.f2], .pointer (some ⟨bm, 0, none⟩), .pointer (some ⟨bo, 0, none⟩)] W fun e W' => e = .returned (.int .i64 r6) ∧ LkS w B bo bm r1 r2 r3 r4 r5 W' ∧ LkKeep B bo bm W W' := by
 have hu := Tryz.underlying24
 have hu2 := Tryz.underlying57
 unfold segment_Look.step at h
 obtain ⟨⟨ob, oq, oe⟩, ho, h2⟩ := Option.bind_eq_some_iff.1 h
 clear h
 have HO := My.am ho
 clear ho
 have HS := My.am hS
 clear hS
 by_cases c1 : oe = 10 ∨ met = true
 ·rw [if_pos c1] at h2
  by_cases c2 : drop.length < 1000000000
  ·rw [if_pos c2] at h2
   obtain ⟨rfl, rfl, rfl, rfl, rfl, rfl⟩ : num = r1 ∧ good = r2 ∧ bodies = r3 ∧ drop ++ [f.f0] = r4 ∧ met = r5 ∧ 0 = r6 := by simpa using h2
   clear h2
   obtain ⟨i0, hi, hz0, hz1, hz2⟩ := info_parts segment_Look.info
   by_cases c3 : oe = 10
   ·have c3b : (oe == 10) = true := beq_iff_eq.2 c3
    clear c1 c3
    go_enter Tryz.func38, Tryz.ntmps38
    go_wp2_with (first | (go_at_call 39; refine (seal_Open.calls k f.f1 0 3 _ _ _ _ HO.out).mono ?_; rintro e w1 ⟨rfl, hb⟩; have HB1 := My.am (below_step (below_alloc (Below.refl W.heap.size W) _) hb); have hx := blk_below (blk_new W _) hb; have f0 := (blk_cell hx 0).trans rfl; have f1 := (blk_cell hx 1).trans rfl; clear hb hx; have HS1 := My.am (HS.out.move HB1.out); obtain ⟨vb, vd, q1, q2, q3⟩ := HS1.out.ho; have Q1 := My.am q1; have Q2 := My.am q2; have Q3 := My.am q3; clear q1 q2 q3; obtain ⟨y0, y1, y2, y3, y4, y5, y6, y7, y8, y9⟩ := LkS.cells HS1.out Q1.out; have hb4 := HS1.out.b4) | (at_builtin; refine wpList_append_own _ rfl _ _ 43 rfl B 3 i0 (.int .i64 0) 1 8 Tryz.underlying43 hi hz0 hz1 hz2 rfl (by decide) vd drop.length (drop.map (Value.int .i64)) rfl (own_alloc Q3.out _) ⟨w1.heap.size, 0, none⟩ 1 1 [.int .i64 f.f0] rfl rfl (fun j u hj => by rcases j with _ | j; (cases hj; exact (blk_cell (blk_new w1 _) 0).trans rfl); (cases hj)) (fun u hu => by rw [List.mem_singleton.1 hu]; rfl) (by unfold maxLen; omega) (by omega) (by simp; omega) ?_; intro v' w2 hown' hgrow _; obtain ⟨⟨e0, e1⟩, e2, e3⟩ := LkS.dropped (n := f.f0) HS1.out Q1.out Q2.out Q3.out hown' hgrow; have E2 := My.am e2; have E3 := My.am e3; obtain ⟨g', cap', rfl⟩ := ownsRow_succ hown'; clear hown' hgrow e2 e3))
    go_ret
    exact ⟨rfl, E2.out, (LkKeep.below HB1.out).trans E3.out⟩
   have c3b : (oe == 10) = false := beq_eq_false_iff_ne.2 c3
   obtain rfl : met = true := c1.resolve_left c3
   clear c1 c3
   go_enter Tryz.func38, Tryz.ntmps38
   go_wp2_with (first | (go_at_call 39; refine (seal_Open.calls k f.f1 0 3 _ _ _ _ HO.out).mono ?_; rintro e w1 ⟨rfl, hb⟩; have HB1 := My.am (below_step (below_alloc (Below.refl W.heap.size W) _) hb); have hx := blk_below (blk_new W _) hb; have f0 := (blk_cell hx 0).trans rfl; have f1 := (blk_cell hx 1).trans rfl; clear hb hx; have HS1 := My.am (HS.out.move HB1.out); obtain ⟨vb, vd, q1, q2, q3⟩ := HS1.out.ho; have Q1 := My.am q1; have Q2 := My.am q2; have Q3 := My.am q3; clear q1 q2 q3; obtain ⟨y0, y1, y2, y3, y4, y5, y6, y7, y8, y9⟩ := LkS.cells HS1.out Q1.out; have hb4 := HS1.out.b4) | (at_builtin; refine wpList_append_own _ rfl _ _ 43 rfl B 3 i0 (.int .i64 0) 1 8 Tryz.underlying43 hi hz0 hz1 hz2 rfl (by decide) vd drop.length (drop.map (Value.int .i64)) rfl (own_alloc Q3.out _) ⟨w1.heap.size, 0, none⟩ 1 1 [.int .i64 f.f0] rfl rfl (fun j u hj => by rcases j with _ | j; (cases hj; exact (blk_cell (blk_new w1 _) 0).trans rfl); (cases hj)) (fun u hu => by rw [List.mem_singleton.1 hu]; rfl) (by unfold maxLen; omega) (by omega) (by simp; omega) ?_; intro v' w2 hown' hgrow _; obtain ⟨⟨e0, e1⟩, e2, e3⟩ := LkS.dropped (n := f.f0) HS1.out Q1.out Q2.out Q3.out hown' hgrow; have E2 := My.am e2; have E3 := My.am e3; obtain ⟨g', cap', rfl⟩ := ownsRow_succ hown'; clear hown' hgrow e2 e3))
   go_ret
   exact ⟨rfl, E2.out, (LkKeep.below HB1.out).trans E3.out⟩
  ·rw [if_neg c2] at h2
   cases h2
 ·rw [if_neg c1] at h2
  obtain ⟨⟨cb, cq, ce⟩, hc, h3⟩ := Option.bind_eq_some_iff.1 h2
  clear h2
  have HC := My.am hc
  clear hc
  have c3b : (oe == 10) = false := beq_eq_false_iff_ne.2 (fun e => c1 (.inl e))
  obtain rfl : met = false := by
   cases met with
   | false => rfl
   | true => exact absurd (.inr rfl) c1
  clear c1
  by_cases c4 : oe ≠ 0 ∨ ce ≠ 0 ∧ ce ≠ 10
  ·rw [if_pos c4] at h3
   obtain ⟨rfl, rfl, rfl, rfl, rfl, rfl⟩ : num = r1 ∧ good = r2 ∧ bodies = r3 ∧ drop = r4 ∧ false = r5 ∧ 170 = r6 := by simpa using h3
   clear h3
   by_cases c5 : oe = 0
   ·obtain ⟨c6, c7⟩ := c4.resolve_left (fun h => h c5)
    have c5b : (oe != 0) = false := bne_eq_false_iff_eq.2 c5
    have c6b : (ce != 0) = true := bne_iff_ne.2 c6
    have c7b : (ce != 10) = true := bne_iff_ne.2 c7
    clear c4 c5 c6 c7
    go_enter Tryz.func38, Tryz.ntmps38
    go_wp2_with (first | (go_at_call 39; refine (seal_Open.calls k f.f1 0 3 _ _ _ _ HO.out).mono ?_; rintro e w1 ⟨rfl, hb⟩; have HB1 := My.am (below_step (below_alloc (Below.refl W.heap.size W) _) hb); have hx := blk_below (blk_new W _) hb; have f0 := (blk_cell hx 0).trans rfl; have f1 := (blk_cell hx 1).trans rfl; clear hb hx; have HS1 := My.am (HS.out.move HB1.out); obtain ⟨vb, vd, q1, q2, q3⟩ := HS1.out.ho; have Q1 := My.am q1; have Q2 := My.am q2; have Q3 := My.am q3; clear q1 q2 q3; obtain ⟨y0, y1, y2, y3, y4, y5, y6, y7, y8, y9⟩ := LkS.cells HS1.out Q1.out; have hb4 := HS1.out.b4) | (go_at_call 40; refine (seal_Cut.calls k f.f1 3 _ _ _ _ HC.out).mono ?_; rintro e w2 ⟨cv, rfl, hr, hb⟩; obtain ⟨cA, cc, rfl⟩ := Kd.R_slice hr; have HB2 := My.am (below_step HB1.out hb); have HS2 := My.am (HS1.out.move hb); obtain ⟨_, ci, cr1, cr2⟩ := hr; have CR := My.am cr1; have CE := My.am (My.reps_enc Value.string cb ci cr2); have x0 := (hb.cell (p := ⟨W.heap.size, 0, none⟩) (World.block_lt_of_cell? w1 _ f0)).trans f0; clear hb cr1 cr2; obtain ⟨vb2, vd2, q1, q2, q3⟩ := HS2.out.ho; have P1 := My.am q1; have P3 := My.am q3; clear q1 q2 q3; obtain ⟨z0, z1, z2, z3, z4, z5, z6, z7, z8, z9⟩ := LkS.cells HS2.out P1.out; have nb1 : ¬ bm = bo := (by have := HS.out.b2; omega); have nb2 : ¬ bo = bm := (by have := HS.out.b2; omega)))
    go_ret
    exact ⟨rfl, HS2.out, LkKeep.below HB2.out⟩
   have c5b : (oe != 0) = true := bne_iff_ne.2 c5
   clear c4 c5
   go_enter Tryz.func38, Tryz.ntmps38
   go_wp2_with (first | (go_at_call 39; refine (seal_Open.calls k f.f1 0 3 _ _ _ _ HO.out).mono ?_; rintro e w1 ⟨rfl, hb⟩; have HB1 := My.am (below_step (below_alloc (Below.refl W.heap.size W) _) hb); have hx := blk_below (blk_new W _) hb; have f0 := (blk_cell hx 0).trans rfl; have f1 := (blk_cell hx 1).trans rfl; clear hb hx; have HS1 := My.am (HS.out.move HB1.out); obtain ⟨vb, vd, q1, q2, q3⟩ := HS1.out.ho; have Q1 := My.am q1; have Q2 := My.am q2; have Q3 := My.am q3; clear q1 q2 q3; obtain ⟨y0, y1, y2, y3, y4, y5, y6, y7, y8, y9⟩ := LkS.cells HS1.out Q1.out; have hb4 := HS1.out.b4) | (go_at_call 40; refine (seal_Cut.calls k f.f1 3 _ _ _ _ HC.out).mono ?_; rintro e w2 ⟨cv, rfl, hr, hb⟩; obtain ⟨cA, cc, rfl⟩ := Kd.R_slice hr; have HB2 := My.am (below_step HB1.out hb); have HS2 := My.am (HS1.out.move hb); obtain ⟨_, ci, cr1, cr2⟩ := hr; have CR := My.am cr1; have CE := My.am (My.reps_enc Value.string cb ci cr2); have x0 := (hb.cell (p := ⟨W.heap.size, 0, none⟩) (World.block_lt_of_cell? w1 _ f0)).trans f0; clear hb cr1 cr2; obtain ⟨vb2, vd2, q1, q2, q3⟩ := HS2.out.ho; have P1 := My.am q1; have P3 := My.am q3; clear q1 q2 q3; obtain ⟨z0, z1, z2, z3, z4, z5, z6, z7, z8, z9⟩ := LkS.cells HS2.out P1.out; have nb1 : ¬ bm = bo := (by have := HS.out.b2; omega); have nb2 : ¬ bo = bm := (by have := HS.out.b2; omega)))
   go_ret
   exact ⟨rfl, HS2.out, LkKeep.below HB2.out⟩
  rw [if_neg c4] at h3
  obtain ⟨rfl, rfl, rfl, rfl, rfl, rfl⟩ : f.f0 = r1 ∧ cq = r2 ∧ cb = r3 ∧ drop = r4 ∧ true = r5 ∧ 0 = r6 := by simpa using h3
  clear h3
  have c5 : oe = 0 := Decidable.byContradiction fun h => c4 (.inl h)
  have c5b : (oe != 0) = false := bne_eq_false_iff_eq.2 c5
  by_cases c6 : ce = 0
  ·have c6b : (ce != 0) = false := bne_eq_false_iff_eq.2 c6
   clear c4 c5 c6
   go_enter Tryz.func38, Tryz.ntmps38
   go_wp2_with (first | (go_at_call 39; refine (seal_Open.calls k f.f1 0 3 _ _ _ _ HO.out).mono ?_; rintro e w1 ⟨rfl, hb⟩; have HB1 := My.am (below_step (below_alloc (Below.refl W.heap.size W) _) hb); have hx := blk_below (blk_new W _) hb; have f0 := (blk_cell hx 0).trans rfl; have f1 := (blk_cell hx 1).trans rfl; clear hb hx; have HS1 := My.am (HS.out.move HB1.out); obtain ⟨vb, vd, q1, q2, q3⟩ := HS1.out.ho; have Q1 := My.am q1; have Q2 := My.am q2; have Q3 := My.am q3; clear q1 q2 q3; obtain ⟨y0, y1, y2, y3, y4, y5, y6, y7, y8, y9⟩ := LkS.cells HS1.out Q1.out; have hb4 := HS1.out.b4) | (go_at_call 40; refine (seal_Cut.calls k f.f1 3 _ _ _ _ HC.out).mono ?_; rintro e w2 ⟨cv, rfl, hr, hb⟩; obtain ⟨cA, cc, rfl⟩ := Kd.R_slice hr; have HB2 := My.am (below_step HB1.out hb); have HS2 := My.am (HS1.out.move hb); obtain ⟨_, ci, cr1, cr2⟩ := hr; have CR := My.am cr1; have CE := My.am (My.reps_enc Value.string cb ci cr2); have x0 := (hb.cell (p := ⟨W.heap.size, 0, none⟩) (World.block_lt_of_cell? w1 _ f0)).trans f0; clear hb cr1 cr2; obtain ⟨vb2, vd2, q1, q2, q3⟩ := HS2.out.ho; have P1 := My.am q1; have P3 := My.am q3; clear q1 q2 q3; obtain ⟨z0, z1, z2, z3, z4, z5, z6, z7, z8, z9⟩ := LkS.cells HS2.out P1.out; have nb1 : ¬ bm = bo := (by have := HS.out.b2; omega); have nb2 : ¬ bo = bm := (by have := HS.out.b2; omega)))
   go_ret
   have ce2 := CE.out
   subst ce2
   obtain ⟨u1, u2⟩ := LkS.found (n := f.f0) (q := cq) HS2.out P1.out P3.out (own_weaken CR.out (by have := HB1.out.size; have := HS.out.b4; omega))
   exact ⟨rfl, u1, (LkKeep.below HB2.out).trans u2⟩
  have c6b : (ce != 0) = true := bne_iff_ne.2 c6
  have c7b : (ce != 10) = false := bne_eq_false_iff_eq.2 (Decidable.byContradiction fun h => c4 (.inr ⟨c6, h⟩))
  clear c4 c5 c6
  go_enter Tryz.func38, Tryz.ntmps38
  go_wp2_with (first | (go_at_call 39; refine (seal_Open.calls k f.f1 0 3 _ _ _ _ HO.out).mono ?_; rintro e w1 ⟨rfl, hb⟩; have HB1 := My.am (below_step (below_alloc (Below.refl W.heap.size W) _) hb); have hx := blk_below (blk_new W _) hb; have f0 := (blk_cell hx 0).trans rfl; have f1 := (blk_cell hx 1).trans rfl; clear hb hx; have HS1 := My.am (HS.out.move HB1.out); obtain ⟨vb, vd, q1, q2, q3⟩ := HS1.out.ho; have Q1 := My.am q1; have Q2 := My.am q2; have Q3 := My.am q3; clear q1 q2 q3; obtain ⟨y0, y1, y2, y3, y4, y5, y6, y7, y8, y9⟩ := LkS.cells HS1.out Q1.out; have hb4 := HS1.out.b4) | (go_at_call 40; refine (seal_Cut.calls k f.f1 3 _ _ _ _ HC.out).mono ?_; rintro e w2 ⟨cv, rfl, hr, hb⟩; obtain ⟨cA, cc, rfl⟩ := Kd.R_slice hr; have HB2 := My.am (below_step HB1.out hb); have HS2 := My.am (HS1.out.move hb); obtain ⟨_, ci, cr1, cr2⟩ := hr; have CR := My.am cr1; have CE := My.am (My.reps_enc Value.string cb ci cr2); have x0 := (hb.cell (p := ⟨W.heap.size, 0, none⟩) (World.block_lt_of_cell? w1 _ f0)).trans f0; clear hb cr1 cr2; obtain ⟨vb2, vd2, q1, q2, q3⟩ := HS2.out.ho; have P1 := My.am q1; have P3 := My.am q3; clear q1 q2 q3; obtain ⟨z0, z1, z2, z3, z4, z5, z6, z7, z8, z9⟩ := LkS.cells HS2.out P1.out; have nb1 : ¬ bm = bo := (by have := HS.out.b2; omega); have nb2 : ¬ bo = bm := (by have := HS.out.b2; omega)))
  go_ret
  have ce2 := CE.out
  subst ce2
  obtain ⟨u1, u2⟩ := LkS.found (n := f.f0) (q := cq) HS2.out P1.out P3.out (own_weaken CR.out (by have := HB1.out.size; have := HS.out.b4; omega))
  exact ⟨rfl, u1, (LkKeep.below HB2.out).trans u2⟩
theorem LkS.put {w W : World} {B bo bm l : Nat} {num good : Int} {bodies : List ByteArray} {drop : List Int} {met : Bool} {o o' : Obj} (h : LkS w B bo bm num good bodies drop met W) (hl : B ≤ l) (hf : W.heap[l]? = some o) (hc : o.isCells = false) : LkS w B bo bm num good bodies drop met (W.putObj l o') := by
 obtain ⟨vb, vd, h1, h2, h3⟩ := h.ho
 have b1 := h.b1
 have b2 := h.b2
 have b3 := h.b3
 have nc : ∀ {v : Value} {e : TypeId} {n : Nat} {us : List Value}, W.ownsRow B e 1 v n us → ∀ k, v.ownBlock = some k → k ≠ l := fun hr k hk e => by
  obtain ⟨cells, hc2⟩ := own_typed hr _ hk
  rw [e, hf] at hc2
  injection hc2 with hc2
  rw [hc2] at hc
  cases hc
 refine ⟨h.bel.grown (grownBy_putObj' W l o') h.bel.size (fun k e => by cases e; omega), b1, b2, b3, by have := h.b4; simpa [World.putObj] using this, (World.putObj_heap_other (by omega)).trans h.hm, vb, vd, (World.putObj_heap_other (by omega)).trans h1, own_move h2 (fun k hk => World.putObj_heap_other (nc h2 k hk)), own_move h3 (fun k hk => World.putObj_heap_other (nc h3 k hk))⟩
/-- What stands around a file's round. -/
structure LkJ (w : World) (bo n : Nat) (A : Option Addr) (c : Nat) (o : Obj) (ee : Int) (W : World) : Prop where
 lt : w.heap.size + 1 < bo
 r0 : W.heap[w.heap.size]? = some (.cells #[.int .i64 0, .int .i64 0, .slice none 0 0, .slice none 0 0] 57 (0, 0))
 r1 : W.heap[w.heap.size + 1]? = some (.cells #[.int .i64 ee] 27 (0, 0))
 fl : W.heap[bo + 2]? = some (.cells #[.func (.func 38) #[] #[.pointer (some ⟨bo + 1, 0, none⟩), .pointer (some ⟨bo, 0, none⟩)]] 91 (0, 0))
 fs : W.heap[bo + 3]? = some (.cells #[.slice A n c] 22 (0, 0))
 fd : W.heap[bo + 4]? = some (.deferred (some []))
 fo : W.heap[bo + 5]? = some o
theorem LkJ.keep {w W W' : World} {bo n : Nat} {A : Option Addr} {c : Nat} {o : Obj} {ee : Int} (h : LkJ w bo n A c o ee W) (hc : o.isCells = false) (hk : LkKeep (bo + 4) bo (bo + 1) W W') : LkJ w bo n A c o ee W' := by
 have := h.lt
 exact ⟨h.lt, hk.2 _ _ h.r0 (.inl ⟨by omega, by omega, by omega⟩), hk.2 _ _ h.r1 (.inl ⟨by omega, by omega, by omega⟩), hk.2 _ _ h.fl (.inl ⟨by omega, by omega, by omega⟩), hk.2 _ _ h.fs (.inl ⟨by omega, by omega, by omega⟩), hk.2 _ _ h.fd (.inr rfl), hk.2 _ _ h.fo (.inr hc)⟩
theorem LkJ.put {w W : World} {bo n : Nat} {A : Option Addr} {c : Nat} {o o' : Obj} {ee : Int} (h : LkJ w bo n A c o ee W) : LkJ w bo n A c o' ee (W.putObj (bo + 5) o') := by
 have := h.lt
 have g : ∀ {k : Nat} {x : Obj}, k ≠ bo + 5 → W.heap[k]? = some x → (W.putObj (bo + 5) o').heap[k]? = some x := fun hk ho => (World.putObj_heap_other hk).trans ho
 exact ⟨h.lt, g (by omega) h.r0, g (by omega) h.r1, g (by omega) h.fl, g (by omega) h.fs, g (by omega) h.fd, World.putObj_heap_same (blk_lt h.fo)⟩
theorem lk_results {fn : Func} (h : fn.results = #[.cell 2 57, .cell 3 27]) (tmps : Array Value) {a b : Nat} (h2 : tmps.getD 2 undef = .pointer (some ⟨a, 0, none⟩)) (h3 : tmps.getD 3 undef = .pointer (some ⟨b, 0, none⟩)) {W : World} {x y e : Int} {vb vd : Value}
  (ha : W.heap[a]? = some (.cells #[.int .i64 x, .int .i64 y, vb, vd] 57 (0, 0))) (hb : W.heap[b]? = some (.cells #[.int .i64 e] 27 (0, 0))) :
  (results fn tmps).run Tryz.prog W = .ok (.tuple #[.agg #[.int .i64 x, .int .i64 y, vb, vd], .int .i64 e]) W := by
 have k1 := Tryz.underlying57
 have k2 := Tryz.underlying27
 have c0 := (blk_cell ha 0).trans rfl
 have c1 := (blk_cell ha 1).trans rfl
 have c2 := (blk_cell ha 2).trans rfl
 have c3 := (blk_cell ha 3).trans rfl
 have d0 := (blk_cell hb 0).trans rfl
 have h2' : tmps[2]?.getD undef = .pointer (some ⟨a, 0, none⟩) := by simpa using h2
 have h3' : tmps[3]?.getD undef = .pointer (some ⟨b, 0, none⟩) := by simpa using h3
 simp [results, h, h2', h3', go_sem, k1, k2, c0, c1, c2, c3, d0]
theorem LkS.set {w W : World} {B bo bm : Nat} {num good : Int} {bodies : List ByteArray} {drop : List Int} {met : Bool} (h : LkS w B bo bm num good bodies drop met W) {p : Addr} (h1 : w.heap.size ≤ p.block) (h2 : p.block < bo) (v : Value) : LkS w B bo bm num good bodies drop met (W.setCell p v) := by
 obtain ⟨vb, vd, q1, q2, q3⟩ := h.ho
 have b1 := h.b1
 have b2 := h.b2
 have b3 := h.b3
 refine ⟨h.bel.setCell h1 v, b1, b2, b3, by simpa using h.b4, (Below.heap_setCell _ _ _ _ (by omega)).trans h.hm, vb, vd, (Below.heap_setCell _ _ _ _ (by omega)).trans q1, own_move q2 (fun k hk => ?_), own_move q3 (fun k hk => ?_)⟩
 ·have := own_base q2 k hk
  exact Below.heap_setCell _ _ _ _ (by omega)
 have := own_base q3 k hk
 exact Below.heap_setCell _ _ _ _ (by omega)
theorem LkJ.cells {w W : World} {bo n : Nat} {A : Option Addr} {c : Nat} {o : Obj} {ee : Int} (h : LkJ w bo n A c o ee W) :
  W.cell? ⟨w.heap.size, 0, none⟩ = some (.int .i64 0) ∧ W.cell? ⟨w.heap.size, 1, none⟩ = some (.int .i64 0) ∧ W.cell? ⟨w.heap.size, 2, none⟩ = some (.slice none 0 0) ∧ W.cell? ⟨w.heap.size, 3, none⟩ = some (.slice none 0 0) ∧ W.cell? ⟨w.heap.size + 1, 0, none⟩ = some (.int .i64 ee) ∧
  W.frozen? ⟨w.heap.size, 0, none⟩ = false ∧ W.frozen? ⟨w.heap.size, 1, none⟩ = false ∧ W.frozen? ⟨w.heap.size, 2, none⟩ = false ∧ W.frozen? ⟨w.heap.size, 3, none⟩ = false ∧ W.frozen? ⟨w.heap.size + 1, 0, none⟩ = false :=
 ⟨(blk_cell h.r0 0).trans rfl, (blk_cell h.r0 1).trans rfl, (blk_cell h.r0 2).trans rfl, (blk_cell h.r0 3).trans rfl, (blk_cell h.r1 0).trans rfl, by simp [World.frozen?, h.r0], by simp [World.frozen?, h.r0], by simp [World.frozen?, h.r0], by simp [World.frozen?, h.r0], by simp [World.frozen?, h.r1]⟩
theorem LkJ.fail {w W : World} {bo n : Nat} {A : Option Addr} {c : Nat} {o : Obj} {ee : Int} (h : LkJ w bo n A c o ee W) (e : Int) : LkJ w bo n A c o e (((((W.setCell ⟨w.heap.size, 0, none⟩ (.int .i64 0)).setCell ⟨w.heap.size, 1, none⟩ (.int .i64 0)).setCell ⟨w.heap.size, 2, none⟩ (.slice none 0 0)).setCell ⟨w.heap.size, 3, none⟩ (.slice none 0 0)).setCell ⟨w.heap.size + 1, 0, none⟩ (.int .i64 e)) := by
 have b := h.lt
 have g : ∀ {k : Nat} {x : Obj}, k ≠ w.heap.size → k ≠ w.heap.size + 1 → W.heap[k]? = some x → (((((W.setCell ⟨w.heap.size, 0, none⟩ (.int .i64 0)).setCell ⟨w.heap.size, 1, none⟩ (.int .i64 0)).setCell ⟨w.heap.size, 2, none⟩ (.slice none 0 0)).setCell ⟨w.heap.size, 3, none⟩ (.slice none 0 0)).setCell ⟨w.heap.size + 1, 0, none⟩ (.int .i64 e)).heap[k]? = some x := fun h1 h2 hx => by
  rw [Below.heap_setCell _ _ _ _ (by exact h2), Below.heap_setCell _ _ _ _ (by exact h1), Below.heap_setCell _ _ _ _ (by exact h1), Below.heap_setCell _ _ _ _ (by exact h1), Below.heap_setCell _ _ _ _ (by exact h1)]
  exact hx
 have x := blk_put (blk_put (blk_put (blk_put h.r0 0 (.int .i64 0) rfl) 1 (.int .i64 0) rfl) 2 (.slice none 0 0) rfl) 3 (.slice none 0 0) rfl
 have y : ((((W.setCell ⟨w.heap.size, 0, none⟩ (.int .i64 0)).setCell ⟨w.heap.size, 1, none⟩ (.int .i64 0)).setCell ⟨w.heap.size, 2, none⟩ (.slice none 0 0)).setCell ⟨w.heap.size, 3, none⟩ (.slice none 0 0)).heap[w.heap.size + 1]? = some (.cells #[.int .i64 ee] 27 (0, 0)) := by
  rw [Below.heap_setCell _ _ _ _ (by show w.heap.size + 1 ≠ w.heap.size; omega), Below.heap_setCell _ _ _ _ (by show w.heap.size + 1 ≠ w.heap.size; omega), Below.heap_setCell _ _ _ _ (by show w.heap.size + 1 ≠ w.heap.size; omega), Below.heap_setCell _ _ _ _ (by show w.heap.size + 1 ≠ w.heap.size; omega)]
  exact h.r1
 refine ⟨b, ?_, blk_put y 0 _ rfl, g (by omega) (by omega) h.fl, g (by omega) (by omega) h.fs, g (by omega) (by omega) h.fd, g (by omega) (by omega) h.fo⟩
 rw [Below.heap_setCell _ _ _ _ (by show w.heap.size ≠ w.heap.size + 1; omega)]
 exact x
theorem segment_Look.go_last (k m : Nat) (l0 : List S24) (hm : m < l0.length) : (l0.take (m + 1)).reverse = rd_T24 l0 (m : Int) :: (l0.take m).reverse := by
 rw [List.take_add_one, List.getElem?_eq_getElem hm, Option.toList_some, List.reverse_append, List.reverse_singleton, List.singleton_append]
 congr 1
 unfold rd_T24
 rw [Int.toNat_natCast, List.getD_eq_getElem?_getD, List.getElem?_eq_getElem hm]
 rfl
section
attribute [local go_sem] Oper.semAt_some
theorem segment_Look.calls (k : Nat) (A0 : Option Addr) (c0 : Nat) (l0 : List S24) (r1 r2 : Int) (r3 : List ByteArray) (r4 : List Int) (r5 : Int) (w : World) (hr0 : Kd.C k24 w A0 l0.length l0) (hc0 : l0.length ≤ c0) (h : segment_Look.f k l0 = some (r1, r2, r3, r4, r5)) :
  Calls Tryz.prog 19 #[.slice A0 l0.length c0] w fun e w' => ∃ v2_ v3_ : Value, e = .returned (.tuple #[.agg #[.int .i64 r1, .int .i64 r2, v2_, v3_], .int .i64 r5]) ∧ Kd.R Kd.string 9 w' w.heap.size (fun _ => True) v2_ r3 ∧ Kd.R (Kd.int .i64) 3 w' w.heap.size (fun _ => True) v3_ r4 ∧ Below w.heap.size w w' := by
 have hu := Tryz.underlying57
 have hu2 := Tryz.underlying27
 have hu3 := Tryz.underlying24
 unfold segment_Look.f at h
 by_cases c1 : segment_Look.sorted l0 = true
 ·rw [if_pos c1] at h
  have H0 := My.am h
  have HR := My.am hr0
  have HC0 := My.am hc0
  clear h hr0 hc0
  refine callsIn_wide (n := 9).1 ?_
  refine callsIn_of_wp_marks Tryz.func19 rfl trivial ?_ rfl
  simp only [Tryz.ntmps19, List.size_toArray, List.length_cons, List.length_nil, Nat.reduceAdd, Nat.reduceSub, Array.replicate_succ, Array.replicate_zero, List.push_toArray, List.append_toArray, List.nil_append, List.cons_append]
  gi_wp2_with (refine ⟨trivial, ?_⟩; first | (gi_at_call 36; refine (callsIn_wide.2 (segment_sorted.calls A0 c0 l0 _ (Kd.C_below HR.out (below_alloc (below_alloc (Below.refl w.heap.size w) _) _)) HC0.out)).mono ?_; rintro e w1 ⟨rfl, hb⟩; rw [c1]; have HB1 := My.am (below_step (below_alloc (below_alloc (Below.refl w.heap.size w) _) _) hb); have e1 := blk_below (blk_alloc (blk_new w _) _) hb; have e2 := blk_below (blk_new (w.alloc _) _) hb; have hz := hb.size; have E1 := My.am e1; have E2 := My.am e2; clear hb e1 e2) | (gi_at_call 41; refine (callsIn_wide.2 (segment_backward.calls _ _ _ _)).mono ?_; rintro e w2 ⟨rfl, rfl⟩))
  simp only [Nat.add_assoc, Nat.reduceAdd]
  have g0 : LkS w (w1.heap.size + 4) w1.heap.size (w1.heap.size + 1) (-1) 0 [] [] false ((((w1.alloc (.cells #[.int .i64 (-1), .int .i64 0, .slice none 0 0, .slice none 0 0] 57)).alloc (.cells #[.bool false] 4)).alloc (.cells #[.func (.func 38) #[] #[.pointer (some ⟨w1.heap.size + 1, 0, none⟩), .pointer (some ⟨w1.heap.size, 0, none⟩)]] 91)).alloc (.cells #[.slice A0 l0.length c0] 22)) :=
   ⟨below_alloc (below_alloc (below_alloc (below_alloc HB1.out _) _) _) _, HB1.out.size, rfl, by omega, by simp, by have := blk_alloc (blk_alloc (blk_new (w1.alloc (.cells #[.int .i64 (-1), .int .i64 0, .slice none 0 0, .slice none 0 0] 57)) (.cells #[.bool false] 4)) (.cells #[.func (.func 38) #[] #[.pointer (some ⟨w1.heap.size + 1, 0, none⟩), .pointer (some ⟨w1.heap.size, 0, none⟩)]] 91)) (.cells #[.slice A0 l0.length c0] 22); rwa [World.size_alloc] at this, .slice none 0 0, .slice none 0 0, blk_alloc (blk_alloc (blk_alloc (blk_new w1 _) _) _) _, World.ownsRow_nil _ _ _ _, World.ownsRow_nil _ _ _ _⟩
  have g1 : ((((w1.alloc (.cells #[.int .i64 (-1), .int .i64 0, .slice none 0 0, .slice none 0 0] 57)).alloc (.cells #[.bool false] 4)).alloc (.cells #[.func (.func 38) #[] #[.pointer (some ⟨w1.heap.size + 1, 0, none⟩), .pointer (some ⟨w1.heap.size, 0, none⟩)]] 91)).alloc (.cells #[.slice A0 l0.length c0] 22)).heap.size = w1.heap.size + 4 := by simp
  have g2 := blk_alloc (blk_new ((w1.alloc (.cells #[.int .i64 (-1), .int .i64 0, .slice none 0 0, .slice none 0 0] 57)).alloc (.cells #[.bool false] 4)) (.cells #[.func (.func 38) #[] #[.pointer (some ⟨w1.heap.size + 1, 0, none⟩), .pointer (some ⟨w1.heap.size, 0, none⟩)]] 91)) (.cells #[.slice A0 l0.length c0] 22)
  have g3 := blk_new (((w1.alloc (.cells #[.int .i64 (-1), .int .i64 0, .slice none 0 0, .slice none 0 0] 57)).alloc (.cells #[.bool false] 4)).alloc (.cells #[.func (.func 38) #[] #[.pointer (some ⟨w1.heap.size + 1, 0, none⟩), .pointer (some ⟨w1.heap.size, 0, none⟩)]] 91)) (.cells #[.slice A0 l0.length c0] 22)
  have g4 := blk_alloc (blk_alloc (blk_alloc (blk_alloc E1.out (.cells #[.int .i64 (-1), .int .i64 0, .slice none 0 0, .slice none 0 0] 57)) (.cells #[.bool false] 4)) (.cells #[.func (.func 38) #[] #[.pointer (some ⟨w1.heap.size + 1, 0, none⟩), .pointer (some ⟨w1.heap.size, 0, none⟩)]] 91)) (.cells #[.slice A0 l0.length c0] 22)
  have g5 := blk_alloc (blk_alloc (blk_alloc (blk_alloc E2.out (.cells #[.int .i64 (-1), .int .i64 0, .slice none 0 0, .slice none 0 0] 57)) (.cells #[.bool false] 4)) (.cells #[.func (.func 38) #[] #[.pointer (some ⟨w1.heap.size + 1, 0, none⟩), .pointer (some ⟨w1.heap.size, 0, none⟩)]] 91)) (.cells #[.slice A0 l0.length c0] 22)
  simp only [World.size_alloc, Nat.add_assoc, Nat.reduceAdd] at g2 g3 g5 hz
  generalize ((((w1.alloc (.cells #[.int .i64 (-1), .int .i64 0, .slice none 0 0, .slice none 0 0] 57)).alloc (.cells #[.bool false] 4)).alloc (.cells #[.func (.func 38) #[] #[.pointer (some ⟨w1.heap.size + 1, 0, none⟩), .pointer (some ⟨w1.heap.size, 0, none⟩)]] 91)).alloc (.cells #[.slice A0 l0.length c0] 22)) = w4 at g0 g1 g2 g3 g4 g5 ⊢
  have hbo : w.heap.size + 1 < w1.heap.size := by omega
  clear hz E1 E2 HB1
  generalize w1.heap.size = bo at g0 g1 g2 g3 hbo ⊢
  clear w1
  have G0 := My.am g0
  have G1 := My.am g1
  have G2 := My.am (And.intro g2 (And.intro g3 (And.intro g4 g5)))
  clear g0 g2 g3 g4 g5
  obtain ⟨⟨t1, t2, t3, t4, t5⟩, hgo, htl⟩ := Option.bind_eq_some_iff.1 H0.out
  have HGO := My.am hgo
  have HTL := My.am htl
  clear H0 hgo htl
  refine range_wp (n := 9) rfl (by decide) (gf := 65) (lb := #[.pointer (some ⟨bo + 3, 0, none⟩)]) rfl trivial (enters_of Tryz.func65 (by kernel_rfl) rfl)
   (fun c W => ∃ o, o.isCells = false ∧ LkJ w bo l0.length A0 c0 o t5 W ∧ ∃ met, LkS w (bo + 4) bo (bo + 1) t1 t2 t3 t4 met W ∧ ((c = none ∧ t5 = 0) ∨ (c = some .ret ∧ t5 ≠ 0)))
   ?it ?done ?stop
  case stop =>
   rintro c W o hd hlt ⟨o1, ho1, hJ, met, hS, ⟨hc, _⟩ | ⟨hc, ht⟩⟩
   ·cases hc
   obtain rfl : c = .ret := Option.some.inj hc
   have htl := HTL.out
   rw [if_neg (show ¬ (t1, t2, t3, t4, t5).2.2.2.2 = 0 from ht)] at htl
   obtain ⟨rfl, rfl, rfl, rfl, rfl⟩ : 0 = r1 ∧ 0 = r2 ∧ [] = r3 ∧ [] = r4 ∧ t5 = r5 := by simpa using htl
   clear htl HTL HGO
   rw [G1.out] at hd hlt ⊢
   have hJ2 := hJ.put (o' := o)
   have hB2 : Below w.heap.size w (W.putObj (bo + 4 + 1) o) := hS.bel.grown (grownBy_putObj' W _ o) hS.bel.size (fun k e => by cases e; omega)
   clear hd hlt hJ hS
   rw [show bo + 4 + 1 = bo + 5 from rfl] at hB2 ⊢
   generalize W.putObj (bo + 5) o = WF at hJ2 hB2 ⊢
   have HJ := My.am hJ2
   have HB := My.am hB2
   clear hJ2 hB2 G0 G2
   gi_wp2
   have hK : WF.heap[bo + 4]? = some (.deferred (some [])) := HJ.out.fd
   refine ⟨by simp, .inl ⟨_, _, rfl, run_takeDeferred hK, ?_⟩⟩
   refine ⟨_, lk_results rfl _ rfl rfl ((World.putObj_heap_other (by omega)).trans HJ.out.r0) ((World.putObj_heap_other (by omega)).trans HJ.out.r1), _, _, rfl, Kd.R_nil _ _ _ _ _, Kd.R_nil _ _ _ _ _, ?_⟩
   exact HB.out.grown (grownBy_putObj' _ _ _) HB.out.size (fun k e => by cases e; omega)
  case done =>
   rintro W o hd hlt ⟨o1, ho1, hJ, met, hS, ⟨_, rfl⟩ | ⟨hc, _⟩⟩
   rotate_left
   ·cases hc
   have htl := HTL.out
   rw [if_pos rfl] at htl
   obtain ⟨d, hdd, he⟩ := Option.bind_eq_some_iff.1 htl
   obtain ⟨rfl, rfl, rfl, rfl, rfl⟩ : t1 = r1 ∧ t2 = r2 ∧ t3 = r3 ∧ d = r4 ∧ 0 = r5 := by simpa using he
   have HD := My.am hdd
   clear htl HTL HGO he hdd
   rw [G1.out] at hd hlt ⊢
   have hJ2 := hJ.put (o' := o)
   have hS2 := hS.put (l := bo + 4 + 1) (o' := o) (by omega) hJ.fo ho1
   clear hd hlt hJ hS
   rw [show bo + 4 + 1 = bo + 5 from rfl] at hS2 ⊢
   generalize W.putObj (bo + 5) o = WF at hJ2 hS2 ⊢
   obtain ⟨vb, vd, q1, q2, q3⟩ := hS2.ho
   obtain ⟨aA, ac, rfl⟩ := Kd.R_slice (d := Kd.int .i64) (ok := fun _ => True) (⟨fun _ _ => trivial, t4.map (Value.int .i64), q3, enc_reps (Value.int .i64) t4⟩ : Kd.R (Kd.int .i64) 3 WF (bo + 4) (fun _ => True) vd t4)
   obtain ⟨bA, bc, rfl⟩ := Kd.R_slice (d := Kd.string) (ok := fun _ => True) (⟨fun _ _ => trivial, t3.map Value.string, q2, enc_reps Value.string t3⟩ : Kd.R Kd.string 9 WF (bo + 4) (fun _ => True) vb t3)
   obtain ⟨_, _, y2, y3, y4, y5, _⟩ := LkS.cells hS2 q1
   have hno : ∀ {v : Value} {e : TypeId} {us : List Value} {n : Nat}, WF.ownsRow (bo + 4) e 1 v n us → ∀ k, v.ownBlock = some k → bo + 4 ≤ k ∧ k ≠ bo + 4 := fun hr k hk => by
    refine ⟨own_base hr k hk, fun e => ?_⟩
    obtain ⟨cells, hc⟩ := own_typed hr k hk
    rw [e, hJ2.fd] at hc
    cases hc
   have hapart : ∀ k, Value.ownBlock (.slice bA t3.length bc) = some k → ¬ Value.ownBlock (.slice aA t4.length ac) = some k := fun k hk hk2 => by
    obtain ⟨c1, hc1⟩ := own_typed q2 k hk
    obtain ⟨c2, hc2⟩ := own_typed q3 k hk2
    rw [hc1] at hc2
    injection hc2 with hc2
    injection hc2 with _ hc2
    exact absurd hc2 (by decide)
   have hR : Kd.R (Kd.int .i64) 3 WF w.heap.size (fun k => Value.ownBlock (.slice aA t4.length ac) = some k) (.slice aA t4.length ac) t4 := ⟨fun _ h => h, t4.map (Value.int .i64), own_weaken q3 (by omega), enc_reps (Value.int .i64) t4⟩
   have HJ := My.am hJ2
   have HS := My.am hS2
   have HRR := My.am hR
   have HQ1 := My.am q1
   have HQ2 := My.am q2
   have HQ3 := My.am q3
   have HNO := My.am (hno q2)
   have HNO3 := My.am (hno q3)
   have HAP := My.am hapart
   clear hJ2 hS2 G0 G2 hR q1 q2 q3 hno hapart
   gi_wp2_with (refine ⟨trivial, ?_⟩; gi_at_call 42; refine (callsIn_wide.2 (slices_Reverse_int_int.calls k _ (.slice aA t4.length ac) t4 d w WF HS.out.bel HRR.out HD.out)).mono ?_; rintro e w2 ⟨rfl, hr, hb, hk⟩; have g : ∀ {j : Nat} {x : Obj}, j < bo + 5 → WF.heap[j]? = some x → w2.heap[j]? = some x := (fun {j x} hj hx => (hk.2 j (blk_lt hx) (fun e => by have := HNO3.out j e; omega)).trans hx); have HR2 := My.am hr; have HB2 := My.am hb; have j0 := g (by omega) HJ.out.r0; have j1 := g (by omega) HJ.out.r1; have j2 := g (by omega) HQ1.out; have j3 := g (by omega) HJ.out.fd; have j4 : w2.ownsRow (bo + 4) 9 1 (.slice bA t3.length bc) t3.length (t3.map Value.string) := (own_move HQ2.out (fun j hj => hk.2 j (own_lt HQ2.out j hj) (HAP.out j hj))); have J0 := My.am j0; have J1 := My.am j1; have J3 := My.am j3; have J4 := My.am j4; have u0 := (blk_cell j0 0).trans rfl; have u1 := (blk_cell j0 1).trans rfl; have u2 := (blk_cell j0 2).trans rfl; have u3 := (blk_cell j0 3).trans rfl; have u4 := (blk_cell j1 0).trans rfl; have u5 := (blk_cell j2 0).trans rfl; have u6 := (blk_cell j2 1).trans rfl; have u7 := (blk_cell j2 2).trans rfl; have u8 := (blk_cell j2 3).trans rfl; have v0 : ∀ q, w2.frozen? ⟨w.heap.size, q, none⟩ = false := (fun q => by simp [World.frozen?, j0]); have v1 : w2.frozen? ⟨w.heap.size + 1, 0, none⟩ = false := (by simp [World.frozen?, j1]); clear g hr hb hk j0 j1 j2 j3 j4)
   have hK : (((((w2.setCell ⟨w.heap.size, 0, none⟩ (.int .i64 t1)).setCell ⟨w.heap.size, 1, none⟩ (.int .i64 t2)).setCell ⟨w.heap.size, 2, none⟩ (.slice bA t3.length bc)).setCell ⟨w.heap.size, 3, none⟩ (.slice aA t4.length ac)).setCell ⟨w.heap.size + 1, 0, none⟩ (.int .i64 0)).heap[bo + 4]? = some (.deferred (some [])) := by
    rw [Below.heap_setCell _ _ _ _ (by show bo + 4 ≠ w.heap.size + 1; omega), Below.heap_setCell _ _ _ _ (by show bo + 4 ≠ w.heap.size; omega), Below.heap_setCell _ _ _ _ (by show bo + 4 ≠ w.heap.size; omega), Below.heap_setCell _ _ _ _ (by show bo + 4 ≠ w.heap.size; omega), Below.heap_setCell _ _ _ _ (by show bo + 4 ≠ w.heap.size; omega)]
    exact J3.out
   have X := blk_put (blk_put (blk_put (blk_put J0.out 0 (.int .i64 t1) rfl) 1 (.int .i64 t2) rfl) 2 (.slice bA t3.length bc) rfl) 3 (.slice aA t4.length ac) rfl
   have Y : ((((w2.setCell ⟨w.heap.size, 0, none⟩ (.int .i64 t1)).setCell ⟨w.heap.size, 1, none⟩ (.int .i64 t2)).setCell ⟨w.heap.size, 2, none⟩ (.slice bA t3.length bc)).setCell ⟨w.heap.size, 3, none⟩ (.slice aA t4.length ac)).heap[w.heap.size + 1]? = some (.cells #[.int .i64 0] 27 (0, 0)) := by
    rw [Below.heap_setCell _ _ _ _ (by show w.heap.size + 1 ≠ w.heap.size; omega), Below.heap_setCell _ _ _ _ (by show w.heap.size + 1 ≠ w.heap.size; omega), Below.heap_setCell _ _ _ _ (by show w.heap.size + 1 ≠ w.heap.size; omega), Below.heap_setCell _ _ _ _ (by show w.heap.size + 1 ≠ w.heap.size; omega)]
    exact J1.out
   have gg : ∀ k, bo + 4 ≤ k ∧ k ≠ bo + 4 → ∀ o', ((((((w2.setCell ⟨w.heap.size, 0, none⟩ (.int .i64 t1)).setCell ⟨w.heap.size, 1, none⟩ (.int .i64 t2)).setCell ⟨w.heap.size, 2, none⟩ (.slice bA t3.length bc)).setCell ⟨w.heap.size, 3, none⟩ (.slice aA t4.length ac)).setCell ⟨w.heap.size + 1, 0, none⟩ (.int .i64 0)).putObj (bo + 4) o').heap[k]? = w2.heap[k]? := fun k ⟨h1, h2⟩ o' => by
    rw [World.putObj_heap_other h2, Below.heap_setCell _ _ _ _ (by show k ≠ w.heap.size + 1; omega), Below.heap_setCell _ _ _ _ (by show k ≠ w.heap.size; omega), Below.heap_setCell _ _ _ _ (by show k ≠ w.heap.size; omega), Below.heap_setCell _ _ _ _ (by show k ≠ w.heap.size; omega), Below.heap_setCell _ _ _ _ (by show k ≠ w.heap.size; omega)]
   refine ⟨by simp, .inl ⟨_, _, rfl, run_takeDeferred hK, ?_⟩⟩
   obtain ⟨_, us, hr1, hr2⟩ := HR2.out
   refine ⟨_, lk_results rfl _ rfl rfl ((World.putObj_heap_other (by omega)).trans ((Below.heap_setCell _ _ _ _ (by show w.heap.size ≠ w.heap.size + 1; omega)).trans X)) ((World.putObj_heap_other (by omega)).trans (blk_put Y 0 _ rfl)), _, _, rfl, ⟨fun _ _ => trivial, t3.map Value.string, own_weaken (own_move J4.out (fun k hk => gg k (HNO.out k hk) _)) (by omega), enc_reps Value.string t3⟩, ⟨fun _ _ => trivial, us, own_move hr1 (fun k hk => gg k (HNO3.out k hk) _), ?_⟩, ?_⟩
   ·obtain rfl := My.reps_enc (Value.int .i64) _ us hr2
    exact enc_reps (Value.int .i64) _
   have e := ((((HB2.out.setCell (p := ⟨w.heap.size, 0, none⟩) (Nat.le_refl _) (.int .i64 t1)).setCell (p := ⟨w.heap.size, 1, none⟩) (Nat.le_refl _) (.int .i64 t2)).setCell (p := ⟨w.heap.size, 2, none⟩) (Nat.le_refl _) (.slice bA t3.length bc)).setCell (p := ⟨w.heap.size, 3, none⟩) (Nat.le_refl _) (.slice aA t4.length ac)).setCell (p := ⟨w.heap.size + 1, 0, none⟩) (Nat.le_succ _) (.int .i64 0)
   exact e.grown (grownBy_putObj' _ _ _) e.size (fun k e => by cases e; omega)
  case it =>
   intro fn hfn rec hrec W0 hW0 hl0 hd0
   obtain ⟨z0, z1, z2, z3⟩ := G2.out
   rw [G1.out] at hl0 hd0 ⊢
   have hJ0 : LkJ w bo l0.length A0 c0 (rec .ready none) 0 W0 := ⟨hbo, by rw [hW0]; exact blk_alloc (blk_alloc z2 _) _, by rw [hW0]; exact blk_alloc (blk_alloc z3 _) _, by rw [hW0]; exact blk_alloc (blk_alloc z0 _) _, by rw [hW0]; exact blk_alloc (blk_alloc z1 _) _, hd0, hl0⟩
   have hS0 : LkS w (bo + 4) bo (bo + 1) (-1) 0 [] [] false W0 := by rw [hW0]; exact G0.out.move (below_alloc (below_alloc (Below.refl _ _) _) _)
   clear hW0 hl0 hd0 G0 G2 HTL z0 z1 z2 z3
   refine (segment_backward_walk 8 (bo + 4 + 1) (bo + 3) A0 c0 l0 (fun m W => ∃ num good bodies drop met, LkS w (bo + 4) bo (bo + 1) num good bodies drop met W ∧ LkJ w bo l0.length A0 c0 (rec .ready none) 0 W ∧ segment_Look.go k ((l0.take m).reverse) num good bodies drop met = some (t1, t2, t3, t4, t5)) (fun W => (∃ met, LkS w (bo + 4) bo (bo + 1) t1 t2 t3 t4 met W) ∧ LkJ w bo l0.length A0 c0 (rec .done (some .ret)) t5 W ∧ t5 ≠ 0) (by decide) HR.out.2.1 ?hc ?hy W0 ⟨_, _, _, _, _, hS0, hJ0, ?hg⟩).mono ?fin
   case hg =>
    rw [List.take_length]
    exact HGO.out
   case hc =>
    rintro m W ⟨num, good, bodies, drop, met, hS, hJ, _⟩
    exact ⟨(blk_cell hJ.fs 0).trans rfl, Kd.C_below HR.out hS.bel⟩
   case fin =>
    rintro e W ⟨⟨u, rfl⟩, ⟨num, good, bodies, drop, met, hS, hJ, hg⟩ | ⟨⟨met, hS⟩, hJ, ht⟩⟩
    ·simp only [List.take_zero, List.reverse_nil, segment_Look.go, Option.some.injEq, Prod.mk.injEq] at hg
     obtain ⟨rfl, rfl, rfl, rfl, rfl⟩ := hg
     exact ⟨⟨u, rfl⟩, hJ.fd, .inl ⟨hJ.fo, _, by rw [hrec]; rfl, hJ, met, hS, .inl ⟨rfl, rfl⟩⟩⟩
    exact ⟨⟨u, rfl⟩, hJ.fd, .inr ⟨_, hJ.fo, _, by rw [hrec]; rfl, hJ, met, hS, .inr ⟨rfl, ht⟩⟩⟩
   clear hJ0 hS0 W0 HGO
   rintro m W hm ⟨num, good, bodies, drop, met, hS, hJ, hg⟩
   rw [segment_Look.go_last k m l0 hm] at hg
   simp only [segment_Look.go] at hg
   generalize rd_T24 l0 (m : Int) = f at hg ⊢
   obtain ⟨⟨q1, q2, q3, q4, q5, q6⟩, hst, hgo⟩ := Option.bind_eq_some_iff.1 hg
   clear hg
   have HST := My.am hst
   have HGO := My.am hgo
   clear hst hgo
   refine (yield_wp2 (m := 7) (F := Fence.wide) (W1 := W.alloc (.cells #[.int .i64 f.f0, .string f.f1, .int .i64 f.f2] 24)) hfn hrec hJ.fo (blk_alloc hJ.fo _) (vals := #[.int .i64 (m : Int), .agg #[.int .i64 f.f0, .string f.f1, .int .i64 f.f2]]) rfl
    { tmps := #[.slice A0 l0.length c0, undef, .pointer (some ⟨w.heap.size, 0, none⟩), .pointer (some ⟨w.heap.size + 1, 0, none⟩), .pointer (some ⟨bo, 0, none⟩), .pointer (some ⟨bo + 1, 0, none⟩), .pointer (some ⟨bo + 2, 0, none⟩), undef, .pointer (some ⟨W.heap.size, 0, none⟩), undef, .slice A0 l0.length c0, .bool true, .bool false, undef, .agg #[.int .i64 (-1), .int .i64 0, .slice none 0 0, .slice none 0 0],
     .func (.func 38) #[] #[.pointer (some ⟨bo + 1, 0, none⟩), .pointer (some ⟨bo, 0, none⟩)], .slice A0 l0.length c0, .func (.func 65) #[] #[.pointer (some ⟨bo + 3, 0, none⟩)], .int .i64 (m : Int), .agg #[.int .i64 f.f0, .string f.f1, .int .i64 f.f2], undef, undef, undef, undef, undef, undef, undef, undef, undef, undef, undef], defers := [] }
    (fun c W' => (c = none ∧ ∃ num good bodies drop met, LkS w (bo + 4) bo (bo + 1) num good bodies drop met W' ∧ LkJ w bo l0.length A0 c0 (rec .ready none) 0 W' ∧ segment_Look.go k ((l0.take m).reverse) num good bodies drop met = some (t1, t2, t3, t4, t5)) ∨ (c = some .ret ∧ (∃ met, LkS w (bo + 4) bo (bo + 1) t1 t2 t3 t4 met W') ∧ LkJ w bo l0.length A0 c0 (rec .done (some .ret)) t5 W' ∧ t5 ≠ 0)) ?asg ?bd).mono ?fin2
   case asg =>
    intro K hK
    gi_wp2
    exact hK
   case fin2 =>
    rintro e W' (⟨rfl, (⟨_, h⟩ | ⟨h, _⟩)⟩ | ⟨rfl, c, (⟨h, _⟩ | ⟨_, h⟩)⟩)
    ·exact .inl ⟨rfl, h⟩
    ·cases h
    ·cases h
    exact .inr ⟨rfl, h⟩
   case bd =>
    have hnc : ∀ st pe, (rec st pe).isCells = false := fun st pe => by rw [hrec]; rfl
    have hS1 := (hS.move (below_alloc (Below.refl W.heap.size W) (.cells #[.int .i64 f.f0, .string f.f1, .int .i64 f.f2] 24))).put (l := bo + 4 + 1) (o' := rec .busy none) (by omega) (blk_alloc hJ.fo _) (hnc _ _)
    have hJ1 := (hJ.keep (hnc _ _) (LkKeep.below (below_alloc (Below.refl W.heap.size W) (.cells #[.int .i64 f.f0, .string f.f1, .int .i64 f.f2] 24)))).put (o' := rec .busy none)
    have hF : ((W.alloc (.cells #[.int .i64 f.f0, .string f.f1, .int .i64 f.f2] 24)).putObj (bo + 5) (rec .busy none)).heap[W.heap.size]? = some (.cells #[.int .i64 f.f0, .string f.f1, .int .i64 f.f2] 24) := (World.putObj_heap_other (by have := blk_lt hJ.fo; omega)).trans (blk_new W _)
    clear hS hJ
    rw [show bo + 4 + 1 = bo + 5 from rfl] at hS1 ⊢
    generalize (W.alloc (.cells #[.int .i64 f.f0, .string f.f1, .int .i64 f.f2] 24)).putObj (bo + 5) (rec .busy none) = WB at hS1 hJ1 hF ⊢
    have x0 := (blk_cell hF 0).trans rfl
    have x1 := (blk_cell hF 1).trans rfl
    have x2 := (blk_cell hF 2).trans rfl
    have y0 := (blk_cell hJ1.fl 0).trans rfl
    have HS1 := My.am hS1
    have HJ1 := My.am hJ1
    have HN := My.am hnc
    have HRC := My.am hrec
    clear hS1 hJ1 hF hnc hrec
    by_cases c6 : q6 = 0
    ·subst c6
     have hgo := HGO.out
     rw [if_pos rfl] at hgo
     have HG2 := My.am hgo
     clear hgo HGO
     gi_wp2_with (refine ⟨trivial, ?_⟩; gi_at_call 38; refine (callsIn_wide.2 (segment_Look2.calls k f num good bodies drop met _ _ _ _ _ _ HST.out w WB _ _ _ HS1.out)).mono ?_; rintro e w5 ⟨rfl, hs5, hk5⟩; have HS5 := My.am hs5; have HJ5 := My.am (HJ1.out.keep (HN.out _ _) hk5); clear hs5 hk5)
     exact ⟨HJ5.out.fo, .inl ⟨rfl, _, _, _, _, _, HS5.out.put (by omega) HJ5.out.fo (HN.out _ _), HJ5.out.put, HG2.out⟩⟩
    have c6b : (q6 != 0) = true := bne_iff_ne.2 c6
    have hgo := HGO.out
    rw [if_neg (show ¬ (q1, q2, q3, q4, q5, q6).2.2.2.2.2 = 0 from c6)] at hgo
    obtain ⟨rfl, rfl, rfl, rfl, rfl⟩ : q1 = t1 ∧ q2 = t2 ∧ q3 = t3 ∧ q4 = t4 ∧ q6 = t5 := by simpa using hgo
    clear hgo HGO c6
    gi_wp2_with (refine ⟨trivial, ?_⟩; gi_at_call 38; refine (callsIn_wide.2 (segment_Look2.calls k f num good bodies drop met _ _ _ _ _ _ HST.out w WB _ _ _ HS1.out)).mono ?_; rintro e w5 ⟨rfl, hs5, hk5⟩; have HS5 := My.am hs5; have HJ5 := My.am (HJ1.out.keep (HN.out _ _) hk5); clear hs5 hk5; obtain ⟨u0, u1, u2, u3, u4, v0, v1, v2, v3, v4⟩ := HJ5.out.cells)
    exact ⟨(HJ5.out.fail _).fo, .inr ⟨rfl, ⟨_, (((((HS5.out.set (Nat.le_refl _) (Nat.lt_of_succ_lt HJ5.out.lt) _).set (Nat.le_refl _) (Nat.lt_of_succ_lt HJ5.out.lt) _).set (Nat.le_refl _) (Nat.lt_of_succ_lt HJ5.out.lt) _).set (Nat.le_refl _) (Nat.lt_of_succ_lt HJ5.out.lt) _).set (Nat.le_succ _) HJ5.out.lt _).put (by omega) (HJ5.out.fail _).fo (HN.out _ _)⟩, (HJ5.out.fail _).put, bne_iff_ne.1 c6b⟩⟩
 ·rw [if_neg c1] at h
  obtain ⟨rfl, rfl, rfl, rfl, rfl⟩ : 0 = r1 ∧ 0 = r2 ∧ [] = r3 ∧ [] = r4 ∧ 2 = r5 := by simpa using h
  have HR := My.am hr0
  have HC0 := My.am hc0
  clear h hr0 hc0
  have c1f : segment_Look.sorted l0 = false := by simpa using c1
  clear c1
  refine callsIn_wide (n := 9).1 ?_
  refine callsIn_of_wp_marks Tryz.func19 rfl trivial ?_ rfl
  simp only [Tryz.ntmps19, List.size_toArray, List.length_cons, List.length_nil, Nat.reduceAdd, Nat.reduceSub, Array.replicate_succ, Array.replicate_zero, List.push_toArray, List.append_toArray, List.nil_append, List.cons_append]
  gi_wp2_with (refine ⟨trivial, ?_⟩; gi_at_call 36; refine (callsIn_wide.2 (segment_sorted.calls A0 c0 l0 _ (Kd.C_below HR.out (below_alloc (below_alloc (Below.refl w.heap.size w) _) _)) HC0.out)).mono ?_; rintro e w1 ⟨rfl, hb⟩; rw [c1f]; have HB1 := My.am (below_step (below_alloc (below_alloc (Below.refl w.heap.size w) _) _) hb); have e1 := blk_below (blk_alloc (blk_new w _) _) hb; have e2 := blk_below (blk_new (w.alloc _) _) hb; rw [World.size_alloc] at e2; have u0 := (blk_cell e1 0).trans rfl; have u1 := (blk_cell e1 1).trans rfl; have u2 := (blk_cell e1 2).trans rfl; have u3 := (blk_cell e1 3).trans rfl; have u4 := (blk_cell e2 0).trans rfl; have v0 : ∀ q, w1.frozen? ⟨w.heap.size, q, none⟩ = false := (fun q => by simp [World.frozen?, e1]); have v1 : w1.frozen? ⟨w.heap.size + 1, 0, none⟩ = false := (by simp [World.frozen?, e2]); have E1 := My.am e1; have E2 := My.am e2; clear hb e1 e2)
  have X := blk_put (blk_put (blk_put (blk_put E1.out 0 (.int .i64 0) rfl) 1 (.int .i64 0) rfl) 2 (.slice none 0 0) rfl) 3 (.slice none 0 0) rfl
  have Y : ((((w1.setCell ⟨w.heap.size, 0, none⟩ (.int .i64 0)).setCell ⟨w.heap.size, 1, none⟩ (.int .i64 0)).setCell ⟨w.heap.size, 2, none⟩ (.slice none 0 0)).setCell ⟨w.heap.size, 3, none⟩ (.slice none 0 0)).heap[w.heap.size + 1]? = some (.cells #[.int .i64 0] 27 (0, 0)) := by
   rw [Below.heap_setCell _ _ _ _ (by show w.heap.size + 1 ≠ w.heap.size; omega), Below.heap_setCell _ _ _ _ (by show w.heap.size + 1 ≠ w.heap.size; omega), Below.heap_setCell _ _ _ _ (by show w.heap.size + 1 ≠ w.heap.size; omega), Below.heap_setCell _ _ _ _ (by show w.heap.size + 1 ≠ w.heap.size; omega)]
   exact E2.out
  refine ⟨_, lk_results rfl _ rfl rfl ((Below.heap_setCell _ _ _ _ (by show w.heap.size ≠ w.heap.size + 1; omega)).trans X) (blk_put Y 0 _ rfl), _, _, rfl, Kd.R_nil _ _ _ _ _, Kd.R_nil _ _ _ _ _, ?_⟩
  exact ((((HB1.out.setCell (p := ⟨w.heap.size, 0, none⟩) (Nat.le_refl _) _).setCell (p := ⟨w.heap.size, 1, none⟩) (Nat.le_refl _) _).setCell (p := ⟨w.heap.size, 2, none⟩) (Nat.le_refl _) _).setCell (p := ⟨w.heap.size, 3, none⟩) (Nat.le_refl _) _).setCell (p := ⟨w.heap.size + 1, 0, none⟩) (Nat.le_succ _) _
end
end


/-! ### disk_Disk_step: function 66 -/


/-! ### disk_Disk_fall: function 67 -/


/-! ### disk_Disk_change: function 43 -/


/-! ### disk_Disk_Cut_1: function 44 -/


/-! ### disk_Disk_Cut: function 20 -/


/-! ### disk_Disk_Remove_1: function 68 -/


/-! ### disk_Disk_Remove: function 45 -/


/-! ### wal_drop: function 21 -/


/-! ### disk_Disk_Used: function 78 -/


/-! ### disk_Disk_Append: function 58 -/


/-! ### disk_Disk_Sync_1: function 79 -/


/-! ### disk_Disk_Sync: function 59 -/


/-! ### wal_file_write: function 32 -/


/-! ### pack_Number: function 87 -/
def pack_Number.l0 : Nat → Int → List Int → Option (ByteArray)
 | 0, _, _ => none
 | k + 1, x0, x3 => if x0 ≥ 128 then (if x3.length < 140737488355328 then (pack_Number.l0 k (x0 / 128) (x3 ++ [Go.bits .or .u8 ((x0) % 256) 128])) else (none)) else (if x3.length < 140737488355328 then (some (strOfNums (x3 ++ [(x0) % 256]))) else (none))
def pack_Number.f (k : Nat) (a0 : Int) : Option (ByteArray) := pack_Number.l0 k a0 (([] : List Int))
theorem pack_Number.mono_l : ∀ k, (∀ y0 y1, LeO (pack_Number.l0 k y0 y1) (pack_Number.l0 (k + 1) y0 y1))
 | 0 => fun _ _ r h => by simp [pack_Number.l0] at h
 | k + 1 => by
  have ih0 := pack_Number.mono_l k
  intro y0 y1
  unfold pack_Number.l0
  repeat' (with_reducible first | exact ih0 _ _ | exact LeO.refl _ | exact LeO.none _ | apply LeO.ite | refine LeO.bind ?_ (fun _ => ?_))
theorem pack_Number.mono : ∀ a0 k, LeO (pack_Number.f k a0) (pack_Number.f (k + 1) a0) := by
 intro a0 k
 have ih0 := pack_Number.mono_l k
 unfold pack_Number.f
 repeat' (with_reducible first | exact ih0 _ _ | exact LeO.refl _ | exact LeO.none _ | apply LeO.ite | refine LeO.bind ?_ (fun _ => ?_))
theorem pack_Number.calls (k : Nat) (a0 : Int) (r : ByteArray) (w : World) (h : pack_Number.f k a0 = some r) :
  Calls Tryz.prog 87 #[.int .u64 a0] w fun e w' => e = .returned (.string r) ∧ Below w.heap.size w w' := by
 have HB := My.am (Below.refl w.heap.size w)
 have H : (pack_Number.l0 k a0 (([] : List Int))) = some r := h
 clear h
 obtain ⟨y119, hy119⟩ : ∃ y_ : List Int, y_ = (([] : List Int)) := ⟨_, rfl⟩
 replace H : (pack_Number.l0 k a0 y119) = some r := by first | (rw [hy119]; with_reducible exact H) | (have H2_ := (Option.bind_some _ _).symm.trans H; rw [hy119]; with_reducible exact H2_) | (have H2_ := (Option.bind_some _ _).symm.trans H; with_reducible exact H2_) | with_reducible exact H | (rw [hy119]; exact H) | exact H
 have Ny119 := My.am hy119
 clear hy119
 have H' := My.am H
 clear H
 go_enter Tryz.func87, Tryz.ntmps87
 go_wp2_with (first | ((with_reducible refine gate_dst (N := 4) rfl ?_); refine My.R_make0 (Kd.int .u8) _ 5 rfl (N := 4) rfl 124 _ _ rfl 10 rfl rfl Tryz.underlying124 (.int .u8 0) 1 info5 rfl (by decide) (by omega) (ok := fun _ => True) trivial (by omega) (Below.refl _ _) (Nat.le_refl _) ?_; intro v120 w2 ho3 hb hg_ hnew_; clear hg_ hnew_; (first | rw [← Ny119.out] at ho3 | (simp only [Int.reduceToNat] at ho3; rw [← Ny119.out] at ho3)); have HO121 := My.am (Kd.R_lower ho3 (below_size (My.bl_ HB))); replace HB := My.st HB hb; clear hb ho3))
 go_loopg [0, 3] k (fun kq v0 v3 w' => ∃ (x0_1 : Int) (x3_1 : List Int), v0 = .int .u64 x0_1 ∧ Aside0 (pack_Number.l0 kq x0_1 x3_1 = some r) ∧ Aside0 (kq ≤ k) ∧ Aside0 (Kd.R (Kd.int .u8) 5 w' w.heap.size (fun _ => True) v3 x3_1) ∧ Aside0 (Below w.heap.size w w'))
 case atStart => exact ⟨(a0), (y119), My.r1, H', ⟨Nat.le_refl _⟩, ⟨My.dR HO121.out⟩, ⟨(My.bl_ HB)⟩⟩
 case round =>
  clear H'
  obtain ⟨x0_1, x3_1, rfl, HA, HK1, HO_3, HB⟩ := hrel
  cases gk with
  | zero => exact absurd HA.out (by simp [pack_Number.l0])
  | succ k1 =>
   have H := HA.out
   clear HA
   simp only [pack_Number.l0] at H
   by_cases c4 : x0_1 ≥ 128
   ·rw [if_pos c4] at H
    have c4b0 : decide (128 ≤ x0_1) = true := decide_eq_true c4
    clear c4
    by_cases c5 : x3_1.length < 140737488355328
    ·rw [if_pos c5] at H
     have LMc5 := My.am c5
     clear c5
     obtain ⟨y122, hy122⟩ : ∃ y_ : List Int, y_ = (x3_1 ++ [Go.bits .or .u8 ((x0_1) % 256) 128]) := ⟨_, rfl⟩
     replace H : (pack_Number.l0 k1 (x0_1 / 128) y122) = some r := by first | (rw [hy122]; with_reducible exact H) | (have H2_ := (Option.bind_some _ _).symm.trans H; rw [hy122]; with_reducible exact H2_) | (have H2_ := (Option.bind_some _ _).symm.trans H; with_reducible exact H2_) | with_reducible exact H | (rw [hy122]; exact H) | exact H
     have Ny122 := My.am hy122
     clear hy122
     have H' := My.am H
     clear H
     go_wp2_with (first | ((with_reducible refine gate_builtin (b := .append) (xs := #[.tmp 7, .tmp 11]) rfl ?_); at_builtin; refine Kd.R_append (Kd.int .u8) (w0 := w) w.heap.size rfl (.tmp 7) (.tmp 11) 124 5 (.int .u8 0) 1 rfl Tryz.underlying124 info5 rfl (by decide) (by omega) u3 x3_1 (Go.bits .or .u8 ((x0_1) % 256) 128) [.int .u8 (Go.bits .or .u8 ((x0_1) % 256) 128)] (fun _ => True) (fun _ => False) rfl rfl ?aP (fun _ hk => hk.elim) ?aF ?aO ?aB ?aS ?aL ?_; (case aP => exact rfl); (case aB => exact (My.bl_ HB)); (case aF => exact (fun _ _ => trivial)); (case aO => exact (My.dr HO_3.out)); (case aS => exact (below_size (My.bl_ HB))); (case aL => have := LMc5.out; omega); intro v123 w6 ho hb hg hat; rw [← Ny122.out] at ho; replace HB := My.am (hb); have HO124 := My.am (ho); (try clear HO_3); clear ho hb hg hat))
     go_roundg k1
     case measure => have := HK1.out; omega
     case rel => exact ⟨(x0_1 / 128), (y122), My.r1, H', ⟨by have := HK1.out; omega⟩, ⟨My.dR HO124.out⟩, ⟨(My.bl_ HB)⟩⟩
    rw [if_neg c5] at H
    exact absurd H (by simp)
   rw [if_neg c4] at H
   have c4b0 : decide (128 ≤ x0_1) = false := decide_eq_false c4
   clear c4
   by_cases c7 : x3_1.length < 140737488355328
   ·rw [if_pos c7] at H
    have LMc7 := My.am c7
    clear c7
    obtain ⟨y125, hy125⟩ : ∃ y_ : List Int, y_ = (x3_1 ++ [(x0_1) % 256]) := ⟨_, rfl⟩
    replace H : (some (strOfNums y125)) = some r := by first | (rw [hy125]; with_reducible exact H) | (have H2_ := (Option.bind_some _ _).symm.trans H; rw [hy125]; with_reducible exact H2_) | (have H2_ := (Option.bind_some _ _).symm.trans H; with_reducible exact H2_) | with_reducible exact H | (rw [hy125]; exact H) | exact H
    have Ny125 := My.am hy125
    clear hy125
    obtain rfl := Option.some.inj H
    go_wp2_with (first | ((with_reducible refine gate_builtin (b := .append) (xs := #[.tmp 15, .tmp 18]) rfl ?_); at_builtin; refine Kd.R_append (Kd.int .u8) (w0 := w) w.heap.size rfl (.tmp 15) (.tmp 18) 124 5 (.int .u8 0) 1 rfl Tryz.underlying124 info5 rfl (by decide) (by omega) u3 x3_1 ((x0_1) % 256) [.int .u8 ((x0_1) % 256)] (fun _ => True) (fun _ => False) rfl rfl ?aP (fun _ hk => hk.elim) ?aF ?aO ?aB ?aS ?aL ?_; (case aP => exact rfl); (case aB => exact (My.bl_ HB)); (case aF => exact (fun _ _ => trivial)); (case aO => exact (My.dr HO_3.out)); (case aS => exact (below_size (My.bl_ HB))); (case aL => have := LMc7.out; omega); intro v126 w8 ho hb hg hat; rw [← Ny125.out] at ho; replace HB := My.am (hb); have HO127 := My.am (ho); (try clear HO_3); clear ho hb hg hat; have hcv9 := own_string (P := Tryz.prog) Tryz.underlying124 Tryz.underlying5 Tryz.underlying9 (Kd.own_of_R HO127.out)))
    go_ret
    exact ⟨My.r2, (My.bl_ HB)⟩
   rw [if_neg c7] at H
   exact absurd H (by simp)

/-! ### pack_Text: function 77 -/
def pack_Text.f (k : Nat) (a0 : ByteArray) : Option (ByteArray) := (pack_Number.f k (IntKind.u64.wrap ((a0.size : Int)))).bind fun t128 => (if t128.size + a0.size ≤ 9223372036854775807 then (some (t128 ++ a0)) else (none))
theorem pack_Text.mono : ∀ a0 k, LeO (pack_Text.f k a0) (pack_Text.f (k + 1) a0) := by
 intro a0 k
 unfold pack_Text.f
 repeat' (with_reducible first | exact pack_Number.mono _ _ | exact LeO.refl _ | exact LeO.none _ | apply LeO.ite | refine LeO.bind ?_ (fun _ => ?_))
theorem pack_Text.calls (k : Nat) (a0 : ByteArray) (r : ByteArray) (w : World) (h : pack_Text.f k a0 = some r) :
  Calls Tryz.prog 77 #[.string a0] w fun e w' => e = .returned (.string r) ∧ Below w.heap.size w w' := by
 have HB := My.am (Below.refl w.heap.size w)
 unfold pack_Text.f at h
 have H := h
 clear h
 replace H := Option.bind_eq_some_iff.mp H
 obtain ⟨t128, A20, H⟩ := H
 try dsimp only at H
 have A2 := My.am A20
 clear A20
 by_cases c3 : t128.size + a0.size ≤ 9223372036854775807
 ·rw [if_pos c3] at H
  have c3b0 := eq_true c3
  have c3b1 := decide_eq_true c3
  try have c3b2 : (9223372036854775807 < t128.size + a0.size) = False := eq_false (Nat.not_lt.2 c3)
  try clear c3
  obtain rfl := Option.some.inj H
  go_enter Tryz.func77, Tryz.ntmps77
  go_wp2_with (first | ((with_reducible refine gate_callee (f := 87) rfl ?_); refine goesL_ (some 6) rfl rfl Tryz.func87 (by kernel_rfl) rfl #[.int .u64 (IntKind.u64.wrap ((a0.size : Int)))] rfl My.gx ?_; (with_reducible refine (pack_Number.calls k (IntKind.u64.wrap ((a0.size : Int))) t128 _ A2.out).mono ?_); rintro e w4 ⟨rfl, hb⟩; refine ⟨_, rfl, ?_⟩; replace HB := My.st HB hb; (try clear hb)))
  go_ret
  exact ⟨My.r2, (My.bl_ HB)⟩
 ·exact My.nn c3 H

end Go.Proofs.YtkcpgaplpmbmoaaGreat.PA
