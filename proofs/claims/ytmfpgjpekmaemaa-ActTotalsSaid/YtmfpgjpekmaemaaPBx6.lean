-- Written by a program of this session (wip/tools/mp.py over the kit's printer); Lean checks it.
import Derived.Test.YtmfpgjpekmaemaaPBx0
import Derived.Test.YtmfpgjpekmaemaaPBx2
import Derived.Test.YtmfpgjpekmaemaaPBx5
namespace Go.Proofs.Ytmfpgjpekmaemaa.PB
open Go.RowKit Go.Proofs.YtmfpgjpekmaemaaW.PrintWords Go.Proofs.YtmfpgjpekmaemaaW.PrintLast Go.Proofs.YtmfpgjpekmaemaaW.PrintMore
attribute [local go_sem] max2_int min2_int max_two min_two max_three min_three max_four min_four   -- for this text's walks alone
set_option linter.unusedVariables false
set_option linter.unusedSimpArgs false

/-! ### ententelaw06_ActTotals: function 4 -/
mutual
def ententelaw06_ActTotals.j0 : Nat → List (S23) → Bool → ByteArray → Int → Int → Int → Int → Int → Int → Option (Bool)
  | 0, _, _, _, _, _, _, _, _, _ => none
  | k + 1, x1, x19, x191000, x191001, x191002, x191003, x191004, x191005, x191006 => if x19 = true then ((ententelaw06_awake.f k).bind fun t192 => (some t192)) else (ententelaw06_ActTotals.l0 k x1 (wrap64 (x191001 + x191004)) 0 x191000 x191001 x191002 x191003 x191004 x191005 x191006)
def ententelaw06_ActTotals.l0 : Nat → List (S23) → Int → Int → ByteArray → Int → Int → Int → Int → Int → Int → Option (Bool)
  | 0, _, _, _, _, _, _, _, _, _, _ => none
  | k + 1, x1, x6, x7, x194000, x194001, x194002, x194003, x194004, x194005, x194006 => if x7 < (x1.length : Int) then (if 0 ≤ x7 then ((act_Do.f k x194000 x194001 x194002 x194003 x194004 x194005 x194006 ((rd_T23 x1 x7).f0) ((rd_T23 x1 x7).f1) ((rd_T23 x1 x7).f2)).bind fun bt196 => (if bt196.2.2.2.2.2.2.2 = 0 then ((act_Delta.f k ((rd_T23 x1 x7).f0) ((rd_T23 x1 x7).f1) ((rd_T23 x1 x7).f2)).bind fun bt206 => (if ((rd_T23 x1 x7).f0) = 3 then (ententelaw06_ActTotals.j2 k x1 x6 x7 bt206.1 bt206.2 true bt196.1 bt196.2.1 bt196.2.2.1 bt196.2.2.2.1 bt196.2.2.2.2.1 bt196.2.2.2.2.2.1 bt196.2.2.2.2.2.2.1) else (ententelaw06_ActTotals.j2 k x1 x6 x7 bt206.1 bt206.2 (((rd_T23 x1 x7).f0) == 4) bt196.1 bt196.2.1 bt196.2.2.1 bt196.2.2.2.1 bt196.2.2.2.2.1 bt196.2.2.2.2.2.1 bt196.2.2.2.2.2.2.1))) else (ententelaw06_ActTotals.l0 k x1 x6 (wrap64 (x7 + 1)) x194000 x194001 x194002 x194003 x194004 x194005 x194006))) else (none)) else ((ententelaw06_awake.f k).bind fun t194 => (some t194))
def ententelaw06_ActTotals.j2 : Nat → List (S23) → Int → Int → Int → Int → Bool → ByteArray → Int → Int → Int → Int → Int → Int → Option (Bool)
  | 0, _, _, _, _, _, _, _, _, _, _, _, _, _ => none
  | k + 1, x1, x6, x7, x10, x11, x67, x205000, x205001, x205002, x205003, x205004, x205005, x205006 => if x67 = true then (if (wrap64 (x10 + x11)) = 0 then (if (wrap64 (x205001 + x205004)) = (wrap64 ((wrap64 (x6 + x10)) + x11)) then ((act_May.f k x205000 x205001 x205002 x205003 x205004 x205005 x205006).bind fun t210 => (if t210 = 0 then (ententelaw06_ActTotals.l0 k x1 (wrap64 ((wrap64 (x6 + x10)) + x11)) (wrap64 (x7 + 1)) x205000 x205001 x205002 x205003 x205004 x205005 x205006) else (some false))) else (some false)) else (some false)) else (if (wrap64 (x205001 + x205004)) = (wrap64 ((wrap64 (x6 + x10)) + x11)) then ((act_May.f k x205000 x205001 x205002 x205003 x205004 x205005 x205006).bind fun t211 => (if t211 = 0 then (ententelaw06_ActTotals.l0 k x1 (wrap64 ((wrap64 (x6 + x10)) + x11)) (wrap64 (x7 + 1)) x205000 x205001 x205002 x205003 x205004 x205005 x205006) else (some false))) else (some false))
end
def ententelaw06_ActTotals.f (k : Nat) (a0_0 : ByteArray) (a0_1 : Int) (a0_2 : Int) (a0_3 : Int) (a0_4 : Int) (a0_5 : Int) (a0_6 : Int) (l1 : List (S23)) : Option (Bool) := if (l1.length : Int) > 200 then (ententelaw06_ActTotals.j0 k l1 true a0_0 a0_1 a0_2 a0_3 a0_4 a0_5 a0_6) else ((act_May.f k a0_0 a0_1 a0_2 a0_3 a0_4 a0_5 a0_6).bind fun t191 => (ententelaw06_ActTotals.j0 k l1 (t191 != 0) a0_0 a0_1 a0_2 a0_3 a0_4 a0_5 a0_6))
theorem ententelaw06_ActTotals.mono_l : ∀ k, (∀ y0 y1 y2 y3 y4 y5 y6 y7 y8, LeO (ententelaw06_ActTotals.j0 k y0 y1 y2 y3 y4 y5 y6 y7 y8) (ententelaw06_ActTotals.j0 (k + 1) y0 y1 y2 y3 y4 y5 y6 y7 y8)) ∧ (∀ y0 y1 y2 y3 y4 y5 y6 y7 y8 y9, LeO (ententelaw06_ActTotals.l0 k y0 y1 y2 y3 y4 y5 y6 y7 y8 y9) (ententelaw06_ActTotals.l0 (k + 1) y0 y1 y2 y3 y4 y5 y6 y7 y8 y9)) ∧ (∀ y0 y1 y2 y3 y4 y5 y6 y7 y8 y9 y10 y11 y12, LeO (ententelaw06_ActTotals.j2 k y0 y1 y2 y3 y4 y5 y6 y7 y8 y9 y10 y11 y12) (ententelaw06_ActTotals.j2 (k + 1) y0 y1 y2 y3 y4 y5 y6 y7 y8 y9 y10 y11 y12))
  | 0 => ⟨fun _ _ _ _ _ _ _ _ _ r h => by simp [ententelaw06_ActTotals.j0] at h, fun _ _ _ _ _ _ _ _ _ _ r h => by simp [ententelaw06_ActTotals.l0] at h, fun _ _ _ _ _ _ _ _ _ _ _ _ _ r h => by simp [ententelaw06_ActTotals.j2] at h⟩
  | k + 1 => by
    obtain ⟨ih0, ih1, ih2⟩ := ententelaw06_ActTotals.mono_l k
    refine ⟨?_, ?_, ?_⟩
    · intro y0 y1 y2 y3 y4 y5 y6 y7 y8
      unfold ententelaw06_ActTotals.j0
      repeat' first
      | (with_reducible exact ih0 _ _ _ _ _ _ _ _ _)
      | (with_reducible exact ih1 _ _ _ _ _ _ _ _ _ _)
      | (with_reducible exact ih2 _ _ _ _ _ _ _ _ _ _ _ _ _)
      | (with_reducible exact act_Delta.mono _ _ _ _)
      | (with_reducible exact act_Do.mono _ _ _ _ _ _ _ _ _ _ _)
      | (with_reducible exact act_May.mono _ _ _ _ _ _ _ _)
      | (with_reducible exact ententelaw06_awake.mono _)
      | (with_reducible exact LeO.refl _)
      | (with_reducible exact LeO.none _)
      | (with_reducible refine LeO.ite ?_ ?_)
      | (with_reducible refine LeO.bind ?_ (fun _ => ?_))
      | exact ih0 _ _ _ _ _ _ _ _ _
      | exact ih1 _ _ _ _ _ _ _ _ _ _
      | exact ih2 _ _ _ _ _ _ _ _ _ _ _ _ _
      | exact act_Delta.mono _ _ _ _
      | exact act_Do.mono _ _ _ _ _ _ _ _ _ _ _
      | exact act_May.mono _ _ _ _ _ _ _ _
      | exact ententelaw06_awake.mono _
      | exact LeO.none _
      | refine LeO.ite ?_ ?_
      | refine LeO.bind ?_ (fun _ => ?_)
    · intro y0 y1 y2 y3 y4 y5 y6 y7 y8 y9
      unfold ententelaw06_ActTotals.l0
      repeat' first
      | (with_reducible exact ih0 _ _ _ _ _ _ _ _ _)
      | (with_reducible exact ih1 _ _ _ _ _ _ _ _ _ _)
      | (with_reducible exact ih2 _ _ _ _ _ _ _ _ _ _ _ _ _)
      | (with_reducible exact act_Delta.mono _ _ _ _)
      | (with_reducible exact act_Do.mono _ _ _ _ _ _ _ _ _ _ _)
      | (with_reducible exact act_May.mono _ _ _ _ _ _ _ _)
      | (with_reducible exact ententelaw06_awake.mono _)
      | (with_reducible exact LeO.refl _)
      | (with_reducible exact LeO.none _)
      | (with_reducible refine LeO.ite ?_ ?_)
      | (with_reducible refine LeO.bind ?_ (fun _ => ?_))
      | exact ih0 _ _ _ _ _ _ _ _ _
      | exact ih1 _ _ _ _ _ _ _ _ _ _
      | exact ih2 _ _ _ _ _ _ _ _ _ _ _ _ _
      | exact act_Delta.mono _ _ _ _
      | exact act_Do.mono _ _ _ _ _ _ _ _ _ _ _
      | exact act_May.mono _ _ _ _ _ _ _ _
      | exact ententelaw06_awake.mono _
      | exact LeO.none _
      | refine LeO.ite ?_ ?_
      | refine LeO.bind ?_ (fun _ => ?_)
    · intro y0 y1 y2 y3 y4 y5 y6 y7 y8 y9 y10 y11 y12
      unfold ententelaw06_ActTotals.j2
      repeat' first
      | (with_reducible exact ih0 _ _ _ _ _ _ _ _ _)
      | (with_reducible exact ih1 _ _ _ _ _ _ _ _ _ _)
      | (with_reducible exact ih2 _ _ _ _ _ _ _ _ _ _ _ _ _)
      | (with_reducible exact act_Delta.mono _ _ _ _)
      | (with_reducible exact act_Do.mono _ _ _ _ _ _ _ _ _ _ _)
      | (with_reducible exact act_May.mono _ _ _ _ _ _ _ _)
      | (with_reducible exact ententelaw06_awake.mono _)
      | (with_reducible exact LeO.refl _)
      | (with_reducible exact LeO.none _)
      | (with_reducible refine LeO.ite ?_ ?_)
      | (with_reducible refine LeO.bind ?_ (fun _ => ?_))
      | exact ih0 _ _ _ _ _ _ _ _ _
      | exact ih1 _ _ _ _ _ _ _ _ _ _
      | exact ih2 _ _ _ _ _ _ _ _ _ _ _ _ _
      | exact act_Delta.mono _ _ _ _
      | exact act_Do.mono _ _ _ _ _ _ _ _ _ _ _
      | exact act_May.mono _ _ _ _ _ _ _ _
      | exact ententelaw06_awake.mono _
      | exact LeO.none _
      | refine LeO.ite ?_ ?_
      | refine LeO.bind ?_ (fun _ => ?_)
theorem ententelaw06_ActTotals.mono : ∀ a0 a1 a2 a3 a4 a5 a6 a7 k, LeO (ententelaw06_ActTotals.f k a0 a1 a2 a3 a4 a5 a6 a7) (ententelaw06_ActTotals.f (k + 1) a0 a1 a2 a3 a4 a5 a6 a7) := by
  intro a0 a1 a2 a3 a4 a5 a6 a7 k
  obtain ⟨ih0, ih1, ih2⟩ := ententelaw06_ActTotals.mono_l k
  unfold ententelaw06_ActTotals.f
  repeat' first
      | (with_reducible exact ih0 _ _ _ _ _ _ _ _ _)
      | (with_reducible exact ih1 _ _ _ _ _ _ _ _ _ _)
      | (with_reducible exact ih2 _ _ _ _ _ _ _ _ _ _ _ _ _)
      | (with_reducible exact act_Delta.mono _ _ _ _)
      | (with_reducible exact act_Do.mono _ _ _ _ _ _ _ _ _ _ _)
      | (with_reducible exact act_May.mono _ _ _ _ _ _ _ _)
      | (with_reducible exact ententelaw06_awake.mono _)
      | (with_reducible exact LeO.refl _)
      | (with_reducible exact LeO.none _)
      | (with_reducible refine LeO.ite ?_ ?_)
      | (with_reducible refine LeO.bind ?_ (fun _ => ?_))
      | exact ih0 _ _ _ _ _ _ _ _ _
      | exact ih1 _ _ _ _ _ _ _ _ _ _
      | exact ih2 _ _ _ _ _ _ _ _ _ _ _ _ _
      | exact act_Delta.mono _ _ _ _
      | exact act_Do.mono _ _ _ _ _ _ _ _ _ _ _
      | exact act_May.mono _ _ _ _ _ _ _ _
      | exact ententelaw06_awake.mono _
      | exact LeO.none _
      | refine LeO.ite ?_ ?_
      | refine LeO.bind ?_ (fun _ => ?_)
def ententelaw06_ActTotals.T8 : Bool × List (List Nat × List Nat) := (true, [([], []), ([], []), ([], []), ([1, 2], [1, 2]), ([3], [3]), ([0, 4], [0, 4]), ([5], [5]), ([6], [6]), ([6], [6]), ([], []), ([9, 7, 5, 0, 1, 2, 3, 4, 5, 6, 7, 9], [7, 9]), ([8, 10, 0, 1, 2, 3, 4, 5, 6, 7, 8, 9, 10], [8])])
def ententelaw06_ActTotals.B8 : List Nat := [0, 0, 0, 6, 14, 31, 63, 127, 127, 0, 767, 2047]
theorem ententelaw06_ActTotals.tab8 : rtab .any (opsOf Try.f4 8) = ententelaw06_ActTotals.T8 := by kernel_rfl
theorem ententelaw06_ActTotals.bits8 : waitsOk ententelaw06_ActTotals.T8.2 ententelaw06_ActTotals.B8 = true := by kernel_rfl
set_option maxHeartbeats 8000000 in
set_option maxRecDepth 100000 in
theorem ententelaw06_ActTotals.calls (k : Nat) (a0_0 : ByteArray) (a0_1 : Int) (a0_2 : Int) (a0_3 : Int) (a0_4 : Int) (a0_5 : Int) (a0_6 : Int) (A1 : Option Addr) (c1 : Nat) (l1 : List (S23)) (r : Bool) (w : World) (hr1 : Kd.C k23 w A1 l1.length l1) (hc1 : l1.length ≤ c1) (ht : r = true) (h : ententelaw06_ActTotals.f k a0_0 a0_1 a0_2 a0_3 a0_4 a0_5 a0_6 l1 = some r) :
    Calls Try.prog 4 #[.agg #[.string a0_0, .int .i64 a0_1, .int .i64 a0_2, .int .i64 a0_3, .int .i64 a0_4, .int .i64 a0_5, .int .i64 a0_6], .slice A1 l1.length c1] w fun e w' => e = .returned (.bool r) ∧ Below w.heap.size w w' := by
  have hu27 := Try.underlying27
  have hu23 := Try.underlying23
  have HR1 := Aside0.mk hr1
  have HC1 := Aside0.mk hc1
  clear hr1 hc1
  have HB := Aside0.mk (Below.refl w.heap.size w)
  have HT := Aside0.mk ht
  clear ht
  have H : (if (l1.length : Int) > 200 then (ententelaw06_ActTotals.j0 k l1 true a0_0 a0_1 a0_2 a0_3 a0_4 a0_5 a0_6) else ((act_May.f k a0_0 a0_1 a0_2 a0_3 a0_4 a0_5 a0_6).bind fun t191 => (ententelaw06_ActTotals.j0 k l1 (t191 != 0) a0_0 a0_1 a0_2 a0_3 a0_4 a0_5 a0_6))) = some r := h
  clear h
  have HC3 := Aside0.mk H
  clear H
  go_enter Try.func4, Try.ntmps4
  go_upto_region 1 with (first | ((with_reducible refine gate_dst (N := 2) rfl ?_); refine box_event ?hg (N := 2) ?hd (cs := #[.string a0_0, .int .i64 a0_1, .int .i64 a0_2, .int .i64 a0_3, .int .i64 a0_4, .int .i64 a0_5, .int .i64 a0_6]) (t := 27) ?hr ?_; (case hd => rfl); (case hg => rfl); (case hr => first | (go_simp; done) | (go_simp; rfl)); intro gb190 hg w4 hbox hb; have n0_ := Aside0.mk (below_step (by repeat (first | (with_reducible first | exact HB.out | apply below_alloc | apply pw_below_drewN | apply below_drew1) | exact HB.out)) hb); have n1_ := Aside0.mk (hbox); have n2_ := Aside0.mk ((by rw [hg]; exact (below_size (by repeat (first | (with_reducible first | exact HB.out | apply below_alloc | apply pw_below_drewN | apply below_drew1) | exact HB.out))) : w.heap.size ≤ gb190)); have n3_ := Aside0.mk ((by rw [hg]; exact (below_size (by repeat (first | (with_reducible first | exact HB.out | apply below_alloc | apply pw_below_drewN | apply below_drew1) | exact HB.out))) : w.heap.size ≤ gb190)); clear HB; have HB := n0_; have BK190 := n1_; have GW190 := n2_; have GE190 := n3_; clear n0_ n1_ n2_ n3_; clear hb hbox hg))
  (try simp only [Act.put, List.setIfInBounds_toArray, List.set_cons_zero, List.set_cons_succ])
  go_cut [19] (fun v19 wc => ∃ (kq : Nat) (x19_2 : Bool), v19 = .bool x19_2 ∧ Aside0 (ententelaw06_ActTotals.j0 kq l1 x19_2 a0_0 a0_1 a0_2 a0_3 a0_4 a0_5 a0_6 = some r) ∧ Aside0 (kq ≤ k) ∧ Aside0 (wc.heap[gb190]? = some (.cells #[.string a0_0, .int .i64 a0_1, .int .i64 a0_2, .int .i64 a0_3, .int .i64 a0_4, .int .i64 a0_5, .int .i64 a0_6] 27 (0, 0))) ∧ Aside0 (Below w.heap.size w wc))
  case first =>
    have H := HC3.out
    clear HC3
    by_cases c5 : (l1.length : Int) > 200
    · rw [if_pos c5] at H
      have c5b0 : decide (200 < (l1.length : Int)) = true := decide_eq_true c5
      have c5b1 : decide (200 < l1.length) = true := decide_eq_true (by omega)
      clear c5
      (first | rw [c5b0] | (simp only [i64_w, i32_w]; rw [c5b0]) | skip)
      have H' := Aside0.mk H
      clear H
      go_wp2
      go_meet
      case rel => exact ⟨_, (true), (by first | rfl | (simp; done) | (simp [*]; done)), H', ⟨by first | omega | exact Nat.le_refl _⟩, ⟨by (with_reducible repeat (first | refine blk_drewN ?_ _ | refine blk_drew ?_ | refine blk_alloc ?_ _)); exact BK190.out⟩, ⟨by repeat (first | (with_reducible first | exact HB.out | apply below_alloc | apply pw_below_drewN | apply below_drew1 | refine below_set ?_ GE190.out) | exact HB.out)⟩⟩
    · rw [if_neg c5] at H
      have c5b0 : decide (200 < (l1.length : Int)) = false := decide_eq_false c5
      have c5b1 : decide (200 < l1.length) = false := decide_eq_false (by omega)
      clear c5
      (first | rw [c5b0] | (simp only [i64_w, i32_w]; rw [c5b0]) | skip)
      replace H := Option.bind_eq_some_iff.mp H
      obtain ⟨t191, A60, H⟩ := H
      replace H : (ententelaw06_ActTotals.j0 k l1 (t191 != 0) a0_0 a0_1 a0_2 a0_3 a0_4 a0_5 a0_6) = some r := H
      have A6 := Aside0.mk A60
      clear A60
      have H' := Aside0.mk H
      clear H
      have hcz7_0 : w4.cell? ⟨gb190, 0, none⟩ = some (.string a0_0) := (blk_cell BK190.out 0).trans rfl
      have hcz7_1 : w4.cell? ⟨gb190, 1, none⟩ = some (.int .i64 a0_1) := (blk_cell BK190.out 1).trans rfl
      have hcz7_2 : w4.cell? ⟨gb190, 2, none⟩ = some (.int .i64 a0_2) := (blk_cell BK190.out 2).trans rfl
      have hcz7_3 : w4.cell? ⟨gb190, 3, none⟩ = some (.int .i64 a0_3) := (blk_cell BK190.out 3).trans rfl
      have hcz7_4 : w4.cell? ⟨gb190, 4, none⟩ = some (.int .i64 a0_4) := (blk_cell BK190.out 4).trans rfl
      have hcz7_5 : w4.cell? ⟨gb190, 5, none⟩ = some (.int .i64 a0_5) := (blk_cell BK190.out 5).trans rfl
      have hcz7_6 : w4.cell? ⟨gb190, 6, none⟩ = some (.int .i64 a0_6) := (blk_cell BK190.out 6).trans rfl
      have hfz7_0 := blk_frozen BK190.out 0
      have hfz7_1 := blk_frozen BK190.out 1
      have hfz7_2 := blk_frozen BK190.out 2
      have hfz7_3 := blk_frozen BK190.out 3
      have hfz7_4 := blk_frozen BK190.out 4
      have hfz7_5 := blk_frozen BK190.out 5
      have hfz7_6 := blk_frozen BK190.out 6
      go_wp2_with (first | (go_at_call 13; (with_reducible refine (act_May.calls k a0_0 a0_1 a0_2 a0_3 a0_4 a0_5 a0_6 t191 _ A6.out).mono ?_); rintro e w8 ⟨rfl, hb⟩; have n0_ := Aside0.mk (blk_below (g := gb190) (o := .cells #[.string a0_0, .int .i64 a0_1, .int .i64 a0_2, .int .i64 a0_3, .int .i64 a0_4, .int .i64 a0_5, .int .i64 a0_6] 27 (0, 0)) (by (with_reducible repeat (first | refine blk_drewN ?_ _ | refine blk_drew ?_ | refine blk_alloc ?_ _)); exact BK190.out) hb); have n1_ := Aside0.mk (below_step (by repeat (first | (with_reducible first | exact HB.out | apply below_alloc | apply pw_below_drewN | apply below_drew1 | refine below_set ?_ GE190.out) | exact HB.out)) hb); clear BK190; clear HB; have BK190 := n0_; have HB := n1_; clear n0_ n1_; (try clear hb); (try clear hb2); (try clear hk); (try clear hi)))
      go_meet
      case rel => exact ⟨_, ((t191 != 0)), (by first | rfl | (simp; done) | (simp [*]; done)), H', ⟨by first | omega | exact Nat.le_refl _⟩, ⟨by (with_reducible repeat (first | refine blk_drewN ?_ _ | refine blk_drew ?_ | refine blk_alloc ?_ _)); exact BK190.out⟩, ⟨by repeat (first | (with_reducible first | exact HB.out | apply below_alloc | apply pw_below_drewN | apply below_drew1 | refine below_set ?_ GE190.out) | exact HB.out)⟩⟩
  case rest =>
    clear HC3
    try clear c1
    try clear p2
    try clear c4
    try clear c5
    try clear c5b0
    try clear c5b1
    try clear hcz7_0
    try clear hcz7_1
    try clear hcz7_2
    try clear hcz7_3
    try clear hcz7_4
    try clear hcz7_5
    try clear hcz7_6
    try clear hfz7_0
    try clear hfz7_1
    try clear hfz7_2
    try clear hfz7_3
    try clear hfz7_4
    try clear hfz7_5
    try clear hfz7_6
    obtain ⟨kq, x19_2, rfl, HA, HJ2, BK190, HB⟩ := hcut
    cases kq with
    | zero => exact absurd HA.out (by simp [ententelaw06_ActTotals.j0])
    | succ kj2 =>
      have H := HA.out
      clear HA
      simp only [ententelaw06_ActTotals.j0] at H
      by_cases c9 : x19_2 = true
      · subst c9
        have H1 : ((ententelaw06_awake.f kj2).bind fun t192 => (some t192)) = some r := by rw [if_pos rfl] at H; exact H
        clear H
        have H := H1
        clear H1
        replace H := Option.bind_eq_some_iff.mp H
        obtain ⟨t192, A100, H⟩ := H
        replace H : (some t192) = some r := H
        have A10 := Aside0.mk A100
        clear A100
        obtain rfl := Option.some.inj H
        go_wp2_with (first | ((with_reducible refine gate_callee (f := 15) rfl ?_); refine goesL_ (some 20) rfl rfl Try.func15 (by kernel_rfl) rfl #[] rfl (by (try simp only [List.map_toArray, List.map_cons, List.map_nil]); first | done | rfl | (simp only [List.length_drop, List.length_take]; rfl)) ?_; (with_reducible refine (ententelaw06_awake.calls kj2  t192 _ A10.out).mono ?_); rintro e w11 ⟨rfl, hb⟩; refine ⟨_, rfl, ?_⟩; have n0_ := Aside0.mk (blk_below (g := gb190) (o := .cells #[.string a0_0, .int .i64 a0_1, .int .i64 a0_2, .int .i64 a0_3, .int .i64 a0_4, .int .i64 a0_5, .int .i64 a0_6] 27 (0, 0)) (by (with_reducible repeat (first | refine blk_drewN ?_ _ | refine blk_drew ?_ | refine blk_alloc ?_ _)); exact BK190.out) hb); have n1_ := Aside0.mk (below_step (by repeat (first | (with_reducible first | exact HB.out | apply below_alloc | apply pw_below_drewN | apply below_drew1 | refine below_set ?_ GE190.out) | exact HB.out)) hb); clear BK190; clear HB; have BK190 := n0_; have HB := n1_; clear n0_ n1_; (try clear hb); (try clear hb2); (try clear hk); (try clear hi)))
        go_ret
        exact ⟨by first | rfl | (simp [errW_none, errW_some] <;> rfl) | (simp [*, errW_none, errW_some] <;> rfl), by repeat (first | (with_reducible first | exact HB.out | apply below_alloc | apply pw_below_drewN | apply below_drew1 | refine below_set ?_ GE190.out) | exact HB.out)⟩
      · replace c9 := Bool.eq_false_iff.mpr c9
        subst c9
        have H1 : (ententelaw06_ActTotals.l0 kj2 l1 (wrap64 (a0_1 + a0_4)) 0 a0_0 a0_1 a0_2 a0_3 a0_4 a0_5 a0_6) = some r := by rw [if_neg (show ¬ (false = true) by decide)] at H; exact H
        clear H
        have H := H1
        clear H1
        have H' := Aside0.mk H
        clear H
        have hcz12_0 : wc.cell? ⟨gb190, 0, none⟩ = some (.string a0_0) := (blk_cell BK190.out 0).trans rfl
        have hcz12_1 : wc.cell? ⟨gb190, 1, none⟩ = some (.int .i64 a0_1) := (blk_cell BK190.out 1).trans rfl
        have hcz12_2 : wc.cell? ⟨gb190, 2, none⟩ = some (.int .i64 a0_2) := (blk_cell BK190.out 2).trans rfl
        have hcz12_3 : wc.cell? ⟨gb190, 3, none⟩ = some (.int .i64 a0_3) := (blk_cell BK190.out 3).trans rfl
        have hcz12_4 : wc.cell? ⟨gb190, 4, none⟩ = some (.int .i64 a0_4) := (blk_cell BK190.out 4).trans rfl
        have hcz12_5 : wc.cell? ⟨gb190, 5, none⟩ = some (.int .i64 a0_5) := (blk_cell BK190.out 5).trans rfl
        have hcz12_6 : wc.cell? ⟨gb190, 6, none⟩ = some (.int .i64 a0_6) := (blk_cell BK190.out 6).trans rfl
        have hfz12_0 := blk_frozen BK190.out 0
        have hfz12_1 := blk_frozen BK190.out 1
        have hfz12_2 := blk_frozen BK190.out 2
        have hfz12_3 := blk_frozen BK190.out 3
        have hfz12_4 := blk_frozen BK190.out 4
        have hfz12_5 := blk_frozen BK190.out 5
        have hfz12_6 := blk_frozen BK190.out 6
        go_wp2_with (first | ((with_reducible refine gate_dst (N := 5) rfl ?_); refine box_event ?hg (N := 5) ?hd (cs := #[.string (⟨#[]⟩ : ByteArray), .int .i64 0, .int .i64 0, .int .i64 0, .int .i64 0, .int .i64 0, .int .i64 0]) (t := 27) ?hr ?_; (case hd => rfl); (case hg => rfl); (case hr => first | (go_simp; done) | (go_simp; rfl)); intro gb193 hg w13 hbox hb; have n0_ := Aside0.mk (blk_below (g := gb190) (o := .cells #[.string a0_0, .int .i64 a0_1, .int .i64 a0_2, .int .i64 a0_3, .int .i64 a0_4, .int .i64 a0_5, .int .i64 a0_6] 27 (0, 0)) (by (with_reducible repeat (first | refine blk_drewN ?_ _ | refine blk_drew ?_ | refine blk_alloc ?_ _)); exact BK190.out) hb); have n1_ := Aside0.mk (below_step (by repeat (first | (with_reducible first | exact HB.out | apply below_alloc | apply pw_below_drewN | apply below_drew1 | refine below_set ?_ GE190.out) | exact HB.out)) hb); have n2_ := Aside0.mk (hbox); have n3_ := Aside0.mk ((by rw [hg]; exact (below_size (by repeat (first | (with_reducible first | exact HB.out | apply below_alloc | apply pw_below_drewN | apply below_drew1 | refine below_set ?_ GE190.out) | exact HB.out))) : w.heap.size ≤ gb193)); have n4_ := Aside0.mk ((by rw [hg]; exact (below_size (by repeat (first | (with_reducible first | exact HB.out | apply below_alloc | apply pw_below_drewN | apply below_drew1 | refine below_set ?_ GE190.out) | exact HB.out))) : w.heap.size ≤ gb193)); have n5_ := Aside0.mk ((by rw [hg]; exact Nat.ne_of_lt (blk_lt (g := gb190) (o := .cells #[.string a0_0, .int .i64 a0_1, .int .i64 a0_2, .int .i64 a0_3, .int .i64 a0_4, .int .i64 a0_5, .int .i64 a0_6] 27 (0, 0)) (by (with_reducible repeat (first | refine blk_drewN ?_ _ | refine blk_drew ?_ | refine blk_alloc ?_ _)); exact BK190.out)) : gb190 ≠ gb193)); have n6_ := Aside0.mk ((by rw [hg]; exact Nat.ne_of_gt (blk_lt (g := gb190) (o := .cells #[.string a0_0, .int .i64 a0_1, .int .i64 a0_2, .int .i64 a0_3, .int .i64 a0_4, .int .i64 a0_5, .int .i64 a0_6] 27 (0, 0)) (by (with_reducible repeat (first | refine blk_drewN ?_ _ | refine blk_drew ?_ | refine blk_alloc ?_ _)); exact BK190.out)) : gb193 ≠ gb190)); clear BK190; clear HB; have BK190 := n0_; have HB := n1_; have BK193 := n2_; have GW193 := n3_; have GE193 := n4_; have NB190_193 := n5_; have NB193_190 := n6_; clear n0_ n1_ n2_ n3_ n4_ n5_ n6_; clear hb hbox hg; have hnb14 := NB193_190.out; have hnc14 := NB190_193.out; have hcz15_0 : w13.cell? ⟨gb193, 0, none⟩ = some (.string (⟨#[]⟩ : ByteArray)) := (blk_cell BK193.out 0).trans rfl; have hcz15_1 : w13.cell? ⟨gb193, 1, none⟩ = some (.int .i64 0) := (blk_cell BK193.out 1).trans rfl; have hcz15_2 : w13.cell? ⟨gb193, 2, none⟩ = some (.int .i64 0) := (blk_cell BK193.out 2).trans rfl; have hcz15_3 : w13.cell? ⟨gb193, 3, none⟩ = some (.int .i64 0) := (blk_cell BK193.out 3).trans rfl; have hcz15_4 : w13.cell? ⟨gb193, 4, none⟩ = some (.int .i64 0) := (blk_cell BK193.out 4).trans rfl; have hcz15_5 : w13.cell? ⟨gb193, 5, none⟩ = some (.int .i64 0) := (blk_cell BK193.out 5).trans rfl; have hcz15_6 : w13.cell? ⟨gb193, 6, none⟩ = some (.int .i64 0) := (blk_cell BK193.out 6).trans rfl; have hfz15_0 := blk_frozen BK193.out 0; have hfz15_1 := blk_frozen BK193.out 1; have hfz15_2 := blk_frozen BK193.out 2; have hfz15_3 := blk_frozen BK193.out 3; have hfz15_4 := blk_frozen BK193.out 4; have hfz15_5 := blk_frozen BK193.out 5; have hfz15_6 := blk_frozen BK193.out 6; have hcz16_0 : w13.cell? ⟨gb190, 0, none⟩ = some (.string a0_0) := (blk_cell BK190.out 0).trans rfl; have hcz16_1 : w13.cell? ⟨gb190, 1, none⟩ = some (.int .i64 a0_1) := (blk_cell BK190.out 1).trans rfl; have hcz16_2 : w13.cell? ⟨gb190, 2, none⟩ = some (.int .i64 a0_2) := (blk_cell BK190.out 2).trans rfl; have hcz16_3 : w13.cell? ⟨gb190, 3, none⟩ = some (.int .i64 a0_3) := (blk_cell BK190.out 3).trans rfl; have hcz16_4 : w13.cell? ⟨gb190, 4, none⟩ = some (.int .i64 a0_4) := (blk_cell BK190.out 4).trans rfl; have hcz16_5 : w13.cell? ⟨gb190, 5, none⟩ = some (.int .i64 a0_5) := (blk_cell BK190.out 5).trans rfl; have hcz16_6 : w13.cell? ⟨gb190, 6, none⟩ = some (.int .i64 a0_6) := (blk_cell BK190.out 6).trans rfl; have hfz16_0 := blk_frozen BK190.out 0; have hfz16_1 := blk_frozen BK190.out 1; have hfz16_2 := blk_frozen BK190.out 2; have hfz16_3 := blk_frozen BK190.out 3; have hfz16_4 := blk_frozen BK190.out 4; have hfz16_5 := blk_frozen BK190.out 5; have hfz16_6 := blk_frozen BK190.out 6))
        go_loopg [6, 7] kj2 (fun kq v6 v7 w' => ∃ (x6_2 : Int) (x7_2 : Int) (x194000_2 : ByteArray) (x194001_2 : Int) (x194002_2 : Int) (x194003_2 : Int) (x194004_2 : Int) (x194005_2 : Int) (x194006_2 : Int), v6 = .int .i64 x6_2 ∧ v7 = .int .i64 x7_2 ∧ Aside0 (ententelaw06_ActTotals.l0 kq l1 x6_2 x7_2 x194000_2 x194001_2 x194002_2 x194003_2 x194004_2 x194005_2 x194006_2 = some r) ∧ Aside0 (kq ≤ kj2) ∧ Aside0 (w'.heap[gb190]? = some (.cells #[.string a0_0, .int .i64 a0_1, .int .i64 a0_2, .int .i64 a0_3, .int .i64 a0_4, .int .i64 a0_5, .int .i64 a0_6] 27 (0, 0))) ∧ Aside0 (w'.heap[gb193]? = some (.cells #[.string x194000_2, .int .i64 x194001_2, .int .i64 x194002_2, .int .i64 x194003_2, .int .i64 x194004_2, .int .i64 x194005_2, .int .i64 x194006_2] 27 (0, 0))) ∧ Aside0 (Below w.heap.size w w'))
        case atStart => exact ⟨(wrap64 (a0_1 + a0_4)), (0), (a0_0), (a0_1), (a0_2), (a0_3), (a0_4), (a0_5), (a0_6), (by first | rfl | (simp; done) | (simp [*]; done)), (by first | rfl | (simp; done) | (simp [*]; done)), H', ⟨Nat.le_refl _⟩, ⟨by (with_reducible repeat (first | refine blk_drewN ?_ _ | refine blk_drew ?_ | refine blk_alloc ?_ _)); refine blk_far ?_ NB190_193.out _; (with_reducible repeat (first | refine blk_drewN ?_ _ | refine blk_drew ?_ | refine blk_alloc ?_ _)); refine blk_far ?_ NB190_193.out _; (with_reducible repeat (first | refine blk_drewN ?_ _ | refine blk_drew ?_ | refine blk_alloc ?_ _)); refine blk_far ?_ NB190_193.out _; (with_reducible repeat (first | refine blk_drewN ?_ _ | refine blk_drew ?_ | refine blk_alloc ?_ _)); refine blk_far ?_ NB190_193.out _; (with_reducible repeat (first | refine blk_drewN ?_ _ | refine blk_drew ?_ | refine blk_alloc ?_ _)); refine blk_far ?_ NB190_193.out _; (with_reducible repeat (first | refine blk_drewN ?_ _ | refine blk_drew ?_ | refine blk_alloc ?_ _)); refine blk_far ?_ NB190_193.out _; (with_reducible repeat (first | refine blk_drewN ?_ _ | refine blk_drew ?_ | refine blk_alloc ?_ _)); refine blk_far ?_ NB190_193.out _; (with_reducible repeat (first | refine blk_drewN ?_ _ | refine blk_drew ?_ | refine blk_alloc ?_ _)); exact BK190.out⟩, ⟨by (with_reducible repeat (first | refine blk_drewN ?_ _ | refine blk_drew ?_ | refine blk_alloc ?_ _)); refine blk_put (cs := #[.string a0_0, .int .i64 a0_1, .int .i64 a0_2, .int .i64 a0_3, .int .i64 a0_4, .int .i64 a0_5, .int .i64 0]) ?_ 6 _ rfl; (with_reducible repeat (first | refine blk_drewN ?_ _ | refine blk_drew ?_ | refine blk_alloc ?_ _)); refine blk_put (cs := #[.string a0_0, .int .i64 a0_1, .int .i64 a0_2, .int .i64 a0_3, .int .i64 a0_4, .int .i64 0, .int .i64 0]) ?_ 5 _ rfl; (with_reducible repeat (first | refine blk_drewN ?_ _ | refine blk_drew ?_ | refine blk_alloc ?_ _)); refine blk_put (cs := #[.string a0_0, .int .i64 a0_1, .int .i64 a0_2, .int .i64 a0_3, .int .i64 0, .int .i64 0, .int .i64 0]) ?_ 4 _ rfl; (with_reducible repeat (first | refine blk_drewN ?_ _ | refine blk_drew ?_ | refine blk_alloc ?_ _)); refine blk_put (cs := #[.string a0_0, .int .i64 a0_1, .int .i64 a0_2, .int .i64 0, .int .i64 0, .int .i64 0, .int .i64 0]) ?_ 3 _ rfl; (with_reducible repeat (first | refine blk_drewN ?_ _ | refine blk_drew ?_ | refine blk_alloc ?_ _)); refine blk_put (cs := #[.string a0_0, .int .i64 a0_1, .int .i64 0, .int .i64 0, .int .i64 0, .int .i64 0, .int .i64 0]) ?_ 2 _ rfl; (with_reducible repeat (first | refine blk_drewN ?_ _ | refine blk_drew ?_ | refine blk_alloc ?_ _)); refine blk_put (cs := #[.string a0_0, .int .i64 0, .int .i64 0, .int .i64 0, .int .i64 0, .int .i64 0, .int .i64 0]) ?_ 1 _ rfl; (with_reducible repeat (first | refine blk_drewN ?_ _ | refine blk_drew ?_ | refine blk_alloc ?_ _)); refine blk_put (cs := #[.string (⟨#[]⟩ : ByteArray), .int .i64 0, .int .i64 0, .int .i64 0, .int .i64 0, .int .i64 0, .int .i64 0]) ?_ 0 _ rfl; (with_reducible repeat (first | refine blk_drewN ?_ _ | refine blk_drew ?_ | refine blk_alloc ?_ _)); exact BK193.out⟩, ⟨by repeat (first | (with_reducible first | exact HB.out | apply below_alloc | apply pw_below_drewN | apply below_drew1 | refine below_set ?_ GE190.out | refine below_set ?_ GE193.out) | exact HB.out)⟩⟩
        case round =>
          clear H'
          try clear c1
          try clear p2
          try clear c4
          try clear c5
          try clear c5b0
          try clear c5b1
          try clear p6
          try clear c9
          try clear c14
          try clear c15
          try clear hcz12_0
          try clear hcz12_1
          try clear hcz12_2
          try clear hcz12_3
          try clear hcz12_4
          try clear hcz12_5
          try clear hcz12_6
          try clear hcz15_0
          try clear hcz15_1
          try clear hcz15_2
          try clear hcz15_3
          try clear hcz15_4
          try clear hcz15_5
          try clear hcz15_6
          try clear hcz16_0
          try clear hcz16_1
          try clear hcz16_2
          try clear hcz16_3
          try clear hcz16_4
          try clear hcz16_5
          try clear hcz16_6
          try clear hcz7_0
          try clear hcz7_1
          try clear hcz7_2
          try clear hcz7_3
          try clear hcz7_4
          try clear hcz7_5
          try clear hcz7_6
          try clear hfz12_0
          try clear hfz12_1
          try clear hfz12_2
          try clear hfz12_3
          try clear hfz12_4
          try clear hfz12_5
          try clear hfz12_6
          try clear hfz15_0
          try clear hfz15_1
          try clear hfz15_2
          try clear hfz15_3
          try clear hfz15_4
          try clear hfz15_5
          try clear hfz15_6
          try clear hfz16_0
          try clear hfz16_1
          try clear hfz16_2
          try clear hfz16_3
          try clear hfz16_4
          try clear hfz16_5
          try clear hfz16_6
          try clear hfz7_0
          try clear hfz7_1
          try clear hfz7_2
          try clear hfz7_3
          try clear hfz7_4
          try clear hfz7_5
          try clear hfz7_6
          try clear p2
          obtain ⟨x6_2, x7_2, x194000_2, x194001_2, x194002_2, x194003_2, x194004_2, x194005_2, x194006_2, rfl, rfl, HA, HK2, BK190, BK193, HB⟩ := hrel
          cases gk with
          | zero => exact absurd HA.out (by simp [ententelaw06_ActTotals.l0])
          | succ k2 =>
            have H := HA.out
            clear HA
            simp only [ententelaw06_ActTotals.l0] at H
            by_cases c17 : x7_2 < (l1.length : Int)
            · rw [if_pos c17] at H
              have c17b0 : decide (x7_2 < (l1.length : Int)) = true := decide_eq_true c17
              clear c17
              by_cases c18 : 0 ≤ x7_2
              · rw [if_pos c18] at H
                have c18b0 : decide (0 ≤ x7_2) = true := decide_eq_true c18
                clear c18
                replace H := Option.bind_eq_some_iff.mp H
                obtain ⟨⟨t196, t197, t198, t199, t200, t201, t202, t203⟩, A190, H⟩ := H
                replace H : (if t203 = 0 then ((act_Delta.f k2 ((rd_T23 l1 x7_2).f0) ((rd_T23 l1 x7_2).f1) ((rd_T23 l1 x7_2).f2)).bind fun bt206 => (if ((rd_T23 l1 x7_2).f0) = 3 then (ententelaw06_ActTotals.j2 k2 l1 x6_2 x7_2 bt206.1 bt206.2 true t196 t197 t198 t199 t200 t201 t202) else (ententelaw06_ActTotals.j2 k2 l1 x6_2 x7_2 bt206.1 bt206.2 (((rd_T23 l1 x7_2).f0) == 4) t196 t197 t198 t199 t200 t201 t202))) else (ententelaw06_ActTotals.l0 k2 l1 x6_2 (wrap64 (x7_2 + 1)) x194000_2 x194001_2 x194002_2 x194003_2 x194004_2 x194005_2 x194006_2)) = some r := H
                have A19 := Aside0.mk A190
                clear A190
                by_cases c20 : t203 = 0
                · rw [if_pos c20] at H
                  have c20b0 : (t203 == 0) = true := beq_iff_eq.mpr c20
                  have c20b1 : (t203 != 0) = false := bne_eq_false_iff_eq.mpr c20
                  clear c20
                  replace H := Option.bind_eq_some_iff.mp H
                  obtain ⟨⟨t206, t207⟩, A210, H⟩ := H
                  replace H : (if ((rd_T23 l1 x7_2).f0) = 3 then (ententelaw06_ActTotals.j2 k2 l1 x6_2 x7_2 t206 t207 true t196 t197 t198 t199 t200 t201 t202) else (ententelaw06_ActTotals.j2 k2 l1 x6_2 x7_2 t206 t207 (((rd_T23 l1 x7_2).f0) == 4) t196 t197 t198 t199 t200 t201 t202)) = some r := H
                  have A21 := Aside0.mk A210
                  clear A210
                  have HC22 := Aside0.mk H
                  clear H
                  try go_wp2
                  have n0_ := Aside0.mk (blk_drew BK190.out)
                  have n1_ := Aside0.mk (blk_drew BK193.out)
                  have n2_ := Aside0.mk (below_drew1 HB.out)
                  clear BK190
                  clear BK193
                  clear HB
                  have BK190 := n0_
                  have BK193 := n1_
                  have HB := n2_
                  clear n0_ n1_ n2_
                  have p195 : 0 ≤ (x7_2 : Int) := of_decide_eq_true (by first | (with_reducible assumption) | assumption)
                  have q195 : x7_2 < (l1.length : Int) := of_decide_eq_true (by first | (with_reducible assumption) | assumption)
                  obtain ⟨ad195, e195, hx195_0, hx195_1, hx195_2⟩ := at_T23 HR1.out x7_2 p195 q195
                  have hw195_2 := hx195_2
                  have hw195_1 := hx195_1
                  have hw195_0 := hx195_0
                  cases e195
                  replace hx195_0 := (HB.out.cell (World.block_lt_of_cell? w _ hx195_0)).trans hx195_0
                  replace hx195_1 := (HB.out.cell (World.block_lt_of_cell? w _ hx195_1)).trans hx195_1
                  replace hx195_2 := (HB.out.cell (World.block_lt_of_cell? w _ hx195_2)).trans hx195_2
                  replace p195 := eq_true p195
                  replace q195 := eq_true q195
                  refine start_ (n := 12) (S := fun w' => w'.cell? ⟨gb193, 0, none⟩ = some (.string x194000_2) ∧ w'.cell? ⟨gb193, 1, none⟩ = some (.int .i64 x194001_2) ∧ w'.cell? ⟨gb193, 2, none⟩ = some (.int .i64 x194002_2) ∧ w'.cell? ⟨gb193, 3, none⟩ = some (.int .i64 x194003_2) ∧ w'.cell? ⟨gb193, 4, none⟩ = some (.int .i64 x194004_2) ∧ w'.cell? ⟨gb193, 5, none⟩ = some (.int .i64 x194005_2) ∧ w'.cell? ⟨gb193, 6, none⟩ = some (.int .i64 x194006_2) ∧ w'.cell? (ad195.add ((x7_2).toNat * 3)) = some (.int .i64 ((rd_T23 l1 x7_2).f0)) ∧ w'.cell? ⟨(ad195.add ((x7_2).toNat * 3)).block, (ad195.add ((x7_2).toNat * 3)).off + 1, none⟩ = some (.string ((rd_T23 l1 x7_2).f1)) ∧ w'.cell? ⟨(ad195.add ((x7_2).toNat * 3)).block, (ad195.add ((x7_2).toNat * 3)).off + 2, none⟩ = some (.int .i64 ((rd_T23 l1 x7_2).f2))) (ds := []) #[false, false, false, false, false, false, false, false, false, false, false, false] (by kernel_rfl) rfl rfl ⟨(blk_cell BK193.out 0).trans rfl, (blk_cell BK193.out 1).trans rfl, (blk_cell BK193.out 2).trans rfl, (blk_cell BK193.out 3).trans rfl, (blk_cell BK193.out 4).trans rfl, (blk_cell BK193.out 5).trans rfl, (blk_cell BK193.out 6).trans rfl, ((HB.out.cell (World.block_lt_of_cell? w _ hw195_0)).trans hw195_0), ((HB.out.cell (World.block_lt_of_cell? w _ hw195_1)).trans hw195_1), ((HB.out.cell (World.block_lt_of_cell? w _ hw195_2)).trans hw195_2)⟩ (fun hHeld => ?_); refine with_tabW ententelaw06_ActTotals.tab8 ententelaw06_ActTotals.bits8 (fun HT_ HW_ => ?_)
                  generalize wr.drew = w23 at BK190 BK193 HB hx195_0 hx195_1 hx195_2 hHeld ⊢
                  refine pure_ (i := 1) (N := some 37) (v := ?_) (a' := ?_) #[false, true, false, false, false, false, false, false, false, false, false, false] rfl rfl (any_of HT_.out (by kernel_rfl)) (fun _ _ _ h => h) (Or.inl ⟨by rfl, ?_⟩) ?_ ?_
                  rotate_left
                  · intro w'
                    go_simp
                    with_reducible rfl
                  rotate_left
                  · simp only [Act.put, List.setIfInBounds_toArray, List.set_cons_zero, List.set_cons_succ, i64_w, i32_w]
                    rfl
                  refine pure_ (i := 2) (N := some 38) (v := ?_) (a' := ?_) #[false, true, true, false, false, false, false, false, false, false, false, false] rfl rfl (any_of HT_.out (by kernel_rfl)) (fun _ _ _ h => h) (Or.inl ⟨by rfl, ?_⟩) ?_ ?_
                  rotate_left
                  · intro w'
                    go_simp
                    with_reducible rfl
                  rotate_left
                  · simp only [Act.put, List.setIfInBounds_toArray, List.set_cons_zero, List.set_cons_succ, i64_w, i32_w]
                    rfl
                  refine pure_ (i := 3) (N := some 39) (v := ?_) (a' := ?_) #[false, true, true, true, false, false, false, false, false, false, false, false] rfl rfl (any_of HT_.out (by kernel_rfl)) (fun _ _ _ h => h) (Or.inl ⟨by rfl, ?_⟩) ?_ ?_
                  rotate_left
                  · intro w'
                    go_simp
                    with_reducible rfl
                  rotate_left
                  · simp only [Act.put, List.setIfInBounds_toArray, List.set_cons_zero, List.set_cons_succ, i64_w, i32_w]
                    rfl
                  refine take_ (i := 0) (N := some 36) (v := ?_) (a' := ?_) #[true, true, true, true, false, false, false, false, false, false, false, false] rfl rfl (take_ofW HT_.out HW_.out (by kernel_rfl)) (fun _ _ _ h => h) (Or.inl ⟨by rfl, ?_⟩) hHeld ?_ ?_
                  rotate_left
                  · rintro w' ⟨s0, s1, s2, s3, s4, s5, s6, s7, s8, s9⟩
                    go_simp
                    with_reducible rfl
                  rotate_left
                  · simp only [Act.put, List.setIfInBounds_toArray, List.set_cons_zero, List.set_cons_succ, i64_w, i32_w]
                    rfl
                  refine take_ (i := 4) (N := some 40) (v := ?_) (a' := ?_) #[true, true, true, true, true, false, false, false, false, false, false, false] rfl rfl (take_ofW HT_.out HW_.out (by kernel_rfl)) (fun _ _ _ h => h) (Or.inl ⟨by rfl, ?_⟩) hHeld ?_ ?_
                  rotate_left
                  · rintro w' ⟨s0, s1, s2, s3, s4, s5, s6, s7, s8, s9⟩
                    go_simp
                    with_reducible rfl
                  rotate_left
                  · simp only [Act.put, List.setIfInBounds_toArray, List.set_cons_zero, List.set_cons_succ, i64_w, i32_w]
                    rfl
                  refine join_ (σ := Nat) 2 #[true, true, true, true, true, true, true, true, true, true, false, false] (fun s_ => [(41, .tuple #[.agg #[.string t196, .int .i64 t197, .int .i64 t198, .int .i64 t199, .int .i64 t200, .int .i64 t201, .int .i64 t202], .int .i64 t203]), (8, .pointer (some ⟨s_, 0, none⟩)), (35, .tuple #[.agg #[.string t196, .int .i64 t197, .int .i64 t198, .int .i64 t199, .int .i64 t200, .int .i64 t201, .int .i64 t202], .int .i64 t203]), (42, .agg #[.string t196, .int .i64 t197, .int .i64 t198, .int .i64 t199, .int .i64 t200, .int .i64 t201, .int .i64 t202]), (43, .int .i64 t203)]) (fun s_ w' => (w'.cell? ⟨gb193, 0, none⟩ = some (.string x194000_2) ∧ w'.cell? ⟨gb193, 1, none⟩ = some (.int .i64 x194001_2) ∧ w'.cell? ⟨gb193, 2, none⟩ = some (.int .i64 x194002_2) ∧ w'.cell? ⟨gb193, 3, none⟩ = some (.int .i64 x194003_2) ∧ w'.cell? ⟨gb193, 4, none⟩ = some (.int .i64 x194004_2) ∧ w'.cell? ⟨gb193, 5, none⟩ = some (.int .i64 x194005_2) ∧ w'.cell? ⟨gb193, 6, none⟩ = some (.int .i64 x194006_2) ∧ w'.cell? (ad195.add ((x7_2).toNat * 3)) = some (.int .i64 ((rd_T23 l1 x7_2).f0)) ∧ w'.cell? ⟨(ad195.add ((x7_2).toNat * 3)).block, (ad195.add ((x7_2).toNat * 3)).off + 1, none⟩ = some (.string ((rd_T23 l1 x7_2).f1)) ∧ w'.cell? ⟨(ad195.add ((x7_2).toNat * 3)).block, (ad195.add ((x7_2).toNat * 3)).off + 2, none⟩ = some (.int .i64 ((rd_T23 l1 x7_2).f2))) ∧ (w'.heap[gb190]? = some (.cells #[.string a0_0, .int .i64 a0_1, .int .i64 a0_2, .int .i64 a0_3, .int .i64 a0_4, .int .i64 a0_5, .int .i64 a0_6] 27 (0, 0))) ∧ (w'.heap[gb193]? = some (.cells #[.string x194000_2, .int .i64 x194001_2, .int .i64 x194002_2, .int .i64 x194003_2, .int .i64 x194004_2, .int .i64 x194005_2, .int .i64 x194006_2] 27 (0, 0))) ∧ (w'.heap[s_]? = some (.cells #[.string (⟨#[]⟩ : ByteArray), .int .i64 0, .int .i64 0, .int .i64 0, .int .i64 0, .int .i64 0, .int .i64 0] 27 (0, 0))) ∧ (w.heap.size ≤ s_) ∧ (w.heap.size ≤ s_) ∧ (gb190 ≠ s_) ∧ (s_ ≠ gb190) ∧ (gb193 ≠ s_) ∧ (s_ ≠ gb193) ∧ (Below w.heap.size w w')) ?_ ?_
                  rotate_left
                  · intro hCont
                    refine two_ (i := 5) (j := 9) (Ni := some 41) (Nj := some 8) #[true, true, true, true, true, true, false, false, false, false, false, false] #[true, true, true, true, true, false, false, false, false, true, false, false] rfl rfl rfl rfl (two_of HT_.out (by kernel_rfl)) (by decide) (by decide) (fun K hK => ?_) (fun K hK => ?_)
                    · skip
                      refine goes_ Try.func16 (by kernel_rfl) rfl #[.agg #[.string x194000_2, .int .i64 x194001_2, .int .i64 x194002_2, .int .i64 x194003_2, .int .i64 x194004_2, .int .i64 x194005_2, .int .i64 x194006_2], .agg #[.int .i64 ((rd_T23 l1 x7_2).f0), .string ((rd_T23 l1 x7_2).f1), .int .i64 ((rd_T23 l1 x7_2).f2)]] (by rfl) rfl rfl (by (try simp only [List.map_toArray, List.map_cons, List.map_nil]); first | done | rfl | (simp only [List.length_drop, List.length_take]; rfl)) ?_
                      with_reducible refine (act_Do.calls k2 x194000_2 x194001_2 x194002_2 x194003_2 x194004_2 x194005_2 x194006_2 ((rd_T23 l1 x7_2).f0) ((rd_T23 l1 x7_2).f1) ((rd_T23 l1 x7_2).f2) t196 t197 t198 t199 t200 t201 t202 t203 _ A19.out).mono ?_
                      rintro e w24 ⟨rfl, hb⟩
                      refine ⟨_, rfl, ?_⟩
                      have n0_ := Aside0.mk (blk_below (g := gb190) (o := .cells #[.string a0_0, .int .i64 a0_1, .int .i64 a0_2, .int .i64 a0_3, .int .i64 a0_4, .int .i64 a0_5, .int .i64 a0_6] 27 (0, 0)) (by (with_reducible repeat (first | refine blk_drewN ?_ _ | refine blk_drew ?_ | refine blk_alloc ?_ _)); exact BK190.out) hb)
                      have n1_ := Aside0.mk (blk_below (g := gb193) (o := .cells #[.string x194000_2, .int .i64 x194001_2, .int .i64 x194002_2, .int .i64 x194003_2, .int .i64 x194004_2, .int .i64 x194005_2, .int .i64 x194006_2] 27 (0, 0)) (by (with_reducible repeat (first | refine blk_drewN ?_ _ | refine blk_drew ?_ | refine blk_alloc ?_ _)); exact BK193.out) hb)
                      have n2_ := Aside0.mk (below_step (by repeat (first | (with_reducible first | exact HB.out | apply below_alloc | apply pw_below_drewN | apply below_drew1 | refine below_set ?_ GE190.out | refine below_set ?_ GE193.out) | exact HB.out)) hb)
                      clear BK190
                      clear BK193
                      clear HB
                      have BK190 := n0_
                      have BK193 := n1_
                      have HB := n2_
                      clear n0_ n1_ n2_
                      (try clear hb)
                      (try clear hb2)
                      (try clear hk)
                      (try clear hi)
                      refine hK.out _ _ ⟨(blk_cell BK193.out 0).trans rfl, (blk_cell BK193.out 1).trans rfl, (blk_cell BK193.out 2).trans rfl, (blk_cell BK193.out 3).trans rfl, (blk_cell BK193.out 4).trans rfl, (blk_cell BK193.out 5).trans rfl, (blk_cell BK193.out 6).trans rfl, ((HB.out.cell (World.block_lt_of_cell? w _ hw195_0)).trans hw195_0), ((HB.out.cell (World.block_lt_of_cell? w _ hw195_1)).trans hw195_1), ((HB.out.cell (World.block_lt_of_cell? w _ hw195_2)).trans hw195_2)⟩ (fun hHeld => ?_)
                      clear hK K
                      refine norm_ (a' := ?_) ?_ ?_
                      rotate_left
                      · show Act.put _ (some 41) _ = _
                        simp only [Act.put, List.setIfInBounds_toArray, List.set_cons_zero, List.set_cons_succ, i64_w, i32_w]
                        rfl
                      refine pure_ (i := 6) (N := some 35) (v := ?_) (a' := ?_) #[true, true, true, true, true, true, true, false, false, false, false, false] rfl rfl (any_of HT_.out (by kernel_rfl)) (fun _ _ _ h => h) (Or.inl ⟨by rfl, ?_⟩) ?_ ?_
                      rotate_left
                      · intro w'
                        go_simp
                        with_reducible rfl
                      rotate_left
                      · simp only [Act.put, List.setIfInBounds_toArray, List.set_cons_zero, List.set_cons_succ, i64_w, i32_w]
                        rfl
                      refine pure_ (i := 7) (N := some 42) (v := ?_) (a' := ?_) #[true, true, true, true, true, true, true, true, false, false, false, false] rfl rfl (any_of HT_.out (by kernel_rfl)) (fun _ _ _ h => h) (Or.inl ⟨by rfl, ?_⟩) ?_ ?_
                      rotate_left
                      · intro w'
                        go_simp
                        with_reducible rfl
                      rotate_left
                      · simp only [Act.put, List.setIfInBounds_toArray, List.set_cons_zero, List.set_cons_succ, i64_w, i32_w]
                        rfl
                      refine pure_ (i := 8) (N := some 43) (v := ?_) (a' := ?_) #[true, true, true, true, true, true, true, true, true, false, false, false] rfl rfl (any_of HT_.out (by kernel_rfl)) (fun _ _ _ h => h) (Or.inl ⟨by rfl, ?_⟩) ?_ ?_
                      rotate_left
                      · intro w'
                        go_simp
                        with_reducible rfl
                      rotate_left
                      · simp only [Act.put, List.setIfInBounds_toArray, List.set_cons_zero, List.set_cons_succ, i64_w, i32_w]
                        rfl
                      refine one_ (i := 9) (N := some 8) #[true, true, true, true, true, true, true, true, true, true, false, false] rfl rfl (one_of HT_.out (by kernel_rfl)) (by decide) (fun K hK => ?_)
                      refine box_step ?hg (N := 8) ?hd (cs := #[.string (⟨#[]⟩ : ByteArray), .int .i64 0, .int .i64 0, .int .i64 0, .int .i64 0, .int .i64 0, .int .i64 0]) (t := 27) ?hr ?_; (case hd => rfl); (case hg => rfl); (case hr => first | (go_simp; done) | (go_simp; rfl))
                      intro gb204 hg w25 hbox hb
                      have n0_ := Aside0.mk (blk_below (g := gb190) (o := .cells #[.string a0_0, .int .i64 a0_1, .int .i64 a0_2, .int .i64 a0_3, .int .i64 a0_4, .int .i64 a0_5, .int .i64 a0_6] 27 (0, 0)) (by (with_reducible repeat (first | refine blk_drewN ?_ _ | refine blk_drew ?_ | refine blk_alloc ?_ _)); exact BK190.out) hb)
                      have n1_ := Aside0.mk (blk_below (g := gb193) (o := .cells #[.string x194000_2, .int .i64 x194001_2, .int .i64 x194002_2, .int .i64 x194003_2, .int .i64 x194004_2, .int .i64 x194005_2, .int .i64 x194006_2] 27 (0, 0)) (by (with_reducible repeat (first | refine blk_drewN ?_ _ | refine blk_drew ?_ | refine blk_alloc ?_ _)); exact BK193.out) hb)
                      have n2_ := Aside0.mk (below_step (by repeat (first | (with_reducible first | exact HB.out | apply below_alloc | apply pw_below_drewN | apply below_drew1 | refine below_set ?_ GE190.out | refine below_set ?_ GE193.out) | exact HB.out)) hb)
                      have n3_ := Aside0.mk (hbox)
                      have n4_ := Aside0.mk ((by rw [hg]; exact (below_size (by repeat (first | (with_reducible first | exact HB.out | apply below_alloc | apply pw_below_drewN | apply below_drew1 | refine below_set ?_ GE190.out | refine below_set ?_ GE193.out) | exact HB.out))) : w.heap.size ≤ gb204))
                      have n5_ := Aside0.mk ((by rw [hg]; exact (below_size (by repeat (first | (with_reducible first | exact HB.out | apply below_alloc | apply pw_below_drewN | apply below_drew1 | refine below_set ?_ GE190.out | refine below_set ?_ GE193.out) | exact HB.out))) : w.heap.size ≤ gb204))
                      have n6_ := Aside0.mk ((by rw [hg]; exact Nat.ne_of_lt (blk_lt (g := gb190) (o := .cells #[.string a0_0, .int .i64 a0_1, .int .i64 a0_2, .int .i64 a0_3, .int .i64 a0_4, .int .i64 a0_5, .int .i64 a0_6] 27 (0, 0)) (by (with_reducible repeat (first | refine blk_drewN ?_ _ | refine blk_drew ?_ | refine blk_alloc ?_ _)); exact BK190.out)) : gb190 ≠ gb204))
                      have n7_ := Aside0.mk ((by rw [hg]; exact Nat.ne_of_gt (blk_lt (g := gb190) (o := .cells #[.string a0_0, .int .i64 a0_1, .int .i64 a0_2, .int .i64 a0_3, .int .i64 a0_4, .int .i64 a0_5, .int .i64 a0_6] 27 (0, 0)) (by (with_reducible repeat (first | refine blk_drewN ?_ _ | refine blk_drew ?_ | refine blk_alloc ?_ _)); exact BK190.out)) : gb204 ≠ gb190))
                      have n8_ := Aside0.mk ((by rw [hg]; exact Nat.ne_of_lt (blk_lt (g := gb193) (o := .cells #[.string x194000_2, .int .i64 x194001_2, .int .i64 x194002_2, .int .i64 x194003_2, .int .i64 x194004_2, .int .i64 x194005_2, .int .i64 x194006_2] 27 (0, 0)) (by (with_reducible repeat (first | refine blk_drewN ?_ _ | refine blk_drew ?_ | refine blk_alloc ?_ _)); exact BK193.out)) : gb193 ≠ gb204))
                      have n9_ := Aside0.mk ((by rw [hg]; exact Nat.ne_of_gt (blk_lt (g := gb193) (o := .cells #[.string x194000_2, .int .i64 x194001_2, .int .i64 x194002_2, .int .i64 x194003_2, .int .i64 x194004_2, .int .i64 x194005_2, .int .i64 x194006_2] 27 (0, 0)) (by (with_reducible repeat (first | refine blk_drewN ?_ _ | refine blk_drew ?_ | refine blk_alloc ?_ _)); exact BK193.out)) : gb204 ≠ gb193))
                      clear BK190
                      clear BK193
                      clear HB
                      have BK190 := n0_
                      have BK193 := n1_
                      have HB := n2_
                      have BK204 := n3_
                      have GW204 := n4_
                      have GE204 := n5_
                      have NB190_204 := n6_
                      have NB204_190 := n7_
                      have NB193_204 := n8_
                      have NB204_193 := n9_
                      clear n0_ n1_ n2_ n3_ n4_ n5_ n6_ n7_ n8_ n9_
                      clear hb hbox hg
                      refine hK.out _ _ ⟨(blk_cell BK193.out 0).trans rfl, (blk_cell BK193.out 1).trans rfl, (blk_cell BK193.out 2).trans rfl, (blk_cell BK193.out 3).trans rfl, (blk_cell BK193.out 4).trans rfl, (blk_cell BK193.out 5).trans rfl, (blk_cell BK193.out 6).trans rfl, ((HB.out.cell (World.block_lt_of_cell? w _ hw195_0)).trans hw195_0), ((HB.out.cell (World.block_lt_of_cell? w _ hw195_1)).trans hw195_1), ((HB.out.cell (World.block_lt_of_cell? w _ hw195_2)).trans hw195_2)⟩ (fun hHeld => ?_)
                      clear hK K
                      refine norm_ (a' := ?_) ?_ ?_
                      rotate_left
                      · show Act.put _ (some 8) _ = _
                        simp only [Act.put, List.setIfInBounds_toArray, List.set_cons_zero, List.set_cons_succ, i64_w, i32_w]
                        rfl
                      exact norm_ (by simp only [putAll, Act.put, List.setIfInBounds_toArray, List.set_cons_zero, List.set_cons_succ]) (hCont (gb204) _ ⟨hHeld, (by (with_reducible repeat (first | refine blk_drewN ?_ _ | refine blk_drew ?_ | refine blk_alloc ?_ _)); exact BK190.out), (by (with_reducible repeat (first | refine blk_drewN ?_ _ | refine blk_drew ?_ | refine blk_alloc ?_ _)); exact BK193.out), (by (with_reducible repeat (first | refine blk_drewN ?_ _ | refine blk_drew ?_ | refine blk_alloc ?_ _)); exact BK204.out), GW204.out, GE204.out, NB190_204.out, NB204_190.out, NB193_204.out, NB204_193.out, (by repeat (first | (with_reducible first | exact HB.out | apply below_alloc | apply pw_below_drewN | apply below_drew1 | refine below_set ?_ GE190.out | refine below_set ?_ GE193.out | refine below_set ?_ GE204.out) | exact HB.out))⟩)
                    · skip
                      refine box_step ?hg (N := 8) ?hd (cs := #[.string (⟨#[]⟩ : ByteArray), .int .i64 0, .int .i64 0, .int .i64 0, .int .i64 0, .int .i64 0, .int .i64 0]) (t := 27) ?hr ?_; (case hd => rfl); (case hg => rfl); (case hr => first | (go_simp; done) | (go_simp; rfl))
                      intro gb204 hg w24 hbox hb
                      have n0_ := Aside0.mk (blk_below (g := gb190) (o := .cells #[.string a0_0, .int .i64 a0_1, .int .i64 a0_2, .int .i64 a0_3, .int .i64 a0_4, .int .i64 a0_5, .int .i64 a0_6] 27 (0, 0)) (by (with_reducible repeat (first | refine blk_drewN ?_ _ | refine blk_drew ?_ | refine blk_alloc ?_ _)); exact BK190.out) hb)
                      have n1_ := Aside0.mk (blk_below (g := gb193) (o := .cells #[.string x194000_2, .int .i64 x194001_2, .int .i64 x194002_2, .int .i64 x194003_2, .int .i64 x194004_2, .int .i64 x194005_2, .int .i64 x194006_2] 27 (0, 0)) (by (with_reducible repeat (first | refine blk_drewN ?_ _ | refine blk_drew ?_ | refine blk_alloc ?_ _)); exact BK193.out) hb)
                      have n2_ := Aside0.mk (below_step (by repeat (first | (with_reducible first | exact HB.out | apply below_alloc | apply pw_below_drewN | apply below_drew1 | refine below_set ?_ GE190.out | refine below_set ?_ GE193.out) | exact HB.out)) hb)
                      have n3_ := Aside0.mk (hbox)
                      have n4_ := Aside0.mk ((by rw [hg]; exact (below_size (by repeat (first | (with_reducible first | exact HB.out | apply below_alloc | apply pw_below_drewN | apply below_drew1 | refine below_set ?_ GE190.out | refine below_set ?_ GE193.out) | exact HB.out))) : w.heap.size ≤ gb204))
                      have n5_ := Aside0.mk ((by rw [hg]; exact (below_size (by repeat (first | (with_reducible first | exact HB.out | apply below_alloc | apply pw_below_drewN | apply below_drew1 | refine below_set ?_ GE190.out | refine below_set ?_ GE193.out) | exact HB.out))) : w.heap.size ≤ gb204))
                      have n6_ := Aside0.mk ((by rw [hg]; exact Nat.ne_of_lt (blk_lt (g := gb190) (o := .cells #[.string a0_0, .int .i64 a0_1, .int .i64 a0_2, .int .i64 a0_3, .int .i64 a0_4, .int .i64 a0_5, .int .i64 a0_6] 27 (0, 0)) (by (with_reducible repeat (first | refine blk_drewN ?_ _ | refine blk_drew ?_ | refine blk_alloc ?_ _)); exact BK190.out)) : gb190 ≠ gb204))
                      have n7_ := Aside0.mk ((by rw [hg]; exact Nat.ne_of_gt (blk_lt (g := gb190) (o := .cells #[.string a0_0, .int .i64 a0_1, .int .i64 a0_2, .int .i64 a0_3, .int .i64 a0_4, .int .i64 a0_5, .int .i64 a0_6] 27 (0, 0)) (by (with_reducible repeat (first | refine blk_drewN ?_ _ | refine blk_drew ?_ | refine blk_alloc ?_ _)); exact BK190.out)) : gb204 ≠ gb190))
                      have n8_ := Aside0.mk ((by rw [hg]; exact Nat.ne_of_lt (blk_lt (g := gb193) (o := .cells #[.string x194000_2, .int .i64 x194001_2, .int .i64 x194002_2, .int .i64 x194003_2, .int .i64 x194004_2, .int .i64 x194005_2, .int .i64 x194006_2] 27 (0, 0)) (by (with_reducible repeat (first | refine blk_drewN ?_ _ | refine blk_drew ?_ | refine blk_alloc ?_ _)); exact BK193.out)) : gb193 ≠ gb204))
                      have n9_ := Aside0.mk ((by rw [hg]; exact Nat.ne_of_gt (blk_lt (g := gb193) (o := .cells #[.string x194000_2, .int .i64 x194001_2, .int .i64 x194002_2, .int .i64 x194003_2, .int .i64 x194004_2, .int .i64 x194005_2, .int .i64 x194006_2] 27 (0, 0)) (by (with_reducible repeat (first | refine blk_drewN ?_ _ | refine blk_drew ?_ | refine blk_alloc ?_ _)); exact BK193.out)) : gb204 ≠ gb193))
                      clear BK190
                      clear BK193
                      clear HB
                      have BK190 := n0_
                      have BK193 := n1_
                      have HB := n2_
                      have BK204 := n3_
                      have GW204 := n4_
                      have GE204 := n5_
                      have NB190_204 := n6_
                      have NB204_190 := n7_
                      have NB193_204 := n8_
                      have NB204_193 := n9_
                      clear n0_ n1_ n2_ n3_ n4_ n5_ n6_ n7_ n8_ n9_
                      clear hb hbox hg
                      refine hK.out _ _ ⟨(blk_cell BK193.out 0).trans rfl, (blk_cell BK193.out 1).trans rfl, (blk_cell BK193.out 2).trans rfl, (blk_cell BK193.out 3).trans rfl, (blk_cell BK193.out 4).trans rfl, (blk_cell BK193.out 5).trans rfl, (blk_cell BK193.out 6).trans rfl, ((HB.out.cell (World.block_lt_of_cell? w _ hw195_0)).trans hw195_0), ((HB.out.cell (World.block_lt_of_cell? w _ hw195_1)).trans hw195_1), ((HB.out.cell (World.block_lt_of_cell? w _ hw195_2)).trans hw195_2)⟩ (fun hHeld => ?_)
                      clear hK K
                      refine norm_ (a' := ?_) ?_ ?_
                      rotate_left
                      · show Act.put _ (some 8) _ = _
                        simp only [Act.put, List.setIfInBounds_toArray, List.set_cons_zero, List.set_cons_succ, i64_w, i32_w]
                        rfl
                      refine one_ (i := 5) (N := some 41) #[true, true, true, true, true, true, false, false, false, true, false, false] rfl rfl (one_of HT_.out (by kernel_rfl)) (by decide) (fun K hK => ?_)
                      refine goes_ Try.func16 (by kernel_rfl) rfl #[.agg #[.string x194000_2, .int .i64 x194001_2, .int .i64 x194002_2, .int .i64 x194003_2, .int .i64 x194004_2, .int .i64 x194005_2, .int .i64 x194006_2], .agg #[.int .i64 ((rd_T23 l1 x7_2).f0), .string ((rd_T23 l1 x7_2).f1), .int .i64 ((rd_T23 l1 x7_2).f2)]] (by rfl) rfl rfl (by (try simp only [List.map_toArray, List.map_cons, List.map_nil]); first | done | rfl | (simp only [List.length_drop, List.length_take]; rfl)) ?_
                      with_reducible refine (act_Do.calls k2 x194000_2 x194001_2 x194002_2 x194003_2 x194004_2 x194005_2 x194006_2 ((rd_T23 l1 x7_2).f0) ((rd_T23 l1 x7_2).f1) ((rd_T23 l1 x7_2).f2) t196 t197 t198 t199 t200 t201 t202 t203 _ A19.out).mono ?_
                      rintro e w25 ⟨rfl, hb⟩
                      refine ⟨_, rfl, ?_⟩
                      have n0_ := Aside0.mk (blk_below (g := gb190) (o := .cells #[.string a0_0, .int .i64 a0_1, .int .i64 a0_2, .int .i64 a0_3, .int .i64 a0_4, .int .i64 a0_5, .int .i64 a0_6] 27 (0, 0)) (by (with_reducible repeat (first | refine blk_drewN ?_ _ | refine blk_drew ?_ | refine blk_alloc ?_ _)); exact BK190.out) hb)
                      have n1_ := Aside0.mk (blk_below (g := gb193) (o := .cells #[.string x194000_2, .int .i64 x194001_2, .int .i64 x194002_2, .int .i64 x194003_2, .int .i64 x194004_2, .int .i64 x194005_2, .int .i64 x194006_2] 27 (0, 0)) (by (with_reducible repeat (first | refine blk_drewN ?_ _ | refine blk_drew ?_ | refine blk_alloc ?_ _)); exact BK193.out) hb)
                      have n2_ := Aside0.mk (blk_below (g := gb204) (o := .cells #[.string (⟨#[]⟩ : ByteArray), .int .i64 0, .int .i64 0, .int .i64 0, .int .i64 0, .int .i64 0, .int .i64 0] 27 (0, 0)) (by (with_reducible repeat (first | refine blk_drewN ?_ _ | refine blk_drew ?_ | refine blk_alloc ?_ _)); exact BK204.out) hb)
                      have n3_ := Aside0.mk (below_step (by repeat (first | (with_reducible first | exact HB.out | apply below_alloc | apply pw_below_drewN | apply below_drew1 | refine below_set ?_ GE190.out | refine below_set ?_ GE193.out | refine below_set ?_ GE204.out) | exact HB.out)) hb)
                      clear BK190
                      clear BK193
                      clear BK204
                      clear HB
                      have BK190 := n0_
                      have BK193 := n1_
                      have BK204 := n2_
                      have HB := n3_
                      clear n0_ n1_ n2_ n3_
                      (try clear hb)
                      (try clear hb2)
                      (try clear hk)
                      (try clear hi)
                      refine hK.out _ _ ⟨(blk_cell BK193.out 0).trans rfl, (blk_cell BK193.out 1).trans rfl, (blk_cell BK193.out 2).trans rfl, (blk_cell BK193.out 3).trans rfl, (blk_cell BK193.out 4).trans rfl, (blk_cell BK193.out 5).trans rfl, (blk_cell BK193.out 6).trans rfl, ((HB.out.cell (World.block_lt_of_cell? w _ hw195_0)).trans hw195_0), ((HB.out.cell (World.block_lt_of_cell? w _ hw195_1)).trans hw195_1), ((HB.out.cell (World.block_lt_of_cell? w _ hw195_2)).trans hw195_2)⟩ (fun hHeld => ?_)
                      clear hK K
                      refine norm_ (a' := ?_) ?_ ?_
                      rotate_left
                      · show Act.put _ (some 41) _ = _
                        simp only [Act.put, List.setIfInBounds_toArray, List.set_cons_zero, List.set_cons_succ, i64_w, i32_w]
                        rfl
                      refine pure_ (i := 6) (N := some 35) (v := ?_) (a' := ?_) #[true, true, true, true, true, true, true, false, false, true, false, false] rfl rfl (any_of HT_.out (by kernel_rfl)) (fun _ _ _ h => h) (Or.inl ⟨by rfl, ?_⟩) ?_ ?_
                      rotate_left
                      · intro w'
                        go_simp
                        with_reducible rfl
                      rotate_left
                      · simp only [Act.put, List.setIfInBounds_toArray, List.set_cons_zero, List.set_cons_succ, i64_w, i32_w]
                        rfl
                      refine pure_ (i := 7) (N := some 42) (v := ?_) (a' := ?_) #[true, true, true, true, true, true, true, true, false, true, false, false] rfl rfl (any_of HT_.out (by kernel_rfl)) (fun _ _ _ h => h) (Or.inl ⟨by rfl, ?_⟩) ?_ ?_
                      rotate_left
                      · intro w'
                        go_simp
                        with_reducible rfl
                      rotate_left
                      · simp only [Act.put, List.setIfInBounds_toArray, List.set_cons_zero, List.set_cons_succ, i64_w, i32_w]
                        rfl
                      refine pure_ (i := 8) (N := some 43) (v := ?_) (a' := ?_) #[true, true, true, true, true, true, true, true, true, true, false, false] rfl rfl (any_of HT_.out (by kernel_rfl)) (fun _ _ _ h => h) (Or.inl ⟨by rfl, ?_⟩) ?_ ?_
                      rotate_left
                      · intro w'
                        go_simp
                        with_reducible rfl
                      rotate_left
                      · simp only [Act.put, List.setIfInBounds_toArray, List.set_cons_zero, List.set_cons_succ, i64_w, i32_w]
                        rfl
                      exact norm_ (by simp only [putAll, Act.put, List.setIfInBounds_toArray, List.set_cons_zero, List.set_cons_succ]) (hCont (gb204) _ ⟨hHeld, (by (with_reducible repeat (first | refine blk_drewN ?_ _ | refine blk_drew ?_ | refine blk_alloc ?_ _)); exact BK190.out), (by (with_reducible repeat (first | refine blk_drewN ?_ _ | refine blk_drew ?_ | refine blk_alloc ?_ _)); exact BK193.out), (by (with_reducible repeat (first | refine blk_drewN ?_ _ | refine blk_drew ?_ | refine blk_alloc ?_ _)); exact BK204.out), GW204.out, GE204.out, NB190_204.out, NB204_190.out, NB193_204.out, NB204_193.out, (by repeat (first | (with_reducible first | exact HB.out | apply below_alloc | apply pw_below_drewN | apply below_drew1 | refine below_set ?_ GE190.out | refine below_set ?_ GE193.out | refine below_set ?_ GE204.out) | exact HB.out))⟩)
                  rintro gb204 w26 ⟨hS_, h0_, h1_, h2_, h3_, h4_, h5_, h6_, h7_, h8_, h9_⟩
                  have n0_ : Aside0 (w26.heap[gb190]? = some (.cells #[.string a0_0, .int .i64 a0_1, .int .i64 a0_2, .int .i64 a0_3, .int .i64 a0_4, .int .i64 a0_5, .int .i64 a0_6] 27 (0, 0))) := ⟨h0_⟩
                  have n1_ : Aside0 (w26.heap[gb193]? = some (.cells #[.string x194000_2, .int .i64 x194001_2, .int .i64 x194002_2, .int .i64 x194003_2, .int .i64 x194004_2, .int .i64 x194005_2, .int .i64 x194006_2] 27 (0, 0))) := ⟨h1_⟩
                  have n2_ : Aside0 (w26.heap[gb204]? = some (.cells #[.string (⟨#[]⟩ : ByteArray), .int .i64 0, .int .i64 0, .int .i64 0, .int .i64 0, .int .i64 0, .int .i64 0] 27 (0, 0))) := ⟨h2_⟩
                  have n3_ : Aside0 (w.heap.size ≤ gb204) := ⟨h3_⟩
                  have n4_ : Aside0 (w.heap.size ≤ gb204) := ⟨h4_⟩
                  have n5_ : Aside0 (gb190 ≠ gb204) := ⟨h5_⟩
                  have n6_ : Aside0 (gb204 ≠ gb190) := ⟨h6_⟩
                  have n7_ : Aside0 (gb193 ≠ gb204) := ⟨h7_⟩
                  have n8_ : Aside0 (gb204 ≠ gb193) := ⟨h8_⟩
                  have n9_ : Aside0 (Below w.heap.size w w26) := ⟨h9_⟩
                  clear BK190
                  clear BK193
                  clear HB
                  clear h0_ h1_ h2_ h3_ h4_ h5_ h6_ h7_ h8_ h9_
                  have BK190 := n0_
                  have BK193 := n1_
                  have BK204 := n2_
                  have GW204 := n3_
                  have GE204 := n4_
                  have NB190_204 := n5_
                  have NB204_190 := n6_
                  have NB193_204 := n7_
                  have NB204_193 := n8_
                  have HB := n9_
                  clear n0_ n1_ n2_ n3_ n4_ n5_ n6_ n7_ n8_ n9_
                  have hHeld : w26.cell? ⟨gb193, 0, none⟩ = some (.string x194000_2) ∧ w26.cell? ⟨gb193, 1, none⟩ = some (.int .i64 x194001_2) ∧ w26.cell? ⟨gb193, 2, none⟩ = some (.int .i64 x194002_2) ∧ w26.cell? ⟨gb193, 3, none⟩ = some (.int .i64 x194003_2) ∧ w26.cell? ⟨gb193, 4, none⟩ = some (.int .i64 x194004_2) ∧ w26.cell? ⟨gb193, 5, none⟩ = some (.int .i64 x194005_2) ∧ w26.cell? ⟨gb193, 6, none⟩ = some (.int .i64 x194006_2) ∧ w26.cell? (ad195.add ((x7_2).toNat * 3)) = some (.int .i64 ((rd_T23 l1 x7_2).f0)) ∧ w26.cell? ⟨(ad195.add ((x7_2).toNat * 3)).block, (ad195.add ((x7_2).toNat * 3)).off + 1, none⟩ = some (.string ((rd_T23 l1 x7_2).f1)) ∧ w26.cell? ⟨(ad195.add ((x7_2).toNat * 3)).block, (ad195.add ((x7_2).toNat * 3)).off + 2, none⟩ = some (.int .i64 ((rd_T23 l1 x7_2).f2)) := hS_
                  refine norm_ (a' := ?_) ?_ ?_
                  rotate_left
                  · simp only [putAll, Act.put, List.setIfInBounds_toArray, List.set_cons_zero, List.set_cons_succ]
                    rfl
                  refine one_ (i := 10) (N := none) #[true, true, true, true, true, true, true, true, true, true, true, false] rfl rfl (one_of HT_.out (by kernel_rfl)) (by decide) (fun K hK => ?_)
                  have hs27 : w26.cell? ⟨gb204, 0, none⟩ = some (.string (⟨#[]⟩ : ByteArray)) := (blk_cell BK204.out 0).trans rfl
                  have hfs27 := blk_frozen BK204.out 0
                  have hns27_0 := NB190_204.out
                  have hns27_1 := NB193_204.out
                  have hms27_0 := NB204_190.out
                  have hms27_1 := NB204_193.out
                  have hs28 : w26.cell? ⟨gb204, 1, none⟩ = some (.int .i64 0) := (blk_cell BK204.out 1).trans rfl
                  have hfs28 := blk_frozen BK204.out 1
                  have hns28_0 := NB190_204.out
                  have hns28_1 := NB193_204.out
                  have hms28_0 := NB204_190.out
                  have hms28_1 := NB204_193.out
                  have hs29 : w26.cell? ⟨gb204, 2, none⟩ = some (.int .i64 0) := (blk_cell BK204.out 2).trans rfl
                  have hfs29 := blk_frozen BK204.out 2
                  have hns29_0 := NB190_204.out
                  have hns29_1 := NB193_204.out
                  have hms29_0 := NB204_190.out
                  have hms29_1 := NB204_193.out
                  have hs30 : w26.cell? ⟨gb204, 3, none⟩ = some (.int .i64 0) := (blk_cell BK204.out 3).trans rfl
                  have hfs30 := blk_frozen BK204.out 3
                  have hns30_0 := NB190_204.out
                  have hns30_1 := NB193_204.out
                  have hms30_0 := NB204_190.out
                  have hms30_1 := NB204_193.out
                  have hs31 : w26.cell? ⟨gb204, 4, none⟩ = some (.int .i64 0) := (blk_cell BK204.out 4).trans rfl
                  have hfs31 := blk_frozen BK204.out 4
                  have hns31_0 := NB190_204.out
                  have hns31_1 := NB193_204.out
                  have hms31_0 := NB204_190.out
                  have hms31_1 := NB204_193.out
                  have hs32 : w26.cell? ⟨gb204, 5, none⟩ = some (.int .i64 0) := (blk_cell BK204.out 5).trans rfl
                  have hfs32 := blk_frozen BK204.out 5
                  have hns32_0 := NB190_204.out
                  have hns32_1 := NB193_204.out
                  have hms32_0 := NB204_190.out
                  have hms32_1 := NB204_193.out
                  have hs33 : w26.cell? ⟨gb204, 6, none⟩ = some (.int .i64 0) := (blk_cell BK204.out 6).trans rfl
                  have hfs33 := blk_frozen BK204.out 6
                  have hns33_0 := NB190_204.out
                  have hns33_1 := NB193_204.out
                  have hms33_0 := NB204_190.out
                  have hms33_1 := NB204_193.out
                  refine skip_ (w1 := ?_) (by rfl) rfl ?_ ?_
                  rotate_left
                  · go_simp
                    rfl
                  refine hK.out _ _ ⟨((cell_far (p := ⟨gb204, _, none⟩) NB193_204.out _).trans (((cell_far (p := ⟨gb204, _, none⟩) NB193_204.out _).trans (((cell_far (p := ⟨gb204, _, none⟩) NB193_204.out _).trans (((cell_far (p := ⟨gb204, _, none⟩) NB193_204.out _).trans (((cell_far (p := ⟨gb204, _, none⟩) NB193_204.out _).trans (((cell_far (p := ⟨gb204, _, none⟩) NB193_204.out _).trans (((cell_far (p := ⟨gb204, _, none⟩) NB193_204.out _).trans (hHeld.1)))))))))))))), ((cell_far (p := ⟨gb204, _, none⟩) NB193_204.out _).trans (((cell_far (p := ⟨gb204, _, none⟩) NB193_204.out _).trans (((cell_far (p := ⟨gb204, _, none⟩) NB193_204.out _).trans (((cell_far (p := ⟨gb204, _, none⟩) NB193_204.out _).trans (((cell_far (p := ⟨gb204, _, none⟩) NB193_204.out _).trans (((cell_far (p := ⟨gb204, _, none⟩) NB193_204.out _).trans (((cell_far (p := ⟨gb204, _, none⟩) NB193_204.out _).trans (hHeld.2.1)))))))))))))), ((cell_far (p := ⟨gb204, _, none⟩) NB193_204.out _).trans (((cell_far (p := ⟨gb204, _, none⟩) NB193_204.out _).trans (((cell_far (p := ⟨gb204, _, none⟩) NB193_204.out _).trans (((cell_far (p := ⟨gb204, _, none⟩) NB193_204.out _).trans (((cell_far (p := ⟨gb204, _, none⟩) NB193_204.out _).trans (((cell_far (p := ⟨gb204, _, none⟩) NB193_204.out _).trans (((cell_far (p := ⟨gb204, _, none⟩) NB193_204.out _).trans (hHeld.2.2.1)))))))))))))), ((cell_far (p := ⟨gb204, _, none⟩) NB193_204.out _).trans (((cell_far (p := ⟨gb204, _, none⟩) NB193_204.out _).trans (((cell_far (p := ⟨gb204, _, none⟩) NB193_204.out _).trans (((cell_far (p := ⟨gb204, _, none⟩) NB193_204.out _).trans (((cell_far (p := ⟨gb204, _, none⟩) NB193_204.out _).trans (((cell_far (p := ⟨gb204, _, none⟩) NB193_204.out _).trans (((cell_far (p := ⟨gb204, _, none⟩) NB193_204.out _).trans (hHeld.2.2.2.1)))))))))))))), ((cell_far (p := ⟨gb204, _, none⟩) NB193_204.out _).trans (((cell_far (p := ⟨gb204, _, none⟩) NB193_204.out _).trans (((cell_far (p := ⟨gb204, _, none⟩) NB193_204.out _).trans (((cell_far (p := ⟨gb204, _, none⟩) NB193_204.out _).trans (((cell_far (p := ⟨gb204, _, none⟩) NB193_204.out _).trans (((cell_far (p := ⟨gb204, _, none⟩) NB193_204.out _).trans (((cell_far (p := ⟨gb204, _, none⟩) NB193_204.out _).trans (hHeld.2.2.2.2.1)))))))))))))), ((cell_far (p := ⟨gb204, _, none⟩) NB193_204.out _).trans (((cell_far (p := ⟨gb204, _, none⟩) NB193_204.out _).trans (((cell_far (p := ⟨gb204, _, none⟩) NB193_204.out _).trans (((cell_far (p := ⟨gb204, _, none⟩) NB193_204.out _).trans (((cell_far (p := ⟨gb204, _, none⟩) NB193_204.out _).trans (((cell_far (p := ⟨gb204, _, none⟩) NB193_204.out _).trans (((cell_far (p := ⟨gb204, _, none⟩) NB193_204.out _).trans (hHeld.2.2.2.2.2.1)))))))))))))), ((cell_far (p := ⟨gb204, _, none⟩) NB193_204.out _).trans (((cell_far (p := ⟨gb204, _, none⟩) NB193_204.out _).trans (((cell_far (p := ⟨gb204, _, none⟩) NB193_204.out _).trans (((cell_far (p := ⟨gb204, _, none⟩) NB193_204.out _).trans (((cell_far (p := ⟨gb204, _, none⟩) NB193_204.out _).trans (((cell_far (p := ⟨gb204, _, none⟩) NB193_204.out _).trans (((cell_far (p := ⟨gb204, _, none⟩) NB193_204.out _).trans (hHeld.2.2.2.2.2.2.1)))))))))))))), ((cell_far (p := ⟨gb204, _, none⟩) (by first | exact Nat.ne_of_lt (Nat.lt_of_lt_of_le (by have := World.block_lt_of_cell? _ _ hw195_0; first | rwa [add_block] at this | exact this) GW204.out) | (rw [add_block]; exact Nat.ne_of_lt (Nat.lt_of_lt_of_le (by have := World.block_lt_of_cell? _ _ hw195_0; first | rwa [add_block] at this | exact this) GW204.out)) | (show (Addr.add _ _).block ≠ _; rw [add_block]; exact Nat.ne_of_lt (Nat.lt_of_lt_of_le (by have := World.block_lt_of_cell? _ _ hw195_0; first | rwa [add_block] at this | exact this) GW204.out)) | (dsimp only; exact Nat.ne_of_lt (Nat.lt_of_lt_of_le (by have := World.block_lt_of_cell? _ _ hw195_0; first | rwa [add_block] at this | exact this) GW204.out))) _).trans (((cell_far (p := ⟨gb204, _, none⟩) (by first | exact Nat.ne_of_lt (Nat.lt_of_lt_of_le (by have := World.block_lt_of_cell? _ _ hw195_0; first | rwa [add_block] at this | exact this) GW204.out) | (rw [add_block]; exact Nat.ne_of_lt (Nat.lt_of_lt_of_le (by have := World.block_lt_of_cell? _ _ hw195_0; first | rwa [add_block] at this | exact this) GW204.out)) | (show (Addr.add _ _).block ≠ _; rw [add_block]; exact Nat.ne_of_lt (Nat.lt_of_lt_of_le (by have := World.block_lt_of_cell? _ _ hw195_0; first | rwa [add_block] at this | exact this) GW204.out)) | (dsimp only; exact Nat.ne_of_lt (Nat.lt_of_lt_of_le (by have := World.block_lt_of_cell? _ _ hw195_0; first | rwa [add_block] at this | exact this) GW204.out))) _).trans (((cell_far (p := ⟨gb204, _, none⟩) (by first | exact Nat.ne_of_lt (Nat.lt_of_lt_of_le (by have := World.block_lt_of_cell? _ _ hw195_0; first | rwa [add_block] at this | exact this) GW204.out) | (rw [add_block]; exact Nat.ne_of_lt (Nat.lt_of_lt_of_le (by have := World.block_lt_of_cell? _ _ hw195_0; first | rwa [add_block] at this | exact this) GW204.out)) | (show (Addr.add _ _).block ≠ _; rw [add_block]; exact Nat.ne_of_lt (Nat.lt_of_lt_of_le (by have := World.block_lt_of_cell? _ _ hw195_0; first | rwa [add_block] at this | exact this) GW204.out)) | (dsimp only; exact Nat.ne_of_lt (Nat.lt_of_lt_of_le (by have := World.block_lt_of_cell? _ _ hw195_0; first | rwa [add_block] at this | exact this) GW204.out))) _).trans (((cell_far (p := ⟨gb204, _, none⟩) (by first | exact Nat.ne_of_lt (Nat.lt_of_lt_of_le (by have := World.block_lt_of_cell? _ _ hw195_0; first | rwa [add_block] at this | exact this) GW204.out) | (rw [add_block]; exact Nat.ne_of_lt (Nat.lt_of_lt_of_le (by have := World.block_lt_of_cell? _ _ hw195_0; first | rwa [add_block] at this | exact this) GW204.out)) | (show (Addr.add _ _).block ≠ _; rw [add_block]; exact Nat.ne_of_lt (Nat.lt_of_lt_of_le (by have := World.block_lt_of_cell? _ _ hw195_0; first | rwa [add_block] at this | exact this) GW204.out)) | (dsimp only; exact Nat.ne_of_lt (Nat.lt_of_lt_of_le (by have := World.block_lt_of_cell? _ _ hw195_0; first | rwa [add_block] at this | exact this) GW204.out))) _).trans (((cell_far (p := ⟨gb204, _, none⟩) (by first | exact Nat.ne_of_lt (Nat.lt_of_lt_of_le (by have := World.block_lt_of_cell? _ _ hw195_0; first | rwa [add_block] at this | exact this) GW204.out) | (rw [add_block]; exact Nat.ne_of_lt (Nat.lt_of_lt_of_le (by have := World.block_lt_of_cell? _ _ hw195_0; first | rwa [add_block] at this | exact this) GW204.out)) | (show (Addr.add _ _).block ≠ _; rw [add_block]; exact Nat.ne_of_lt (Nat.lt_of_lt_of_le (by have := World.block_lt_of_cell? _ _ hw195_0; first | rwa [add_block] at this | exact this) GW204.out)) | (dsimp only; exact Nat.ne_of_lt (Nat.lt_of_lt_of_le (by have := World.block_lt_of_cell? _ _ hw195_0; first | rwa [add_block] at this | exact this) GW204.out))) _).trans (((cell_far (p := ⟨gb204, _, none⟩) (by first | exact Nat.ne_of_lt (Nat.lt_of_lt_of_le (by have := World.block_lt_of_cell? _ _ hw195_0; first | rwa [add_block] at this | exact this) GW204.out) | (rw [add_block]; exact Nat.ne_of_lt (Nat.lt_of_lt_of_le (by have := World.block_lt_of_cell? _ _ hw195_0; first | rwa [add_block] at this | exact this) GW204.out)) | (show (Addr.add _ _).block ≠ _; rw [add_block]; exact Nat.ne_of_lt (Nat.lt_of_lt_of_le (by have := World.block_lt_of_cell? _ _ hw195_0; first | rwa [add_block] at this | exact this) GW204.out)) | (dsimp only; exact Nat.ne_of_lt (Nat.lt_of_lt_of_le (by have := World.block_lt_of_cell? _ _ hw195_0; first | rwa [add_block] at this | exact this) GW204.out))) _).trans (((cell_far (p := ⟨gb204, _, none⟩) (by first | exact Nat.ne_of_lt (Nat.lt_of_lt_of_le (by have := World.block_lt_of_cell? _ _ hw195_0; first | rwa [add_block] at this | exact this) GW204.out) | (rw [add_block]; exact Nat.ne_of_lt (Nat.lt_of_lt_of_le (by have := World.block_lt_of_cell? _ _ hw195_0; first | rwa [add_block] at this | exact this) GW204.out)) | (show (Addr.add _ _).block ≠ _; rw [add_block]; exact Nat.ne_of_lt (Nat.lt_of_lt_of_le (by have := World.block_lt_of_cell? _ _ hw195_0; first | rwa [add_block] at this | exact this) GW204.out)) | (dsimp only; exact Nat.ne_of_lt (Nat.lt_of_lt_of_le (by have := World.block_lt_of_cell? _ _ hw195_0; first | rwa [add_block] at this | exact this) GW204.out))) _).trans (hHeld.2.2.2.2.2.2.2.1)))))))))))))), ((cell_far (p := ⟨gb204, _, none⟩) (by first | exact Nat.ne_of_lt (Nat.lt_of_lt_of_le (by have := World.block_lt_of_cell? _ _ hw195_1; first | rwa [add_block] at this | exact this) GW204.out) | (rw [add_block]; exact Nat.ne_of_lt (Nat.lt_of_lt_of_le (by have := World.block_lt_of_cell? _ _ hw195_1; first | rwa [add_block] at this | exact this) GW204.out)) | (show (Addr.add _ _).block ≠ _; rw [add_block]; exact Nat.ne_of_lt (Nat.lt_of_lt_of_le (by have := World.block_lt_of_cell? _ _ hw195_1; first | rwa [add_block] at this | exact this) GW204.out)) | (dsimp only; exact Nat.ne_of_lt (Nat.lt_of_lt_of_le (by have := World.block_lt_of_cell? _ _ hw195_1; first | rwa [add_block] at this | exact this) GW204.out))) _).trans (((cell_far (p := ⟨gb204, _, none⟩) (by first | exact Nat.ne_of_lt (Nat.lt_of_lt_of_le (by have := World.block_lt_of_cell? _ _ hw195_1; first | rwa [add_block] at this | exact this) GW204.out) | (rw [add_block]; exact Nat.ne_of_lt (Nat.lt_of_lt_of_le (by have := World.block_lt_of_cell? _ _ hw195_1; first | rwa [add_block] at this | exact this) GW204.out)) | (show (Addr.add _ _).block ≠ _; rw [add_block]; exact Nat.ne_of_lt (Nat.lt_of_lt_of_le (by have := World.block_lt_of_cell? _ _ hw195_1; first | rwa [add_block] at this | exact this) GW204.out)) | (dsimp only; exact Nat.ne_of_lt (Nat.lt_of_lt_of_le (by have := World.block_lt_of_cell? _ _ hw195_1; first | rwa [add_block] at this | exact this) GW204.out))) _).trans (((cell_far (p := ⟨gb204, _, none⟩) (by first | exact Nat.ne_of_lt (Nat.lt_of_lt_of_le (by have := World.block_lt_of_cell? _ _ hw195_1; first | rwa [add_block] at this | exact this) GW204.out) | (rw [add_block]; exact Nat.ne_of_lt (Nat.lt_of_lt_of_le (by have := World.block_lt_of_cell? _ _ hw195_1; first | rwa [add_block] at this | exact this) GW204.out)) | (show (Addr.add _ _).block ≠ _; rw [add_block]; exact Nat.ne_of_lt (Nat.lt_of_lt_of_le (by have := World.block_lt_of_cell? _ _ hw195_1; first | rwa [add_block] at this | exact this) GW204.out)) | (dsimp only; exact Nat.ne_of_lt (Nat.lt_of_lt_of_le (by have := World.block_lt_of_cell? _ _ hw195_1; first | rwa [add_block] at this | exact this) GW204.out))) _).trans (((cell_far (p := ⟨gb204, _, none⟩) (by first | exact Nat.ne_of_lt (Nat.lt_of_lt_of_le (by have := World.block_lt_of_cell? _ _ hw195_1; first | rwa [add_block] at this | exact this) GW204.out) | (rw [add_block]; exact Nat.ne_of_lt (Nat.lt_of_lt_of_le (by have := World.block_lt_of_cell? _ _ hw195_1; first | rwa [add_block] at this | exact this) GW204.out)) | (show (Addr.add _ _).block ≠ _; rw [add_block]; exact Nat.ne_of_lt (Nat.lt_of_lt_of_le (by have := World.block_lt_of_cell? _ _ hw195_1; first | rwa [add_block] at this | exact this) GW204.out)) | (dsimp only; exact Nat.ne_of_lt (Nat.lt_of_lt_of_le (by have := World.block_lt_of_cell? _ _ hw195_1; first | rwa [add_block] at this | exact this) GW204.out))) _).trans (((cell_far (p := ⟨gb204, _, none⟩) (by first | exact Nat.ne_of_lt (Nat.lt_of_lt_of_le (by have := World.block_lt_of_cell? _ _ hw195_1; first | rwa [add_block] at this | exact this) GW204.out) | (rw [add_block]; exact Nat.ne_of_lt (Nat.lt_of_lt_of_le (by have := World.block_lt_of_cell? _ _ hw195_1; first | rwa [add_block] at this | exact this) GW204.out)) | (show (Addr.add _ _).block ≠ _; rw [add_block]; exact Nat.ne_of_lt (Nat.lt_of_lt_of_le (by have := World.block_lt_of_cell? _ _ hw195_1; first | rwa [add_block] at this | exact this) GW204.out)) | (dsimp only; exact Nat.ne_of_lt (Nat.lt_of_lt_of_le (by have := World.block_lt_of_cell? _ _ hw195_1; first | rwa [add_block] at this | exact this) GW204.out))) _).trans (((cell_far (p := ⟨gb204, _, none⟩) (by first | exact Nat.ne_of_lt (Nat.lt_of_lt_of_le (by have := World.block_lt_of_cell? _ _ hw195_1; first | rwa [add_block] at this | exact this) GW204.out) | (rw [add_block]; exact Nat.ne_of_lt (Nat.lt_of_lt_of_le (by have := World.block_lt_of_cell? _ _ hw195_1; first | rwa [add_block] at this | exact this) GW204.out)) | (show (Addr.add _ _).block ≠ _; rw [add_block]; exact Nat.ne_of_lt (Nat.lt_of_lt_of_le (by have := World.block_lt_of_cell? _ _ hw195_1; first | rwa [add_block] at this | exact this) GW204.out)) | (dsimp only; exact Nat.ne_of_lt (Nat.lt_of_lt_of_le (by have := World.block_lt_of_cell? _ _ hw195_1; first | rwa [add_block] at this | exact this) GW204.out))) _).trans (((cell_far (p := ⟨gb204, _, none⟩) (by first | exact Nat.ne_of_lt (Nat.lt_of_lt_of_le (by have := World.block_lt_of_cell? _ _ hw195_1; first | rwa [add_block] at this | exact this) GW204.out) | (rw [add_block]; exact Nat.ne_of_lt (Nat.lt_of_lt_of_le (by have := World.block_lt_of_cell? _ _ hw195_1; first | rwa [add_block] at this | exact this) GW204.out)) | (show (Addr.add _ _).block ≠ _; rw [add_block]; exact Nat.ne_of_lt (Nat.lt_of_lt_of_le (by have := World.block_lt_of_cell? _ _ hw195_1; first | rwa [add_block] at this | exact this) GW204.out)) | (dsimp only; exact Nat.ne_of_lt (Nat.lt_of_lt_of_le (by have := World.block_lt_of_cell? _ _ hw195_1; first | rwa [add_block] at this | exact this) GW204.out))) _).trans (hHeld.2.2.2.2.2.2.2.2.1)))))))))))))), ((cell_far (p := ⟨gb204, _, none⟩) (by first | exact Nat.ne_of_lt (Nat.lt_of_lt_of_le (by have := World.block_lt_of_cell? _ _ hw195_2; first | rwa [add_block] at this | exact this) GW204.out) | (rw [add_block]; exact Nat.ne_of_lt (Nat.lt_of_lt_of_le (by have := World.block_lt_of_cell? _ _ hw195_2; first | rwa [add_block] at this | exact this) GW204.out)) | (show (Addr.add _ _).block ≠ _; rw [add_block]; exact Nat.ne_of_lt (Nat.lt_of_lt_of_le (by have := World.block_lt_of_cell? _ _ hw195_2; first | rwa [add_block] at this | exact this) GW204.out)) | (dsimp only; exact Nat.ne_of_lt (Nat.lt_of_lt_of_le (by have := World.block_lt_of_cell? _ _ hw195_2; first | rwa [add_block] at this | exact this) GW204.out))) _).trans (((cell_far (p := ⟨gb204, _, none⟩) (by first | exact Nat.ne_of_lt (Nat.lt_of_lt_of_le (by have := World.block_lt_of_cell? _ _ hw195_2; first | rwa [add_block] at this | exact this) GW204.out) | (rw [add_block]; exact Nat.ne_of_lt (Nat.lt_of_lt_of_le (by have := World.block_lt_of_cell? _ _ hw195_2; first | rwa [add_block] at this | exact this) GW204.out)) | (show (Addr.add _ _).block ≠ _; rw [add_block]; exact Nat.ne_of_lt (Nat.lt_of_lt_of_le (by have := World.block_lt_of_cell? _ _ hw195_2; first | rwa [add_block] at this | exact this) GW204.out)) | (dsimp only; exact Nat.ne_of_lt (Nat.lt_of_lt_of_le (by have := World.block_lt_of_cell? _ _ hw195_2; first | rwa [add_block] at this | exact this) GW204.out))) _).trans (((cell_far (p := ⟨gb204, _, none⟩) (by first | exact Nat.ne_of_lt (Nat.lt_of_lt_of_le (by have := World.block_lt_of_cell? _ _ hw195_2; first | rwa [add_block] at this | exact this) GW204.out) | (rw [add_block]; exact Nat.ne_of_lt (Nat.lt_of_lt_of_le (by have := World.block_lt_of_cell? _ _ hw195_2; first | rwa [add_block] at this | exact this) GW204.out)) | (show (Addr.add _ _).block ≠ _; rw [add_block]; exact Nat.ne_of_lt (Nat.lt_of_lt_of_le (by have := World.block_lt_of_cell? _ _ hw195_2; first | rwa [add_block] at this | exact this) GW204.out)) | (dsimp only; exact Nat.ne_of_lt (Nat.lt_of_lt_of_le (by have := World.block_lt_of_cell? _ _ hw195_2; first | rwa [add_block] at this | exact this) GW204.out))) _).trans (((cell_far (p := ⟨gb204, _, none⟩) (by first | exact Nat.ne_of_lt (Nat.lt_of_lt_of_le (by have := World.block_lt_of_cell? _ _ hw195_2; first | rwa [add_block] at this | exact this) GW204.out) | (rw [add_block]; exact Nat.ne_of_lt (Nat.lt_of_lt_of_le (by have := World.block_lt_of_cell? _ _ hw195_2; first | rwa [add_block] at this | exact this) GW204.out)) | (show (Addr.add _ _).block ≠ _; rw [add_block]; exact Nat.ne_of_lt (Nat.lt_of_lt_of_le (by have := World.block_lt_of_cell? _ _ hw195_2; first | rwa [add_block] at this | exact this) GW204.out)) | (dsimp only; exact Nat.ne_of_lt (Nat.lt_of_lt_of_le (by have := World.block_lt_of_cell? _ _ hw195_2; first | rwa [add_block] at this | exact this) GW204.out))) _).trans (((cell_far (p := ⟨gb204, _, none⟩) (by first | exact Nat.ne_of_lt (Nat.lt_of_lt_of_le (by have := World.block_lt_of_cell? _ _ hw195_2; first | rwa [add_block] at this | exact this) GW204.out) | (rw [add_block]; exact Nat.ne_of_lt (Nat.lt_of_lt_of_le (by have := World.block_lt_of_cell? _ _ hw195_2; first | rwa [add_block] at this | exact this) GW204.out)) | (show (Addr.add _ _).block ≠ _; rw [add_block]; exact Nat.ne_of_lt (Nat.lt_of_lt_of_le (by have := World.block_lt_of_cell? _ _ hw195_2; first | rwa [add_block] at this | exact this) GW204.out)) | (dsimp only; exact Nat.ne_of_lt (Nat.lt_of_lt_of_le (by have := World.block_lt_of_cell? _ _ hw195_2; first | rwa [add_block] at this | exact this) GW204.out))) _).trans (((cell_far (p := ⟨gb204, _, none⟩) (by first | exact Nat.ne_of_lt (Nat.lt_of_lt_of_le (by have := World.block_lt_of_cell? _ _ hw195_2; first | rwa [add_block] at this | exact this) GW204.out) | (rw [add_block]; exact Nat.ne_of_lt (Nat.lt_of_lt_of_le (by have := World.block_lt_of_cell? _ _ hw195_2; first | rwa [add_block] at this | exact this) GW204.out)) | (show (Addr.add _ _).block ≠ _; rw [add_block]; exact Nat.ne_of_lt (Nat.lt_of_lt_of_le (by have := World.block_lt_of_cell? _ _ hw195_2; first | rwa [add_block] at this | exact this) GW204.out)) | (dsimp only; exact Nat.ne_of_lt (Nat.lt_of_lt_of_le (by have := World.block_lt_of_cell? _ _ hw195_2; first | rwa [add_block] at this | exact this) GW204.out))) _).trans (((cell_far (p := ⟨gb204, _, none⟩) (by first | exact Nat.ne_of_lt (Nat.lt_of_lt_of_le (by have := World.block_lt_of_cell? _ _ hw195_2; first | rwa [add_block] at this | exact this) GW204.out) | (rw [add_block]; exact Nat.ne_of_lt (Nat.lt_of_lt_of_le (by have := World.block_lt_of_cell? _ _ hw195_2; first | rwa [add_block] at this | exact this) GW204.out)) | (show (Addr.add _ _).block ≠ _; rw [add_block]; exact Nat.ne_of_lt (Nat.lt_of_lt_of_le (by have := World.block_lt_of_cell? _ _ hw195_2; first | rwa [add_block] at this | exact this) GW204.out)) | (dsimp only; exact Nat.ne_of_lt (Nat.lt_of_lt_of_le (by have := World.block_lt_of_cell? _ _ hw195_2; first | rwa [add_block] at this | exact this) GW204.out))) _).trans (hHeld.2.2.2.2.2.2.2.2.2))))))))))))))⟩ (fun hHeld => ?_)
                  clear hK K
                  refine pure_ (i := 11) (N := some 9) (v := ?_) (a' := ?_) #[true, true, true, true, true, true, true, true, true, true, true, true] rfl rfl (any_of HT_.out (by kernel_rfl)) (fun _ _ _ h => h) (Or.inl ⟨by rfl, ?_⟩) ?_ ?_
                  rotate_left
                  · intro w'
                    go_simp
                    with_reducible rfl
                  rotate_left
                  · simp only [Act.put, List.setIfInBounds_toArray, List.set_cons_zero, List.set_cons_succ, i64_w, i32_w]
                    rfl
                  refine done_ (done_of HT_.out (by kernel_rfl)) ?_
                  have p205 : 0 ≤ (x7_2 : Int) := of_decide_eq_true (by first | (with_reducible assumption) | assumption)
                  have q205 : x7_2 < (l1.length : Int) := of_decide_eq_true (by first | (with_reducible assumption) | assumption)
                  obtain ⟨ad205, e205, hx205_0, hx205_1, hx205_2⟩ := at_T23 HR1.out x7_2 p205 q205
                  obtain rfl : ad195 = ad205 := (by injection e205)
                  have hn205_0 : ad195.block ≠ gb204 := Nat.ne_of_lt (Nat.lt_of_lt_of_le (by have := World.block_lt_of_cell? _ _ hx205_0; first | rwa [add_block] at this | exact this) GW204.out)
                  have hn205_1 : ad195.block ≠ gb204 := Nat.ne_of_lt (Nat.lt_of_lt_of_le (by have := World.block_lt_of_cell? _ _ hx205_0; first | rwa [add_block] at this | exact this) GW204.out)
                  have hn205_2 : ad195.block ≠ gb204 := Nat.ne_of_lt (Nat.lt_of_lt_of_le (by have := World.block_lt_of_cell? _ _ hx205_0; first | rwa [add_block] at this | exact this) GW204.out)
                  have hn205_3 : ad195.block ≠ gb204 := Nat.ne_of_lt (Nat.lt_of_lt_of_le (by have := World.block_lt_of_cell? _ _ hx205_0; first | rwa [add_block] at this | exact this) GW204.out)
                  have hn205_4 : ad195.block ≠ gb204 := Nat.ne_of_lt (Nat.lt_of_lt_of_le (by have := World.block_lt_of_cell? _ _ hx205_0; first | rwa [add_block] at this | exact this) GW204.out)
                  have hn205_5 : ad195.block ≠ gb204 := Nat.ne_of_lt (Nat.lt_of_lt_of_le (by have := World.block_lt_of_cell? _ _ hx205_0; first | rwa [add_block] at this | exact this) GW204.out)
                  have hn205_6 : ad195.block ≠ gb204 := Nat.ne_of_lt (Nat.lt_of_lt_of_le (by have := World.block_lt_of_cell? _ _ hx205_0; first | rwa [add_block] at this | exact this) GW204.out)
                  replace hx205_0 := (HB.out.cell (World.block_lt_of_cell? w _ hx205_0)).trans hx205_0
                  replace hx205_1 := (HB.out.cell (World.block_lt_of_cell? w _ hx205_1)).trans hx205_1
                  replace hx205_2 := (HB.out.cell (World.block_lt_of_cell? w _ hx205_2)).trans hx205_2
                  replace hx205_0 := (cell_far (p := ⟨gb204, 0, none⟩) (by first | (rw [add_block]; exact hn205_0) | (show (Addr.add _ _).block ≠ _; rw [add_block]; exact hn205_0) | exact hn205_0) (.string t196)).trans hx205_0
                  replace hx205_1 := (cell_far (p := ⟨gb204, 0, none⟩) (by first | (rw [add_block]; exact hn205_0) | (show (Addr.add _ _).block ≠ _; rw [add_block]; exact hn205_0) | exact hn205_0) (.string t196)).trans hx205_1
                  replace hx205_2 := (cell_far (p := ⟨gb204, 0, none⟩) (by first | (rw [add_block]; exact hn205_0) | (show (Addr.add _ _).block ≠ _; rw [add_block]; exact hn205_0) | exact hn205_0) (.string t196)).trans hx205_2
                  replace hx205_0 := (cell_far (p := ⟨gb204, 1, none⟩) (by first | (rw [add_block]; exact hn205_1) | (show (Addr.add _ _).block ≠ _; rw [add_block]; exact hn205_1) | exact hn205_1) (.int .i64 t197)).trans hx205_0
                  replace hx205_1 := (cell_far (p := ⟨gb204, 1, none⟩) (by first | (rw [add_block]; exact hn205_1) | (show (Addr.add _ _).block ≠ _; rw [add_block]; exact hn205_1) | exact hn205_1) (.int .i64 t197)).trans hx205_1
                  replace hx205_2 := (cell_far (p := ⟨gb204, 1, none⟩) (by first | (rw [add_block]; exact hn205_1) | (show (Addr.add _ _).block ≠ _; rw [add_block]; exact hn205_1) | exact hn205_1) (.int .i64 t197)).trans hx205_2
                  replace hx205_0 := (cell_far (p := ⟨gb204, 2, none⟩) (by first | (rw [add_block]; exact hn205_2) | (show (Addr.add _ _).block ≠ _; rw [add_block]; exact hn205_2) | exact hn205_2) (.int .i64 t198)).trans hx205_0
                  replace hx205_1 := (cell_far (p := ⟨gb204, 2, none⟩) (by first | (rw [add_block]; exact hn205_2) | (show (Addr.add _ _).block ≠ _; rw [add_block]; exact hn205_2) | exact hn205_2) (.int .i64 t198)).trans hx205_1
                  replace hx205_2 := (cell_far (p := ⟨gb204, 2, none⟩) (by first | (rw [add_block]; exact hn205_2) | (show (Addr.add _ _).block ≠ _; rw [add_block]; exact hn205_2) | exact hn205_2) (.int .i64 t198)).trans hx205_2
                  replace hx205_0 := (cell_far (p := ⟨gb204, 3, none⟩) (by first | (rw [add_block]; exact hn205_3) | (show (Addr.add _ _).block ≠ _; rw [add_block]; exact hn205_3) | exact hn205_3) (.int .i64 t199)).trans hx205_0
                  replace hx205_1 := (cell_far (p := ⟨gb204, 3, none⟩) (by first | (rw [add_block]; exact hn205_3) | (show (Addr.add _ _).block ≠ _; rw [add_block]; exact hn205_3) | exact hn205_3) (.int .i64 t199)).trans hx205_1
                  replace hx205_2 := (cell_far (p := ⟨gb204, 3, none⟩) (by first | (rw [add_block]; exact hn205_3) | (show (Addr.add _ _).block ≠ _; rw [add_block]; exact hn205_3) | exact hn205_3) (.int .i64 t199)).trans hx205_2
                  replace hx205_0 := (cell_far (p := ⟨gb204, 4, none⟩) (by first | (rw [add_block]; exact hn205_4) | (show (Addr.add _ _).block ≠ _; rw [add_block]; exact hn205_4) | exact hn205_4) (.int .i64 t200)).trans hx205_0
                  replace hx205_1 := (cell_far (p := ⟨gb204, 4, none⟩) (by first | (rw [add_block]; exact hn205_4) | (show (Addr.add _ _).block ≠ _; rw [add_block]; exact hn205_4) | exact hn205_4) (.int .i64 t200)).trans hx205_1
                  replace hx205_2 := (cell_far (p := ⟨gb204, 4, none⟩) (by first | (rw [add_block]; exact hn205_4) | (show (Addr.add _ _).block ≠ _; rw [add_block]; exact hn205_4) | exact hn205_4) (.int .i64 t200)).trans hx205_2
                  replace hx205_0 := (cell_far (p := ⟨gb204, 5, none⟩) (by first | (rw [add_block]; exact hn205_5) | (show (Addr.add _ _).block ≠ _; rw [add_block]; exact hn205_5) | exact hn205_5) (.int .i64 t201)).trans hx205_0
                  replace hx205_1 := (cell_far (p := ⟨gb204, 5, none⟩) (by first | (rw [add_block]; exact hn205_5) | (show (Addr.add _ _).block ≠ _; rw [add_block]; exact hn205_5) | exact hn205_5) (.int .i64 t201)).trans hx205_1
                  replace hx205_2 := (cell_far (p := ⟨gb204, 5, none⟩) (by first | (rw [add_block]; exact hn205_5) | (show (Addr.add _ _).block ≠ _; rw [add_block]; exact hn205_5) | exact hn205_5) (.int .i64 t201)).trans hx205_2
                  replace hx205_0 := (cell_far (p := ⟨gb204, 6, none⟩) (by first | (rw [add_block]; exact hn205_6) | (show (Addr.add _ _).block ≠ _; rw [add_block]; exact hn205_6) | exact hn205_6) (.int .i64 t202)).trans hx205_0
                  replace hx205_1 := (cell_far (p := ⟨gb204, 6, none⟩) (by first | (rw [add_block]; exact hn205_6) | (show (Addr.add _ _).block ≠ _; rw [add_block]; exact hn205_6) | exact hn205_6) (.int .i64 t202)).trans hx205_1
                  replace hx205_2 := (cell_far (p := ⟨gb204, 6, none⟩) (by first | (rw [add_block]; exact hn205_6) | (show (Addr.add _ _).block ≠ _; rw [add_block]; exact hn205_6) | exact hn205_6) (.int .i64 t202)).trans hx205_2
                  clear hn205_0
                  clear hn205_1
                  clear hn205_2
                  clear hn205_3
                  clear hn205_4
                  clear hn205_5
                  clear hn205_6
                  replace p205 := eq_true p205
                  replace q205 := eq_true q205
                  go_upto_region 11 with (first | ((with_reducible refine gate_callee (f := 7) rfl ?_); refine goesL_ (some 51) rfl rfl Try.func7 (by kernel_rfl) rfl #[.agg #[.int .i64 ((rd_T23 l1 x7_2).f0), .string ((rd_T23 l1 x7_2).f1), .int .i64 ((rd_T23 l1 x7_2).f2)]] rfl (by (try simp only [List.map_toArray, List.map_cons, List.map_nil]); first | done | rfl | (simp only [List.length_drop, List.length_take]; rfl)) ?_; (with_reducible refine (act_Delta.calls k2 ((rd_T23 l1 x7_2).f0) ((rd_T23 l1 x7_2).f1) ((rd_T23 l1 x7_2).f2) t206 t207 _ A21.out).mono ?_); rintro e w34 ⟨rfl, hb⟩; refine ⟨_, rfl, ?_⟩; have n0_ := Aside0.mk (blk_below (g := gb190) (o := .cells #[.string a0_0, .int .i64 a0_1, .int .i64 a0_2, .int .i64 a0_3, .int .i64 a0_4, .int .i64 a0_5, .int .i64 a0_6] 27 (0, 0)) (by (with_reducible repeat (first | refine blk_drewN ?_ _ | refine blk_drew ?_ | refine blk_alloc ?_ _)); refine blk_far ?_ NB190_204.out _; (with_reducible repeat (first | refine blk_drewN ?_ _ | refine blk_drew ?_ | refine blk_alloc ?_ _)); refine blk_far ?_ NB190_204.out _; (with_reducible repeat (first | refine blk_drewN ?_ _ | refine blk_drew ?_ | refine blk_alloc ?_ _)); refine blk_far ?_ NB190_204.out _; (with_reducible repeat (first | refine blk_drewN ?_ _ | refine blk_drew ?_ | refine blk_alloc ?_ _)); refine blk_far ?_ NB190_204.out _; (with_reducible repeat (first | refine blk_drewN ?_ _ | refine blk_drew ?_ | refine blk_alloc ?_ _)); refine blk_far ?_ NB190_204.out _; (with_reducible repeat (first | refine blk_drewN ?_ _ | refine blk_drew ?_ | refine blk_alloc ?_ _)); refine blk_far ?_ NB190_204.out _; (with_reducible repeat (first | refine blk_drewN ?_ _ | refine blk_drew ?_ | refine blk_alloc ?_ _)); refine blk_far ?_ NB190_204.out _; (with_reducible repeat (first | refine blk_drewN ?_ _ | refine blk_drew ?_ | refine blk_alloc ?_ _)); exact BK190.out) hb); have n1_ := Aside0.mk (blk_below (g := gb193) (o := .cells #[.string x194000_2, .int .i64 x194001_2, .int .i64 x194002_2, .int .i64 x194003_2, .int .i64 x194004_2, .int .i64 x194005_2, .int .i64 x194006_2] 27 (0, 0)) (by (with_reducible repeat (first | refine blk_drewN ?_ _ | refine blk_drew ?_ | refine blk_alloc ?_ _)); refine blk_far ?_ NB193_204.out _; (with_reducible repeat (first | refine blk_drewN ?_ _ | refine blk_drew ?_ | refine blk_alloc ?_ _)); refine blk_far ?_ NB193_204.out _; (with_reducible repeat (first | refine blk_drewN ?_ _ | refine blk_drew ?_ | refine blk_alloc ?_ _)); refine blk_far ?_ NB193_204.out _; (with_reducible repeat (first | refine blk_drewN ?_ _ | refine blk_drew ?_ | refine blk_alloc ?_ _)); refine blk_far ?_ NB193_204.out _; (with_reducible repeat (first | refine blk_drewN ?_ _ | refine blk_drew ?_ | refine blk_alloc ?_ _)); refine blk_far ?_ NB193_204.out _; (with_reducible repeat (first | refine blk_drewN ?_ _ | refine blk_drew ?_ | refine blk_alloc ?_ _)); refine blk_far ?_ NB193_204.out _; (with_reducible repeat (first | refine blk_drewN ?_ _ | refine blk_drew ?_ | refine blk_alloc ?_ _)); refine blk_far ?_ NB193_204.out _; (with_reducible repeat (first | refine blk_drewN ?_ _ | refine blk_drew ?_ | refine blk_alloc ?_ _)); exact BK193.out) hb); have n2_ := Aside0.mk (blk_below (g := gb204) (o := .cells #[.string t196, .int .i64 t197, .int .i64 t198, .int .i64 t199, .int .i64 t200, .int .i64 t201, .int .i64 t202] 27 (0, 0)) (by (with_reducible repeat (first | refine blk_drewN ?_ _ | refine blk_drew ?_ | refine blk_alloc ?_ _)); refine blk_put (cs := #[.string t196, .int .i64 t197, .int .i64 t198, .int .i64 t199, .int .i64 t200, .int .i64 t201, .int .i64 0]) ?_ 6 _ rfl; (with_reducible repeat (first | refine blk_drewN ?_ _ | refine blk_drew ?_ | refine blk_alloc ?_ _)); refine blk_put (cs := #[.string t196, .int .i64 t197, .int .i64 t198, .int .i64 t199, .int .i64 t200, .int .i64 0, .int .i64 0]) ?_ 5 _ rfl; (with_reducible repeat (first | refine blk_drewN ?_ _ | refine blk_drew ?_ | refine blk_alloc ?_ _)); refine blk_put (cs := #[.string t196, .int .i64 t197, .int .i64 t198, .int .i64 t199, .int .i64 0, .int .i64 0, .int .i64 0]) ?_ 4 _ rfl; (with_reducible repeat (first | refine blk_drewN ?_ _ | refine blk_drew ?_ | refine blk_alloc ?_ _)); refine blk_put (cs := #[.string t196, .int .i64 t197, .int .i64 t198, .int .i64 0, .int .i64 0, .int .i64 0, .int .i64 0]) ?_ 3 _ rfl; (with_reducible repeat (first | refine blk_drewN ?_ _ | refine blk_drew ?_ | refine blk_alloc ?_ _)); refine blk_put (cs := #[.string t196, .int .i64 t197, .int .i64 0, .int .i64 0, .int .i64 0, .int .i64 0, .int .i64 0]) ?_ 2 _ rfl; (with_reducible repeat (first | refine blk_drewN ?_ _ | refine blk_drew ?_ | refine blk_alloc ?_ _)); refine blk_put (cs := #[.string t196, .int .i64 0, .int .i64 0, .int .i64 0, .int .i64 0, .int .i64 0, .int .i64 0]) ?_ 1 _ rfl; (with_reducible repeat (first | refine blk_drewN ?_ _ | refine blk_drew ?_ | refine blk_alloc ?_ _)); refine blk_put (cs := #[.string (⟨#[]⟩ : ByteArray), .int .i64 0, .int .i64 0, .int .i64 0, .int .i64 0, .int .i64 0, .int .i64 0]) ?_ 0 _ rfl; (with_reducible repeat (first | refine blk_drewN ?_ _ | refine blk_drew ?_ | refine blk_alloc ?_ _)); exact BK204.out) hb); have n3_ := Aside0.mk (below_step (by repeat (first | (with_reducible first | exact HB.out | apply below_alloc | apply pw_below_drewN | apply below_drew1 | refine below_set ?_ GE190.out | refine below_set ?_ GE193.out | refine below_set ?_ GE204.out) | exact HB.out)) hb); clear BK190; clear BK193; clear BK204; clear HB; have BK190 := n0_; have BK193 := n1_; have BK204 := n2_; have HB := n3_; clear n0_ n1_ n2_ n3_; (try clear hb); (try clear hb2); (try clear hk); (try clear hi)))
                  (try simp only [Act.put, List.setIfInBounds_toArray, List.set_cons_zero, List.set_cons_succ])
                  go_cut [67] (fun v67 wc => ∃ (kq : Nat) (x67_21 : Bool), v67 = .bool x67_21 ∧ Aside0 (ententelaw06_ActTotals.j2 kq l1 x6_2 x7_2 t206 t207 x67_21 t196 t197 t198 t199 t200 t201 t202 = some r) ∧ Aside0 (kq ≤ k2) ∧ Aside0 (wc.heap[gb190]? = some (.cells #[.string a0_0, .int .i64 a0_1, .int .i64 a0_2, .int .i64 a0_3, .int .i64 a0_4, .int .i64 a0_5, .int .i64 a0_6] 27 (0, 0))) ∧ Aside0 (wc.heap[gb193]? = some (.cells #[.string x194000_2, .int .i64 x194001_2, .int .i64 x194002_2, .int .i64 x194003_2, .int .i64 x194004_2, .int .i64 x194005_2, .int .i64 x194006_2] 27 (0, 0))) ∧ Aside0 (wc.heap[gb204]? = some (.cells #[.string t196, .int .i64 t197, .int .i64 t198, .int .i64 t199, .int .i64 t200, .int .i64 t201, .int .i64 t202] 27 (0, 0))) ∧ Aside0 (Below w.heap.size w wc))
                  case first =>
                    have H := HC22.out
                    clear HC22
                    by_cases c35 : ((rd_T23 l1 x7_2).f0) = 3
                    · rw [if_pos c35] at H
                      have c35b0 : (((rd_T23 l1 x7_2).f0) == 3) = true := beq_iff_eq.mpr c35
                      have c35b1 : (((rd_T23 l1 x7_2).f0) != 3) = false := bne_eq_false_iff_eq.mpr c35
                      clear c35
                      (first | rw [c35b0] | (simp only [i64_w, i32_w]; rw [c35b0]) | skip)
                      have H' := Aside0.mk H
                      clear H
                      have p208 : 0 ≤ (x7_2 : Int) := of_decide_eq_true (by first | (with_reducible assumption) | assumption)
                      have q208 : x7_2 < (l1.length : Int) := of_decide_eq_true (by first | (with_reducible assumption) | assumption)
                      obtain ⟨ad208, e208, hx208_0, hx208_1, hx208_2⟩ := at_T23 HR1.out x7_2 p208 q208
                      obtain rfl : ad195 = ad208 := (by injection e208)
                      replace hx208_0 := (HB.out.cell (World.block_lt_of_cell? w _ hx208_0)).trans hx208_0
                      replace hx208_1 := (HB.out.cell (World.block_lt_of_cell? w _ hx208_1)).trans hx208_1
                      replace hx208_2 := (HB.out.cell (World.block_lt_of_cell? w _ hx208_2)).trans hx208_2
                      replace p208 := eq_true p208
                      replace q208 := eq_true q208
                      go_wp2
                      go_meet
                      case rel => exact ⟨_, (true), (by first | rfl | (simp; done) | (simp [*]; done)), H', ⟨by have := HJ2.out; have := HK2.out; first | omega | exact Nat.le_refl _⟩, ⟨by (with_reducible repeat (first | refine blk_drewN ?_ _ | refine blk_drew ?_ | refine blk_alloc ?_ _)); exact BK190.out⟩, ⟨by (with_reducible repeat (first | refine blk_drewN ?_ _ | refine blk_drew ?_ | refine blk_alloc ?_ _)); exact BK193.out⟩, ⟨by (with_reducible repeat (first | refine blk_drewN ?_ _ | refine blk_drew ?_ | refine blk_alloc ?_ _)); exact BK204.out⟩, ⟨by repeat (first | (with_reducible first | exact HB.out | apply below_alloc | apply pw_below_drewN | apply below_drew1 | refine below_set ?_ GE190.out | refine below_set ?_ GE193.out | refine below_set ?_ GE204.out) | exact HB.out)⟩⟩
                    · rw [if_neg c35] at H
                      have c35b0 : (((rd_T23 l1 x7_2).f0) == 3) = false := beq_eq_false_iff_ne.mpr c35
                      have c35b1 : (((rd_T23 l1 x7_2).f0) != 3) = true := bne_iff_ne.mpr c35
                      (first | rw [c35b0] | (simp only [i64_w, i32_w]; rw [c35b0]) | skip)
                      have H' := Aside0.mk H
                      clear H
                      have p208 : 0 ≤ (x7_2 : Int) := of_decide_eq_true (by first | (with_reducible assumption) | assumption)
                      have q208 : x7_2 < (l1.length : Int) := of_decide_eq_true (by first | (with_reducible assumption) | assumption)
                      obtain ⟨ad208, e208, hx208_0, hx208_1, hx208_2⟩ := at_T23 HR1.out x7_2 p208 q208
                      obtain rfl : ad195 = ad208 := (by injection e208)
                      replace hx208_0 := (HB.out.cell (World.block_lt_of_cell? w _ hx208_0)).trans hx208_0
                      replace hx208_1 := (HB.out.cell (World.block_lt_of_cell? w _ hx208_1)).trans hx208_1
                      replace hx208_2 := (HB.out.cell (World.block_lt_of_cell? w _ hx208_2)).trans hx208_2
                      replace p208 := eq_true p208
                      replace q208 := eq_true q208
                      have p209 : 0 ≤ (x7_2 : Int) := of_decide_eq_true (by first | (with_reducible assumption) | assumption)
                      have q209 : x7_2 < (l1.length : Int) := of_decide_eq_true (by first | (with_reducible assumption) | assumption)
                      obtain ⟨ad209, e209, hx209_0, hx209_1, hx209_2⟩ := at_T23 HR1.out x7_2 p209 q209
                      obtain rfl : ad195 = ad209 := (by injection e209)
                      replace hx209_0 := (HB.out.cell (World.block_lt_of_cell? w _ hx209_0)).trans hx209_0
                      replace hx209_1 := (HB.out.cell (World.block_lt_of_cell? w _ hx209_1)).trans hx209_1
                      replace hx209_2 := (HB.out.cell (World.block_lt_of_cell? w _ hx209_2)).trans hx209_2
                      replace p209 := eq_true p209
                      replace q209 := eq_true q209
                      go_wp2
                      go_meet
                      case rel => exact ⟨_, ((((rd_T23 l1 x7_2).f0) == 4)), (by first | rfl | (simp; done) | (simp [*]; done)), H', ⟨by have := HJ2.out; have := HK2.out; first | omega | exact Nat.le_refl _⟩, ⟨by (with_reducible repeat (first | refine blk_drewN ?_ _ | refine blk_drew ?_ | refine blk_alloc ?_ _)); exact BK190.out⟩, ⟨by (with_reducible repeat (first | refine blk_drewN ?_ _ | refine blk_drew ?_ | refine blk_alloc ?_ _)); exact BK193.out⟩, ⟨by (with_reducible repeat (first | refine blk_drewN ?_ _ | refine blk_drew ?_ | refine blk_alloc ?_ _)); exact BK204.out⟩, ⟨by repeat (first | (with_reducible first | exact HB.out | apply below_alloc | apply pw_below_drewN | apply below_drew1 | refine below_set ?_ GE190.out | refine below_set ?_ GE193.out | refine below_set ?_ GE204.out) | exact HB.out)⟩⟩
                  case rest =>
                    clear HC22
                    try clear c1
                    try clear p1
                    try clear q1
                    try clear hx1
                    try clear c2
                    try clear p2
                    try clear q2
                    try clear hx2
                    try clear c3
                    try clear c4
                    try clear c5
                    try clear c5b0
                    try clear c5b1
                    try clear p6
                    try clear c7
                    try clear c9
                    try clear c14
                    try clear c15
                    try clear c16
                    try clear c17
                    try clear c17b0
                    try clear c18
                    try clear c18b0
                    try clear p19
                    try clear q19
                    try clear hx19
                    try clear c20
                    try clear c20b0
                    try clear c20b1
                    try clear p20
                    try clear q20
                    try clear hx20
                    try clear c35
                    try clear c35b0
                    try clear c35b1
                    try clear hcz12_0
                    try clear hcz12_1
                    try clear hcz12_2
                    try clear hcz12_3
                    try clear hcz12_4
                    try clear hcz12_5
                    try clear hcz12_6
                    try clear hcz15_0
                    try clear hcz15_1
                    try clear hcz15_2
                    try clear hcz15_3
                    try clear hcz15_4
                    try clear hcz15_5
                    try clear hcz15_6
                    try clear hcz16_0
                    try clear hcz16_1
                    try clear hcz16_2
                    try clear hcz16_3
                    try clear hcz16_4
                    try clear hcz16_5
                    try clear hcz16_6
                    try clear hcz7_0
                    try clear hcz7_1
                    try clear hcz7_2
                    try clear hcz7_3
                    try clear hcz7_4
                    try clear hcz7_5
                    try clear hcz7_6
                    try clear hfz12_0
                    try clear hfz12_1
                    try clear hfz12_2
                    try clear hfz12_3
                    try clear hfz12_4
                    try clear hfz12_5
                    try clear hfz12_6
                    try clear hfz15_0
                    try clear hfz15_1
                    try clear hfz15_2
                    try clear hfz15_3
                    try clear hfz15_4
                    try clear hfz15_5
                    try clear hfz15_6
                    try clear hfz16_0
                    try clear hfz16_1
                    try clear hfz16_2
                    try clear hfz16_3
                    try clear hfz16_4
                    try clear hfz16_5
                    try clear hfz16_6
                    try clear hfz7_0
                    try clear hfz7_1
                    try clear hfz7_2
                    try clear hfz7_3
                    try clear hfz7_4
                    try clear hfz7_5
                    try clear hfz7_6
                    try clear hx195_0
                    try clear hx195_1
                    try clear hx195_2
                    try clear hx205_0
                    try clear hx205_1
                    try clear hx205_2
                    try clear hx208_0
                    try clear hx208_1
                    try clear hx208_2
                    try clear hx209_0
                    try clear hx209_1
                    try clear hx209_2
                    try clear p195
                    try clear p2
                    try clear p205
                    try clear p208
                    try clear p209
                    try clear p6
                    try clear q195
                    try clear q205
                    try clear q208
                    try clear q209
                    obtain ⟨kq, x67_21, rfl, HA, HJ21, BK190, BK193, BK204, HB⟩ := hcut
                    cases kq with
                    | zero => exact absurd HA.out (by simp [ententelaw06_ActTotals.j2])
                    | succ kj21 =>
                      have H := HA.out
                      clear HA
                      simp only [ententelaw06_ActTotals.j2] at H
                      by_cases c36 : x67_21 = true
                      · subst c36
                        have H1 : (if (wrap64 (t206 + t207)) = 0 then (if (wrap64 (t197 + t200)) = (wrap64 ((wrap64 (x6_2 + t206)) + t207)) then ((act_May.f kj21 t196 t197 t198 t199 t200 t201 t202).bind fun t210 => (if t210 = 0 then (ententelaw06_ActTotals.l0 kj21 l1 (wrap64 ((wrap64 (x6_2 + t206)) + t207)) (wrap64 (x7_2 + 1)) t196 t197 t198 t199 t200 t201 t202) else (some false))) else (some false)) else (some false)) = some r := by rw [if_pos rfl] at H; exact H
                        clear H
                        have H := H1
                        clear H1
                        by_cases c37 : (wrap64 (t206 + t207)) = 0
                        · rw [if_pos c37] at H
                          have c37b0 : ((wrap64 (t206 + t207)) == 0) = true := beq_iff_eq.mpr c37
                          have c37b1 : ((wrap64 (t206 + t207)) != 0) = false := bne_eq_false_iff_eq.mpr c37
                          clear c37
                          by_cases c38 : (wrap64 (t197 + t200)) = (wrap64 ((wrap64 (x6_2 + t206)) + t207))
                          · rw [if_pos c38] at H
                            have c38b0 : ((wrap64 (t197 + t200)) == (wrap64 ((wrap64 (x6_2 + t206)) + t207))) = true := beq_iff_eq.mpr c38
                            have c38b1 : ((wrap64 (t197 + t200)) != (wrap64 ((wrap64 (x6_2 + t206)) + t207))) = false := bne_eq_false_iff_eq.mpr c38
                            clear c38
                            replace H := Option.bind_eq_some_iff.mp H
                            obtain ⟨t210, A390, H⟩ := H
                            replace H : (if t210 = 0 then (ententelaw06_ActTotals.l0 kj21 l1 (wrap64 ((wrap64 (x6_2 + t206)) + t207)) (wrap64 (x7_2 + 1)) t196 t197 t198 t199 t200 t201 t202) else (some false)) = some r := H
                            have A39 := Aside0.mk A390
                            clear A390
                            by_cases c40 : t210 = 0
                            · rw [if_pos c40] at H
                              have c40b0 : (t210 == 0) = true := beq_iff_eq.mpr c40
                              have c40b1 : (t210 != 0) = false := bne_eq_false_iff_eq.mpr c40
                              clear c40
                              have H' := Aside0.mk H
                              clear H
                              have hnb41 := NB204_190.out
                              have hnc41 := NB190_204.out
                              have hnb42 := NB204_193.out
                              have hnc42 := NB193_204.out
                              have hcz43_0 : wc.cell? ⟨gb204, 0, none⟩ = some (.string t196) := (blk_cell BK204.out 0).trans rfl
                              have hcz43_1 : wc.cell? ⟨gb204, 1, none⟩ = some (.int .i64 t197) := (blk_cell BK204.out 1).trans rfl
                              have hcz43_2 : wc.cell? ⟨gb204, 2, none⟩ = some (.int .i64 t198) := (blk_cell BK204.out 2).trans rfl
                              have hcz43_3 : wc.cell? ⟨gb204, 3, none⟩ = some (.int .i64 t199) := (blk_cell BK204.out 3).trans rfl
                              have hcz43_4 : wc.cell? ⟨gb204, 4, none⟩ = some (.int .i64 t200) := (blk_cell BK204.out 4).trans rfl
                              have hcz43_5 : wc.cell? ⟨gb204, 5, none⟩ = some (.int .i64 t201) := (blk_cell BK204.out 5).trans rfl
                              have hcz43_6 : wc.cell? ⟨gb204, 6, none⟩ = some (.int .i64 t202) := (blk_cell BK204.out 6).trans rfl
                              have hfz43_0 := blk_frozen BK204.out 0
                              have hfz43_1 := blk_frozen BK204.out 1
                              have hfz43_2 := blk_frozen BK204.out 2
                              have hfz43_3 := blk_frozen BK204.out 3
                              have hfz43_4 := blk_frozen BK204.out 4
                              have hfz43_5 := blk_frozen BK204.out 5
                              have hfz43_6 := blk_frozen BK204.out 6
                              have hnb44 := NB193_190.out
                              have hnc44 := NB190_193.out
                              have hcz45_0 : wc.cell? ⟨gb193, 0, none⟩ = some (.string x194000_2) := (blk_cell BK193.out 0).trans rfl
                              have hcz45_1 : wc.cell? ⟨gb193, 1, none⟩ = some (.int .i64 x194001_2) := (blk_cell BK193.out 1).trans rfl
                              have hcz45_2 : wc.cell? ⟨gb193, 2, none⟩ = some (.int .i64 x194002_2) := (blk_cell BK193.out 2).trans rfl
                              have hcz45_3 : wc.cell? ⟨gb193, 3, none⟩ = some (.int .i64 x194003_2) := (blk_cell BK193.out 3).trans rfl
                              have hcz45_4 : wc.cell? ⟨gb193, 4, none⟩ = some (.int .i64 x194004_2) := (blk_cell BK193.out 4).trans rfl
                              have hcz45_5 : wc.cell? ⟨gb193, 5, none⟩ = some (.int .i64 x194005_2) := (blk_cell BK193.out 5).trans rfl
                              have hcz45_6 : wc.cell? ⟨gb193, 6, none⟩ = some (.int .i64 x194006_2) := (blk_cell BK193.out 6).trans rfl
                              have hfz45_0 := blk_frozen BK193.out 0
                              have hfz45_1 := blk_frozen BK193.out 1
                              have hfz45_2 := blk_frozen BK193.out 2
                              have hfz45_3 := blk_frozen BK193.out 3
                              have hfz45_4 := blk_frozen BK193.out 4
                              have hfz45_5 := blk_frozen BK193.out 5
                              have hfz45_6 := blk_frozen BK193.out 6
                              go_wp2_with (first | (go_at_call 13; (with_reducible refine (act_May.calls kj21 t196 t197 t198 t199 t200 t201 t202 t210 _ A39.out).mono ?_); rintro e w46 ⟨rfl, hb⟩; have n0_ := Aside0.mk (blk_below (g := gb190) (o := .cells #[.string a0_0, .int .i64 a0_1, .int .i64 a0_2, .int .i64 a0_3, .int .i64 a0_4, .int .i64 a0_5, .int .i64 a0_6] 27 (0, 0)) (by (with_reducible repeat (first | refine blk_drewN ?_ _ | refine blk_drew ?_ | refine blk_alloc ?_ _)); refine blk_far ?_ NB190_193.out _; (with_reducible repeat (first | refine blk_drewN ?_ _ | refine blk_drew ?_ | refine blk_alloc ?_ _)); refine blk_far ?_ NB190_193.out _; (with_reducible repeat (first | refine blk_drewN ?_ _ | refine blk_drew ?_ | refine blk_alloc ?_ _)); refine blk_far ?_ NB190_193.out _; (with_reducible repeat (first | refine blk_drewN ?_ _ | refine blk_drew ?_ | refine blk_alloc ?_ _)); refine blk_far ?_ NB190_193.out _; (with_reducible repeat (first | refine blk_drewN ?_ _ | refine blk_drew ?_ | refine blk_alloc ?_ _)); refine blk_far ?_ NB190_193.out _; (with_reducible repeat (first | refine blk_drewN ?_ _ | refine blk_drew ?_ | refine blk_alloc ?_ _)); refine blk_far ?_ NB190_193.out _; (with_reducible repeat (first | refine blk_drewN ?_ _ | refine blk_drew ?_ | refine blk_alloc ?_ _)); refine blk_far ?_ NB190_193.out _; (with_reducible repeat (first | refine blk_drewN ?_ _ | refine blk_drew ?_ | refine blk_alloc ?_ _)); exact BK190.out) hb); have n1_ := Aside0.mk (blk_below (g := gb193) (o := .cells #[.string t196, .int .i64 t197, .int .i64 t198, .int .i64 t199, .int .i64 t200, .int .i64 t201, .int .i64 t202] 27 (0, 0)) (by (with_reducible repeat (first | refine blk_drewN ?_ _ | refine blk_drew ?_ | refine blk_alloc ?_ _)); refine blk_put (cs := #[.string t196, .int .i64 t197, .int .i64 t198, .int .i64 t199, .int .i64 t200, .int .i64 t201, .int .i64 x194006_2]) ?_ 6 _ rfl; (with_reducible repeat (first | refine blk_drewN ?_ _ | refine blk_drew ?_ | refine blk_alloc ?_ _)); refine blk_put (cs := #[.string t196, .int .i64 t197, .int .i64 t198, .int .i64 t199, .int .i64 t200, .int .i64 x194005_2, .int .i64 x194006_2]) ?_ 5 _ rfl; (with_reducible repeat (first | refine blk_drewN ?_ _ | refine blk_drew ?_ | refine blk_alloc ?_ _)); refine blk_put (cs := #[.string t196, .int .i64 t197, .int .i64 t198, .int .i64 t199, .int .i64 x194004_2, .int .i64 x194005_2, .int .i64 x194006_2]) ?_ 4 _ rfl; (with_reducible repeat (first | refine blk_drewN ?_ _ | refine blk_drew ?_ | refine blk_alloc ?_ _)); refine blk_put (cs := #[.string t196, .int .i64 t197, .int .i64 t198, .int .i64 x194003_2, .int .i64 x194004_2, .int .i64 x194005_2, .int .i64 x194006_2]) ?_ 3 _ rfl; (with_reducible repeat (first | refine blk_drewN ?_ _ | refine blk_drew ?_ | refine blk_alloc ?_ _)); refine blk_put (cs := #[.string t196, .int .i64 t197, .int .i64 x194002_2, .int .i64 x194003_2, .int .i64 x194004_2, .int .i64 x194005_2, .int .i64 x194006_2]) ?_ 2 _ rfl; (with_reducible repeat (first | refine blk_drewN ?_ _ | refine blk_drew ?_ | refine blk_alloc ?_ _)); refine blk_put (cs := #[.string t196, .int .i64 x194001_2, .int .i64 x194002_2, .int .i64 x194003_2, .int .i64 x194004_2, .int .i64 x194005_2, .int .i64 x194006_2]) ?_ 1 _ rfl; (with_reducible repeat (first | refine blk_drewN ?_ _ | refine blk_drew ?_ | refine blk_alloc ?_ _)); refine blk_put (cs := #[.string x194000_2, .int .i64 x194001_2, .int .i64 x194002_2, .int .i64 x194003_2, .int .i64 x194004_2, .int .i64 x194005_2, .int .i64 x194006_2]) ?_ 0 _ rfl; (with_reducible repeat (first | refine blk_drewN ?_ _ | refine blk_drew ?_ | refine blk_alloc ?_ _)); exact BK193.out) hb); have n2_ := Aside0.mk (blk_below (g := gb204) (o := .cells #[.string t196, .int .i64 t197, .int .i64 t198, .int .i64 t199, .int .i64 t200, .int .i64 t201, .int .i64 t202] 27 (0, 0)) (by (with_reducible repeat (first | refine blk_drewN ?_ _ | refine blk_drew ?_ | refine blk_alloc ?_ _)); refine blk_far ?_ NB204_193.out _; (with_reducible repeat (first | refine blk_drewN ?_ _ | refine blk_drew ?_ | refine blk_alloc ?_ _)); refine blk_far ?_ NB204_193.out _; (with_reducible repeat (first | refine blk_drewN ?_ _ | refine blk_drew ?_ | refine blk_alloc ?_ _)); refine blk_far ?_ NB204_193.out _; (with_reducible repeat (first | refine blk_drewN ?_ _ | refine blk_drew ?_ | refine blk_alloc ?_ _)); refine blk_far ?_ NB204_193.out _; (with_reducible repeat (first | refine blk_drewN ?_ _ | refine blk_drew ?_ | refine blk_alloc ?_ _)); refine blk_far ?_ NB204_193.out _; (with_reducible repeat (first | refine blk_drewN ?_ _ | refine blk_drew ?_ | refine blk_alloc ?_ _)); refine blk_far ?_ NB204_193.out _; (with_reducible repeat (first | refine blk_drewN ?_ _ | refine blk_drew ?_ | refine blk_alloc ?_ _)); refine blk_far ?_ NB204_193.out _; (with_reducible repeat (first | refine blk_drewN ?_ _ | refine blk_drew ?_ | refine blk_alloc ?_ _)); exact BK204.out) hb); have n3_ := Aside0.mk (below_step (by repeat (first | (with_reducible first | exact HB.out | apply below_alloc | apply pw_below_drewN | apply below_drew1 | refine below_set ?_ GE190.out | refine below_set ?_ GE193.out | refine below_set ?_ GE204.out) | exact HB.out)) hb); clear BK190; clear BK193; clear BK204; clear HB; have BK190 := n0_; have BK193 := n1_; have BK204 := n2_; have HB := n3_; clear n0_ n1_ n2_ n3_; (try clear hb); (try clear hb2); (try clear hk); (try clear hi)))
                              go_roundg kj21
                              case measure => have := HJ2.out; have := HK2.out; have := HJ21.out; omega
                              case rel => exact ⟨(wrap64 ((wrap64 (x6_2 + t206)) + t207)), (wrap64 (x7_2 + 1)), (t196), (t197), (t198), (t199), (t200), (t201), (t202), (by first | rfl | (simp; done) | (simp [*]; done)), (by first | rfl | (simp; done) | (simp [*]; done)), H', ⟨by have := HJ2.out; have := HK2.out; have := HJ21.out; omega⟩, ⟨by (with_reducible repeat (first | refine blk_drewN ?_ _ | refine blk_drew ?_ | refine blk_alloc ?_ _)); exact BK190.out⟩, ⟨by (with_reducible repeat (first | refine blk_drewN ?_ _ | refine blk_drew ?_ | refine blk_alloc ?_ _)); exact BK193.out⟩, ⟨by repeat (first | (with_reducible first | exact HB.out | apply below_alloc | apply pw_below_drewN | apply below_drew1 | refine below_set ?_ GE190.out | refine below_set ?_ GE193.out | refine below_set ?_ GE204.out) | exact HB.out)⟩⟩
                            · rw [if_neg c40] at H
                              have c40b0 : (t210 == 0) = false := beq_eq_false_iff_ne.mpr c40
                              have c40b1 : (t210 != 0) = true := bne_iff_ne.mpr c40
                              exact absurd ((Option.some.inj H).trans HT.out) Bool.false_ne_true
                          · rw [if_neg c38] at H
                            have c38b0 : ((wrap64 (t197 + t200)) == (wrap64 ((wrap64 (x6_2 + t206)) + t207))) = false := beq_eq_false_iff_ne.mpr c38
                            have c38b1 : ((wrap64 (t197 + t200)) != (wrap64 ((wrap64 (x6_2 + t206)) + t207))) = true := bne_iff_ne.mpr c38
                            exact absurd ((Option.some.inj H).trans HT.out) Bool.false_ne_true
                        · rw [if_neg c37] at H
                          have c37b0 : ((wrap64 (t206 + t207)) == 0) = false := beq_eq_false_iff_ne.mpr c37
                          have c37b1 : ((wrap64 (t206 + t207)) != 0) = true := bne_iff_ne.mpr c37
                          exact absurd ((Option.some.inj H).trans HT.out) Bool.false_ne_true
                      · replace c36 := Bool.eq_false_iff.mpr c36
                        subst c36
                        have H1 : (if (wrap64 (t197 + t200)) = (wrap64 ((wrap64 (x6_2 + t206)) + t207)) then ((act_May.f kj21 t196 t197 t198 t199 t200 t201 t202).bind fun t211 => (if t211 = 0 then (ententelaw06_ActTotals.l0 kj21 l1 (wrap64 ((wrap64 (x6_2 + t206)) + t207)) (wrap64 (x7_2 + 1)) t196 t197 t198 t199 t200 t201 t202) else (some false))) else (some false)) = some r := by rw [if_neg (show ¬ (false = true) by decide)] at H; exact H
                        clear H
                        have H := H1
                        clear H1
                        by_cases c47 : (wrap64 (t197 + t200)) = (wrap64 ((wrap64 (x6_2 + t206)) + t207))
                        · rw [if_pos c47] at H
                          have c47b0 : ((wrap64 (t197 + t200)) == (wrap64 ((wrap64 (x6_2 + t206)) + t207))) = true := beq_iff_eq.mpr c47
                          have c47b1 : ((wrap64 (t197 + t200)) != (wrap64 ((wrap64 (x6_2 + t206)) + t207))) = false := bne_eq_false_iff_eq.mpr c47
                          clear c47
                          replace H := Option.bind_eq_some_iff.mp H
                          obtain ⟨t211, A480, H⟩ := H
                          replace H : (if t211 = 0 then (ententelaw06_ActTotals.l0 kj21 l1 (wrap64 ((wrap64 (x6_2 + t206)) + t207)) (wrap64 (x7_2 + 1)) t196 t197 t198 t199 t200 t201 t202) else (some false)) = some r := H
                          have A48 := Aside0.mk A480
                          clear A480
                          by_cases c49 : t211 = 0
                          · rw [if_pos c49] at H
                            have c49b0 : (t211 == 0) = true := beq_iff_eq.mpr c49
                            have c49b1 : (t211 != 0) = false := bne_eq_false_iff_eq.mpr c49
                            clear c49
                            have H' := Aside0.mk H
                            clear H
                            have hnb50 := NB204_190.out
                            have hnc50 := NB190_204.out
                            have hnb51 := NB204_193.out
                            have hnc51 := NB193_204.out
                            have hcz52_0 : wc.cell? ⟨gb204, 0, none⟩ = some (.string t196) := (blk_cell BK204.out 0).trans rfl
                            have hcz52_1 : wc.cell? ⟨gb204, 1, none⟩ = some (.int .i64 t197) := (blk_cell BK204.out 1).trans rfl
                            have hcz52_2 : wc.cell? ⟨gb204, 2, none⟩ = some (.int .i64 t198) := (blk_cell BK204.out 2).trans rfl
                            have hcz52_3 : wc.cell? ⟨gb204, 3, none⟩ = some (.int .i64 t199) := (blk_cell BK204.out 3).trans rfl
                            have hcz52_4 : wc.cell? ⟨gb204, 4, none⟩ = some (.int .i64 t200) := (blk_cell BK204.out 4).trans rfl
                            have hcz52_5 : wc.cell? ⟨gb204, 5, none⟩ = some (.int .i64 t201) := (blk_cell BK204.out 5).trans rfl
                            have hcz52_6 : wc.cell? ⟨gb204, 6, none⟩ = some (.int .i64 t202) := (blk_cell BK204.out 6).trans rfl
                            have hfz52_0 := blk_frozen BK204.out 0
                            have hfz52_1 := blk_frozen BK204.out 1
                            have hfz52_2 := blk_frozen BK204.out 2
                            have hfz52_3 := blk_frozen BK204.out 3
                            have hfz52_4 := blk_frozen BK204.out 4
                            have hfz52_5 := blk_frozen BK204.out 5
                            have hfz52_6 := blk_frozen BK204.out 6
                            have hnb53 := NB193_190.out
                            have hnc53 := NB190_193.out
                            have hcz54_0 : wc.cell? ⟨gb193, 0, none⟩ = some (.string x194000_2) := (blk_cell BK193.out 0).trans rfl
                            have hcz54_1 : wc.cell? ⟨gb193, 1, none⟩ = some (.int .i64 x194001_2) := (blk_cell BK193.out 1).trans rfl
                            have hcz54_2 : wc.cell? ⟨gb193, 2, none⟩ = some (.int .i64 x194002_2) := (blk_cell BK193.out 2).trans rfl
                            have hcz54_3 : wc.cell? ⟨gb193, 3, none⟩ = some (.int .i64 x194003_2) := (blk_cell BK193.out 3).trans rfl
                            have hcz54_4 : wc.cell? ⟨gb193, 4, none⟩ = some (.int .i64 x194004_2) := (blk_cell BK193.out 4).trans rfl
                            have hcz54_5 : wc.cell? ⟨gb193, 5, none⟩ = some (.int .i64 x194005_2) := (blk_cell BK193.out 5).trans rfl
                            have hcz54_6 : wc.cell? ⟨gb193, 6, none⟩ = some (.int .i64 x194006_2) := (blk_cell BK193.out 6).trans rfl
                            have hfz54_0 := blk_frozen BK193.out 0
                            have hfz54_1 := blk_frozen BK193.out 1
                            have hfz54_2 := blk_frozen BK193.out 2
                            have hfz54_3 := blk_frozen BK193.out 3
                            have hfz54_4 := blk_frozen BK193.out 4
                            have hfz54_5 := blk_frozen BK193.out 5
                            have hfz54_6 := blk_frozen BK193.out 6
                            go_wp2_with (first | (go_at_call 13; (with_reducible refine (act_May.calls kj21 t196 t197 t198 t199 t200 t201 t202 t211 _ A48.out).mono ?_); rintro e w55 ⟨rfl, hb⟩; have n0_ := Aside0.mk (blk_below (g := gb190) (o := .cells #[.string a0_0, .int .i64 a0_1, .int .i64 a0_2, .int .i64 a0_3, .int .i64 a0_4, .int .i64 a0_5, .int .i64 a0_6] 27 (0, 0)) (by (with_reducible repeat (first | refine blk_drewN ?_ _ | refine blk_drew ?_ | refine blk_alloc ?_ _)); refine blk_far ?_ NB190_193.out _; (with_reducible repeat (first | refine blk_drewN ?_ _ | refine blk_drew ?_ | refine blk_alloc ?_ _)); refine blk_far ?_ NB190_193.out _; (with_reducible repeat (first | refine blk_drewN ?_ _ | refine blk_drew ?_ | refine blk_alloc ?_ _)); refine blk_far ?_ NB190_193.out _; (with_reducible repeat (first | refine blk_drewN ?_ _ | refine blk_drew ?_ | refine blk_alloc ?_ _)); refine blk_far ?_ NB190_193.out _; (with_reducible repeat (first | refine blk_drewN ?_ _ | refine blk_drew ?_ | refine blk_alloc ?_ _)); refine blk_far ?_ NB190_193.out _; (with_reducible repeat (first | refine blk_drewN ?_ _ | refine blk_drew ?_ | refine blk_alloc ?_ _)); refine blk_far ?_ NB190_193.out _; (with_reducible repeat (first | refine blk_drewN ?_ _ | refine blk_drew ?_ | refine blk_alloc ?_ _)); refine blk_far ?_ NB190_193.out _; (with_reducible repeat (first | refine blk_drewN ?_ _ | refine blk_drew ?_ | refine blk_alloc ?_ _)); exact BK190.out) hb); have n1_ := Aside0.mk (blk_below (g := gb193) (o := .cells #[.string t196, .int .i64 t197, .int .i64 t198, .int .i64 t199, .int .i64 t200, .int .i64 t201, .int .i64 t202] 27 (0, 0)) (by (with_reducible repeat (first | refine blk_drewN ?_ _ | refine blk_drew ?_ | refine blk_alloc ?_ _)); refine blk_put (cs := #[.string t196, .int .i64 t197, .int .i64 t198, .int .i64 t199, .int .i64 t200, .int .i64 t201, .int .i64 x194006_2]) ?_ 6 _ rfl; (with_reducible repeat (first | refine blk_drewN ?_ _ | refine blk_drew ?_ | refine blk_alloc ?_ _)); refine blk_put (cs := #[.string t196, .int .i64 t197, .int .i64 t198, .int .i64 t199, .int .i64 t200, .int .i64 x194005_2, .int .i64 x194006_2]) ?_ 5 _ rfl; (with_reducible repeat (first | refine blk_drewN ?_ _ | refine blk_drew ?_ | refine blk_alloc ?_ _)); refine blk_put (cs := #[.string t196, .int .i64 t197, .int .i64 t198, .int .i64 t199, .int .i64 x194004_2, .int .i64 x194005_2, .int .i64 x194006_2]) ?_ 4 _ rfl; (with_reducible repeat (first | refine blk_drewN ?_ _ | refine blk_drew ?_ | refine blk_alloc ?_ _)); refine blk_put (cs := #[.string t196, .int .i64 t197, .int .i64 t198, .int .i64 x194003_2, .int .i64 x194004_2, .int .i64 x194005_2, .int .i64 x194006_2]) ?_ 3 _ rfl; (with_reducible repeat (first | refine blk_drewN ?_ _ | refine blk_drew ?_ | refine blk_alloc ?_ _)); refine blk_put (cs := #[.string t196, .int .i64 t197, .int .i64 x194002_2, .int .i64 x194003_2, .int .i64 x194004_2, .int .i64 x194005_2, .int .i64 x194006_2]) ?_ 2 _ rfl; (with_reducible repeat (first | refine blk_drewN ?_ _ | refine blk_drew ?_ | refine blk_alloc ?_ _)); refine blk_put (cs := #[.string t196, .int .i64 x194001_2, .int .i64 x194002_2, .int .i64 x194003_2, .int .i64 x194004_2, .int .i64 x194005_2, .int .i64 x194006_2]) ?_ 1 _ rfl; (with_reducible repeat (first | refine blk_drewN ?_ _ | refine blk_drew ?_ | refine blk_alloc ?_ _)); refine blk_put (cs := #[.string x194000_2, .int .i64 x194001_2, .int .i64 x194002_2, .int .i64 x194003_2, .int .i64 x194004_2, .int .i64 x194005_2, .int .i64 x194006_2]) ?_ 0 _ rfl; (with_reducible repeat (first | refine blk_drewN ?_ _ | refine blk_drew ?_ | refine blk_alloc ?_ _)); exact BK193.out) hb); have n2_ := Aside0.mk (blk_below (g := gb204) (o := .cells #[.string t196, .int .i64 t197, .int .i64 t198, .int .i64 t199, .int .i64 t200, .int .i64 t201, .int .i64 t202] 27 (0, 0)) (by (with_reducible repeat (first | refine blk_drewN ?_ _ | refine blk_drew ?_ | refine blk_alloc ?_ _)); refine blk_far ?_ NB204_193.out _; (with_reducible repeat (first | refine blk_drewN ?_ _ | refine blk_drew ?_ | refine blk_alloc ?_ _)); refine blk_far ?_ NB204_193.out _; (with_reducible repeat (first | refine blk_drewN ?_ _ | refine blk_drew ?_ | refine blk_alloc ?_ _)); refine blk_far ?_ NB204_193.out _; (with_reducible repeat (first | refine blk_drewN ?_ _ | refine blk_drew ?_ | refine blk_alloc ?_ _)); refine blk_far ?_ NB204_193.out _; (with_reducible repeat (first | refine blk_drewN ?_ _ | refine blk_drew ?_ | refine blk_alloc ?_ _)); refine blk_far ?_ NB204_193.out _; (with_reducible repeat (first | refine blk_drewN ?_ _ | refine blk_drew ?_ | refine blk_alloc ?_ _)); refine blk_far ?_ NB204_193.out _; (with_reducible repeat (first | refine blk_drewN ?_ _ | refine blk_drew ?_ | refine blk_alloc ?_ _)); refine blk_far ?_ NB204_193.out _; (with_reducible repeat (first | refine blk_drewN ?_ _ | refine blk_drew ?_ | refine blk_alloc ?_ _)); exact BK204.out) hb); have n3_ := Aside0.mk (below_step (by repeat (first | (with_reducible first | exact HB.out | apply below_alloc | apply pw_below_drewN | apply below_drew1 | refine below_set ?_ GE190.out | refine below_set ?_ GE193.out | refine below_set ?_ GE204.out) | exact HB.out)) hb); clear BK190; clear BK193; clear BK204; clear HB; have BK190 := n0_; have BK193 := n1_; have BK204 := n2_; have HB := n3_; clear n0_ n1_ n2_ n3_; (try clear hb); (try clear hb2); (try clear hk); (try clear hi)))
                            go_roundg kj21
                            case measure => have := HJ2.out; have := HK2.out; have := HJ21.out; omega
                            case rel => exact ⟨(wrap64 ((wrap64 (x6_2 + t206)) + t207)), (wrap64 (x7_2 + 1)), (t196), (t197), (t198), (t199), (t200), (t201), (t202), (by first | rfl | (simp; done) | (simp [*]; done)), (by first | rfl | (simp; done) | (simp [*]; done)), H', ⟨by have := HJ2.out; have := HK2.out; have := HJ21.out; omega⟩, ⟨by (with_reducible repeat (first | refine blk_drewN ?_ _ | refine blk_drew ?_ | refine blk_alloc ?_ _)); exact BK190.out⟩, ⟨by (with_reducible repeat (first | refine blk_drewN ?_ _ | refine blk_drew ?_ | refine blk_alloc ?_ _)); exact BK193.out⟩, ⟨by repeat (first | (with_reducible first | exact HB.out | apply below_alloc | apply pw_below_drewN | apply below_drew1 | refine below_set ?_ GE190.out | refine below_set ?_ GE193.out | refine below_set ?_ GE204.out) | exact HB.out)⟩⟩
                          · rw [if_neg c49] at H
                            have c49b0 : (t211 == 0) = false := beq_eq_false_iff_ne.mpr c49
                            have c49b1 : (t211 != 0) = true := bne_iff_ne.mpr c49
                            exact absurd ((Option.some.inj H).trans HT.out) Bool.false_ne_true
                        · rw [if_neg c47] at H
                          have c47b0 : ((wrap64 (t197 + t200)) == (wrap64 ((wrap64 (x6_2 + t206)) + t207))) = false := beq_eq_false_iff_ne.mpr c47
                          have c47b1 : ((wrap64 (t197 + t200)) != (wrap64 ((wrap64 (x6_2 + t206)) + t207))) = true := bne_iff_ne.mpr c47
                          exact absurd ((Option.some.inj H).trans HT.out) Bool.false_ne_true
                · rw [if_neg c20] at H
                  have c20b0 : (t203 == 0) = false := beq_eq_false_iff_ne.mpr c20
                  have c20b1 : (t203 != 0) = true := bne_iff_ne.mpr c20
                  have H' := Aside0.mk H
                  clear H
                  try go_wp2
                  have n0_ := Aside0.mk (blk_drew BK190.out)
                  have n1_ := Aside0.mk (blk_drew BK193.out)
                  have n2_ := Aside0.mk (below_drew1 HB.out)
                  clear BK190
                  clear BK193
                  clear HB
                  have BK190 := n0_
                  have BK193 := n1_
                  have HB := n2_
                  clear n0_ n1_ n2_
                  have p195 : 0 ≤ (x7_2 : Int) := of_decide_eq_true (by first | (with_reducible assumption) | assumption)
                  have q195 : x7_2 < (l1.length : Int) := of_decide_eq_true (by first | (with_reducible assumption) | assumption)
                  obtain ⟨ad195, e195, hx195_0, hx195_1, hx195_2⟩ := at_T23 HR1.out x7_2 p195 q195
                  have hw195_2 := hx195_2
                  have hw195_1 := hx195_1
                  have hw195_0 := hx195_0
                  cases e195
                  replace hx195_0 := (HB.out.cell (World.block_lt_of_cell? w _ hx195_0)).trans hx195_0
                  replace hx195_1 := (HB.out.cell (World.block_lt_of_cell? w _ hx195_1)).trans hx195_1
                  replace hx195_2 := (HB.out.cell (World.block_lt_of_cell? w _ hx195_2)).trans hx195_2
                  replace p195 := eq_true p195
                  replace q195 := eq_true q195
                  refine start_ (n := 12) (S := fun w' => w'.cell? ⟨gb193, 0, none⟩ = some (.string x194000_2) ∧ w'.cell? ⟨gb193, 1, none⟩ = some (.int .i64 x194001_2) ∧ w'.cell? ⟨gb193, 2, none⟩ = some (.int .i64 x194002_2) ∧ w'.cell? ⟨gb193, 3, none⟩ = some (.int .i64 x194003_2) ∧ w'.cell? ⟨gb193, 4, none⟩ = some (.int .i64 x194004_2) ∧ w'.cell? ⟨gb193, 5, none⟩ = some (.int .i64 x194005_2) ∧ w'.cell? ⟨gb193, 6, none⟩ = some (.int .i64 x194006_2) ∧ w'.cell? (ad195.add ((x7_2).toNat * 3)) = some (.int .i64 ((rd_T23 l1 x7_2).f0)) ∧ w'.cell? ⟨(ad195.add ((x7_2).toNat * 3)).block, (ad195.add ((x7_2).toNat * 3)).off + 1, none⟩ = some (.string ((rd_T23 l1 x7_2).f1)) ∧ w'.cell? ⟨(ad195.add ((x7_2).toNat * 3)).block, (ad195.add ((x7_2).toNat * 3)).off + 2, none⟩ = some (.int .i64 ((rd_T23 l1 x7_2).f2))) (ds := []) #[false, false, false, false, false, false, false, false, false, false, false, false] (by kernel_rfl) rfl rfl ⟨(blk_cell BK193.out 0).trans rfl, (blk_cell BK193.out 1).trans rfl, (blk_cell BK193.out 2).trans rfl, (blk_cell BK193.out 3).trans rfl, (blk_cell BK193.out 4).trans rfl, (blk_cell BK193.out 5).trans rfl, (blk_cell BK193.out 6).trans rfl, ((HB.out.cell (World.block_lt_of_cell? w _ hw195_0)).trans hw195_0), ((HB.out.cell (World.block_lt_of_cell? w _ hw195_1)).trans hw195_1), ((HB.out.cell (World.block_lt_of_cell? w _ hw195_2)).trans hw195_2)⟩ (fun hHeld => ?_); refine with_tabW ententelaw06_ActTotals.tab8 ententelaw06_ActTotals.bits8 (fun HT_ HW_ => ?_)
                  generalize wr.drew = w56 at BK190 BK193 HB hx195_0 hx195_1 hx195_2 hHeld ⊢
                  refine pure_ (i := 1) (N := some 37) (v := ?_) (a' := ?_) #[false, true, false, false, false, false, false, false, false, false, false, false] rfl rfl (any_of HT_.out (by kernel_rfl)) (fun _ _ _ h => h) (Or.inl ⟨by rfl, ?_⟩) ?_ ?_
                  rotate_left
                  · intro w'
                    go_simp
                    with_reducible rfl
                  rotate_left
                  · simp only [Act.put, List.setIfInBounds_toArray, List.set_cons_zero, List.set_cons_succ, i64_w, i32_w]
                    rfl
                  refine pure_ (i := 2) (N := some 38) (v := ?_) (a' := ?_) #[false, true, true, false, false, false, false, false, false, false, false, false] rfl rfl (any_of HT_.out (by kernel_rfl)) (fun _ _ _ h => h) (Or.inl ⟨by rfl, ?_⟩) ?_ ?_
                  rotate_left
                  · intro w'
                    go_simp
                    with_reducible rfl
                  rotate_left
                  · simp only [Act.put, List.setIfInBounds_toArray, List.set_cons_zero, List.set_cons_succ, i64_w, i32_w]
                    rfl
                  refine pure_ (i := 3) (N := some 39) (v := ?_) (a' := ?_) #[false, true, true, true, false, false, false, false, false, false, false, false] rfl rfl (any_of HT_.out (by kernel_rfl)) (fun _ _ _ h => h) (Or.inl ⟨by rfl, ?_⟩) ?_ ?_
                  rotate_left
                  · intro w'
                    go_simp
                    with_reducible rfl
                  rotate_left
                  · simp only [Act.put, List.setIfInBounds_toArray, List.set_cons_zero, List.set_cons_succ, i64_w, i32_w]
                    rfl
                  refine take_ (i := 0) (N := some 36) (v := ?_) (a' := ?_) #[true, true, true, true, false, false, false, false, false, false, false, false] rfl rfl (take_ofW HT_.out HW_.out (by kernel_rfl)) (fun _ _ _ h => h) (Or.inl ⟨by rfl, ?_⟩) hHeld ?_ ?_
                  rotate_left
                  · rintro w' ⟨s0, s1, s2, s3, s4, s5, s6, s7, s8, s9⟩
                    go_simp
                    with_reducible rfl
                  rotate_left
                  · simp only [Act.put, List.setIfInBounds_toArray, List.set_cons_zero, List.set_cons_succ, i64_w, i32_w]
                    rfl
                  refine take_ (i := 4) (N := some 40) (v := ?_) (a' := ?_) #[true, true, true, true, true, false, false, false, false, false, false, false] rfl rfl (take_ofW HT_.out HW_.out (by kernel_rfl)) (fun _ _ _ h => h) (Or.inl ⟨by rfl, ?_⟩) hHeld ?_ ?_
                  rotate_left
                  · rintro w' ⟨s0, s1, s2, s3, s4, s5, s6, s7, s8, s9⟩
                    go_simp
                    with_reducible rfl
                  rotate_left
                  · simp only [Act.put, List.setIfInBounds_toArray, List.set_cons_zero, List.set_cons_succ, i64_w, i32_w]
                    rfl
                  refine join_ (σ := Nat) 2 #[true, true, true, true, true, true, true, true, true, true, false, false] (fun s_ => [(41, .tuple #[.agg #[.string t196, .int .i64 t197, .int .i64 t198, .int .i64 t199, .int .i64 t200, .int .i64 t201, .int .i64 t202], .int .i64 t203]), (8, .pointer (some ⟨s_, 0, none⟩)), (35, .tuple #[.agg #[.string t196, .int .i64 t197, .int .i64 t198, .int .i64 t199, .int .i64 t200, .int .i64 t201, .int .i64 t202], .int .i64 t203]), (42, .agg #[.string t196, .int .i64 t197, .int .i64 t198, .int .i64 t199, .int .i64 t200, .int .i64 t201, .int .i64 t202]), (43, .int .i64 t203)]) (fun s_ w' => (w'.cell? ⟨gb193, 0, none⟩ = some (.string x194000_2) ∧ w'.cell? ⟨gb193, 1, none⟩ = some (.int .i64 x194001_2) ∧ w'.cell? ⟨gb193, 2, none⟩ = some (.int .i64 x194002_2) ∧ w'.cell? ⟨gb193, 3, none⟩ = some (.int .i64 x194003_2) ∧ w'.cell? ⟨gb193, 4, none⟩ = some (.int .i64 x194004_2) ∧ w'.cell? ⟨gb193, 5, none⟩ = some (.int .i64 x194005_2) ∧ w'.cell? ⟨gb193, 6, none⟩ = some (.int .i64 x194006_2) ∧ w'.cell? (ad195.add ((x7_2).toNat * 3)) = some (.int .i64 ((rd_T23 l1 x7_2).f0)) ∧ w'.cell? ⟨(ad195.add ((x7_2).toNat * 3)).block, (ad195.add ((x7_2).toNat * 3)).off + 1, none⟩ = some (.string ((rd_T23 l1 x7_2).f1)) ∧ w'.cell? ⟨(ad195.add ((x7_2).toNat * 3)).block, (ad195.add ((x7_2).toNat * 3)).off + 2, none⟩ = some (.int .i64 ((rd_T23 l1 x7_2).f2))) ∧ (w'.heap[gb190]? = some (.cells #[.string a0_0, .int .i64 a0_1, .int .i64 a0_2, .int .i64 a0_3, .int .i64 a0_4, .int .i64 a0_5, .int .i64 a0_6] 27 (0, 0))) ∧ (w'.heap[gb193]? = some (.cells #[.string x194000_2, .int .i64 x194001_2, .int .i64 x194002_2, .int .i64 x194003_2, .int .i64 x194004_2, .int .i64 x194005_2, .int .i64 x194006_2] 27 (0, 0))) ∧ (w'.heap[s_]? = some (.cells #[.string (⟨#[]⟩ : ByteArray), .int .i64 0, .int .i64 0, .int .i64 0, .int .i64 0, .int .i64 0, .int .i64 0] 27 (0, 0))) ∧ (w.heap.size ≤ s_) ∧ (w.heap.size ≤ s_) ∧ (gb190 ≠ s_) ∧ (s_ ≠ gb190) ∧ (gb193 ≠ s_) ∧ (s_ ≠ gb193) ∧ (Below w.heap.size w w')) ?_ ?_
                  rotate_left
                  · intro hCont
                    refine two_ (i := 5) (j := 9) (Ni := some 41) (Nj := some 8) #[true, true, true, true, true, true, false, false, false, false, false, false] #[true, true, true, true, true, false, false, false, false, true, false, false] rfl rfl rfl rfl (two_of HT_.out (by kernel_rfl)) (by decide) (by decide) (fun K hK => ?_) (fun K hK => ?_)
                    · skip
                      refine goes_ Try.func16 (by kernel_rfl) rfl #[.agg #[.string x194000_2, .int .i64 x194001_2, .int .i64 x194002_2, .int .i64 x194003_2, .int .i64 x194004_2, .int .i64 x194005_2, .int .i64 x194006_2], .agg #[.int .i64 ((rd_T23 l1 x7_2).f0), .string ((rd_T23 l1 x7_2).f1), .int .i64 ((rd_T23 l1 x7_2).f2)]] (by rfl) rfl rfl (by (try simp only [List.map_toArray, List.map_cons, List.map_nil]); first | done | rfl | (simp only [List.length_drop, List.length_take]; rfl)) ?_
                      with_reducible refine (act_Do.calls k2 x194000_2 x194001_2 x194002_2 x194003_2 x194004_2 x194005_2 x194006_2 ((rd_T23 l1 x7_2).f0) ((rd_T23 l1 x7_2).f1) ((rd_T23 l1 x7_2).f2) t196 t197 t198 t199 t200 t201 t202 t203 _ A19.out).mono ?_
                      rintro e w57 ⟨rfl, hb⟩
                      refine ⟨_, rfl, ?_⟩
                      have n0_ := Aside0.mk (blk_below (g := gb190) (o := .cells #[.string a0_0, .int .i64 a0_1, .int .i64 a0_2, .int .i64 a0_3, .int .i64 a0_4, .int .i64 a0_5, .int .i64 a0_6] 27 (0, 0)) (by (with_reducible repeat (first | refine blk_drewN ?_ _ | refine blk_drew ?_ | refine blk_alloc ?_ _)); exact BK190.out) hb)
                      have n1_ := Aside0.mk (blk_below (g := gb193) (o := .cells #[.string x194000_2, .int .i64 x194001_2, .int .i64 x194002_2, .int .i64 x194003_2, .int .i64 x194004_2, .int .i64 x194005_2, .int .i64 x194006_2] 27 (0, 0)) (by (with_reducible repeat (first | refine blk_drewN ?_ _ | refine blk_drew ?_ | refine blk_alloc ?_ _)); exact BK193.out) hb)
                      have n2_ := Aside0.mk (below_step (by repeat (first | (with_reducible first | exact HB.out | apply below_alloc | apply pw_below_drewN | apply below_drew1 | refine below_set ?_ GE190.out | refine below_set ?_ GE193.out) | exact HB.out)) hb)
                      clear BK190
                      clear BK193
                      clear HB
                      have BK190 := n0_
                      have BK193 := n1_
                      have HB := n2_
                      clear n0_ n1_ n2_
                      (try clear hb)
                      (try clear hb2)
                      (try clear hk)
                      (try clear hi)
                      refine hK.out _ _ ⟨(blk_cell BK193.out 0).trans rfl, (blk_cell BK193.out 1).trans rfl, (blk_cell BK193.out 2).trans rfl, (blk_cell BK193.out 3).trans rfl, (blk_cell BK193.out 4).trans rfl, (blk_cell BK193.out 5).trans rfl, (blk_cell BK193.out 6).trans rfl, ((HB.out.cell (World.block_lt_of_cell? w _ hw195_0)).trans hw195_0), ((HB.out.cell (World.block_lt_of_cell? w _ hw195_1)).trans hw195_1), ((HB.out.cell (World.block_lt_of_cell? w _ hw195_2)).trans hw195_2)⟩ (fun hHeld => ?_)
                      clear hK K
                      refine norm_ (a' := ?_) ?_ ?_
                      rotate_left
                      · show Act.put _ (some 41) _ = _
                        simp only [Act.put, List.setIfInBounds_toArray, List.set_cons_zero, List.set_cons_succ, i64_w, i32_w]
                        rfl
                      refine pure_ (i := 6) (N := some 35) (v := ?_) (a' := ?_) #[true, true, true, true, true, true, true, false, false, false, false, false] rfl rfl (any_of HT_.out (by kernel_rfl)) (fun _ _ _ h => h) (Or.inl ⟨by rfl, ?_⟩) ?_ ?_
                      rotate_left
                      · intro w'
                        go_simp
                        with_reducible rfl
                      rotate_left
                      · simp only [Act.put, List.setIfInBounds_toArray, List.set_cons_zero, List.set_cons_succ, i64_w, i32_w]
                        rfl
                      refine pure_ (i := 7) (N := some 42) (v := ?_) (a' := ?_) #[true, true, true, true, true, true, true, true, false, false, false, false] rfl rfl (any_of HT_.out (by kernel_rfl)) (fun _ _ _ h => h) (Or.inl ⟨by rfl, ?_⟩) ?_ ?_
                      rotate_left
                      · intro w'
                        go_simp
                        with_reducible rfl
                      rotate_left
                      · simp only [Act.put, List.setIfInBounds_toArray, List.set_cons_zero, List.set_cons_succ, i64_w, i32_w]
                        rfl
                      refine pure_ (i := 8) (N := some 43) (v := ?_) (a' := ?_) #[true, true, true, true, true, true, true, true, true, false, false, false] rfl rfl (any_of HT_.out (by kernel_rfl)) (fun _ _ _ h => h) (Or.inl ⟨by rfl, ?_⟩) ?_ ?_
                      rotate_left
                      · intro w'
                        go_simp
                        with_reducible rfl
                      rotate_left
                      · simp only [Act.put, List.setIfInBounds_toArray, List.set_cons_zero, List.set_cons_succ, i64_w, i32_w]
                        rfl
                      refine one_ (i := 9) (N := some 8) #[true, true, true, true, true, true, true, true, true, true, false, false] rfl rfl (one_of HT_.out (by kernel_rfl)) (by decide) (fun K hK => ?_)
                      refine box_step ?hg (N := 8) ?hd (cs := #[.string (⟨#[]⟩ : ByteArray), .int .i64 0, .int .i64 0, .int .i64 0, .int .i64 0, .int .i64 0, .int .i64 0]) (t := 27) ?hr ?_; (case hd => rfl); (case hg => rfl); (case hr => first | (go_simp; done) | (go_simp; rfl))
                      intro gb204 hg w58 hbox hb
                      have n0_ := Aside0.mk (blk_below (g := gb190) (o := .cells #[.string a0_0, .int .i64 a0_1, .int .i64 a0_2, .int .i64 a0_3, .int .i64 a0_4, .int .i64 a0_5, .int .i64 a0_6] 27 (0, 0)) (by (with_reducible repeat (first | refine blk_drewN ?_ _ | refine blk_drew ?_ | refine blk_alloc ?_ _)); exact BK190.out) hb)
                      have n1_ := Aside0.mk (blk_below (g := gb193) (o := .cells #[.string x194000_2, .int .i64 x194001_2, .int .i64 x194002_2, .int .i64 x194003_2, .int .i64 x194004_2, .int .i64 x194005_2, .int .i64 x194006_2] 27 (0, 0)) (by (with_reducible repeat (first | refine blk_drewN ?_ _ | refine blk_drew ?_ | refine blk_alloc ?_ _)); exact BK193.out) hb)
                      have n2_ := Aside0.mk (below_step (by repeat (first | (with_reducible first | exact HB.out | apply below_alloc | apply pw_below_drewN | apply below_drew1 | refine below_set ?_ GE190.out | refine below_set ?_ GE193.out) | exact HB.out)) hb)
                      have n3_ := Aside0.mk (hbox)
                      have n4_ := Aside0.mk ((by rw [hg]; exact (below_size (by repeat (first | (with_reducible first | exact HB.out | apply below_alloc | apply pw_below_drewN | apply below_drew1 | refine below_set ?_ GE190.out | refine below_set ?_ GE193.out) | exact HB.out))) : w.heap.size ≤ gb204))
                      have n5_ := Aside0.mk ((by rw [hg]; exact (below_size (by repeat (first | (with_reducible first | exact HB.out | apply below_alloc | apply pw_below_drewN | apply below_drew1 | refine below_set ?_ GE190.out | refine below_set ?_ GE193.out) | exact HB.out))) : w.heap.size ≤ gb204))
                      have n6_ := Aside0.mk ((by rw [hg]; exact Nat.ne_of_lt (blk_lt (g := gb190) (o := .cells #[.string a0_0, .int .i64 a0_1, .int .i64 a0_2, .int .i64 a0_3, .int .i64 a0_4, .int .i64 a0_5, .int .i64 a0_6] 27 (0, 0)) (by (with_reducible repeat (first | refine blk_drewN ?_ _ | refine blk_drew ?_ | refine blk_alloc ?_ _)); exact BK190.out)) : gb190 ≠ gb204))
                      have n7_ := Aside0.mk ((by rw [hg]; exact Nat.ne_of_gt (blk_lt (g := gb190) (o := .cells #[.string a0_0, .int .i64 a0_1, .int .i64 a0_2, .int .i64 a0_3, .int .i64 a0_4, .int .i64 a0_5, .int .i64 a0_6] 27 (0, 0)) (by (with_reducible repeat (first | refine blk_drewN ?_ _ | refine blk_drew ?_ | refine blk_alloc ?_ _)); exact BK190.out)) : gb204 ≠ gb190))
                      have n8_ := Aside0.mk ((by rw [hg]; exact Nat.ne_of_lt (blk_lt (g := gb193) (o := .cells #[.string x194000_2, .int .i64 x194001_2, .int .i64 x194002_2, .int .i64 x194003_2, .int .i64 x194004_2, .int .i64 x194005_2, .int .i64 x194006_2] 27 (0, 0)) (by (with_reducible repeat (first | refine blk_drewN ?_ _ | refine blk_drew ?_ | refine blk_alloc ?_ _)); exact BK193.out)) : gb193 ≠ gb204))
                      have n9_ := Aside0.mk ((by rw [hg]; exact Nat.ne_of_gt (blk_lt (g := gb193) (o := .cells #[.string x194000_2, .int .i64 x194001_2, .int .i64 x194002_2, .int .i64 x194003_2, .int .i64 x194004_2, .int .i64 x194005_2, .int .i64 x194006_2] 27 (0, 0)) (by (with_reducible repeat (first | refine blk_drewN ?_ _ | refine blk_drew ?_ | refine blk_alloc ?_ _)); exact BK193.out)) : gb204 ≠ gb193))
                      clear BK190
                      clear BK193
                      clear HB
                      have BK190 := n0_
                      have BK193 := n1_
                      have HB := n2_
                      have BK204 := n3_
                      have GW204 := n4_
                      have GE204 := n5_
                      have NB190_204 := n6_
                      have NB204_190 := n7_
                      have NB193_204 := n8_
                      have NB204_193 := n9_
                      clear n0_ n1_ n2_ n3_ n4_ n5_ n6_ n7_ n8_ n9_
                      clear hb hbox hg
                      refine hK.out _ _ ⟨(blk_cell BK193.out 0).trans rfl, (blk_cell BK193.out 1).trans rfl, (blk_cell BK193.out 2).trans rfl, (blk_cell BK193.out 3).trans rfl, (blk_cell BK193.out 4).trans rfl, (blk_cell BK193.out 5).trans rfl, (blk_cell BK193.out 6).trans rfl, ((HB.out.cell (World.block_lt_of_cell? w _ hw195_0)).trans hw195_0), ((HB.out.cell (World.block_lt_of_cell? w _ hw195_1)).trans hw195_1), ((HB.out.cell (World.block_lt_of_cell? w _ hw195_2)).trans hw195_2)⟩ (fun hHeld => ?_)
                      clear hK K
                      refine norm_ (a' := ?_) ?_ ?_
                      rotate_left
                      · show Act.put _ (some 8) _ = _
                        simp only [Act.put, List.setIfInBounds_toArray, List.set_cons_zero, List.set_cons_succ, i64_w, i32_w]
                        rfl
                      exact norm_ (by simp only [putAll, Act.put, List.setIfInBounds_toArray, List.set_cons_zero, List.set_cons_succ]) (hCont (gb204) _ ⟨hHeld, (by (with_reducible repeat (first | refine blk_drewN ?_ _ | refine blk_drew ?_ | refine blk_alloc ?_ _)); exact BK190.out), (by (with_reducible repeat (first | refine blk_drewN ?_ _ | refine blk_drew ?_ | refine blk_alloc ?_ _)); exact BK193.out), (by (with_reducible repeat (first | refine blk_drewN ?_ _ | refine blk_drew ?_ | refine blk_alloc ?_ _)); exact BK204.out), GW204.out, GE204.out, NB190_204.out, NB204_190.out, NB193_204.out, NB204_193.out, (by repeat (first | (with_reducible first | exact HB.out | apply below_alloc | apply pw_below_drewN | apply below_drew1 | refine below_set ?_ GE190.out | refine below_set ?_ GE193.out | refine below_set ?_ GE204.out) | exact HB.out))⟩)
                    · skip
                      refine box_step ?hg (N := 8) ?hd (cs := #[.string (⟨#[]⟩ : ByteArray), .int .i64 0, .int .i64 0, .int .i64 0, .int .i64 0, .int .i64 0, .int .i64 0]) (t := 27) ?hr ?_; (case hd => rfl); (case hg => rfl); (case hr => first | (go_simp; done) | (go_simp; rfl))
                      intro gb204 hg w57 hbox hb
                      have n0_ := Aside0.mk (blk_below (g := gb190) (o := .cells #[.string a0_0, .int .i64 a0_1, .int .i64 a0_2, .int .i64 a0_3, .int .i64 a0_4, .int .i64 a0_5, .int .i64 a0_6] 27 (0, 0)) (by (with_reducible repeat (first | refine blk_drewN ?_ _ | refine blk_drew ?_ | refine blk_alloc ?_ _)); exact BK190.out) hb)
                      have n1_ := Aside0.mk (blk_below (g := gb193) (o := .cells #[.string x194000_2, .int .i64 x194001_2, .int .i64 x194002_2, .int .i64 x194003_2, .int .i64 x194004_2, .int .i64 x194005_2, .int .i64 x194006_2] 27 (0, 0)) (by (with_reducible repeat (first | refine blk_drewN ?_ _ | refine blk_drew ?_ | refine blk_alloc ?_ _)); exact BK193.out) hb)
                      have n2_ := Aside0.mk (below_step (by repeat (first | (with_reducible first | exact HB.out | apply below_alloc | apply pw_below_drewN | apply below_drew1 | refine below_set ?_ GE190.out | refine below_set ?_ GE193.out) | exact HB.out)) hb)
                      have n3_ := Aside0.mk (hbox)
                      have n4_ := Aside0.mk ((by rw [hg]; exact (below_size (by repeat (first | (with_reducible first | exact HB.out | apply below_alloc | apply pw_below_drewN | apply below_drew1 | refine below_set ?_ GE190.out | refine below_set ?_ GE193.out) | exact HB.out))) : w.heap.size ≤ gb204))
                      have n5_ := Aside0.mk ((by rw [hg]; exact (below_size (by repeat (first | (with_reducible first | exact HB.out | apply below_alloc | apply pw_below_drewN | apply below_drew1 | refine below_set ?_ GE190.out | refine below_set ?_ GE193.out) | exact HB.out))) : w.heap.size ≤ gb204))
                      have n6_ := Aside0.mk ((by rw [hg]; exact Nat.ne_of_lt (blk_lt (g := gb190) (o := .cells #[.string a0_0, .int .i64 a0_1, .int .i64 a0_2, .int .i64 a0_3, .int .i64 a0_4, .int .i64 a0_5, .int .i64 a0_6] 27 (0, 0)) (by (with_reducible repeat (first | refine blk_drewN ?_ _ | refine blk_drew ?_ | refine blk_alloc ?_ _)); exact BK190.out)) : gb190 ≠ gb204))
                      have n7_ := Aside0.mk ((by rw [hg]; exact Nat.ne_of_gt (blk_lt (g := gb190) (o := .cells #[.string a0_0, .int .i64 a0_1, .int .i64 a0_2, .int .i64 a0_3, .int .i64 a0_4, .int .i64 a0_5, .int .i64 a0_6] 27 (0, 0)) (by (with_reducible repeat (first | refine blk_drewN ?_ _ | refine blk_drew ?_ | refine blk_alloc ?_ _)); exact BK190.out)) : gb204 ≠ gb190))
                      have n8_ := Aside0.mk ((by rw [hg]; exact Nat.ne_of_lt (blk_lt (g := gb193) (o := .cells #[.string x194000_2, .int .i64 x194001_2, .int .i64 x194002_2, .int .i64 x194003_2, .int .i64 x194004_2, .int .i64 x194005_2, .int .i64 x194006_2] 27 (0, 0)) (by (with_reducible repeat (first | refine blk_drewN ?_ _ | refine blk_drew ?_ | refine blk_alloc ?_ _)); exact BK193.out)) : gb193 ≠ gb204))
                      have n9_ := Aside0.mk ((by rw [hg]; exact Nat.ne_of_gt (blk_lt (g := gb193) (o := .cells #[.string x194000_2, .int .i64 x194001_2, .int .i64 x194002_2, .int .i64 x194003_2, .int .i64 x194004_2, .int .i64 x194005_2, .int .i64 x194006_2] 27 (0, 0)) (by (with_reducible repeat (first | refine blk_drewN ?_ _ | refine blk_drew ?_ | refine blk_alloc ?_ _)); exact BK193.out)) : gb204 ≠ gb193))
                      clear BK190
                      clear BK193
                      clear HB
                      have BK190 := n0_
                      have BK193 := n1_
                      have HB := n2_
                      have BK204 := n3_
                      have GW204 := n4_
                      have GE204 := n5_
                      have NB190_204 := n6_
                      have NB204_190 := n7_
                      have NB193_204 := n8_
                      have NB204_193 := n9_
                      clear n0_ n1_ n2_ n3_ n4_ n5_ n6_ n7_ n8_ n9_
                      clear hb hbox hg
                      refine hK.out _ _ ⟨(blk_cell BK193.out 0).trans rfl, (blk_cell BK193.out 1).trans rfl, (blk_cell BK193.out 2).trans rfl, (blk_cell BK193.out 3).trans rfl, (blk_cell BK193.out 4).trans rfl, (blk_cell BK193.out 5).trans rfl, (blk_cell BK193.out 6).trans rfl, ((HB.out.cell (World.block_lt_of_cell? w _ hw195_0)).trans hw195_0), ((HB.out.cell (World.block_lt_of_cell? w _ hw195_1)).trans hw195_1), ((HB.out.cell (World.block_lt_of_cell? w _ hw195_2)).trans hw195_2)⟩ (fun hHeld => ?_)
                      clear hK K
                      refine norm_ (a' := ?_) ?_ ?_
                      rotate_left
                      · show Act.put _ (some 8) _ = _
                        simp only [Act.put, List.setIfInBounds_toArray, List.set_cons_zero, List.set_cons_succ, i64_w, i32_w]
                        rfl
                      refine one_ (i := 5) (N := some 41) #[true, true, true, true, true, true, false, false, false, true, false, false] rfl rfl (one_of HT_.out (by kernel_rfl)) (by decide) (fun K hK => ?_)
                      refine goes_ Try.func16 (by kernel_rfl) rfl #[.agg #[.string x194000_2, .int .i64 x194001_2, .int .i64 x194002_2, .int .i64 x194003_2, .int .i64 x194004_2, .int .i64 x194005_2, .int .i64 x194006_2], .agg #[.int .i64 ((rd_T23 l1 x7_2).f0), .string ((rd_T23 l1 x7_2).f1), .int .i64 ((rd_T23 l1 x7_2).f2)]] (by rfl) rfl rfl (by (try simp only [List.map_toArray, List.map_cons, List.map_nil]); first | done | rfl | (simp only [List.length_drop, List.length_take]; rfl)) ?_
                      with_reducible refine (act_Do.calls k2 x194000_2 x194001_2 x194002_2 x194003_2 x194004_2 x194005_2 x194006_2 ((rd_T23 l1 x7_2).f0) ((rd_T23 l1 x7_2).f1) ((rd_T23 l1 x7_2).f2) t196 t197 t198 t199 t200 t201 t202 t203 _ A19.out).mono ?_
                      rintro e w58 ⟨rfl, hb⟩
                      refine ⟨_, rfl, ?_⟩
                      have n0_ := Aside0.mk (blk_below (g := gb190) (o := .cells #[.string a0_0, .int .i64 a0_1, .int .i64 a0_2, .int .i64 a0_3, .int .i64 a0_4, .int .i64 a0_5, .int .i64 a0_6] 27 (0, 0)) (by (with_reducible repeat (first | refine blk_drewN ?_ _ | refine blk_drew ?_ | refine blk_alloc ?_ _)); exact BK190.out) hb)
                      have n1_ := Aside0.mk (blk_below (g := gb193) (o := .cells #[.string x194000_2, .int .i64 x194001_2, .int .i64 x194002_2, .int .i64 x194003_2, .int .i64 x194004_2, .int .i64 x194005_2, .int .i64 x194006_2] 27 (0, 0)) (by (with_reducible repeat (first | refine blk_drewN ?_ _ | refine blk_drew ?_ | refine blk_alloc ?_ _)); exact BK193.out) hb)
                      have n2_ := Aside0.mk (blk_below (g := gb204) (o := .cells #[.string (⟨#[]⟩ : ByteArray), .int .i64 0, .int .i64 0, .int .i64 0, .int .i64 0, .int .i64 0, .int .i64 0] 27 (0, 0)) (by (with_reducible repeat (first | refine blk_drewN ?_ _ | refine blk_drew ?_ | refine blk_alloc ?_ _)); exact BK204.out) hb)
                      have n3_ := Aside0.mk (below_step (by repeat (first | (with_reducible first | exact HB.out | apply below_alloc | apply pw_below_drewN | apply below_drew1 | refine below_set ?_ GE190.out | refine below_set ?_ GE193.out | refine below_set ?_ GE204.out) | exact HB.out)) hb)
                      clear BK190
                      clear BK193
                      clear BK204
                      clear HB
                      have BK190 := n0_
                      have BK193 := n1_
                      have BK204 := n2_
                      have HB := n3_
                      clear n0_ n1_ n2_ n3_
                      (try clear hb)
                      (try clear hb2)
                      (try clear hk)
                      (try clear hi)
                      refine hK.out _ _ ⟨(blk_cell BK193.out 0).trans rfl, (blk_cell BK193.out 1).trans rfl, (blk_cell BK193.out 2).trans rfl, (blk_cell BK193.out 3).trans rfl, (blk_cell BK193.out 4).trans rfl, (blk_cell BK193.out 5).trans rfl, (blk_cell BK193.out 6).trans rfl, ((HB.out.cell (World.block_lt_of_cell? w _ hw195_0)).trans hw195_0), ((HB.out.cell (World.block_lt_of_cell? w _ hw195_1)).trans hw195_1), ((HB.out.cell (World.block_lt_of_cell? w _ hw195_2)).trans hw195_2)⟩ (fun hHeld => ?_)
                      clear hK K
                      refine norm_ (a' := ?_) ?_ ?_
                      rotate_left
                      · show Act.put _ (some 41) _ = _
                        simp only [Act.put, List.setIfInBounds_toArray, List.set_cons_zero, List.set_cons_succ, i64_w, i32_w]
                        rfl
                      refine pure_ (i := 6) (N := some 35) (v := ?_) (a' := ?_) #[true, true, true, true, true, true, true, false, false, true, false, false] rfl rfl (any_of HT_.out (by kernel_rfl)) (fun _ _ _ h => h) (Or.inl ⟨by rfl, ?_⟩) ?_ ?_
                      rotate_left
                      · intro w'
                        go_simp
                        with_reducible rfl
                      rotate_left
                      · simp only [Act.put, List.setIfInBounds_toArray, List.set_cons_zero, List.set_cons_succ, i64_w, i32_w]
                        rfl
                      refine pure_ (i := 7) (N := some 42) (v := ?_) (a' := ?_) #[true, true, true, true, true, true, true, true, false, true, false, false] rfl rfl (any_of HT_.out (by kernel_rfl)) (fun _ _ _ h => h) (Or.inl ⟨by rfl, ?_⟩) ?_ ?_
                      rotate_left
                      · intro w'
                        go_simp
                        with_reducible rfl
                      rotate_left
                      · simp only [Act.put, List.setIfInBounds_toArray, List.set_cons_zero, List.set_cons_succ, i64_w, i32_w]
                        rfl
                      refine pure_ (i := 8) (N := some 43) (v := ?_) (a' := ?_) #[true, true, true, true, true, true, true, true, true, true, false, false] rfl rfl (any_of HT_.out (by kernel_rfl)) (fun _ _ _ h => h) (Or.inl ⟨by rfl, ?_⟩) ?_ ?_
                      rotate_left
                      · intro w'
                        go_simp
                        with_reducible rfl
                      rotate_left
                      · simp only [Act.put, List.setIfInBounds_toArray, List.set_cons_zero, List.set_cons_succ, i64_w, i32_w]
                        rfl
                      exact norm_ (by simp only [putAll, Act.put, List.setIfInBounds_toArray, List.set_cons_zero, List.set_cons_succ]) (hCont (gb204) _ ⟨hHeld, (by (with_reducible repeat (first | refine blk_drewN ?_ _ | refine blk_drew ?_ | refine blk_alloc ?_ _)); exact BK190.out), (by (with_reducible repeat (first | refine blk_drewN ?_ _ | refine blk_drew ?_ | refine blk_alloc ?_ _)); exact BK193.out), (by (with_reducible repeat (first | refine blk_drewN ?_ _ | refine blk_drew ?_ | refine blk_alloc ?_ _)); exact BK204.out), GW204.out, GE204.out, NB190_204.out, NB204_190.out, NB193_204.out, NB204_193.out, (by repeat (first | (with_reducible first | exact HB.out | apply below_alloc | apply pw_below_drewN | apply below_drew1 | refine below_set ?_ GE190.out | refine below_set ?_ GE193.out | refine below_set ?_ GE204.out) | exact HB.out))⟩)
                  rintro gb204 w59 ⟨hS_, h0_, h1_, h2_, h3_, h4_, h5_, h6_, h7_, h8_, h9_⟩
                  have n0_ : Aside0 (w59.heap[gb190]? = some (.cells #[.string a0_0, .int .i64 a0_1, .int .i64 a0_2, .int .i64 a0_3, .int .i64 a0_4, .int .i64 a0_5, .int .i64 a0_6] 27 (0, 0))) := ⟨h0_⟩
                  have n1_ : Aside0 (w59.heap[gb193]? = some (.cells #[.string x194000_2, .int .i64 x194001_2, .int .i64 x194002_2, .int .i64 x194003_2, .int .i64 x194004_2, .int .i64 x194005_2, .int .i64 x194006_2] 27 (0, 0))) := ⟨h1_⟩
                  have n2_ : Aside0 (w59.heap[gb204]? = some (.cells #[.string (⟨#[]⟩ : ByteArray), .int .i64 0, .int .i64 0, .int .i64 0, .int .i64 0, .int .i64 0, .int .i64 0] 27 (0, 0))) := ⟨h2_⟩
                  have n3_ : Aside0 (w.heap.size ≤ gb204) := ⟨h3_⟩
                  have n4_ : Aside0 (w.heap.size ≤ gb204) := ⟨h4_⟩
                  have n5_ : Aside0 (gb190 ≠ gb204) := ⟨h5_⟩
                  have n6_ : Aside0 (gb204 ≠ gb190) := ⟨h6_⟩
                  have n7_ : Aside0 (gb193 ≠ gb204) := ⟨h7_⟩
                  have n8_ : Aside0 (gb204 ≠ gb193) := ⟨h8_⟩
                  have n9_ : Aside0 (Below w.heap.size w w59) := ⟨h9_⟩
                  clear BK190
                  clear BK193
                  clear HB
                  clear h0_ h1_ h2_ h3_ h4_ h5_ h6_ h7_ h8_ h9_
                  have BK190 := n0_
                  have BK193 := n1_
                  have BK204 := n2_
                  have GW204 := n3_
                  have GE204 := n4_
                  have NB190_204 := n5_
                  have NB204_190 := n6_
                  have NB193_204 := n7_
                  have NB204_193 := n8_
                  have HB := n9_
                  clear n0_ n1_ n2_ n3_ n4_ n5_ n6_ n7_ n8_ n9_
                  have hHeld : w59.cell? ⟨gb193, 0, none⟩ = some (.string x194000_2) ∧ w59.cell? ⟨gb193, 1, none⟩ = some (.int .i64 x194001_2) ∧ w59.cell? ⟨gb193, 2, none⟩ = some (.int .i64 x194002_2) ∧ w59.cell? ⟨gb193, 3, none⟩ = some (.int .i64 x194003_2) ∧ w59.cell? ⟨gb193, 4, none⟩ = some (.int .i64 x194004_2) ∧ w59.cell? ⟨gb193, 5, none⟩ = some (.int .i64 x194005_2) ∧ w59.cell? ⟨gb193, 6, none⟩ = some (.int .i64 x194006_2) ∧ w59.cell? (ad195.add ((x7_2).toNat * 3)) = some (.int .i64 ((rd_T23 l1 x7_2).f0)) ∧ w59.cell? ⟨(ad195.add ((x7_2).toNat * 3)).block, (ad195.add ((x7_2).toNat * 3)).off + 1, none⟩ = some (.string ((rd_T23 l1 x7_2).f1)) ∧ w59.cell? ⟨(ad195.add ((x7_2).toNat * 3)).block, (ad195.add ((x7_2).toNat * 3)).off + 2, none⟩ = some (.int .i64 ((rd_T23 l1 x7_2).f2)) := hS_
                  refine norm_ (a' := ?_) ?_ ?_
                  rotate_left
                  · simp only [putAll, Act.put, List.setIfInBounds_toArray, List.set_cons_zero, List.set_cons_succ]
                    rfl
                  refine one_ (i := 10) (N := none) #[true, true, true, true, true, true, true, true, true, true, true, false] rfl rfl (one_of HT_.out (by kernel_rfl)) (by decide) (fun K hK => ?_)
                  have hs60 : w59.cell? ⟨gb204, 0, none⟩ = some (.string (⟨#[]⟩ : ByteArray)) := (blk_cell BK204.out 0).trans rfl
                  have hfs60 := blk_frozen BK204.out 0
                  have hns60_0 := NB190_204.out
                  have hns60_1 := NB193_204.out
                  have hms60_0 := NB204_190.out
                  have hms60_1 := NB204_193.out
                  have hs61 : w59.cell? ⟨gb204, 1, none⟩ = some (.int .i64 0) := (blk_cell BK204.out 1).trans rfl
                  have hfs61 := blk_frozen BK204.out 1
                  have hns61_0 := NB190_204.out
                  have hns61_1 := NB193_204.out
                  have hms61_0 := NB204_190.out
                  have hms61_1 := NB204_193.out
                  have hs62 : w59.cell? ⟨gb204, 2, none⟩ = some (.int .i64 0) := (blk_cell BK204.out 2).trans rfl
                  have hfs62 := blk_frozen BK204.out 2
                  have hns62_0 := NB190_204.out
                  have hns62_1 := NB193_204.out
                  have hms62_0 := NB204_190.out
                  have hms62_1 := NB204_193.out
                  have hs63 : w59.cell? ⟨gb204, 3, none⟩ = some (.int .i64 0) := (blk_cell BK204.out 3).trans rfl
                  have hfs63 := blk_frozen BK204.out 3
                  have hns63_0 := NB190_204.out
                  have hns63_1 := NB193_204.out
                  have hms63_0 := NB204_190.out
                  have hms63_1 := NB204_193.out
                  have hs64 : w59.cell? ⟨gb204, 4, none⟩ = some (.int .i64 0) := (blk_cell BK204.out 4).trans rfl
                  have hfs64 := blk_frozen BK204.out 4
                  have hns64_0 := NB190_204.out
                  have hns64_1 := NB193_204.out
                  have hms64_0 := NB204_190.out
                  have hms64_1 := NB204_193.out
                  have hs65 : w59.cell? ⟨gb204, 5, none⟩ = some (.int .i64 0) := (blk_cell BK204.out 5).trans rfl
                  have hfs65 := blk_frozen BK204.out 5
                  have hns65_0 := NB190_204.out
                  have hns65_1 := NB193_204.out
                  have hms65_0 := NB204_190.out
                  have hms65_1 := NB204_193.out
                  have hs66 : w59.cell? ⟨gb204, 6, none⟩ = some (.int .i64 0) := (blk_cell BK204.out 6).trans rfl
                  have hfs66 := blk_frozen BK204.out 6
                  have hns66_0 := NB190_204.out
                  have hns66_1 := NB193_204.out
                  have hms66_0 := NB204_190.out
                  have hms66_1 := NB204_193.out
                  refine skip_ (w1 := ?_) (by rfl) rfl ?_ ?_
                  rotate_left
                  · go_simp
                    rfl
                  refine hK.out _ _ ⟨((cell_far (p := ⟨gb204, _, none⟩) NB193_204.out _).trans (((cell_far (p := ⟨gb204, _, none⟩) NB193_204.out _).trans (((cell_far (p := ⟨gb204, _, none⟩) NB193_204.out _).trans (((cell_far (p := ⟨gb204, _, none⟩) NB193_204.out _).trans (((cell_far (p := ⟨gb204, _, none⟩) NB193_204.out _).trans (((cell_far (p := ⟨gb204, _, none⟩) NB193_204.out _).trans (((cell_far (p := ⟨gb204, _, none⟩) NB193_204.out _).trans (hHeld.1)))))))))))))), ((cell_far (p := ⟨gb204, _, none⟩) NB193_204.out _).trans (((cell_far (p := ⟨gb204, _, none⟩) NB193_204.out _).trans (((cell_far (p := ⟨gb204, _, none⟩) NB193_204.out _).trans (((cell_far (p := ⟨gb204, _, none⟩) NB193_204.out _).trans (((cell_far (p := ⟨gb204, _, none⟩) NB193_204.out _).trans (((cell_far (p := ⟨gb204, _, none⟩) NB193_204.out _).trans (((cell_far (p := ⟨gb204, _, none⟩) NB193_204.out _).trans (hHeld.2.1)))))))))))))), ((cell_far (p := ⟨gb204, _, none⟩) NB193_204.out _).trans (((cell_far (p := ⟨gb204, _, none⟩) NB193_204.out _).trans (((cell_far (p := ⟨gb204, _, none⟩) NB193_204.out _).trans (((cell_far (p := ⟨gb204, _, none⟩) NB193_204.out _).trans (((cell_far (p := ⟨gb204, _, none⟩) NB193_204.out _).trans (((cell_far (p := ⟨gb204, _, none⟩) NB193_204.out _).trans (((cell_far (p := ⟨gb204, _, none⟩) NB193_204.out _).trans (hHeld.2.2.1)))))))))))))), ((cell_far (p := ⟨gb204, _, none⟩) NB193_204.out _).trans (((cell_far (p := ⟨gb204, _, none⟩) NB193_204.out _).trans (((cell_far (p := ⟨gb204, _, none⟩) NB193_204.out _).trans (((cell_far (p := ⟨gb204, _, none⟩) NB193_204.out _).trans (((cell_far (p := ⟨gb204, _, none⟩) NB193_204.out _).trans (((cell_far (p := ⟨gb204, _, none⟩) NB193_204.out _).trans (((cell_far (p := ⟨gb204, _, none⟩) NB193_204.out _).trans (hHeld.2.2.2.1)))))))))))))), ((cell_far (p := ⟨gb204, _, none⟩) NB193_204.out _).trans (((cell_far (p := ⟨gb204, _, none⟩) NB193_204.out _).trans (((cell_far (p := ⟨gb204, _, none⟩) NB193_204.out _).trans (((cell_far (p := ⟨gb204, _, none⟩) NB193_204.out _).trans (((cell_far (p := ⟨gb204, _, none⟩) NB193_204.out _).trans (((cell_far (p := ⟨gb204, _, none⟩) NB193_204.out _).trans (((cell_far (p := ⟨gb204, _, none⟩) NB193_204.out _).trans (hHeld.2.2.2.2.1)))))))))))))), ((cell_far (p := ⟨gb204, _, none⟩) NB193_204.out _).trans (((cell_far (p := ⟨gb204, _, none⟩) NB193_204.out _).trans (((cell_far (p := ⟨gb204, _, none⟩) NB193_204.out _).trans (((cell_far (p := ⟨gb204, _, none⟩) NB193_204.out _).trans (((cell_far (p := ⟨gb204, _, none⟩) NB193_204.out _).trans (((cell_far (p := ⟨gb204, _, none⟩) NB193_204.out _).trans (((cell_far (p := ⟨gb204, _, none⟩) NB193_204.out _).trans (hHeld.2.2.2.2.2.1)))))))))))))), ((cell_far (p := ⟨gb204, _, none⟩) NB193_204.out _).trans (((cell_far (p := ⟨gb204, _, none⟩) NB193_204.out _).trans (((cell_far (p := ⟨gb204, _, none⟩) NB193_204.out _).trans (((cell_far (p := ⟨gb204, _, none⟩) NB193_204.out _).trans (((cell_far (p := ⟨gb204, _, none⟩) NB193_204.out _).trans (((cell_far (p := ⟨gb204, _, none⟩) NB193_204.out _).trans (((cell_far (p := ⟨gb204, _, none⟩) NB193_204.out _).trans (hHeld.2.2.2.2.2.2.1)))))))))))))), ((cell_far (p := ⟨gb204, _, none⟩) (by first | exact Nat.ne_of_lt (Nat.lt_of_lt_of_le (by have := World.block_lt_of_cell? _ _ hw195_0; first | rwa [add_block] at this | exact this) GW204.out) | (rw [add_block]; exact Nat.ne_of_lt (Nat.lt_of_lt_of_le (by have := World.block_lt_of_cell? _ _ hw195_0; first | rwa [add_block] at this | exact this) GW204.out)) | (show (Addr.add _ _).block ≠ _; rw [add_block]; exact Nat.ne_of_lt (Nat.lt_of_lt_of_le (by have := World.block_lt_of_cell? _ _ hw195_0; first | rwa [add_block] at this | exact this) GW204.out)) | (dsimp only; exact Nat.ne_of_lt (Nat.lt_of_lt_of_le (by have := World.block_lt_of_cell? _ _ hw195_0; first | rwa [add_block] at this | exact this) GW204.out))) _).trans (((cell_far (p := ⟨gb204, _, none⟩) (by first | exact Nat.ne_of_lt (Nat.lt_of_lt_of_le (by have := World.block_lt_of_cell? _ _ hw195_0; first | rwa [add_block] at this | exact this) GW204.out) | (rw [add_block]; exact Nat.ne_of_lt (Nat.lt_of_lt_of_le (by have := World.block_lt_of_cell? _ _ hw195_0; first | rwa [add_block] at this | exact this) GW204.out)) | (show (Addr.add _ _).block ≠ _; rw [add_block]; exact Nat.ne_of_lt (Nat.lt_of_lt_of_le (by have := World.block_lt_of_cell? _ _ hw195_0; first | rwa [add_block] at this | exact this) GW204.out)) | (dsimp only; exact Nat.ne_of_lt (Nat.lt_of_lt_of_le (by have := World.block_lt_of_cell? _ _ hw195_0; first | rwa [add_block] at this | exact this) GW204.out))) _).trans (((cell_far (p := ⟨gb204, _, none⟩) (by first | exact Nat.ne_of_lt (Nat.lt_of_lt_of_le (by have := World.block_lt_of_cell? _ _ hw195_0; first | rwa [add_block] at this | exact this) GW204.out) | (rw [add_block]; exact Nat.ne_of_lt (Nat.lt_of_lt_of_le (by have := World.block_lt_of_cell? _ _ hw195_0; first | rwa [add_block] at this | exact this) GW204.out)) | (show (Addr.add _ _).block ≠ _; rw [add_block]; exact Nat.ne_of_lt (Nat.lt_of_lt_of_le (by have := World.block_lt_of_cell? _ _ hw195_0; first | rwa [add_block] at this | exact this) GW204.out)) | (dsimp only; exact Nat.ne_of_lt (Nat.lt_of_lt_of_le (by have := World.block_lt_of_cell? _ _ hw195_0; first | rwa [add_block] at this | exact this) GW204.out))) _).trans (((cell_far (p := ⟨gb204, _, none⟩) (by first | exact Nat.ne_of_lt (Nat.lt_of_lt_of_le (by have := World.block_lt_of_cell? _ _ hw195_0; first | rwa [add_block] at this | exact this) GW204.out) | (rw [add_block]; exact Nat.ne_of_lt (Nat.lt_of_lt_of_le (by have := World.block_lt_of_cell? _ _ hw195_0; first | rwa [add_block] at this | exact this) GW204.out)) | (show (Addr.add _ _).block ≠ _; rw [add_block]; exact Nat.ne_of_lt (Nat.lt_of_lt_of_le (by have := World.block_lt_of_cell? _ _ hw195_0; first | rwa [add_block] at this | exact this) GW204.out)) | (dsimp only; exact Nat.ne_of_lt (Nat.lt_of_lt_of_le (by have := World.block_lt_of_cell? _ _ hw195_0; first | rwa [add_block] at this | exact this) GW204.out))) _).trans (((cell_far (p := ⟨gb204, _, none⟩) (by first | exact Nat.ne_of_lt (Nat.lt_of_lt_of_le (by have := World.block_lt_of_cell? _ _ hw195_0; first | rwa [add_block] at this | exact this) GW204.out) | (rw [add_block]; exact Nat.ne_of_lt (Nat.lt_of_lt_of_le (by have := World.block_lt_of_cell? _ _ hw195_0; first | rwa [add_block] at this | exact this) GW204.out)) | (show (Addr.add _ _).block ≠ _; rw [add_block]; exact Nat.ne_of_lt (Nat.lt_of_lt_of_le (by have := World.block_lt_of_cell? _ _ hw195_0; first | rwa [add_block] at this | exact this) GW204.out)) | (dsimp only; exact Nat.ne_of_lt (Nat.lt_of_lt_of_le (by have := World.block_lt_of_cell? _ _ hw195_0; first | rwa [add_block] at this | exact this) GW204.out))) _).trans (((cell_far (p := ⟨gb204, _, none⟩) (by first | exact Nat.ne_of_lt (Nat.lt_of_lt_of_le (by have := World.block_lt_of_cell? _ _ hw195_0; first | rwa [add_block] at this | exact this) GW204.out) | (rw [add_block]; exact Nat.ne_of_lt (Nat.lt_of_lt_of_le (by have := World.block_lt_of_cell? _ _ hw195_0; first | rwa [add_block] at this | exact this) GW204.out)) | (show (Addr.add _ _).block ≠ _; rw [add_block]; exact Nat.ne_of_lt (Nat.lt_of_lt_of_le (by have := World.block_lt_of_cell? _ _ hw195_0; first | rwa [add_block] at this | exact this) GW204.out)) | (dsimp only; exact Nat.ne_of_lt (Nat.lt_of_lt_of_le (by have := World.block_lt_of_cell? _ _ hw195_0; first | rwa [add_block] at this | exact this) GW204.out))) _).trans (((cell_far (p := ⟨gb204, _, none⟩) (by first | exact Nat.ne_of_lt (Nat.lt_of_lt_of_le (by have := World.block_lt_of_cell? _ _ hw195_0; first | rwa [add_block] at this | exact this) GW204.out) | (rw [add_block]; exact Nat.ne_of_lt (Nat.lt_of_lt_of_le (by have := World.block_lt_of_cell? _ _ hw195_0; first | rwa [add_block] at this | exact this) GW204.out)) | (show (Addr.add _ _).block ≠ _; rw [add_block]; exact Nat.ne_of_lt (Nat.lt_of_lt_of_le (by have := World.block_lt_of_cell? _ _ hw195_0; first | rwa [add_block] at this | exact this) GW204.out)) | (dsimp only; exact Nat.ne_of_lt (Nat.lt_of_lt_of_le (by have := World.block_lt_of_cell? _ _ hw195_0; first | rwa [add_block] at this | exact this) GW204.out))) _).trans (hHeld.2.2.2.2.2.2.2.1)))))))))))))), ((cell_far (p := ⟨gb204, _, none⟩) (by first | exact Nat.ne_of_lt (Nat.lt_of_lt_of_le (by have := World.block_lt_of_cell? _ _ hw195_1; first | rwa [add_block] at this | exact this) GW204.out) | (rw [add_block]; exact Nat.ne_of_lt (Nat.lt_of_lt_of_le (by have := World.block_lt_of_cell? _ _ hw195_1; first | rwa [add_block] at this | exact this) GW204.out)) | (show (Addr.add _ _).block ≠ _; rw [add_block]; exact Nat.ne_of_lt (Nat.lt_of_lt_of_le (by have := World.block_lt_of_cell? _ _ hw195_1; first | rwa [add_block] at this | exact this) GW204.out)) | (dsimp only; exact Nat.ne_of_lt (Nat.lt_of_lt_of_le (by have := World.block_lt_of_cell? _ _ hw195_1; first | rwa [add_block] at this | exact this) GW204.out))) _).trans (((cell_far (p := ⟨gb204, _, none⟩) (by first | exact Nat.ne_of_lt (Nat.lt_of_lt_of_le (by have := World.block_lt_of_cell? _ _ hw195_1; first | rwa [add_block] at this | exact this) GW204.out) | (rw [add_block]; exact Nat.ne_of_lt (Nat.lt_of_lt_of_le (by have := World.block_lt_of_cell? _ _ hw195_1; first | rwa [add_block] at this | exact this) GW204.out)) | (show (Addr.add _ _).block ≠ _; rw [add_block]; exact Nat.ne_of_lt (Nat.lt_of_lt_of_le (by have := World.block_lt_of_cell? _ _ hw195_1; first | rwa [add_block] at this | exact this) GW204.out)) | (dsimp only; exact Nat.ne_of_lt (Nat.lt_of_lt_of_le (by have := World.block_lt_of_cell? _ _ hw195_1; first | rwa [add_block] at this | exact this) GW204.out))) _).trans (((cell_far (p := ⟨gb204, _, none⟩) (by first | exact Nat.ne_of_lt (Nat.lt_of_lt_of_le (by have := World.block_lt_of_cell? _ _ hw195_1; first | rwa [add_block] at this | exact this) GW204.out) | (rw [add_block]; exact Nat.ne_of_lt (Nat.lt_of_lt_of_le (by have := World.block_lt_of_cell? _ _ hw195_1; first | rwa [add_block] at this | exact this) GW204.out)) | (show (Addr.add _ _).block ≠ _; rw [add_block]; exact Nat.ne_of_lt (Nat.lt_of_lt_of_le (by have := World.block_lt_of_cell? _ _ hw195_1; first | rwa [add_block] at this | exact this) GW204.out)) | (dsimp only; exact Nat.ne_of_lt (Nat.lt_of_lt_of_le (by have := World.block_lt_of_cell? _ _ hw195_1; first | rwa [add_block] at this | exact this) GW204.out))) _).trans (((cell_far (p := ⟨gb204, _, none⟩) (by first | exact Nat.ne_of_lt (Nat.lt_of_lt_of_le (by have := World.block_lt_of_cell? _ _ hw195_1; first | rwa [add_block] at this | exact this) GW204.out) | (rw [add_block]; exact Nat.ne_of_lt (Nat.lt_of_lt_of_le (by have := World.block_lt_of_cell? _ _ hw195_1; first | rwa [add_block] at this | exact this) GW204.out)) | (show (Addr.add _ _).block ≠ _; rw [add_block]; exact Nat.ne_of_lt (Nat.lt_of_lt_of_le (by have := World.block_lt_of_cell? _ _ hw195_1; first | rwa [add_block] at this | exact this) GW204.out)) | (dsimp only; exact Nat.ne_of_lt (Nat.lt_of_lt_of_le (by have := World.block_lt_of_cell? _ _ hw195_1; first | rwa [add_block] at this | exact this) GW204.out))) _).trans (((cell_far (p := ⟨gb204, _, none⟩) (by first | exact Nat.ne_of_lt (Nat.lt_of_lt_of_le (by have := World.block_lt_of_cell? _ _ hw195_1; first | rwa [add_block] at this | exact this) GW204.out) | (rw [add_block]; exact Nat.ne_of_lt (Nat.lt_of_lt_of_le (by have := World.block_lt_of_cell? _ _ hw195_1; first | rwa [add_block] at this | exact this) GW204.out)) | (show (Addr.add _ _).block ≠ _; rw [add_block]; exact Nat.ne_of_lt (Nat.lt_of_lt_of_le (by have := World.block_lt_of_cell? _ _ hw195_1; first | rwa [add_block] at this | exact this) GW204.out)) | (dsimp only; exact Nat.ne_of_lt (Nat.lt_of_lt_of_le (by have := World.block_lt_of_cell? _ _ hw195_1; first | rwa [add_block] at this | exact this) GW204.out))) _).trans (((cell_far (p := ⟨gb204, _, none⟩) (by first | exact Nat.ne_of_lt (Nat.lt_of_lt_of_le (by have := World.block_lt_of_cell? _ _ hw195_1; first | rwa [add_block] at this | exact this) GW204.out) | (rw [add_block]; exact Nat.ne_of_lt (Nat.lt_of_lt_of_le (by have := World.block_lt_of_cell? _ _ hw195_1; first | rwa [add_block] at this | exact this) GW204.out)) | (show (Addr.add _ _).block ≠ _; rw [add_block]; exact Nat.ne_of_lt (Nat.lt_of_lt_of_le (by have := World.block_lt_of_cell? _ _ hw195_1; first | rwa [add_block] at this | exact this) GW204.out)) | (dsimp only; exact Nat.ne_of_lt (Nat.lt_of_lt_of_le (by have := World.block_lt_of_cell? _ _ hw195_1; first | rwa [add_block] at this | exact this) GW204.out))) _).trans (((cell_far (p := ⟨gb204, _, none⟩) (by first | exact Nat.ne_of_lt (Nat.lt_of_lt_of_le (by have := World.block_lt_of_cell? _ _ hw195_1; first | rwa [add_block] at this | exact this) GW204.out) | (rw [add_block]; exact Nat.ne_of_lt (Nat.lt_of_lt_of_le (by have := World.block_lt_of_cell? _ _ hw195_1; first | rwa [add_block] at this | exact this) GW204.out)) | (show (Addr.add _ _).block ≠ _; rw [add_block]; exact Nat.ne_of_lt (Nat.lt_of_lt_of_le (by have := World.block_lt_of_cell? _ _ hw195_1; first | rwa [add_block] at this | exact this) GW204.out)) | (dsimp only; exact Nat.ne_of_lt (Nat.lt_of_lt_of_le (by have := World.block_lt_of_cell? _ _ hw195_1; first | rwa [add_block] at this | exact this) GW204.out))) _).trans (hHeld.2.2.2.2.2.2.2.2.1)))))))))))))), ((cell_far (p := ⟨gb204, _, none⟩) (by first | exact Nat.ne_of_lt (Nat.lt_of_lt_of_le (by have := World.block_lt_of_cell? _ _ hw195_2; first | rwa [add_block] at this | exact this) GW204.out) | (rw [add_block]; exact Nat.ne_of_lt (Nat.lt_of_lt_of_le (by have := World.block_lt_of_cell? _ _ hw195_2; first | rwa [add_block] at this | exact this) GW204.out)) | (show (Addr.add _ _).block ≠ _; rw [add_block]; exact Nat.ne_of_lt (Nat.lt_of_lt_of_le (by have := World.block_lt_of_cell? _ _ hw195_2; first | rwa [add_block] at this | exact this) GW204.out)) | (dsimp only; exact Nat.ne_of_lt (Nat.lt_of_lt_of_le (by have := World.block_lt_of_cell? _ _ hw195_2; first | rwa [add_block] at this | exact this) GW204.out))) _).trans (((cell_far (p := ⟨gb204, _, none⟩) (by first | exact Nat.ne_of_lt (Nat.lt_of_lt_of_le (by have := World.block_lt_of_cell? _ _ hw195_2; first | rwa [add_block] at this | exact this) GW204.out) | (rw [add_block]; exact Nat.ne_of_lt (Nat.lt_of_lt_of_le (by have := World.block_lt_of_cell? _ _ hw195_2; first | rwa [add_block] at this | exact this) GW204.out)) | (show (Addr.add _ _).block ≠ _; rw [add_block]; exact Nat.ne_of_lt (Nat.lt_of_lt_of_le (by have := World.block_lt_of_cell? _ _ hw195_2; first | rwa [add_block] at this | exact this) GW204.out)) | (dsimp only; exact Nat.ne_of_lt (Nat.lt_of_lt_of_le (by have := World.block_lt_of_cell? _ _ hw195_2; first | rwa [add_block] at this | exact this) GW204.out))) _).trans (((cell_far (p := ⟨gb204, _, none⟩) (by first | exact Nat.ne_of_lt (Nat.lt_of_lt_of_le (by have := World.block_lt_of_cell? _ _ hw195_2; first | rwa [add_block] at this | exact this) GW204.out) | (rw [add_block]; exact Nat.ne_of_lt (Nat.lt_of_lt_of_le (by have := World.block_lt_of_cell? _ _ hw195_2; first | rwa [add_block] at this | exact this) GW204.out)) | (show (Addr.add _ _).block ≠ _; rw [add_block]; exact Nat.ne_of_lt (Nat.lt_of_lt_of_le (by have := World.block_lt_of_cell? _ _ hw195_2; first | rwa [add_block] at this | exact this) GW204.out)) | (dsimp only; exact Nat.ne_of_lt (Nat.lt_of_lt_of_le (by have := World.block_lt_of_cell? _ _ hw195_2; first | rwa [add_block] at this | exact this) GW204.out))) _).trans (((cell_far (p := ⟨gb204, _, none⟩) (by first | exact Nat.ne_of_lt (Nat.lt_of_lt_of_le (by have := World.block_lt_of_cell? _ _ hw195_2; first | rwa [add_block] at this | exact this) GW204.out) | (rw [add_block]; exact Nat.ne_of_lt (Nat.lt_of_lt_of_le (by have := World.block_lt_of_cell? _ _ hw195_2; first | rwa [add_block] at this | exact this) GW204.out)) | (show (Addr.add _ _).block ≠ _; rw [add_block]; exact Nat.ne_of_lt (Nat.lt_of_lt_of_le (by have := World.block_lt_of_cell? _ _ hw195_2; first | rwa [add_block] at this | exact this) GW204.out)) | (dsimp only; exact Nat.ne_of_lt (Nat.lt_of_lt_of_le (by have := World.block_lt_of_cell? _ _ hw195_2; first | rwa [add_block] at this | exact this) GW204.out))) _).trans (((cell_far (p := ⟨gb204, _, none⟩) (by first | exact Nat.ne_of_lt (Nat.lt_of_lt_of_le (by have := World.block_lt_of_cell? _ _ hw195_2; first | rwa [add_block] at this | exact this) GW204.out) | (rw [add_block]; exact Nat.ne_of_lt (Nat.lt_of_lt_of_le (by have := World.block_lt_of_cell? _ _ hw195_2; first | rwa [add_block] at this | exact this) GW204.out)) | (show (Addr.add _ _).block ≠ _; rw [add_block]; exact Nat.ne_of_lt (Nat.lt_of_lt_of_le (by have := World.block_lt_of_cell? _ _ hw195_2; first | rwa [add_block] at this | exact this) GW204.out)) | (dsimp only; exact Nat.ne_of_lt (Nat.lt_of_lt_of_le (by have := World.block_lt_of_cell? _ _ hw195_2; first | rwa [add_block] at this | exact this) GW204.out))) _).trans (((cell_far (p := ⟨gb204, _, none⟩) (by first | exact Nat.ne_of_lt (Nat.lt_of_lt_of_le (by have := World.block_lt_of_cell? _ _ hw195_2; first | rwa [add_block] at this | exact this) GW204.out) | (rw [add_block]; exact Nat.ne_of_lt (Nat.lt_of_lt_of_le (by have := World.block_lt_of_cell? _ _ hw195_2; first | rwa [add_block] at this | exact this) GW204.out)) | (show (Addr.add _ _).block ≠ _; rw [add_block]; exact Nat.ne_of_lt (Nat.lt_of_lt_of_le (by have := World.block_lt_of_cell? _ _ hw195_2; first | rwa [add_block] at this | exact this) GW204.out)) | (dsimp only; exact Nat.ne_of_lt (Nat.lt_of_lt_of_le (by have := World.block_lt_of_cell? _ _ hw195_2; first | rwa [add_block] at this | exact this) GW204.out))) _).trans (((cell_far (p := ⟨gb204, _, none⟩) (by first | exact Nat.ne_of_lt (Nat.lt_of_lt_of_le (by have := World.block_lt_of_cell? _ _ hw195_2; first | rwa [add_block] at this | exact this) GW204.out) | (rw [add_block]; exact Nat.ne_of_lt (Nat.lt_of_lt_of_le (by have := World.block_lt_of_cell? _ _ hw195_2; first | rwa [add_block] at this | exact this) GW204.out)) | (show (Addr.add _ _).block ≠ _; rw [add_block]; exact Nat.ne_of_lt (Nat.lt_of_lt_of_le (by have := World.block_lt_of_cell? _ _ hw195_2; first | rwa [add_block] at this | exact this) GW204.out)) | (dsimp only; exact Nat.ne_of_lt (Nat.lt_of_lt_of_le (by have := World.block_lt_of_cell? _ _ hw195_2; first | rwa [add_block] at this | exact this) GW204.out))) _).trans (hHeld.2.2.2.2.2.2.2.2.2))))))))))))))⟩ (fun hHeld => ?_)
                  clear hK K
                  refine pure_ (i := 11) (N := some 9) (v := ?_) (a' := ?_) #[true, true, true, true, true, true, true, true, true, true, true, true] rfl rfl (any_of HT_.out (by kernel_rfl)) (fun _ _ _ h => h) (Or.inl ⟨by rfl, ?_⟩) ?_ ?_
                  rotate_left
                  · intro w'
                    go_simp
                    with_reducible rfl
                  rotate_left
                  · simp only [Act.put, List.setIfInBounds_toArray, List.set_cons_zero, List.set_cons_succ, i64_w, i32_w]
                    rfl
                  refine done_ (done_of HT_.out (by kernel_rfl)) ?_
                  try go_wp2
                  go_roundg k2
                  case measure => have := HJ2.out; have := HK2.out; omega
                  case rel => exact ⟨(x6_2), (wrap64 (x7_2 + 1)), (x194000_2), (x194001_2), (x194002_2), (x194003_2), (x194004_2), (x194005_2), (x194006_2), (by first | rfl | (simp; done) | (simp [*]; done)), (by first | rfl | (simp; done) | (simp [*]; done)), H', ⟨by have := HJ2.out; have := HK2.out; omega⟩, ⟨by (with_reducible repeat (first | refine blk_drewN ?_ _ | refine blk_drew ?_ | refine blk_alloc ?_ _)); refine blk_far ?_ NB190_204.out _; (with_reducible repeat (first | refine blk_drewN ?_ _ | refine blk_drew ?_ | refine blk_alloc ?_ _)); refine blk_far ?_ NB190_204.out _; (with_reducible repeat (first | refine blk_drewN ?_ _ | refine blk_drew ?_ | refine blk_alloc ?_ _)); refine blk_far ?_ NB190_204.out _; (with_reducible repeat (first | refine blk_drewN ?_ _ | refine blk_drew ?_ | refine blk_alloc ?_ _)); refine blk_far ?_ NB190_204.out _; (with_reducible repeat (first | refine blk_drewN ?_ _ | refine blk_drew ?_ | refine blk_alloc ?_ _)); refine blk_far ?_ NB190_204.out _; (with_reducible repeat (first | refine blk_drewN ?_ _ | refine blk_drew ?_ | refine blk_alloc ?_ _)); refine blk_far ?_ NB190_204.out _; (with_reducible repeat (first | refine blk_drewN ?_ _ | refine blk_drew ?_ | refine blk_alloc ?_ _)); refine blk_far ?_ NB190_204.out _; (with_reducible repeat (first | refine blk_drewN ?_ _ | refine blk_drew ?_ | refine blk_alloc ?_ _)); exact BK190.out⟩, ⟨by (with_reducible repeat (first | refine blk_drewN ?_ _ | refine blk_drew ?_ | refine blk_alloc ?_ _)); refine blk_far ?_ NB193_204.out _; (with_reducible repeat (first | refine blk_drewN ?_ _ | refine blk_drew ?_ | refine blk_alloc ?_ _)); refine blk_far ?_ NB193_204.out _; (with_reducible repeat (first | refine blk_drewN ?_ _ | refine blk_drew ?_ | refine blk_alloc ?_ _)); refine blk_far ?_ NB193_204.out _; (with_reducible repeat (first | refine blk_drewN ?_ _ | refine blk_drew ?_ | refine blk_alloc ?_ _)); refine blk_far ?_ NB193_204.out _; (with_reducible repeat (first | refine blk_drewN ?_ _ | refine blk_drew ?_ | refine blk_alloc ?_ _)); refine blk_far ?_ NB193_204.out _; (with_reducible repeat (first | refine blk_drewN ?_ _ | refine blk_drew ?_ | refine blk_alloc ?_ _)); refine blk_far ?_ NB193_204.out _; (with_reducible repeat (first | refine blk_drewN ?_ _ | refine blk_drew ?_ | refine blk_alloc ?_ _)); refine blk_far ?_ NB193_204.out _; (with_reducible repeat (first | refine blk_drewN ?_ _ | refine blk_drew ?_ | refine blk_alloc ?_ _)); exact BK193.out⟩, ⟨by repeat (first | (with_reducible first | exact HB.out | apply below_alloc | apply pw_below_drewN | apply below_drew1 | refine below_set ?_ GE190.out | refine below_set ?_ GE193.out | refine below_set ?_ GE204.out) | exact HB.out)⟩⟩
              · rw [if_neg c18] at H
                exact absurd H (by simp)
            · rw [if_neg c17] at H
              have c17b0 : decide (x7_2 < (l1.length : Int)) = false := decide_eq_false c17
              clear c17
              replace H := Option.bind_eq_some_iff.mp H
              obtain ⟨t194, A670, H⟩ := H
              replace H : (some t194) = some r := H
              have A67 := Aside0.mk A670
              clear A670
              obtain rfl := Option.some.inj H
              go_wp2_with (first | ((with_reducible refine gate_callee (f := 15) rfl ?_); refine goesL_ (some 92) rfl rfl Try.func15 (by kernel_rfl) rfl #[] rfl (by (try simp only [List.map_toArray, List.map_cons, List.map_nil]); first | done | rfl | (simp only [List.length_drop, List.length_take]; rfl)) ?_; (with_reducible refine (ententelaw06_awake.calls k2  t194 _ A67.out).mono ?_); rintro e w68 ⟨rfl, hb⟩; refine ⟨_, rfl, ?_⟩; have n0_ := Aside0.mk (blk_below (g := gb190) (o := .cells #[.string a0_0, .int .i64 a0_1, .int .i64 a0_2, .int .i64 a0_3, .int .i64 a0_4, .int .i64 a0_5, .int .i64 a0_6] 27 (0, 0)) (by (with_reducible repeat (first | refine blk_drewN ?_ _ | refine blk_drew ?_ | refine blk_alloc ?_ _)); exact BK190.out) hb); have n1_ := Aside0.mk (blk_below (g := gb193) (o := .cells #[.string x194000_2, .int .i64 x194001_2, .int .i64 x194002_2, .int .i64 x194003_2, .int .i64 x194004_2, .int .i64 x194005_2, .int .i64 x194006_2] 27 (0, 0)) (by (with_reducible repeat (first | refine blk_drewN ?_ _ | refine blk_drew ?_ | refine blk_alloc ?_ _)); exact BK193.out) hb); have n2_ := Aside0.mk (below_step (by repeat (first | (with_reducible first | exact HB.out | apply below_alloc | apply pw_below_drewN | apply below_drew1 | refine below_set ?_ GE190.out | refine below_set ?_ GE193.out) | exact HB.out)) hb); clear BK190; clear BK193; clear HB; have BK190 := n0_; have BK193 := n1_; have HB := n2_; clear n0_ n1_ n2_; (try clear hb); (try clear hb2); (try clear hk); (try clear hi)))
              go_ret
              exact ⟨by first | rfl | (simp [errW_none, errW_some] <;> rfl) | (simp [*, errW_none, errW_some] <;> rfl), by repeat (first | (with_reducible first | exact HB.out | apply below_alloc | apply pw_below_drewN | apply below_drew1 | refine below_set ?_ GE190.out | refine below_set ?_ GE193.out) | exact HB.out)⟩

/-- What is known of an element that came in. -/
def Q23 (x : S23) : Prop := (Lit.int .i64 x.f0).wf = true ∧ x.f1.size ≤ 140737488351232 ∧ (Lit.int .i64 x.f2).wf = true
/-- THE ONE PURE STATEMENT of ententelaw06_ActTotals. -/
def ententelaw06_ActTotals.Pure : Prop := ∀ (a0_0 : ByteArray) (a0_1 : Int) (a0_2 : Int) (a0_3 : Int) (a0_4 : Int) (a0_5 : Int) (a0_6 : Int) (l1 : List S23), a0_0.size ≤ 140737488351232 → (Lit.int .i64 a0_1).wf = true → (Lit.int .i64 a0_2).wf = true → (Lit.int .i64 a0_3).wf = true → (Lit.int .i64 a0_4).wf = true → (Lit.int .i64 a0_5).wf = true → (Lit.int .i64 a0_6).wf = true → (l1.length ≤ 9223372036854775807 ∧ l1.length * 32 ≤ 140737488351232 ∧ ∀ y_ ∈ l1, Q23 y_) → ∃ k, ententelaw06_ActTotals.f k a0_0 a0_1 a0_2 a0_3 a0_4 a0_5 a0_6 l1 = some true

end Go.Proofs.Ytmfpgjpekmaemaa.PB
