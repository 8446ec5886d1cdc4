-- Written by a program of this session (wip/tools/mp.py over the kit's printer); Lean checks it.
import Derived.Test.YtfjlodknogiipaaPBx0
import Derived.Test.YtfjlodknogiipaaPBx2
import Derived.Test.YtfjlodknogiipaaPBx3
namespace Go.Proofs.Ytfjlodknogiipaa.PB
open Go.RowKit Go.Proofs.YtfjlodknogiipaaW.PrintWords Go.Proofs.YtfjlodknogiipaaW.PrintLast Go.Proofs.YtfjlodknogiipaaW.PrintMore
attribute [local go_sem] max2_int min2_int max_two min_two max_three min_three max_four min_four   -- for this text's walks alone
set_option linter.unusedVariables false
set_option linter.unusedSimpArgs false

/-! ### ententelaw05_played: function 22 -/
mutual
def ententelaw05_played.l0 : Nat → List (S39) → List (S39) → Int → Int → Int → Int → Int → Option (Int × Int × Int × (List (S39)) × Int × Bool)
  | 0, _, _, _, _, _, _, _ => none
  | k + 1, x1, x9, x10, x11, x165000, x165001, x165002 => if x11 < (x1.length : Int) then (if 0 ≤ x11 then (if ((rd_T39 x1 x11).f0) = 0 then ((pot_Do.f k x165000 x165001 x165002 ((rd_T39 x1 x11).f1) ((rd_T39 x1 x11).f2)).bind fun bt167 => (if bt167.2.2.2 = 0 then (if x9.length < 4398046511104 then (ententelaw05_played.l0 k x1 (x9 ++ [(⟨(rd_T39 x1 x11).f0, (rd_T39 x1 x11).f1, (rd_T39 x1 x11).f2, (rd_T39 x1 x11).f3⟩ : S39)]) x10 (wrap64 (x11 + 1)) bt167.1 bt167.2.1 bt167.2.2.1) else (none)) else (ententelaw05_played.l0 k x1 x9 x10 (wrap64 (x11 + 1)) x165000 x165001 x165002))) else (if ((rd_T39 x1 x11).f0) = 1 then (if ((rd_T39 x1 x11).f3) < 0 then (ententelaw05_played.j1 k x1 x9 x10 x11 true x165000 x165001 x165002 ((rd_T39 x1 x11).f0) ((rd_T39 x1 x11).f1) ((rd_T39 x1 x11).f2) ((rd_T39 x1 x11).f3)) else (ententelaw05_played.j1 k x1 x9 x10 x11 (decide (((rd_T39 x1 x11).f3) ≥ (x9.length : Int))) x165000 x165001 x165002 ((rd_T39 x1 x11).f0) ((rd_T39 x1 x11).f1) ((rd_T39 x1 x11).f2) ((rd_T39 x1 x11).f3))) else (if ((rd_T39 x1 x11).f0) = 2 then (if ((rd_T39 x1 x11).f3) < 0 then (ententelaw05_played.j1 k x1 x9 x10 x11 true x165000 x165001 x165002 ((rd_T39 x1 x11).f0) ((rd_T39 x1 x11).f1) ((rd_T39 x1 x11).f2) ((rd_T39 x1 x11).f3)) else (ententelaw05_played.j1 k x1 x9 x10 x11 (decide (((rd_T39 x1 x11).f3) ≥ (x9.length : Int))) x165000 x165001 x165002 ((rd_T39 x1 x11).f0) ((rd_T39 x1 x11).f1) ((rd_T39 x1 x11).f2) ((rd_T39 x1 x11).f3))) else (ententelaw05_played.j1 k x1 x9 x10 x11 true x165000 x165001 x165002 ((rd_T39 x1 x11).f0) ((rd_T39 x1 x11).f1) ((rd_T39 x1 x11).f2) ((rd_T39 x1 x11).f3))))) else (none)) else (some (x165000, x165001, x165002, x9, x10, true))
def ententelaw05_played.j1 : Nat → List (S39) → List (S39) → Int → Int → Bool → Int → Int → Int → Int → Bool → Int → Int → Option (Int × Int × Int × (List (S39)) × Int × Bool)
  | 0, _, _, _, _, _, _, _, _, _, _, _, _ => none
  | k + 1, x1, x9, x10, x11, x68, x165000, x165001, x165002, x167000, x167001, x167002, x167003 => if x68 = true then (ententelaw05_played.l0 k x1 x9 x10 (wrap64 (x11 + 1)) x165000 x165001 x165002) else (if 0 ≤ x167003 then (if x167003 < (x9.length : Int) then ((some (([] : List (S39)) : List (S39))).bind fun y177 => (if x167003 ≤ (x9.length : Int) then ((some (x9.take (x167003 : Int).toNat : List (S39))).bind fun y180 => (if y177.length + y180.length < 4398046511104 then ((some (y177 ++ y180 : List (S39))).bind fun y184 => (if 0 ≤ (wrap64 (x167003 + 1)) then (if (wrap64 (x167003 + 1)) ≤ (x9.length : Int) then ((some (x9.drop ((wrap64 (x167003 + 1)) : Int).toNat : List (S39))).bind fun y187 => (if y184.length + y187.length < 4398046511104 then ((some (y184 ++ y187 : List (S39))).bind fun y191 => ((pot_Undo.f k x165000 x165001 x165002 ((rd_T39 x9 x167003).f1) ((rd_T39 x9 x167003).f2)).bind fun bt194 => (if x167000 = 2 then ((pot_Keep.f k x165000 x165001 x165002 ((rd_T39 x9 x167003).f1) ((rd_T39 x9 x167003).f2)).bind fun bt199 => (if (rd_T39 x9 x167003).f1 = true then (ententelaw05_played.j2 k x1 y191 (wrap64 (x10 - ((rd_T39 x9 x167003).f2))) x11 bt199.2.2.2 x165000 x165001 x165002 bt199.1 bt199.2.1 bt199.2.2.1) else (ententelaw05_played.j2 k x1 y191 (wrap64 (x10 + ((rd_T39 x9 x167003).f2))) x11 bt199.2.2.2 x165000 x165001 x165002 bt199.1 bt199.2.1 bt199.2.2.1))) else (ententelaw05_played.j2 k x1 y191 x10 x11 bt194.2.2.2 x165000 x165001 x165002 bt194.1 bt194.2.1 bt194.2.2.1)))) else (none))) else (none)) else (none))) else (none))) else (none))) else (none)) else (none))
def ententelaw05_played.j2 : Nat → List (S39) → List (S39) → Int → Int → Int → Int → Int → Int → Int → Int → Int → Option (Int × Int × Int × (List (S39)) × Int × Bool)
  | 0, _, _, _, _, _, _, _, _, _, _, _ => none
  | k + 1, x1, x9, x10, x11, x17, x165000, x165001, x165002, x199000, x199001, x199002 => if x17 = 0 then ((pot_Check.f x199000 x199001 x199002).bind fun t203 => (if t203 = 0 then (ententelaw05_played.l0 k x1 x9 x10 (wrap64 (x11 + 1)) x199000 x199001 x199002) else (some (x165000, x165001, x165002, x9, x10, false)))) else (some (x165000, x165001, x165002, x9, x10, false))
end
def ententelaw05_played.f (k : Nat) (a0 : Int) (l1 : List (S39)) : Option (Int × Int × Int × (List (S39)) × Int × Bool) := ententelaw05_played.l0 k l1 ([] : List (S39)) 0 0 a0 0 0
theorem ententelaw05_played.mono_l : ∀ k, (∀ y0 y1 y2 y3 y4 y5 y6, LeO (ententelaw05_played.l0 k y0 y1 y2 y3 y4 y5 y6) (ententelaw05_played.l0 (k + 1) y0 y1 y2 y3 y4 y5 y6)) ∧ (∀ y0 y1 y2 y3 y4 y5 y6 y7 y8 y9 y10 y11, LeO (ententelaw05_played.j1 k y0 y1 y2 y3 y4 y5 y6 y7 y8 y9 y10 y11) (ententelaw05_played.j1 (k + 1) y0 y1 y2 y3 y4 y5 y6 y7 y8 y9 y10 y11)) ∧ (∀ y0 y1 y2 y3 y4 y5 y6 y7 y8 y9 y10, LeO (ententelaw05_played.j2 k y0 y1 y2 y3 y4 y5 y6 y7 y8 y9 y10) (ententelaw05_played.j2 (k + 1) y0 y1 y2 y3 y4 y5 y6 y7 y8 y9 y10))
  | 0 => ⟨fun _ _ _ _ _ _ _ r h => by simp [ententelaw05_played.l0] at h, fun _ _ _ _ _ _ _ _ _ _ _ _ r h => by simp [ententelaw05_played.j1] at h, fun _ _ _ _ _ _ _ _ _ _ _ r h => by simp [ententelaw05_played.j2] at h⟩
  | k + 1 => by
    obtain ⟨ih0, ih1, ih2⟩ := ententelaw05_played.mono_l k
    refine ⟨?_, ?_, ?_⟩
    · intro y0 y1 y2 y3 y4 y5 y6
      unfold ententelaw05_played.l0
      repeat' first
      | (with_reducible exact ih0 _ _ _ _ _ _ _)
      | (with_reducible exact ih1 _ _ _ _ _ _ _ _ _ _ _ _)
      | (with_reducible exact ih2 _ _ _ _ _ _ _ _ _ _ _)
      | (with_reducible exact pot_Do.mono _ _ _ _ _ _)
      | (with_reducible exact pot_Keep.mono _ _ _ _ _ _)
      | (with_reducible exact pot_Undo.mono _ _ _ _ _ _)
      | (with_reducible exact LeO.refl _)
      | (with_reducible exact LeO.none _)
      | (with_reducible refine LeO.ite ?_ ?_)
      | (with_reducible refine LeO.bind ?_ (fun _ => ?_))
      | exact ih0 _ _ _ _ _ _ _
      | exact ih1 _ _ _ _ _ _ _ _ _ _ _ _
      | exact ih2 _ _ _ _ _ _ _ _ _ _ _
      | exact pot_Do.mono _ _ _ _ _ _
      | exact pot_Keep.mono _ _ _ _ _ _
      | exact pot_Undo.mono _ _ _ _ _ _
      | exact LeO.none _
      | refine LeO.ite ?_ ?_
      | refine LeO.bind ?_ (fun _ => ?_)
    · intro y0 y1 y2 y3 y4 y5 y6 y7 y8 y9 y10 y11
      unfold ententelaw05_played.j1
      repeat' first
      | (with_reducible exact ih0 _ _ _ _ _ _ _)
      | (with_reducible exact ih1 _ _ _ _ _ _ _ _ _ _ _ _)
      | (with_reducible exact ih2 _ _ _ _ _ _ _ _ _ _ _)
      | (with_reducible exact pot_Do.mono _ _ _ _ _ _)
      | (with_reducible exact pot_Keep.mono _ _ _ _ _ _)
      | (with_reducible exact pot_Undo.mono _ _ _ _ _ _)
      | (with_reducible exact LeO.refl _)
      | (with_reducible exact LeO.none _)
      | (with_reducible refine LeO.ite ?_ ?_)
      | (with_reducible refine LeO.bind ?_ (fun _ => ?_))
      | exact ih0 _ _ _ _ _ _ _
      | exact ih1 _ _ _ _ _ _ _ _ _ _ _ _
      | exact ih2 _ _ _ _ _ _ _ _ _ _ _
      | exact pot_Do.mono _ _ _ _ _ _
      | exact pot_Keep.mono _ _ _ _ _ _
      | exact pot_Undo.mono _ _ _ _ _ _
      | exact LeO.none _
      | refine LeO.ite ?_ ?_
      | refine LeO.bind ?_ (fun _ => ?_)
    · intro y0 y1 y2 y3 y4 y5 y6 y7 y8 y9 y10
      unfold ententelaw05_played.j2
      repeat' first
      | (with_reducible exact ih0 _ _ _ _ _ _ _)
      | (with_reducible exact ih1 _ _ _ _ _ _ _ _ _ _ _ _)
      | (with_reducible exact ih2 _ _ _ _ _ _ _ _ _ _ _)
      | (with_reducible exact pot_Do.mono _ _ _ _ _ _)
      | (with_reducible exact pot_Keep.mono _ _ _ _ _ _)
      | (with_reducible exact pot_Undo.mono _ _ _ _ _ _)
      | (with_reducible exact LeO.refl _)
      | (with_reducible exact LeO.none _)
      | (with_reducible refine LeO.ite ?_ ?_)
      | (with_reducible refine LeO.bind ?_ (fun _ => ?_))
      | exact ih0 _ _ _ _ _ _ _
      | exact ih1 _ _ _ _ _ _ _ _ _ _ _ _
      | exact ih2 _ _ _ _ _ _ _ _ _ _ _
      | exact pot_Do.mono _ _ _ _ _ _
      | exact pot_Keep.mono _ _ _ _ _ _
      | exact pot_Undo.mono _ _ _ _ _ _
      | exact LeO.none _
      | refine LeO.ite ?_ ?_
      | refine LeO.bind ?_ (fun _ => ?_)
theorem ententelaw05_played.mono : ∀ a0 a1 k, LeO (ententelaw05_played.f k a0 a1) (ententelaw05_played.f (k + 1) a0 a1) := by
  intro a0 a1 k
  obtain ⟨ih0, ih1, ih2⟩ := ententelaw05_played.mono_l k
  unfold ententelaw05_played.f
  repeat' first
      | (with_reducible exact ih0 _ _ _ _ _ _ _)
      | (with_reducible exact ih1 _ _ _ _ _ _ _ _ _ _ _ _)
      | (with_reducible exact ih2 _ _ _ _ _ _ _ _ _ _ _)
      | (with_reducible exact pot_Do.mono _ _ _ _ _ _)
      | (with_reducible exact pot_Keep.mono _ _ _ _ _ _)
      | (with_reducible exact pot_Undo.mono _ _ _ _ _ _)
      | (with_reducible exact LeO.refl _)
      | (with_reducible exact LeO.none _)
      | (with_reducible refine LeO.ite ?_ ?_)
      | (with_reducible refine LeO.bind ?_ (fun _ => ?_))
      | exact ih0 _ _ _ _ _ _ _
      | exact ih1 _ _ _ _ _ _ _ _ _ _ _ _
      | exact ih2 _ _ _ _ _ _ _ _ _ _ _
      | exact pot_Do.mono _ _ _ _ _ _
      | exact pot_Keep.mono _ _ _ _ _ _
      | exact pot_Undo.mono _ _ _ _ _ _
      | exact LeO.none _
      | refine LeO.ite ?_ ?_
      | refine LeO.bind ?_ (fun _ => ?_)
def ententelaw05_played.T15 : Bool × List (List Nat × List Nat) := (true, [([], []), ([], []), ([], []), ([2], [2]), ([1, 3], [1, 3]), ([0, 4], [0, 4]), ([], []), ([], []), ([7], [7]), ([8], [8]), ([6, 9], [6, 9]), ([5, 10, 5], [5, 10]), ([11, 11, 0, 1, 2, 3, 4, 5, 6, 7, 8, 9, 10, 11], [1, 6, 11])])
def ententelaw05_played.B15 : List Nat := [0, 0, 0, 4, 14, 31, 0, 0, 128, 384, 960, 2047, 4095]
theorem ententelaw05_played.tab15 : rtab .any (opsOf Try.f22 15) = ententelaw05_played.T15 := by kernel_rfl
theorem ententelaw05_played.bits15 : waitsOk ententelaw05_played.T15.2 ententelaw05_played.B15 = true := by kernel_rfl
set_option maxHeartbeats 8000000 in
set_option maxRecDepth 100000 in
theorem ententelaw05_played.calls (k : Nat) (a0 : Int) (A1 : Option Addr) (c1 : Nat) (l1 : List (S39)) (r1 : Int) (r2 : Int) (r3 : Int) (r4 : List (S39)) (r5 : Int) (r6 : Bool) (w : World) (hr1 : Kd.C k39 w A1 l1.length l1) (hc1 : l1.length ≤ c1) (h : ententelaw05_played.f k a0 l1 = some (r1, r2, r3, r4, r5, r6)) :
    Calls Try.prog 22 #[.int .i64 a0, .slice A1 l1.length c1] w fun e w' => ∃ v3_ : Value, e = .returned (.tuple #[.agg #[.int .i64 r1, .int .i64 r2, .int .i64 r3], v3_, .int .i64 r5, .bool r6]) ∧ Kd.R k39 39 w' w.heap.size (fun _ => True) v3_ r4 ∧ Below w.heap.size w w' := by
  have hu23 := Try.underlying23
  have hu39 := Try.underlying39
  have HR1 := Aside0.mk hr1
  have HC1 := Aside0.mk hc1
  clear hr1 hc1
  have HB := Aside0.mk (Below.refl w.heap.size w)
  have H : (ententelaw05_played.l0 k l1 ([] : List (S39)) 0 0 a0 0 0) = some (r1, r2, r3, r4, r5, r6) := h
  clear h
  have H' := Aside0.mk H
  clear H
  go_enter Try.func22, Try.ntmps22
  go_wp2_with (first | ((with_reducible refine gate_dst (N := 4) rfl ?_); (try (refine gate_guard (by rfl) ?_; dsimp only)); refine box_event ?hg (N := 4) ?hd (cs := #[.int .i64 0, .int .i64 0, .int .i64 0]) (t := 23) ?hr ?_; (case hd => rfl); (case hg => rfl); (case hr => first | (go_simp; done) | (go_simp; rfl)); intro gb163 hg w3 hbox hb; have n0_ := Aside0.mk (below_step (by repeat (first | (with_reducible first | exact HB.out | apply below_alloc | apply pw_below_drewN | apply below_drew1) | exact HB.out)) hb); have n1_ := Aside0.mk (hbox); have n2_ := Aside0.mk ((by rw [hg]; exact (below_size (by repeat (first | (with_reducible first | exact HB.out | apply below_alloc | apply pw_below_drewN | apply below_drew1) | exact HB.out))) : w.heap.size ≤ gb163)); have n3_ := Aside0.mk ((by rw [hg]; exact (below_size (by repeat (first | (with_reducible first | exact HB.out | apply below_alloc | apply pw_below_drewN | apply below_drew1) | exact HB.out))) : w.heap.size ≤ gb163)); clear HB; have HB := n0_; have BK163 := n1_; have GW163 := n2_; have GE163 := n3_; clear n0_ n1_ n2_ n3_; clear hb hbox hg) | ((with_reducible refine gate_dst (N := 8) rfl ?_); (try (refine gate_guard (by rfl) ?_; dsimp only)); refine box_event ?hg (N := 8) ?hd (cs := #[.int .i64 0, .int .i64 0, .int .i64 0]) (t := 23) ?hr ?_; (case hd => rfl); (case hg => rfl); (case hr => first | (go_simp; done) | (go_simp; rfl)); intro gb164 hg w4 hbox hb; have n0_ := Aside0.mk (blk_below (g := gb163) (o := .cells #[.int .i64 0, .int .i64 0, .int .i64 0] 23 (0, 0)) (by (with_reducible repeat (first | refine blk_drewN ?_ _ | refine blk_drew ?_ | refine blk_alloc ?_ _)); exact BK163.out) hb); have n1_ := Aside0.mk (below_step (by repeat (first | (with_reducible first | exact HB.out | apply below_alloc | apply pw_below_drewN | apply below_drew1 | refine below_set ?_ GE163.out) | exact HB.out)) hb); have n2_ := Aside0.mk (hbox); have n3_ := Aside0.mk ((by rw [hg]; exact (below_size (by repeat (first | (with_reducible first | exact HB.out | apply below_alloc | apply pw_below_drewN | apply below_drew1 | refine below_set ?_ GE163.out) | exact HB.out))) : w.heap.size ≤ gb164)); have n4_ := Aside0.mk ((by rw [hg]; exact (below_size (by repeat (first | (with_reducible first | exact HB.out | apply below_alloc | apply pw_below_drewN | apply below_drew1 | refine below_set ?_ GE163.out) | exact HB.out))) : w.heap.size ≤ gb164)); have n5_ := Aside0.mk ((by rw [hg]; exact Nat.ne_of_lt (blk_lt (g := gb163) (o := .cells #[.int .i64 0, .int .i64 0, .int .i64 0] 23 (0, 0)) (by (with_reducible repeat (first | refine blk_drewN ?_ _ | refine blk_drew ?_ | refine blk_alloc ?_ _)); exact BK163.out)) : gb163 ≠ gb164)); have n6_ := Aside0.mk ((by rw [hg]; exact Nat.ne_of_gt (blk_lt (g := gb163) (o := .cells #[.int .i64 0, .int .i64 0, .int .i64 0] 23 (0, 0)) (by (with_reducible repeat (first | refine blk_drewN ?_ _ | refine blk_drew ?_ | refine blk_alloc ?_ _)); exact BK163.out)) : gb164 ≠ gb163)); clear BK163; clear HB; have BK163 := n0_; have HB := n1_; have BK164 := n2_; have GW164 := n3_; have GE164 := n4_; have NB163_164 := n5_; have NB164_163 := n6_; clear n0_ n1_ n2_ n3_ n4_ n5_ n6_; clear hb hbox hg; have hnb5 := NB164_163.out; have hnc5 := NB163_164.out; have hcz6_0 : w4.cell? ⟨gb164, 0, none⟩ = some (.int .i64 0) := (blk_cell BK164.out 0).trans rfl; have hcz6_1 : w4.cell? ⟨gb164, 1, none⟩ = some (.int .i64 0) := (blk_cell BK164.out 1).trans rfl; have hcz6_2 : w4.cell? ⟨gb164, 2, none⟩ = some (.int .i64 0) := (blk_cell BK164.out 2).trans rfl; have hfz6_0 := blk_frozen BK164.out 0; have hfz6_1 := blk_frozen BK164.out 1; have hfz6_2 := blk_frozen BK164.out 2))
  go_loopg [9, 10, 11] k (fun kq v9 v10 v11 w' => ∃ (x9_1 : List (S39)) (x10_1 : Int) (x11_1 : Int) (x164000_1 : Int) (x164001_1 : Int) (x164002_1 : Int) (x165000_1 : Int) (x165001_1 : Int) (x165002_1 : Int), v10 = .int .i64 x10_1 ∧ v11 = .int .i64 x11_1 ∧ Aside0 (ententelaw05_played.l0 kq l1 x9_1 x10_1 x11_1 x165000_1 x165001_1 x165002_1 = some (r1, r2, r3, r4, r5, r6)) ∧ Aside0 (kq ≤ k) ∧ Aside0 (Kd.R k39 39 w' w.heap.size (fun _ => True) v9 x9_1) ∧ Aside0 (w'.heap[gb163]? = some (.cells #[.int .i64 x164000_1, .int .i64 x164001_1, .int .i64 x164002_1] 23 (0, 0))) ∧ Aside0 (w'.heap[gb164]? = some (.cells #[.int .i64 x165000_1, .int .i64 x165001_1, .int .i64 x165002_1] 23 (0, 0))) ∧ Aside0 (Below w.heap.size w w'))
  case atStart => exact ⟨(([] : List (S39))), (0), (0), (0), (0), (0), (a0), (0), (0), (by first | rfl | (simp; done) | (simp [*]; done)), (by first | rfl | (simp; done) | (simp [*]; done)), H', ⟨Nat.le_refl _⟩, ⟨by first | exact Kd.R_nil _ _ _ _ _ | exact Kd.N_nil _ _ _ _ _ | exact Kd.V_nil _ _ _ _ _ | exact Kd.Q_nil _ _ _ _ _ | exact Kd.S_nil _ _ _ _ _⟩, ⟨by (with_reducible repeat (first | refine blk_drewN ?_ _ | refine blk_drew ?_ | refine blk_alloc ?_ _)); refine blk_far ?_ NB163_164.out _; (with_reducible repeat (first | refine blk_drewN ?_ _ | refine blk_drew ?_ | refine blk_alloc ?_ _)); refine blk_far ?_ NB163_164.out _; (with_reducible repeat (first | refine blk_drewN ?_ _ | refine blk_drew ?_ | refine blk_alloc ?_ _)); refine blk_far ?_ NB163_164.out _; (with_reducible repeat (first | refine blk_drewN ?_ _ | refine blk_drew ?_ | refine blk_alloc ?_ _)); exact BK163.out⟩, ⟨by (with_reducible repeat (first | refine blk_drewN ?_ _ | refine blk_drew ?_ | refine blk_alloc ?_ _)); refine blk_put (cs := #[.int .i64 a0, .int .i64 0, .int .i64 0]) ?_ 2 _ rfl; (with_reducible repeat (first | refine blk_drewN ?_ _ | refine blk_drew ?_ | refine blk_alloc ?_ _)); refine blk_put (cs := #[.int .i64 a0, .int .i64 0, .int .i64 0]) ?_ 1 _ rfl; (with_reducible repeat (first | refine blk_drewN ?_ _ | refine blk_drew ?_ | refine blk_alloc ?_ _)); refine blk_put (cs := #[.int .i64 0, .int .i64 0, .int .i64 0]) ?_ 0 _ rfl; (with_reducible repeat (first | refine blk_drewN ?_ _ | refine blk_drew ?_ | refine blk_alloc ?_ _)); exact BK164.out⟩, ⟨by repeat (first | (with_reducible first | exact HB.out | apply below_alloc | apply pw_below_drewN | apply below_drew1 | refine below_set ?_ GE163.out | refine below_set ?_ GE164.out) | exact HB.out)⟩⟩
  case round =>
    clear H'
    try clear c1
    try clear c2
    try clear p2
    try clear c5
    try clear hcz6_0
    try clear hcz6_1
    try clear hcz6_2
    try clear hfz6_0
    try clear hfz6_1
    try clear hfz6_2
    obtain ⟨x9_1, x10_1, x11_1, x164000_1, x164001_1, x164002_1, x165000_1, x165001_1, x165002_1, rfl, rfl, HA, HK1, HO_9, BK163, BK164, HB⟩ := hrel
    cases gk with
    | zero => exact absurd HA.out (by simp [ententelaw05_played.l0])
    | succ k1 =>
      have H := HA.out
      clear HA
      simp only [ententelaw05_played.l0] at H
      by_cases c7 : x11_1 < (l1.length : Int)
      · rw [if_pos c7] at H
        have c7b0 : decide (x11_1 < (l1.length : Int)) = true := decide_eq_true c7
        clear c7
        by_cases c8 : 0 ≤ x11_1
        · rw [if_pos c8] at H
          have c8b0 : decide (0 ≤ x11_1) = true := decide_eq_true c8
          clear c8
          by_cases c9 : ((rd_T39 l1 x11_1).f0) = 0
          · rw [if_pos c9] at H
            have c9b0 : (((rd_T39 l1 x11_1).f0) == 0) = true := beq_iff_eq.mpr c9
            have c9b1 : (((rd_T39 l1 x11_1).f0) != 0) = false := bne_eq_false_iff_eq.mpr c9
            clear c9
            replace H := Option.bind_eq_some_iff.mp H
            obtain ⟨⟨t167, t168, t169, t170⟩, A100, H⟩ := H
            replace H : (if t170 = 0 then (if x9_1.length < 4398046511104 then (ententelaw05_played.l0 k1 l1 (x9_1 ++ [(⟨(rd_T39 l1 x11_1).f0, (rd_T39 l1 x11_1).f1, (rd_T39 l1 x11_1).f2, (rd_T39 l1 x11_1).f3⟩ : S39)]) x10_1 (wrap64 (x11_1 + 1)) t167 t168 t169) else (none)) else (ententelaw05_played.l0 k1 l1 x9_1 x10_1 (wrap64 (x11_1 + 1)) x165000_1 x165001_1 x165002_1)) = some (r1, r2, r3, r4, r5, r6) := H
            have A10 := Aside0.mk A100
            clear A100
            by_cases c11 : t170 = 0
            · rw [if_pos c11] at H
              have c11b0 : (t170 == 0) = true := beq_iff_eq.mpr c11
              have c11b1 : (t170 != 0) = false := bne_eq_false_iff_eq.mpr c11
              clear c11
              by_cases c12 : x9_1.length < 4398046511104
              · rw [if_pos c12] at H
                have LMc12 := Aside0.mk c12
                clear c12
                obtain ⟨y172, hy172⟩ : ∃ y_ : List (S39), y_ = (x9_1 ++ [(⟨(rd_T39 l1 x11_1).f0, (rd_T39 l1 x11_1).f1, (rd_T39 l1 x11_1).f2, (rd_T39 l1 x11_1).f3⟩ : S39)]) := ⟨_, rfl⟩
                replace H : (ententelaw05_played.l0 k1 l1 y172 x10_1 (wrap64 (x11_1 + 1)) t167 t168 t169) = some (r1, r2, r3, r4, r5, r6) := by first | (rw [hy172]; with_reducible exact H) | (have H2_ := (Option.bind_some _ _).symm.trans H; rw [hy172]; with_reducible exact H2_) | (have H2_ := (Option.bind_some _ _).symm.trans H; with_reducible exact H2_) | with_reducible exact H | (rw [hy172]; exact H) | exact H
                have Ny172 := Aside0.mk hy172
                clear hy172
                have H' := Aside0.mk H
                clear H
                have p165 : 0 ≤ (x11_1 : Int) := of_decide_eq_true (by first | (with_reducible assumption) | assumption)
                have q165 : x11_1 < (l1.length : Int) := of_decide_eq_true (by first | (with_reducible assumption) | assumption)
                obtain ⟨ad165, e165, hx165_0, hx165_1, hx165_2, hx165_3⟩ := at_T39 HR1.out x11_1 p165 q165
                cases e165
                replace hx165_0 := (HB.out.cell (World.block_lt_of_cell? w _ hx165_0)).trans hx165_0
                replace hx165_1 := (HB.out.cell (World.block_lt_of_cell? w _ hx165_1)).trans hx165_1
                replace hx165_2 := (HB.out.cell (World.block_lt_of_cell? w _ hx165_2)).trans hx165_2
                replace hx165_3 := (HB.out.cell (World.block_lt_of_cell? w _ hx165_3)).trans hx165_3
                replace p165 := eq_true p165
                replace q165 := eq_true q165
                go_wp2_with (first | ((with_reducible refine gate_dst (N := 12) rfl ?_); (try (refine gate_guard (by rfl) ?_; dsimp only)); refine box_event ?hg (N := 12) ?hd (cs := #[.int .i64 0, .bool false, .int .i64 0, .int .i64 0]) (t := 39) ?hr ?_; (case hd => rfl); (case hg => rfl); (case hr => first | (go_simp; done) | (go_simp; rfl)); intro gb166 hg w13 hbox hb; have n0_ := Aside0.mk (Kd.R_below (Kd.R_elderB (by (with_reducible repeat (first | apply Kd.R_alloc | apply Kd.R_drewN | apply Kd.R_drew)); exact HO_9.out) gb166 (Nat.le_of_eq hg.symm)) hb); have n1_ := Aside0.mk (blk_below (g := gb163) (o := .cells #[.int .i64 x164000_1, .int .i64 x164001_1, .int .i64 x164002_1] 23 (0, 0)) (by (with_reducible repeat (first | refine blk_drewN ?_ _ | refine blk_drew ?_ | refine blk_alloc ?_ _)); exact BK163.out) hb); have n2_ := Aside0.mk (blk_below (g := gb164) (o := .cells #[.int .i64 x165000_1, .int .i64 x165001_1, .int .i64 x165002_1] 23 (0, 0)) (by (with_reducible repeat (first | refine blk_drewN ?_ _ | refine blk_drew ?_ | refine blk_alloc ?_ _)); exact BK164.out) hb); have n3_ := Aside0.mk (below_step (by repeat (first | (with_reducible first | exact HB.out | apply below_alloc | apply pw_below_drewN | apply below_drew1 | refine below_set ?_ GE163.out | refine below_set ?_ GE164.out) | exact HB.out)) hb); have n4_ := Aside0.mk (hbox); have n5_ := Aside0.mk ((by rw [hg]; exact (below_size (by repeat (first | (with_reducible first | exact HB.out | apply below_alloc | apply pw_below_drewN | apply below_drew1 | refine below_set ?_ GE163.out | refine below_set ?_ GE164.out) | exact HB.out))) : w.heap.size ≤ gb166)); have n6_ := Aside0.mk ((by rw [hg]; exact (below_size (by repeat (first | (with_reducible first | exact HB.out | apply below_alloc | apply pw_below_drewN | apply below_drew1 | refine below_set ?_ GE163.out | refine below_set ?_ GE164.out) | exact HB.out))) : w.heap.size ≤ gb166)); have n7_ := Aside0.mk ((by rw [hg]; exact Nat.ne_of_lt (blk_lt (g := gb163) (o := .cells #[.int .i64 x164000_1, .int .i64 x164001_1, .int .i64 x164002_1] 23 (0, 0)) (by (with_reducible repeat (first | refine blk_drewN ?_ _ | refine blk_drew ?_ | refine blk_alloc ?_ _)); exact BK163.out)) : gb163 ≠ gb166)); have n8_ := Aside0.mk ((by rw [hg]; exact Nat.ne_of_gt (blk_lt (g := gb163) (o := .cells #[.int .i64 x164000_1, .int .i64 x164001_1, .int .i64 x164002_1] 23 (0, 0)) (by (with_reducible repeat (first | refine blk_drewN ?_ _ | refine blk_drew ?_ | refine blk_alloc ?_ _)); exact BK163.out)) : gb166 ≠ gb163)); have n9_ := Aside0.mk ((by rw [hg]; exact Nat.ne_of_lt (blk_lt (g := gb164) (o := .cells #[.int .i64 x165000_1, .int .i64 x165001_1, .int .i64 x165002_1] 23 (0, 0)) (by (with_reducible repeat (first | refine blk_drewN ?_ _ | refine blk_drew ?_ | refine blk_alloc ?_ _)); exact BK164.out)) : gb164 ≠ gb166)); have n10_ := Aside0.mk ((by rw [hg]; exact Nat.ne_of_gt (blk_lt (g := gb164) (o := .cells #[.int .i64 x165000_1, .int .i64 x165001_1, .int .i64 x165002_1] 23 (0, 0)) (by (with_reducible repeat (first | refine blk_drewN ?_ _ | refine blk_drew ?_ | refine blk_alloc ?_ _)); exact BK164.out)) : gb166 ≠ gb164)); clear HO_9; clear BK163; clear BK164; clear HB; have HO_9 := n0_; have BK163 := n1_; have BK164 := n2_; have HB := n3_; have BK166 := n4_; have GW166 := n5_; have GE166 := n6_; have NB163_166 := n7_; have NB166_163 := n8_; have NB164_166 := n9_; have NB166_164 := n10_; clear n0_ n1_ n2_ n3_ n4_ n5_ n6_ n7_ n8_ n9_ n10_; clear hb hbox hg; have hnb14 := NB166_163.out; have hnc14 := NB163_166.out; have hnb15 := NB166_164.out; have hnc15 := NB164_166.out; have hcz16_0 : w13.cell? ⟨gb166, 0, none⟩ = some (.int .i64 0) := (blk_cell BK166.out 0).trans rfl; have hcz16_1 : w13.cell? ⟨gb166, 1, none⟩ = some (.bool false) := (blk_cell BK166.out 1).trans rfl; have hcz16_2 : w13.cell? ⟨gb166, 2, none⟩ = some (.int .i64 0) := (blk_cell BK166.out 2).trans rfl; have hcz16_3 : w13.cell? ⟨gb166, 3, none⟩ = some (.int .i64 0) := (blk_cell BK166.out 3).trans rfl; have hfz16_0 := blk_frozen BK166.out 0; have hfz16_1 := blk_frozen BK166.out 1; have hfz16_2 := blk_frozen BK166.out 2; have hfz16_3 := blk_frozen BK166.out 3; have hnb17 := NB164_163.out; have hnc17 := NB163_164.out; have hcz18_0 : w13.cell? ⟨gb164, 0, none⟩ = some (.int .i64 x165000_1) := (blk_cell BK164.out 0).trans rfl; have hcz18_1 : w13.cell? ⟨gb164, 1, none⟩ = some (.int .i64 x165001_1) := (blk_cell BK164.out 1).trans rfl; have hcz18_2 : w13.cell? ⟨gb164, 2, none⟩ = some (.int .i64 x165002_1) := (blk_cell BK164.out 2).trans rfl; have hfz18_0 := blk_frozen BK164.out 0; have hfz18_1 := blk_frozen BK164.out 1; have hfz18_2 := blk_frozen BK164.out 2) | ((with_reducible refine gate_callee (f := 16) rfl ?_); refine goesL_ (some 39) rfl rfl Try.func16 (by kernel_rfl) rfl #[.agg #[.int .i64 x165000_1, .int .i64 x165001_1, .int .i64 x165002_1], .bool ((rd_T39 l1 x11_1).f1), .int .i64 ((rd_T39 l1 x11_1).f2)] rfl (by (try simp only [List.map_toArray, List.map_cons, List.map_nil]); first | done | rfl | (simp only [List.length_drop, List.length_take]; rfl)) ?_; (with_reducible refine (pot_Do.calls k1 x165000_1 x165001_1 x165002_1 ((rd_T39 l1 x11_1).f1) ((rd_T39 l1 x11_1).f2) t167 t168 t169 t170 _ A10.out).mono ?_); rintro e w19 ⟨rfl, hb⟩; refine ⟨_, rfl, ?_⟩; have n0_ := Aside0.mk (Kd.R_below (by (with_reducible repeat (first | apply Kd.R_alloc | apply Kd.R_drewN | apply Kd.R_drew)); exact (Kd.R_mono (Kd.R_far (p := ⟨gb166, 3, none⟩) (Kd.R_far (p := ⟨gb166, 2, none⟩) (Kd.R_far (p := ⟨gb166, 1, none⟩) (Kd.R_far (p := ⟨gb166, 0, none⟩) (Kd.R_mono HO_9.out (fun k_ hk => (⟨hk, hk.2⟩ : _ ∧ k_ ≠ gb166))) (fun _ hk => hk.2) (.int .i64 ((rd_T39 l1 x11_1).f0))) (fun _ hk => hk.2) (.bool ((rd_T39 l1 x11_1).f1))) (fun _ hk => hk.2) (.int .i64 ((rd_T39 l1 x11_1).f2))) (fun _ hk => hk.2) (.int .i64 ((rd_T39 l1 x11_1).f3))) (fun _ h_ => h_.1))) hb); have n1_ := Aside0.mk (blk_below (g := gb163) (o := .cells #[.int .i64 x164000_1, .int .i64 x164001_1, .int .i64 x164002_1] 23 (0, 0)) (by (with_reducible repeat (first | refine blk_drewN ?_ _ | refine blk_drew ?_ | refine blk_alloc ?_ _)); refine blk_far ?_ NB163_166.out _; (with_reducible repeat (first | refine blk_drewN ?_ _ | refine blk_drew ?_ | refine blk_alloc ?_ _)); refine blk_far ?_ NB163_166.out _; (with_reducible repeat (first | refine blk_drewN ?_ _ | refine blk_drew ?_ | refine blk_alloc ?_ _)); refine blk_far ?_ NB163_166.out _; (with_reducible repeat (first | refine blk_drewN ?_ _ | refine blk_drew ?_ | refine blk_alloc ?_ _)); refine blk_far ?_ NB163_166.out _; (with_reducible repeat (first | refine blk_drewN ?_ _ | refine blk_drew ?_ | refine blk_alloc ?_ _)); exact BK163.out) hb); have n2_ := Aside0.mk (blk_below (g := gb164) (o := .cells #[.int .i64 x165000_1, .int .i64 x165001_1, .int .i64 x165002_1] 23 (0, 0)) (by (with_reducible repeat (first | refine blk_drewN ?_ _ | refine blk_drew ?_ | refine blk_alloc ?_ _)); refine blk_far ?_ NB164_166.out _; (with_reducible repeat (first | refine blk_drewN ?_ _ | refine blk_drew ?_ | refine blk_alloc ?_ _)); refine blk_far ?_ NB164_166.out _; (with_reducible repeat (first | refine blk_drewN ?_ _ | refine blk_drew ?_ | refine blk_alloc ?_ _)); refine blk_far ?_ NB164_166.out _; (with_reducible repeat (first | refine blk_drewN ?_ _ | refine blk_drew ?_ | refine blk_alloc ?_ _)); refine blk_far ?_ NB164_166.out _; (with_reducible repeat (first | refine blk_drewN ?_ _ | refine blk_drew ?_ | refine blk_alloc ?_ _)); exact BK164.out) hb); have n3_ := Aside0.mk (blk_below (g := gb166) (o := .cells #[.int .i64 ((rd_T39 l1 x11_1).f0), .bool ((rd_T39 l1 x11_1).f1), .int .i64 ((rd_T39 l1 x11_1).f2), .int .i64 ((rd_T39 l1 x11_1).f3)] 39 (0, 0)) (by (with_reducible repeat (first | refine blk_drewN ?_ _ | refine blk_drew ?_ | refine blk_alloc ?_ _)); refine blk_put (cs := #[.int .i64 ((rd_T39 l1 x11_1).f0), .bool ((rd_T39 l1 x11_1).f1), .int .i64 ((rd_T39 l1 x11_1).f2), .int .i64 0]) ?_ 3 _ rfl; (with_reducible repeat (first | refine blk_drewN ?_ _ | refine blk_drew ?_ | refine blk_alloc ?_ _)); refine blk_put (cs := #[.int .i64 ((rd_T39 l1 x11_1).f0), .bool ((rd_T39 l1 x11_1).f1), .int .i64 0, .int .i64 0]) ?_ 2 _ rfl; (with_reducible repeat (first | refine blk_drewN ?_ _ | refine blk_drew ?_ | refine blk_alloc ?_ _)); refine blk_put (cs := #[.int .i64 ((rd_T39 l1 x11_1).f0), .bool false, .int .i64 0, .int .i64 0]) ?_ 1 _ rfl; (with_reducible repeat (first | refine blk_drewN ?_ _ | refine blk_drew ?_ | refine blk_alloc ?_ _)); refine blk_put (cs := #[.int .i64 0, .bool false, .int .i64 0, .int .i64 0]) ?_ 0 _ rfl; (with_reducible repeat (first | refine blk_drewN ?_ _ | refine blk_drew ?_ | refine blk_alloc ?_ _)); exact BK166.out) hb); have n4_ := Aside0.mk (below_step (by repeat (first | (with_reducible first | exact HB.out | apply below_alloc | apply pw_below_drewN | apply below_drew1 | refine below_set ?_ GE163.out | refine below_set ?_ GE164.out | refine below_set ?_ GE166.out) | exact HB.out)) hb); clear HO_9; clear BK163; clear BK164; clear BK166; clear HB; have HO_9 := n0_; have BK163 := n1_; have BK164 := n2_; have BK166 := n3_; have HB := n4_; clear n0_ n1_ n2_ n3_ n4_; (try clear hb); (try clear hb2); (try clear hk); (try clear hi)) | ((with_reducible refine gate_dst (N := 13) rfl ?_); (try (refine gate_guard (by rfl) ?_; dsimp only)); refine box_event ?hg (N := 13) ?hd (cs := #[.int .i64 0, .int .i64 0, .int .i64 0]) (t := 23) ?hr ?_; (case hd => rfl); (case hg => rfl); (case hr => first | (go_simp; done) | (go_simp; rfl)); intro gb171 hg w20 hbox hb; have n0_ := Aside0.mk (Kd.R_below (by (with_reducible repeat (first | apply Kd.R_alloc | apply Kd.R_drewN | apply Kd.R_drew)); exact HO_9.out) hb); have n1_ := Aside0.mk (blk_below (g := gb163) (o := .cells #[.int .i64 x164000_1, .int .i64 x164001_1, .int .i64 x164002_1] 23 (0, 0)) (by (with_reducible repeat (first | refine blk_drewN ?_ _ | refine blk_drew ?_ | refine blk_alloc ?_ _)); exact BK163.out) hb); have n2_ := Aside0.mk (blk_below (g := gb164) (o := .cells #[.int .i64 x165000_1, .int .i64 x165001_1, .int .i64 x165002_1] 23 (0, 0)) (by (with_reducible repeat (first | refine blk_drewN ?_ _ | refine blk_drew ?_ | refine blk_alloc ?_ _)); exact BK164.out) hb); have n3_ := Aside0.mk (blk_below (g := gb166) (o := .cells #[.int .i64 ((rd_T39 l1 x11_1).f0), .bool ((rd_T39 l1 x11_1).f1), .int .i64 ((rd_T39 l1 x11_1).f2), .int .i64 ((rd_T39 l1 x11_1).f3)] 39 (0, 0)) (by (with_reducible repeat (first | refine blk_drewN ?_ _ | refine blk_drew ?_ | refine blk_alloc ?_ _)); exact BK166.out) hb); have n4_ := Aside0.mk (below_step (by repeat (first | (with_reducible first | exact HB.out | apply below_alloc | apply pw_below_drewN | apply below_drew1 | refine below_set ?_ GE163.out | refine below_set ?_ GE164.out | refine below_set ?_ GE166.out) | exact HB.out)) hb); have n5_ := Aside0.mk (hbox); have n6_ := Aside0.mk ((by rw [hg]; exact (below_size (by repeat (first | (with_reducible first | exact HB.out | apply below_alloc | apply pw_below_drewN | apply below_drew1 | refine below_set ?_ GE163.out | refine below_set ?_ GE164.out | refine below_set ?_ GE166.out) | exact HB.out))) : w.heap.size ≤ gb171)); have n7_ := Aside0.mk ((by rw [hg]; exact (below_size (by repeat (first | (with_reducible first | exact HB.out | apply below_alloc | apply pw_below_drewN | apply below_drew1 | refine below_set ?_ GE163.out | refine below_set ?_ GE164.out | refine below_set ?_ GE166.out) | exact HB.out))) : w.heap.size ≤ gb171)); have n8_ := Aside0.mk ((by rw [hg]; exact Nat.ne_of_lt (blk_lt (g := gb163) (o := .cells #[.int .i64 x164000_1, .int .i64 x164001_1, .int .i64 x164002_1] 23 (0, 0)) (by (with_reducible repeat (first | refine blk_drewN ?_ _ | refine blk_drew ?_ | refine blk_alloc ?_ _)); exact BK163.out)) : gb163 ≠ gb171)); have n9_ := Aside0.mk ((by rw [hg]; exact Nat.ne_of_gt (blk_lt (g := gb163) (o := .cells #[.int .i64 x164000_1, .int .i64 x164001_1, .int .i64 x164002_1] 23 (0, 0)) (by (with_reducible repeat (first | refine blk_drewN ?_ _ | refine blk_drew ?_ | refine blk_alloc ?_ _)); exact BK163.out)) : gb171 ≠ gb163)); have n10_ := Aside0.mk ((by rw [hg]; exact Nat.ne_of_lt (blk_lt (g := gb164) (o := .cells #[.int .i64 x165000_1, .int .i64 x165001_1, .int .i64 x165002_1] 23 (0, 0)) (by (with_reducible repeat (first | refine blk_drewN ?_ _ | refine blk_drew ?_ | refine blk_alloc ?_ _)); exact BK164.out)) : gb164 ≠ gb171)); have n11_ := Aside0.mk ((by rw [hg]; exact Nat.ne_of_gt (blk_lt (g := gb164) (o := .cells #[.int .i64 x165000_1, .int .i64 x165001_1, .int .i64 x165002_1] 23 (0, 0)) (by (with_reducible repeat (first | refine blk_drewN ?_ _ | refine blk_drew ?_ | refine blk_alloc ?_ _)); exact BK164.out)) : gb171 ≠ gb164)); have n12_ := Aside0.mk ((by rw [hg]; exact Nat.ne_of_lt (blk_lt (g := gb166) (o := .cells #[.int .i64 ((rd_T39 l1 x11_1).f0), .bool ((rd_T39 l1 x11_1).f1), .int .i64 ((rd_T39 l1 x11_1).f2), .int .i64 ((rd_T39 l1 x11_1).f3)] 39 (0, 0)) (by (with_reducible repeat (first | refine blk_drewN ?_ _ | refine blk_drew ?_ | refine blk_alloc ?_ _)); exact BK166.out)) : gb166 ≠ gb171)); have n13_ := Aside0.mk ((by rw [hg]; exact Nat.ne_of_gt (blk_lt (g := gb166) (o := .cells #[.int .i64 ((rd_T39 l1 x11_1).f0), .bool ((rd_T39 l1 x11_1).f1), .int .i64 ((rd_T39 l1 x11_1).f2), .int .i64 ((rd_T39 l1 x11_1).f3)] 39 (0, 0)) (by (with_reducible repeat (first | refine blk_drewN ?_ _ | refine blk_drew ?_ | refine blk_alloc ?_ _)); exact BK166.out)) : gb171 ≠ gb166)); clear HO_9; clear BK163; clear BK164; clear BK166; clear HB; have HO_9 := n0_; have BK163 := n1_; have BK164 := n2_; have BK166 := n3_; have HB := n4_; have BK171 := n5_; have GW171 := n6_; have GE171 := n7_; have NB163_171 := n8_; have NB171_163 := n9_; have NB164_171 := n10_; have NB171_164 := n11_; have NB166_171 := n12_; have NB171_166 := n13_; clear n0_ n1_ n2_ n3_ n4_ n5_ n6_ n7_ n8_ n9_ n10_ n11_ n12_ n13_; clear hb hbox hg; have hnb21 := NB171_163.out; have hnc21 := NB163_171.out; have hnb22 := NB171_164.out; have hnc22 := NB164_171.out; have hnb23 := NB171_166.out; have hnc23 := NB166_171.out; have hcz24_0 : w20.cell? ⟨gb171, 0, none⟩ = some (.int .i64 0) := (blk_cell BK171.out 0).trans rfl; have hcz24_1 : w20.cell? ⟨gb171, 1, none⟩ = some (.int .i64 0) := (blk_cell BK171.out 1).trans rfl; have hcz24_2 : w20.cell? ⟨gb171, 2, none⟩ = some (.int .i64 0) := (blk_cell BK171.out 2).trans rfl; have hfz24_0 := blk_frozen BK171.out 0; have hfz24_1 := blk_frozen BK171.out 1; have hfz24_2 := blk_frozen BK171.out 2; have hcz25_0 : w20.cell? ⟨gb164, 0, none⟩ = some (.int .i64 x165000_1) := (blk_cell BK164.out 0).trans rfl; have hcz25_1 : w20.cell? ⟨gb164, 1, none⟩ = some (.int .i64 x165001_1) := (blk_cell BK164.out 1).trans rfl; have hcz25_2 : w20.cell? ⟨gb164, 2, none⟩ = some (.int .i64 x165002_1) := (blk_cell BK164.out 2).trans rfl; have hfz25_0 := blk_frozen BK164.out 0; have hfz25_1 := blk_frozen BK164.out 1; have hfz25_2 := blk_frozen BK164.out 2; have hcz26_0 : w20.cell? ⟨gb166, 0, none⟩ = some (.int .i64 ((rd_T39 l1 x11_1).f0)) := (blk_cell BK166.out 0).trans rfl; have hcz26_1 : w20.cell? ⟨gb166, 1, none⟩ = some (.bool ((rd_T39 l1 x11_1).f1)) := (blk_cell BK166.out 1).trans rfl; have hcz26_2 : w20.cell? ⟨gb166, 2, none⟩ = some (.int .i64 ((rd_T39 l1 x11_1).f2)) := (blk_cell BK166.out 2).trans rfl; have hcz26_3 : w20.cell? ⟨gb166, 3, none⟩ = some (.int .i64 ((rd_T39 l1 x11_1).f3)) := (blk_cell BK166.out 3).trans rfl; have hfz26_0 := blk_frozen BK166.out 0; have hfz26_1 := blk_frozen BK166.out 1; have hfz26_2 := blk_frozen BK166.out 2; have hfz26_3 := blk_frozen BK166.out 3) | ((with_reducible refine gate_builtin (b := .append) (xs := #[.tmp 45, .tmp 47]) rfl ?_); (try (refine gate_guard (by rfl) ?_; dsimp only)); at_builtin; refine Kd.R_append k39 (w0 := w) w.heap.size rfl (.tmp 45) (.tmp 47) 35 39 (.agg #[(.int .i64 0), (.bool false), (.int .i64 0), (.int .i64 0)]) 32 rfl Try.underlying35 info39 rfl (by decide) (by omega) u9 x9_1 (⟨(rd_T39 l1 x11_1).f0, (rd_T39 l1 x11_1).f1, (rd_T39 l1 x11_1).f2, (rd_T39 l1 x11_1).f3⟩ : S39) [.int .i64 ((rd_T39 l1 x11_1).f0), .bool ((rd_T39 l1 x11_1).f1), .int .i64 ((rd_T39 l1 x11_1).f2), .int .i64 ((rd_T39 l1 x11_1).f3)] (fun k_ => k_ ≠ gb166) (fun _ => False) rfl (by first | (go_simp; done) | (go_simp; rfl)) ?aP (fun _ hk => hk.elim) ?aF ?aO ?aB ?aS ?aL ?_; (case aP => exact k39_mkM _ _ _ (⟨(rd_T39 l1 x11_1).f0, (rd_T39 l1 x11_1).f1, (rd_T39 l1 x11_1).f2, (rd_T39 l1 x11_1).f3⟩ : S39)); (case aB => exact (by repeat (first | (with_reducible first | exact HB.out | apply below_alloc | apply pw_below_drewN | apply below_drew1 | refine below_set ?_ GE163.out | refine below_set ?_ GE164.out | refine below_set ?_ GE166.out | refine below_set ?_ GE171.out) | exact HB.out))); (case aF => exact (fun k_ hk => Kd.freshB (g := gb166) (o := .cells #[.int .i64 ((rd_T39 l1 x11_1).f0), .bool ((rd_T39 l1 x11_1).f1), .int .i64 ((rd_T39 l1 x11_1).f2), .int .i64 ((rd_T39 l1 x11_1).f3)] 39 (0, 0)) (by (with_reducible repeat (first | refine blk_drewN ?_ _ | refine blk_drew ?_ | refine blk_alloc ?_ _)); refine blk_far ?_ NB166_164.out _; (with_reducible repeat (first | refine blk_drewN ?_ _ | refine blk_drew ?_ | refine blk_alloc ?_ _)); refine blk_far ?_ NB166_164.out _; (with_reducible repeat (first | refine blk_drewN ?_ _ | refine blk_drew ?_ | refine blk_alloc ?_ _)); refine blk_far ?_ NB166_164.out _; (with_reducible repeat (first | refine blk_drewN ?_ _ | refine blk_drew ?_ | refine blk_alloc ?_ _)); refine blk_far ?_ NB166_171.out _; (with_reducible repeat (first | refine blk_drewN ?_ _ | refine blk_drew ?_ | refine blk_alloc ?_ _)); refine blk_far ?_ NB166_171.out _; (with_reducible repeat (first | refine blk_drewN ?_ _ | refine blk_drew ?_ | refine blk_alloc ?_ _)); refine blk_far ?_ NB166_171.out _; (with_reducible repeat (first | refine blk_drewN ?_ _ | refine blk_drew ?_ | refine blk_alloc ?_ _)); exact BK166.out) k_ hk)); (case aO => exact (by (with_reducible repeat (first | apply Kd.R_alloc | apply Kd.R_drewN | apply Kd.R_drew)); exact Kd.R_mono (Kd.R_far (p := ⟨gb164, 2, none⟩) (Kd.R_far (p := ⟨gb164, 1, none⟩) (Kd.R_far (p := ⟨gb164, 0, none⟩) (Kd.R_far (p := ⟨gb171, 2, none⟩) (Kd.R_far (p := ⟨gb171, 1, none⟩) (Kd.R_far (p := ⟨gb171, 0, none⟩) (Kd.R_types (Kd.R_types HO_9.out BK171.out (by decide)) BK164.out (by decide)) (fun _ hk => hk.1.2) (.int .i64 t167)) (fun _ hk => hk.1.2) (.int .i64 t168)) (fun _ hk => hk.1.2) (.int .i64 t169)) (fun _ hk => hk.2) (.int .i64 t167)) (fun _ hk => hk.2) (.int .i64 t168)) (fun _ hk => hk.2) (.int .i64 t169)) (fun _ hk => hk.1.1.2))); (case aS => exact (below_size (by repeat (first | (with_reducible first | exact HB.out | apply below_alloc | apply pw_below_drewN | apply below_drew1 | refine below_set ?_ GE163.out | refine below_set ?_ GE164.out | refine below_set ?_ GE166.out | refine below_set ?_ GE171.out) | exact HB.out)))); (case aL => have := LMc12.out; omega); intro v173 w27 ho hb hg hat; rw [← Ny172.out] at ho; have n0_ := Aside0.mk (blk_grown (g := gb163) (o := .cells #[.int .i64 x164000_1, .int .i64 x164001_1, .int .i64 x164002_1] 23 (0, 0)) (by (with_reducible repeat (first | refine blk_drewN ?_ _ | refine blk_drew ?_ | refine blk_alloc ?_ _)); refine blk_far ?_ NB163_164.out _; (with_reducible repeat (first | refine blk_drewN ?_ _ | refine blk_drew ?_ | refine blk_alloc ?_ _)); refine blk_far ?_ NB163_164.out _; (with_reducible repeat (first | refine blk_drewN ?_ _ | refine blk_drew ?_ | refine blk_alloc ?_ _)); refine blk_far ?_ NB163_164.out _; (with_reducible repeat (first | refine blk_drewN ?_ _ | refine blk_drew ?_ | refine blk_alloc ?_ _)); refine blk_far ?_ NB163_171.out _; (with_reducible repeat (first | refine blk_drewN ?_ _ | refine blk_drew ?_ | refine blk_alloc ?_ _)); refine blk_far ?_ NB163_171.out _; (with_reducible repeat (first | refine blk_drewN ?_ _ | refine blk_drew ?_ | refine blk_alloc ?_ _)); refine blk_far ?_ NB163_171.out _; (with_reducible repeat (first | refine blk_drewN ?_ _ | refine blk_drew ?_ | refine blk_alloc ?_ _)); exact BK163.out) hg (Kd.R_ne HO_9.out BK163.out (by decide))); have n1_ := Aside0.mk (blk_grown (g := gb164) (o := .cells #[.int .i64 t167, .int .i64 t168, .int .i64 t169] 23 (0, 0)) (by (with_reducible repeat (first | refine blk_drewN ?_ _ | refine blk_drew ?_ | refine blk_alloc ?_ _)); refine blk_put (cs := #[.int .i64 t167, .int .i64 t168, .int .i64 x165002_1]) ?_ 2 _ rfl; (with_reducible repeat (first | refine blk_drewN ?_ _ | refine blk_drew ?_ | refine blk_alloc ?_ _)); refine blk_put (cs := #[.int .i64 t167, .int .i64 x165001_1, .int .i64 x165002_1]) ?_ 1 _ rfl; (with_reducible repeat (first | refine blk_drewN ?_ _ | refine blk_drew ?_ | refine blk_alloc ?_ _)); refine blk_put (cs := #[.int .i64 x165000_1, .int .i64 x165001_1, .int .i64 x165002_1]) ?_ 0 _ rfl; (with_reducible repeat (first | refine blk_drewN ?_ _ | refine blk_drew ?_ | refine blk_alloc ?_ _)); refine blk_far ?_ NB164_171.out _; (with_reducible repeat (first | refine blk_drewN ?_ _ | refine blk_drew ?_ | refine blk_alloc ?_ _)); refine blk_far ?_ NB164_171.out _; (with_reducible repeat (first | refine blk_drewN ?_ _ | refine blk_drew ?_ | refine blk_alloc ?_ _)); refine blk_far ?_ NB164_171.out _; (with_reducible repeat (first | refine blk_drewN ?_ _ | refine blk_drew ?_ | refine blk_alloc ?_ _)); exact BK164.out) hg (Kd.R_ne HO_9.out BK164.out (by decide))); have n2_ := Aside0.mk (blk_grown (g := gb166) (o := .cells #[.int .i64 ((rd_T39 l1 x11_1).f0), .bool ((rd_T39 l1 x11_1).f1), .int .i64 ((rd_T39 l1 x11_1).f2), .int .i64 ((rd_T39 l1 x11_1).f3)] 39 (0, 0)) (by (with_reducible repeat (first | refine blk_drewN ?_ _ | refine blk_drew ?_ | refine blk_alloc ?_ _)); refine blk_far ?_ NB166_164.out _; (with_reducible repeat (first | refine blk_drewN ?_ _ | refine blk_drew ?_ | refine blk_alloc ?_ _)); refine blk_far ?_ NB166_164.out _; (with_reducible repeat (first | refine blk_drewN ?_ _ | refine blk_drew ?_ | refine blk_alloc ?_ _)); refine blk_far ?_ NB166_164.out _; (with_reducible repeat (first | refine blk_drewN ?_ _ | refine blk_drew ?_ | refine blk_alloc ?_ _)); refine blk_far ?_ NB166_171.out _; (with_reducible repeat (first | refine blk_drewN ?_ _ | refine blk_drew ?_ | refine blk_alloc ?_ _)); refine blk_far ?_ NB166_171.out _; (with_reducible repeat (first | refine blk_drewN ?_ _ | refine blk_drew ?_ | refine blk_alloc ?_ _)); refine blk_far ?_ NB166_171.out _; (with_reducible repeat (first | refine blk_drewN ?_ _ | refine blk_drew ?_ | refine blk_alloc ?_ _)); exact BK166.out) hg (Kd.R_away HO_9.out (fun _ hk => hk.2))); have n3_ := Aside0.mk (blk_grown (g := gb171) (o := .cells #[.int .i64 t167, .int .i64 t168, .int .i64 t169] 23 (0, 0)) (by (with_reducible repeat (first | refine blk_drewN ?_ _ | refine blk_drew ?_ | refine blk_alloc ?_ _)); refine blk_far ?_ NB171_164.out _; (with_reducible repeat (first | refine blk_drewN ?_ _ | refine blk_drew ?_ | refine blk_alloc ?_ _)); refine blk_far ?_ NB171_164.out _; (with_reducible repeat (first | refine blk_drewN ?_ _ | refine blk_drew ?_ | refine blk_alloc ?_ _)); refine blk_far ?_ NB171_164.out _; (with_reducible repeat (first | refine blk_drewN ?_ _ | refine blk_drew ?_ | refine blk_alloc ?_ _)); refine blk_put (cs := #[.int .i64 t167, .int .i64 t168, .int .i64 0]) ?_ 2 _ rfl; (with_reducible repeat (first | refine blk_drewN ?_ _ | refine blk_drew ?_ | refine blk_alloc ?_ _)); refine blk_put (cs := #[.int .i64 t167, .int .i64 0, .int .i64 0]) ?_ 1 _ rfl; (with_reducible repeat (first | refine blk_drewN ?_ _ | refine blk_drew ?_ | refine blk_alloc ?_ _)); refine blk_put (cs := #[.int .i64 0, .int .i64 0, .int .i64 0]) ?_ 0 _ rfl; (with_reducible repeat (first | refine blk_drewN ?_ _ | refine blk_drew ?_ | refine blk_alloc ?_ _)); exact BK171.out) hg (Kd.R_ne HO_9.out BK171.out (by decide))); have n4_ := Aside0.mk (hb); have n5_ := Aside0.mk (ho); clear BK163; clear BK164; clear BK166; clear BK171; clear HB; clear HO_9; have BK163 := n0_; have BK164 := n1_; have BK166 := n2_; have BK171 := n3_; have HB := n4_; have HO174 := n5_; clear n0_ n1_ n2_ n3_ n4_ n5_; clear ho hb hg hat))
                go_roundg k1
                case measure => have := HK1.out; omega
                case rel => exact ⟨(y172), (x10_1), (wrap64 (x11_1 + 1)), (x164000_1), (x164001_1), (x164002_1), (t167), (t168), (t169), (by first | rfl | (simp; done) | (simp [*]; done)), (by first | rfl | (simp; done) | (simp [*]; done)), H', ⟨by have := HK1.out; omega⟩, ⟨by (with_reducible repeat (first | apply Kd.R_alloc | apply Kd.R_drewN | apply Kd.R_drew)); exact Kd.R_mono HO174.out (fun _ hk => trivial)⟩, ⟨by (with_reducible repeat (first | refine blk_drewN ?_ _ | refine blk_drew ?_ | refine blk_alloc ?_ _)); exact BK163.out⟩, ⟨by (with_reducible repeat (first | refine blk_drewN ?_ _ | refine blk_drew ?_ | refine blk_alloc ?_ _)); exact BK164.out⟩, ⟨by repeat (first | (with_reducible first | exact HB.out | apply below_alloc | apply pw_below_drewN | apply below_drew1 | refine below_set ?_ GE163.out | refine below_set ?_ GE164.out | refine below_set ?_ GE166.out | refine below_set ?_ GE171.out) | exact HB.out)⟩⟩
              · rw [if_neg c12] at H
                exact absurd H (by simp)
            · rw [if_neg c11] at H
              have c11b0 : (t170 == 0) = false := beq_eq_false_iff_ne.mpr c11
              have c11b1 : (t170 != 0) = true := bne_iff_ne.mpr c11
              have H' := Aside0.mk H
              clear H
              have p165 : 0 ≤ (x11_1 : Int) := of_decide_eq_true (by first | (with_reducible assumption) | assumption)
              have q165 : x11_1 < (l1.length : Int) := of_decide_eq_true (by first | (with_reducible assumption) | assumption)
              obtain ⟨ad165, e165, hx165_0, hx165_1, hx165_2, hx165_3⟩ := at_T39 HR1.out x11_1 p165 q165
              cases e165
              replace hx165_0 := (HB.out.cell (World.block_lt_of_cell? w _ hx165_0)).trans hx165_0
              replace hx165_1 := (HB.out.cell (World.block_lt_of_cell? w _ hx165_1)).trans hx165_1
              replace hx165_2 := (HB.out.cell (World.block_lt_of_cell? w _ hx165_2)).trans hx165_2
              replace hx165_3 := (HB.out.cell (World.block_lt_of_cell? w _ hx165_3)).trans hx165_3
              replace p165 := eq_true p165
              replace q165 := eq_true q165
              go_wp2_with (first | ((with_reducible refine gate_dst (N := 12) rfl ?_); (try (refine gate_guard (by rfl) ?_; dsimp only)); refine box_event ?hg (N := 12) ?hd (cs := #[.int .i64 0, .bool false, .int .i64 0, .int .i64 0]) (t := 39) ?hr ?_; (case hd => rfl); (case hg => rfl); (case hr => first | (go_simp; done) | (go_simp; rfl)); intro gb166 hg w28 hbox hb; have n0_ := Aside0.mk (Kd.R_below (Kd.R_elderB (by (with_reducible repeat (first | apply Kd.R_alloc | apply Kd.R_drewN | apply Kd.R_drew)); exact HO_9.out) gb166 (Nat.le_of_eq hg.symm)) hb); have n1_ := Aside0.mk (blk_below (g := gb163) (o := .cells #[.int .i64 x164000_1, .int .i64 x164001_1, .int .i64 x164002_1] 23 (0, 0)) (by (with_reducible repeat (first | refine blk_drewN ?_ _ | refine blk_drew ?_ | refine blk_alloc ?_ _)); exact BK163.out) hb); have n2_ := Aside0.mk (blk_below (g := gb164) (o := .cells #[.int .i64 x165000_1, .int .i64 x165001_1, .int .i64 x165002_1] 23 (0, 0)) (by (with_reducible repeat (first | refine blk_drewN ?_ _ | refine blk_drew ?_ | refine blk_alloc ?_ _)); exact BK164.out) hb); have n3_ := Aside0.mk (below_step (by repeat (first | (with_reducible first | exact HB.out | apply below_alloc | apply pw_below_drewN | apply below_drew1 | refine below_set ?_ GE163.out | refine below_set ?_ GE164.out) | exact HB.out)) hb); have n4_ := Aside0.mk (hbox); have n5_ := Aside0.mk ((by rw [hg]; exact (below_size (by repeat (first | (with_reducible first | exact HB.out | apply below_alloc | apply pw_below_drewN | apply below_drew1 | refine below_set ?_ GE163.out | refine below_set ?_ GE164.out) | exact HB.out))) : w.heap.size ≤ gb166)); have n6_ := Aside0.mk ((by rw [hg]; exact (below_size (by repeat (first | (with_reducible first | exact HB.out | apply below_alloc | apply pw_below_drewN | apply below_drew1 | refine below_set ?_ GE163.out | refine below_set ?_ GE164.out) | exact HB.out))) : w.heap.size ≤ gb166)); have n7_ := Aside0.mk ((by rw [hg]; exact Nat.ne_of_lt (blk_lt (g := gb163) (o := .cells #[.int .i64 x164000_1, .int .i64 x164001_1, .int .i64 x164002_1] 23 (0, 0)) (by (with_reducible repeat (first | refine blk_drewN ?_ _ | refine blk_drew ?_ | refine blk_alloc ?_ _)); exact BK163.out)) : gb163 ≠ gb166)); have n8_ := Aside0.mk ((by rw [hg]; exact Nat.ne_of_gt (blk_lt (g := gb163) (o := .cells #[.int .i64 x164000_1, .int .i64 x164001_1, .int .i64 x164002_1] 23 (0, 0)) (by (with_reducible repeat (first | refine blk_drewN ?_ _ | refine blk_drew ?_ | refine blk_alloc ?_ _)); exact BK163.out)) : gb166 ≠ gb163)); have n9_ := Aside0.mk ((by rw [hg]; exact Nat.ne_of_lt (blk_lt (g := gb164) (o := .cells #[.int .i64 x165000_1, .int .i64 x165001_1, .int .i64 x165002_1] 23 (0, 0)) (by (with_reducible repeat (first | refine blk_drewN ?_ _ | refine blk_drew ?_ | refine blk_alloc ?_ _)); exact BK164.out)) : gb164 ≠ gb166)); have n10_ := Aside0.mk ((by rw [hg]; exact Nat.ne_of_gt (blk_lt (g := gb164) (o := .cells #[.int .i64 x165000_1, .int .i64 x165001_1, .int .i64 x165002_1] 23 (0, 0)) (by (with_reducible repeat (first | refine blk_drewN ?_ _ | refine blk_drew ?_ | refine blk_alloc ?_ _)); exact BK164.out)) : gb166 ≠ gb164)); clear HO_9; clear BK163; clear BK164; clear HB; have HO_9 := n0_; have BK163 := n1_; have BK164 := n2_; have HB := n3_; have BK166 := n4_; have GW166 := n5_; have GE166 := n6_; have NB163_166 := n7_; have NB166_163 := n8_; have NB164_166 := n9_; have NB166_164 := n10_; clear n0_ n1_ n2_ n3_ n4_ n5_ n6_ n7_ n8_ n9_ n10_; clear hb hbox hg; have hnb29 := NB166_163.out; have hnc29 := NB163_166.out; have hnb30 := NB166_164.out; have hnc30 := NB164_166.out; have hcz31_0 : w28.cell? ⟨gb166, 0, none⟩ = some (.int .i64 0) := (blk_cell BK166.out 0).trans rfl; have hcz31_1 : w28.cell? ⟨gb166, 1, none⟩ = some (.bool false) := (blk_cell BK166.out 1).trans rfl; have hcz31_2 : w28.cell? ⟨gb166, 2, none⟩ = some (.int .i64 0) := (blk_cell BK166.out 2).trans rfl; have hcz31_3 : w28.cell? ⟨gb166, 3, none⟩ = some (.int .i64 0) := (blk_cell BK166.out 3).trans rfl; have hfz31_0 := blk_frozen BK166.out 0; have hfz31_1 := blk_frozen BK166.out 1; have hfz31_2 := blk_frozen BK166.out 2; have hfz31_3 := blk_frozen BK166.out 3; have hnb32 := NB164_163.out; have hnc32 := NB163_164.out; have hcz33_0 : w28.cell? ⟨gb164, 0, none⟩ = some (.int .i64 x165000_1) := (blk_cell BK164.out 0).trans rfl; have hcz33_1 : w28.cell? ⟨gb164, 1, none⟩ = some (.int .i64 x165001_1) := (blk_cell BK164.out 1).trans rfl; have hcz33_2 : w28.cell? ⟨gb164, 2, none⟩ = some (.int .i64 x165002_1) := (blk_cell BK164.out 2).trans rfl; have hfz33_0 := blk_frozen BK164.out 0; have hfz33_1 := blk_frozen BK164.out 1; have hfz33_2 := blk_frozen BK164.out 2) | ((with_reducible refine gate_callee (f := 16) rfl ?_); refine goesL_ (some 39) rfl rfl Try.func16 (by kernel_rfl) rfl #[.agg #[.int .i64 x165000_1, .int .i64 x165001_1, .int .i64 x165002_1], .bool ((rd_T39 l1 x11_1).f1), .int .i64 ((rd_T39 l1 x11_1).f2)] rfl (by (try simp only [List.map_toArray, List.map_cons, List.map_nil]); first | done | rfl | (simp only [List.length_drop, List.length_take]; rfl)) ?_; (with_reducible refine (pot_Do.calls k1 x165000_1 x165001_1 x165002_1 ((rd_T39 l1 x11_1).f1) ((rd_T39 l1 x11_1).f2) t167 t168 t169 t170 _ A10.out).mono ?_); rintro e w34 ⟨rfl, hb⟩; refine ⟨_, rfl, ?_⟩; have n0_ := Aside0.mk (Kd.R_below (by (with_reducible repeat (first | apply Kd.R_alloc | apply Kd.R_drewN | apply Kd.R_drew)); exact (Kd.R_mono (Kd.R_far (p := ⟨gb166, 3, none⟩) (Kd.R_far (p := ⟨gb166, 2, none⟩) (Kd.R_far (p := ⟨gb166, 1, none⟩) (Kd.R_far (p := ⟨gb166, 0, none⟩) (Kd.R_mono HO_9.out (fun k_ hk => (⟨hk, hk.2⟩ : _ ∧ k_ ≠ gb166))) (fun _ hk => hk.2) (.int .i64 ((rd_T39 l1 x11_1).f0))) (fun _ hk => hk.2) (.bool ((rd_T39 l1 x11_1).f1))) (fun _ hk => hk.2) (.int .i64 ((rd_T39 l1 x11_1).f2))) (fun _ hk => hk.2) (.int .i64 ((rd_T39 l1 x11_1).f3))) (fun _ h_ => h_.1))) hb); have n1_ := Aside0.mk (blk_below (g := gb163) (o := .cells #[.int .i64 x164000_1, .int .i64 x164001_1, .int .i64 x164002_1] 23 (0, 0)) (by (with_reducible repeat (first | refine blk_drewN ?_ _ | refine blk_drew ?_ | refine blk_alloc ?_ _)); refine blk_far ?_ NB163_166.out _; (with_reducible repeat (first | refine blk_drewN ?_ _ | refine blk_drew ?_ | refine blk_alloc ?_ _)); refine blk_far ?_ NB163_166.out _; (with_reducible repeat (first | refine blk_drewN ?_ _ | refine blk_drew ?_ | refine blk_alloc ?_ _)); refine blk_far ?_ NB163_166.out _; (with_reducible repeat (first | refine blk_drewN ?_ _ | refine blk_drew ?_ | refine blk_alloc ?_ _)); refine blk_far ?_ NB163_166.out _; (with_reducible repeat (first | refine blk_drewN ?_ _ | refine blk_drew ?_ | refine blk_alloc ?_ _)); exact BK163.out) hb); have n2_ := Aside0.mk (blk_below (g := gb164) (o := .cells #[.int .i64 x165000_1, .int .i64 x165001_1, .int .i64 x165002_1] 23 (0, 0)) (by (with_reducible repeat (first | refine blk_drewN ?_ _ | refine blk_drew ?_ | refine blk_alloc ?_ _)); refine blk_far ?_ NB164_166.out _; (with_reducible repeat (first | refine blk_drewN ?_ _ | refine blk_drew ?_ | refine blk_alloc ?_ _)); refine blk_far ?_ NB164_166.out _; (with_reducible repeat (first | refine blk_drewN ?_ _ | refine blk_drew ?_ | refine blk_alloc ?_ _)); refine blk_far ?_ NB164_166.out _; (with_reducible repeat (first | refine blk_drewN ?_ _ | refine blk_drew ?_ | refine blk_alloc ?_ _)); refine blk_far ?_ NB164_166.out _; (with_reducible repeat (first | refine blk_drewN ?_ _ | refine blk_drew ?_ | refine blk_alloc ?_ _)); exact BK164.out) hb); have n3_ := Aside0.mk (blk_below (g := gb166) (o := .cells #[.int .i64 ((rd_T39 l1 x11_1).f0), .bool ((rd_T39 l1 x11_1).f1), .int .i64 ((rd_T39 l1 x11_1).f2), .int .i64 ((rd_T39 l1 x11_1).f3)] 39 (0, 0)) (by (with_reducible repeat (first | refine blk_drewN ?_ _ | refine blk_drew ?_ | refine blk_alloc ?_ _)); refine blk_put (cs := #[.int .i64 ((rd_T39 l1 x11_1).f0), .bool ((rd_T39 l1 x11_1).f1), .int .i64 ((rd_T39 l1 x11_1).f2), .int .i64 0]) ?_ 3 _ rfl; (with_reducible repeat (first | refine blk_drewN ?_ _ | refine blk_drew ?_ | refine blk_alloc ?_ _)); refine blk_put (cs := #[.int .i64 ((rd_T39 l1 x11_1).f0), .bool ((rd_T39 l1 x11_1).f1), .int .i64 0, .int .i64 0]) ?_ 2 _ rfl; (with_reducible repeat (first | refine blk_drewN ?_ _ | refine blk_drew ?_ | refine blk_alloc ?_ _)); refine blk_put (cs := #[.int .i64 ((rd_T39 l1 x11_1).f0), .bool false, .int .i64 0, .int .i64 0]) ?_ 1 _ rfl; (with_reducible repeat (first | refine blk_drewN ?_ _ | refine blk_drew ?_ | refine blk_alloc ?_ _)); refine blk_put (cs := #[.int .i64 0, .bool false, .int .i64 0, .int .i64 0]) ?_ 0 _ rfl; (with_reducible repeat (first | refine blk_drewN ?_ _ | refine blk_drew ?_ | refine blk_alloc ?_ _)); exact BK166.out) hb); have n4_ := Aside0.mk (below_step (by repeat (first | (with_reducible first | exact HB.out | apply below_alloc | apply pw_below_drewN | apply below_drew1 | refine below_set ?_ GE163.out | refine below_set ?_ GE164.out | refine below_set ?_ GE166.out) | exact HB.out)) hb); clear HO_9; clear BK163; clear BK164; clear BK166; clear HB; have HO_9 := n0_; have BK163 := n1_; have BK164 := n2_; have BK166 := n3_; have HB := n4_; clear n0_ n1_ n2_ n3_ n4_; (try clear hb); (try clear hb2); (try clear hk); (try clear hi)) | ((with_reducible refine gate_dst (N := 13) rfl ?_); (try (refine gate_guard (by rfl) ?_; dsimp only)); refine box_event ?hg (N := 13) ?hd (cs := #[.int .i64 0, .int .i64 0, .int .i64 0]) (t := 23) ?hr ?_; (case hd => rfl); (case hg => rfl); (case hr => first | (go_simp; done) | (go_simp; rfl)); intro gb171 hg w35 hbox hb; have n0_ := Aside0.mk (Kd.R_below (by (with_reducible repeat (first | apply Kd.R_alloc | apply Kd.R_drewN | apply Kd.R_drew)); exact HO_9.out) hb); have n1_ := Aside0.mk (blk_below (g := gb163) (o := .cells #[.int .i64 x164000_1, .int .i64 x164001_1, .int .i64 x164002_1] 23 (0, 0)) (by (with_reducible repeat (first | refine blk_drewN ?_ _ | refine blk_drew ?_ | refine blk_alloc ?_ _)); exact BK163.out) hb); have n2_ := Aside0.mk (blk_below (g := gb164) (o := .cells #[.int .i64 x165000_1, .int .i64 x165001_1, .int .i64 x165002_1] 23 (0, 0)) (by (with_reducible repeat (first | refine blk_drewN ?_ _ | refine blk_drew ?_ | refine blk_alloc ?_ _)); exact BK164.out) hb); have n3_ := Aside0.mk (blk_below (g := gb166) (o := .cells #[.int .i64 ((rd_T39 l1 x11_1).f0), .bool ((rd_T39 l1 x11_1).f1), .int .i64 ((rd_T39 l1 x11_1).f2), .int .i64 ((rd_T39 l1 x11_1).f3)] 39 (0, 0)) (by (with_reducible repeat (first | refine blk_drewN ?_ _ | refine blk_drew ?_ | refine blk_alloc ?_ _)); exact BK166.out) hb); have n4_ := Aside0.mk (below_step (by repeat (first | (with_reducible first | exact HB.out | apply below_alloc | apply pw_below_drewN | apply below_drew1 | refine below_set ?_ GE163.out | refine below_set ?_ GE164.out | refine below_set ?_ GE166.out) | exact HB.out)) hb); have n5_ := Aside0.mk (hbox); have n6_ := Aside0.mk ((by rw [hg]; exact (below_size (by repeat (first | (with_reducible first | exact HB.out | apply below_alloc | apply pw_below_drewN | apply below_drew1 | refine below_set ?_ GE163.out | refine below_set ?_ GE164.out | refine below_set ?_ GE166.out) | exact HB.out))) : w.heap.size ≤ gb171)); have n7_ := Aside0.mk ((by rw [hg]; exact (below_size (by repeat (first | (with_reducible first | exact HB.out | apply below_alloc | apply pw_below_drewN | apply below_drew1 | refine below_set ?_ GE163.out | refine below_set ?_ GE164.out | refine below_set ?_ GE166.out) | exact HB.out))) : w.heap.size ≤ gb171)); have n8_ := Aside0.mk ((by rw [hg]; exact Nat.ne_of_lt (blk_lt (g := gb163) (o := .cells #[.int .i64 x164000_1, .int .i64 x164001_1, .int .i64 x164002_1] 23 (0, 0)) (by (with_reducible repeat (first | refine blk_drewN ?_ _ | refine blk_drew ?_ | refine blk_alloc ?_ _)); exact BK163.out)) : gb163 ≠ gb171)); have n9_ := Aside0.mk ((by rw [hg]; exact Nat.ne_of_gt (blk_lt (g := gb163) (o := .cells #[.int .i64 x164000_1, .int .i64 x164001_1, .int .i64 x164002_1] 23 (0, 0)) (by (with_reducible repeat (first | refine blk_drewN ?_ _ | refine blk_drew ?_ | refine blk_alloc ?_ _)); exact BK163.out)) : gb171 ≠ gb163)); have n10_ := Aside0.mk ((by rw [hg]; exact Nat.ne_of_lt (blk_lt (g := gb164) (o := .cells #[.int .i64 x165000_1, .int .i64 x165001_1, .int .i64 x165002_1] 23 (0, 0)) (by (with_reducible repeat (first | refine blk_drewN ?_ _ | refine blk_drew ?_ | refine blk_alloc ?_ _)); exact BK164.out)) : gb164 ≠ gb171)); have n11_ := Aside0.mk ((by rw [hg]; exact Nat.ne_of_gt (blk_lt (g := gb164) (o := .cells #[.int .i64 x165000_1, .int .i64 x165001_1, .int .i64 x165002_1] 23 (0, 0)) (by (with_reducible repeat (first | refine blk_drewN ?_ _ | refine blk_drew ?_ | refine blk_alloc ?_ _)); exact BK164.out)) : gb171 ≠ gb164)); have n12_ := Aside0.mk ((by rw [hg]; exact Nat.ne_of_lt (blk_lt (g := gb166) (o := .cells #[.int .i64 ((rd_T39 l1 x11_1).f0), .bool ((rd_T39 l1 x11_1).f1), .int .i64 ((rd_T39 l1 x11_1).f2), .int .i64 ((rd_T39 l1 x11_1).f3)] 39 (0, 0)) (by (with_reducible repeat (first | refine blk_drewN ?_ _ | refine blk_drew ?_ | refine blk_alloc ?_ _)); exact BK166.out)) : gb166 ≠ gb171)); have n13_ := Aside0.mk ((by rw [hg]; exact Nat.ne_of_gt (blk_lt (g := gb166) (o := .cells #[.int .i64 ((rd_T39 l1 x11_1).f0), .bool ((rd_T39 l1 x11_1).f1), .int .i64 ((rd_T39 l1 x11_1).f2), .int .i64 ((rd_T39 l1 x11_1).f3)] 39 (0, 0)) (by (with_reducible repeat (first | refine blk_drewN ?_ _ | refine blk_drew ?_ | refine blk_alloc ?_ _)); exact BK166.out)) : gb171 ≠ gb166)); clear HO_9; clear BK163; clear BK164; clear BK166; clear HB; have HO_9 := n0_; have BK163 := n1_; have BK164 := n2_; have BK166 := n3_; have HB := n4_; have BK171 := n5_; have GW171 := n6_; have GE171 := n7_; have NB163_171 := n8_; have NB171_163 := n9_; have NB164_171 := n10_; have NB171_164 := n11_; have NB166_171 := n12_; have NB171_166 := n13_; clear n0_ n1_ n2_ n3_ n4_ n5_ n6_ n7_ n8_ n9_ n10_ n11_ n12_ n13_; clear hb hbox hg; have hnb36 := NB171_163.out; have hnc36 := NB163_171.out; have hnb37 := NB171_164.out; have hnc37 := NB164_171.out; have hnb38 := NB171_166.out; have hnc38 := NB166_171.out; have hcz39_0 : w35.cell? ⟨gb171, 0, none⟩ = some (.int .i64 0) := (blk_cell BK171.out 0).trans rfl; have hcz39_1 : w35.cell? ⟨gb171, 1, none⟩ = some (.int .i64 0) := (blk_cell BK171.out 1).trans rfl; have hcz39_2 : w35.cell? ⟨gb171, 2, none⟩ = some (.int .i64 0) := (blk_cell BK171.out 2).trans rfl; have hfz39_0 := blk_frozen BK171.out 0; have hfz39_1 := blk_frozen BK171.out 1; have hfz39_2 := blk_frozen BK171.out 2))
              go_roundg k1
              case measure => have := HK1.out; omega
              case rel => exact ⟨(x9_1), (x10_1), (wrap64 (x11_1 + 1)), (x164000_1), (x164001_1), (x164002_1), (x165000_1), (x165001_1), (x165002_1), (by first | rfl | (simp; done) | (simp [*]; done)), (by first | rfl | (simp; done) | (simp [*]; done)), H', ⟨by have := HK1.out; omega⟩, ⟨by (with_reducible repeat (first | apply Kd.R_alloc | apply Kd.R_drewN | apply Kd.R_drew)); exact Kd.R_mono (Kd.R_far (p := ⟨gb171, 2, none⟩) (Kd.R_far (p := ⟨gb171, 1, none⟩) (Kd.R_far (p := ⟨gb171, 0, none⟩) (Kd.R_types HO_9.out BK171.out (by decide)) (fun _ hk => hk.2) (.int .i64 t167)) (fun _ hk => hk.2) (.int .i64 t168)) (fun _ hk => hk.2) (.int .i64 t169)) (fun _ hk => trivial)⟩, ⟨by (with_reducible repeat (first | refine blk_drewN ?_ _ | refine blk_drew ?_ | refine blk_alloc ?_ _)); refine blk_far ?_ NB163_171.out _; (with_reducible repeat (first | refine blk_drewN ?_ _ | refine blk_drew ?_ | refine blk_alloc ?_ _)); refine blk_far ?_ NB163_171.out _; (with_reducible repeat (first | refine blk_drewN ?_ _ | refine blk_drew ?_ | refine blk_alloc ?_ _)); refine blk_far ?_ NB163_171.out _; (with_reducible repeat (first | refine blk_drewN ?_ _ | refine blk_drew ?_ | refine blk_alloc ?_ _)); exact BK163.out⟩, ⟨by (with_reducible repeat (first | refine blk_drewN ?_ _ | refine blk_drew ?_ | refine blk_alloc ?_ _)); refine blk_far ?_ NB164_171.out _; (with_reducible repeat (first | refine blk_drewN ?_ _ | refine blk_drew ?_ | refine blk_alloc ?_ _)); refine blk_far ?_ NB164_171.out _; (with_reducible repeat (first | refine blk_drewN ?_ _ | refine blk_drew ?_ | refine blk_alloc ?_ _)); refine blk_far ?_ NB164_171.out _; (with_reducible repeat (first | refine blk_drewN ?_ _ | refine blk_drew ?_ | refine blk_alloc ?_ _)); exact BK164.out⟩, ⟨by repeat (first | (with_reducible first | exact HB.out | apply below_alloc | apply pw_below_drewN | apply below_drew1 | refine below_set ?_ GE163.out | refine below_set ?_ GE164.out | refine below_set ?_ GE166.out | refine below_set ?_ GE171.out) | exact HB.out)⟩⟩
          · rw [if_neg c9] at H
            have c9b0 : (((rd_T39 l1 x11_1).f0) == 0) = false := beq_eq_false_iff_ne.mpr c9
            have c9b1 : (((rd_T39 l1 x11_1).f0) != 0) = true := bne_iff_ne.mpr c9
            have HC40 := Aside0.mk H
            clear H
            have p165 : 0 ≤ (x11_1 : Int) := of_decide_eq_true (by first | (with_reducible assumption) | assumption)
            have q165 : x11_1 < (l1.length : Int) := of_decide_eq_true (by first | (with_reducible assumption) | assumption)
            obtain ⟨ad165, e165, hx165_0, hx165_1, hx165_2, hx165_3⟩ := at_T39 HR1.out x11_1 p165 q165
            cases e165
            replace hx165_0 := (HB.out.cell (World.block_lt_of_cell? w _ hx165_0)).trans hx165_0
            replace hx165_1 := (HB.out.cell (World.block_lt_of_cell? w _ hx165_1)).trans hx165_1
            replace hx165_2 := (HB.out.cell (World.block_lt_of_cell? w _ hx165_2)).trans hx165_2
            replace hx165_3 := (HB.out.cell (World.block_lt_of_cell? w _ hx165_3)).trans hx165_3
            replace p165 := eq_true p165
            replace q165 := eq_true q165
            go_upto_region 13 with (first | ((with_reducible refine gate_dst (N := 12) rfl ?_); (try (refine gate_guard (by rfl) ?_; dsimp only)); refine box_event ?hg (N := 12) ?hd (cs := #[.int .i64 0, .bool false, .int .i64 0, .int .i64 0]) (t := 39) ?hr ?_; (case hd => rfl); (case hg => rfl); (case hr => first | (go_simp; done) | (go_simp; rfl)); intro gb166 hg w41 hbox hb; have n0_ := Aside0.mk (Kd.R_below (Kd.R_elderB (by (with_reducible repeat (first | apply Kd.R_alloc | apply Kd.R_drewN | apply Kd.R_drew)); exact HO_9.out) gb166 (Nat.le_of_eq hg.symm)) hb); have n1_ := Aside0.mk (blk_below (g := gb163) (o := .cells #[.int .i64 x164000_1, .int .i64 x164001_1, .int .i64 x164002_1] 23 (0, 0)) (by (with_reducible repeat (first | refine blk_drewN ?_ _ | refine blk_drew ?_ | refine blk_alloc ?_ _)); exact BK163.out) hb); have n2_ := Aside0.mk (blk_below (g := gb164) (o := .cells #[.int .i64 x165000_1, .int .i64 x165001_1, .int .i64 x165002_1] 23 (0, 0)) (by (with_reducible repeat (first | refine blk_drewN ?_ _ | refine blk_drew ?_ | refine blk_alloc ?_ _)); exact BK164.out) hb); have n3_ := Aside0.mk (below_step (by repeat (first | (with_reducible first | exact HB.out | apply below_alloc | apply pw_below_drewN | apply below_drew1 | refine below_set ?_ GE163.out | refine below_set ?_ GE164.out) | exact HB.out)) hb); have n4_ := Aside0.mk (hbox); have n5_ := Aside0.mk ((by rw [hg]; exact (below_size (by repeat (first | (with_reducible first | exact HB.out | apply below_alloc | apply pw_below_drewN | apply below_drew1 | refine below_set ?_ GE163.out | refine below_set ?_ GE164.out) | exact HB.out))) : w.heap.size ≤ gb166)); have n6_ := Aside0.mk ((by rw [hg]; exact (below_size (by repeat (first | (with_reducible first | exact HB.out | apply below_alloc | apply pw_below_drewN | apply below_drew1 | refine below_set ?_ GE163.out | refine below_set ?_ GE164.out) | exact HB.out))) : w.heap.size ≤ gb166)); have n7_ := Aside0.mk ((by rw [hg]; exact Nat.ne_of_lt (blk_lt (g := gb163) (o := .cells #[.int .i64 x164000_1, .int .i64 x164001_1, .int .i64 x164002_1] 23 (0, 0)) (by (with_reducible repeat (first | refine blk_drewN ?_ _ | refine blk_drew ?_ | refine blk_alloc ?_ _)); exact BK163.out)) : gb163 ≠ gb166)); have n8_ := Aside0.mk ((by rw [hg]; exact Nat.ne_of_gt (blk_lt (g := gb163) (o := .cells #[.int .i64 x164000_1, .int .i64 x164001_1, .int .i64 x164002_1] 23 (0, 0)) (by (with_reducible repeat (first | refine blk_drewN ?_ _ | refine blk_drew ?_ | refine blk_alloc ?_ _)); exact BK163.out)) : gb166 ≠ gb163)); have n9_ := Aside0.mk ((by rw [hg]; exact Nat.ne_of_lt (blk_lt (g := gb164) (o := .cells #[.int .i64 x165000_1, .int .i64 x165001_1, .int .i64 x165002_1] 23 (0, 0)) (by (with_reducible repeat (first | refine blk_drewN ?_ _ | refine blk_drew ?_ | refine blk_alloc ?_ _)); exact BK164.out)) : gb164 ≠ gb166)); have n10_ := Aside0.mk ((by rw [hg]; exact Nat.ne_of_gt (blk_lt (g := gb164) (o := .cells #[.int .i64 x165000_1, .int .i64 x165001_1, .int .i64 x165002_1] 23 (0, 0)) (by (with_reducible repeat (first | refine blk_drewN ?_ _ | refine blk_drew ?_ | refine blk_alloc ?_ _)); exact BK164.out)) : gb166 ≠ gb164)); clear HO_9; clear BK163; clear BK164; clear HB; have HO_9 := n0_; have BK163 := n1_; have BK164 := n2_; have HB := n3_; have BK166 := n4_; have GW166 := n5_; have GE166 := n6_; have NB163_166 := n7_; have NB166_163 := n8_; have NB164_166 := n9_; have NB166_164 := n10_; clear n0_ n1_ n2_ n3_ n4_ n5_ n6_ n7_ n8_ n9_ n10_; clear hb hbox hg; have hnb42 := NB166_163.out; have hnc42 := NB163_166.out; have hnb43 := NB166_164.out; have hnc43 := NB164_166.out; have hcz44_0 : w41.cell? ⟨gb166, 0, none⟩ = some (.int .i64 0) := (blk_cell BK166.out 0).trans rfl; have hcz44_1 : w41.cell? ⟨gb166, 1, none⟩ = some (.bool false) := (blk_cell BK166.out 1).trans rfl; have hcz44_2 : w41.cell? ⟨gb166, 2, none⟩ = some (.int .i64 0) := (blk_cell BK166.out 2).trans rfl; have hcz44_3 : w41.cell? ⟨gb166, 3, none⟩ = some (.int .i64 0) := (blk_cell BK166.out 3).trans rfl; have hfz44_0 := blk_frozen BK166.out 0; have hfz44_1 := blk_frozen BK166.out 1; have hfz44_2 := blk_frozen BK166.out 2; have hfz44_3 := blk_frozen BK166.out 3))
            (try simp only [Act.put, List.setIfInBounds_toArray, List.set_cons_zero, List.set_cons_succ])
            go_cut [68] (fun v68 wc => ∃ (kq : Nat) (x68_39 : Bool), v68 = .bool x68_39 ∧ Aside0 (ententelaw05_played.j1 kq l1 x9_1 x10_1 x11_1 x68_39 x165000_1 x165001_1 x165002_1 ((rd_T39 l1 x11_1).f0) ((rd_T39 l1 x11_1).f1) ((rd_T39 l1 x11_1).f2) ((rd_T39 l1 x11_1).f3) = some (r1, r2, r3, r4, r5, r6)) ∧ Aside0 (kq ≤ k1) ∧ Aside0 (Kd.R k39 39 wc w.heap.size (fun k_ => k_ ≠ gb166) u9 x9_1) ∧ Aside0 (wc.heap[gb163]? = some (.cells #[.int .i64 x164000_1, .int .i64 x164001_1, .int .i64 x164002_1] 23 (0, 0))) ∧ Aside0 (wc.heap[gb164]? = some (.cells #[.int .i64 x165000_1, .int .i64 x165001_1, .int .i64 x165002_1] 23 (0, 0))) ∧ Aside0 (wc.heap[gb166]? = some (.cells #[.int .i64 ((rd_T39 l1 x11_1).f0), .bool ((rd_T39 l1 x11_1).f1), .int .i64 ((rd_T39 l1 x11_1).f2), .int .i64 ((rd_T39 l1 x11_1).f3)] 39 (0, 0))) ∧ Aside0 (Below w.heap.size w wc))
            case first =>
              have H := HC40.out
              clear HC40
              by_cases c45 : ((rd_T39 l1 x11_1).f0) = 1
              · rw [if_pos c45] at H
                have c45b0 : (((rd_T39 l1 x11_1).f0) == 1) = true := beq_iff_eq.mpr c45
                have c45b1 : (((rd_T39 l1 x11_1).f0) != 1) = false := bne_eq_false_iff_eq.mpr c45
                clear c45
                (first | rw [c45b0] | (simp only [i64_w, i32_w]; rw [c45b0]) | skip)
                by_cases c46 : ((rd_T39 l1 x11_1).f3) < 0
                · rw [if_pos c46] at H
                  have c46b0 : decide (((rd_T39 l1 x11_1).f3) < 0) = true := decide_eq_true c46
                  clear c46
                  have H' := Aside0.mk H
                  clear H
                  have hnb47 := NB166_163.out
                  have hnc47 := NB163_166.out
                  have hnb48 := NB166_164.out
                  have hnc48 := NB164_166.out
                  have hcz49_0 : w41.cell? ⟨gb166, 0, none⟩ = some (.int .i64 0) := (blk_cell BK166.out 0).trans rfl
                  have hcz49_1 : w41.cell? ⟨gb166, 1, none⟩ = some (.bool false) := (blk_cell BK166.out 1).trans rfl
                  have hcz49_2 : w41.cell? ⟨gb166, 2, none⟩ = some (.int .i64 0) := (blk_cell BK166.out 2).trans rfl
                  have hcz49_3 : w41.cell? ⟨gb166, 3, none⟩ = some (.int .i64 0) := (blk_cell BK166.out 3).trans rfl
                  have hfz49_0 := blk_frozen BK166.out 0
                  have hfz49_1 := blk_frozen BK166.out 1
                  have hfz49_2 := blk_frozen BK166.out 2
                  have hfz49_3 := blk_frozen BK166.out 3
                  go_wp2
                  go_meet
                  case rel => exact ⟨_, (true), (by first | rfl | (simp; done) | (simp [*]; done)), H', ⟨by have := HK1.out; first | omega | exact Nat.le_refl _⟩, ⟨by (with_reducible repeat (first | apply Kd.R_alloc | apply Kd.R_drewN | apply Kd.R_drew)); exact Kd.R_mono (Kd.R_far (p := ⟨gb166, 3, none⟩) (Kd.R_far (p := ⟨gb166, 2, none⟩) (Kd.R_far (p := ⟨gb166, 1, none⟩) (Kd.R_far (p := ⟨gb166, 0, none⟩) (Kd.R_mono HO_9.out (fun k_ hk => (⟨hk, hk.2⟩ : _ ∧ k_ ≠ gb166))) (fun _ hk => hk.2) (.int .i64 ((rd_T39 l1 x11_1).f0))) (fun _ hk => hk.2) (.bool ((rd_T39 l1 x11_1).f1))) (fun _ hk => hk.2) (.int .i64 ((rd_T39 l1 x11_1).f2))) (fun _ hk => hk.2) (.int .i64 ((rd_T39 l1 x11_1).f3))) (fun _ hk => hk.1.2)⟩, ⟨by (with_reducible repeat (first | refine blk_drewN ?_ _ | refine blk_drew ?_ | refine blk_alloc ?_ _)); refine blk_far ?_ NB163_166.out _; (with_reducible repeat (first | refine blk_drewN ?_ _ | refine blk_drew ?_ | refine blk_alloc ?_ _)); refine blk_far ?_ NB163_166.out _; (with_reducible repeat (first | refine blk_drewN ?_ _ | refine blk_drew ?_ | refine blk_alloc ?_ _)); refine blk_far ?_ NB163_166.out _; (with_reducible repeat (first | refine blk_drewN ?_ _ | refine blk_drew ?_ | refine blk_alloc ?_ _)); refine blk_far ?_ NB163_166.out _; (with_reducible repeat (first | refine blk_drewN ?_ _ | refine blk_drew ?_ | refine blk_alloc ?_ _)); exact BK163.out⟩, ⟨by (with_reducible repeat (first | refine blk_drewN ?_ _ | refine blk_drew ?_ | refine blk_alloc ?_ _)); refine blk_far ?_ NB164_166.out _; (with_reducible repeat (first | refine blk_drewN ?_ _ | refine blk_drew ?_ | refine blk_alloc ?_ _)); refine blk_far ?_ NB164_166.out _; (with_reducible repeat (first | refine blk_drewN ?_ _ | refine blk_drew ?_ | refine blk_alloc ?_ _)); refine blk_far ?_ NB164_166.out _; (with_reducible repeat (first | refine blk_drewN ?_ _ | refine blk_drew ?_ | refine blk_alloc ?_ _)); refine blk_far ?_ NB164_166.out _; (with_reducible repeat (first | refine blk_drewN ?_ _ | refine blk_drew ?_ | refine blk_alloc ?_ _)); exact BK164.out⟩, ⟨by (with_reducible repeat (first | refine blk_drewN ?_ _ | refine blk_drew ?_ | refine blk_alloc ?_ _)); refine blk_put (cs := #[.int .i64 ((rd_T39 l1 x11_1).f0), .bool ((rd_T39 l1 x11_1).f1), .int .i64 ((rd_T39 l1 x11_1).f2), .int .i64 0]) ?_ 3 _ rfl; (with_reducible repeat (first | refine blk_drewN ?_ _ | refine blk_drew ?_ | refine blk_alloc ?_ _)); refine blk_put (cs := #[.int .i64 ((rd_T39 l1 x11_1).f0), .bool ((rd_T39 l1 x11_1).f1), .int .i64 0, .int .i64 0]) ?_ 2 _ rfl; (with_reducible repeat (first | refine blk_drewN ?_ _ | refine blk_drew ?_ | refine blk_alloc ?_ _)); refine blk_put (cs := #[.int .i64 ((rd_T39 l1 x11_1).f0), .bool false, .int .i64 0, .int .i64 0]) ?_ 1 _ rfl; (with_reducible repeat (first | refine blk_drewN ?_ _ | refine blk_drew ?_ | refine blk_alloc ?_ _)); refine blk_put (cs := #[.int .i64 0, .bool false, .int .i64 0, .int .i64 0]) ?_ 0 _ rfl; (with_reducible repeat (first | refine blk_drewN ?_ _ | refine blk_drew ?_ | refine blk_alloc ?_ _)); exact BK166.out⟩, ⟨by repeat (first | (with_reducible first | exact HB.out | apply below_alloc | apply pw_below_drewN | apply below_drew1 | refine below_set ?_ GE163.out | refine below_set ?_ GE164.out | refine below_set ?_ GE166.out) | exact HB.out)⟩⟩
                · rw [if_neg c46] at H
                  have c46b0 : decide (((rd_T39 l1 x11_1).f3) < 0) = false := decide_eq_false c46
                  clear c46
                  have H' := Aside0.mk H
                  clear H
                  have hnb50 := NB166_163.out
                  have hnc50 := NB163_166.out
                  have hnb51 := NB166_164.out
                  have hnc51 := NB164_166.out
                  have hcz52_0 : w41.cell? ⟨gb166, 0, none⟩ = some (.int .i64 0) := (blk_cell BK166.out 0).trans rfl
                  have hcz52_1 : w41.cell? ⟨gb166, 1, none⟩ = some (.bool false) := (blk_cell BK166.out 1).trans rfl
                  have hcz52_2 : w41.cell? ⟨gb166, 2, none⟩ = some (.int .i64 0) := (blk_cell BK166.out 2).trans rfl
                  have hcz52_3 : w41.cell? ⟨gb166, 3, none⟩ = some (.int .i64 0) := (blk_cell BK166.out 3).trans rfl
                  have hfz52_0 := blk_frozen BK166.out 0
                  have hfz52_1 := blk_frozen BK166.out 1
                  have hfz52_2 := blk_frozen BK166.out 2
                  have hfz52_3 := blk_frozen BK166.out 3
                  obtain ⟨Ao53, co53, eo53⟩ := Kd.R_slice HO_9.out
                  subst eo53
                  go_wp2
                  go_meet
                  case rel => exact ⟨_, (decide (((rd_T39 l1 x11_1).f3) ≥ (x9_1.length : Int))), (by first | rfl | (simp; done) | (simp [*]; done)), H', ⟨by have := HK1.out; first | omega | exact Nat.le_refl _⟩, ⟨by (with_reducible repeat (first | apply Kd.R_alloc | apply Kd.R_drewN | apply Kd.R_drew)); exact Kd.R_mono (Kd.R_far (p := ⟨gb166, 3, none⟩) (Kd.R_far (p := ⟨gb166, 2, none⟩) (Kd.R_far (p := ⟨gb166, 1, none⟩) (Kd.R_far (p := ⟨gb166, 0, none⟩) (Kd.R_mono HO_9.out (fun k_ hk => (⟨hk, hk.2⟩ : _ ∧ k_ ≠ gb166))) (fun _ hk => hk.2) (.int .i64 ((rd_T39 l1 x11_1).f0))) (fun _ hk => hk.2) (.bool ((rd_T39 l1 x11_1).f1))) (fun _ hk => hk.2) (.int .i64 ((rd_T39 l1 x11_1).f2))) (fun _ hk => hk.2) (.int .i64 ((rd_T39 l1 x11_1).f3))) (fun _ hk => hk.1.2)⟩, ⟨by (with_reducible repeat (first | refine blk_drewN ?_ _ | refine blk_drew ?_ | refine blk_alloc ?_ _)); refine blk_far ?_ NB163_166.out _; (with_reducible repeat (first | refine blk_drewN ?_ _ | refine blk_drew ?_ | refine blk_alloc ?_ _)); refine blk_far ?_ NB163_166.out _; (with_reducible repeat (first | refine blk_drewN ?_ _ | refine blk_drew ?_ | refine blk_alloc ?_ _)); refine blk_far ?_ NB163_166.out _; (with_reducible repeat (first | refine blk_drewN ?_ _ | refine blk_drew ?_ | refine blk_alloc ?_ _)); refine blk_far ?_ NB163_166.out _; (with_reducible repeat (first | refine blk_drewN ?_ _ | refine blk_drew ?_ | refine blk_alloc ?_ _)); exact BK163.out⟩, ⟨by (with_reducible repeat (first | refine blk_drewN ?_ _ | refine blk_drew ?_ | refine blk_alloc ?_ _)); refine blk_far ?_ NB164_166.out _; (with_reducible repeat (first | refine blk_drewN ?_ _ | refine blk_drew ?_ | refine blk_alloc ?_ _)); refine blk_far ?_ NB164_166.out _; (with_reducible repeat (first | refine blk_drewN ?_ _ | refine blk_drew ?_ | refine blk_alloc ?_ _)); refine blk_far ?_ NB164_166.out _; (with_reducible repeat (first | refine blk_drewN ?_ _ | refine blk_drew ?_ | refine blk_alloc ?_ _)); refine blk_far ?_ NB164_166.out _; (with_reducible repeat (first | refine blk_drewN ?_ _ | refine blk_drew ?_ | refine blk_alloc ?_ _)); exact BK164.out⟩, ⟨by (with_reducible repeat (first | refine blk_drewN ?_ _ | refine blk_drew ?_ | refine blk_alloc ?_ _)); refine blk_put (cs := #[.int .i64 ((rd_T39 l1 x11_1).f0), .bool ((rd_T39 l1 x11_1).f1), .int .i64 ((rd_T39 l1 x11_1).f2), .int .i64 0]) ?_ 3 _ rfl; (with_reducible repeat (first | refine blk_drewN ?_ _ | refine blk_drew ?_ | refine blk_alloc ?_ _)); refine blk_put (cs := #[.int .i64 ((rd_T39 l1 x11_1).f0), .bool ((rd_T39 l1 x11_1).f1), .int .i64 0, .int .i64 0]) ?_ 2 _ rfl; (with_reducible repeat (first | refine blk_drewN ?_ _ | refine blk_drew ?_ | refine blk_alloc ?_ _)); refine blk_put (cs := #[.int .i64 ((rd_T39 l1 x11_1).f0), .bool false, .int .i64 0, .int .i64 0]) ?_ 1 _ rfl; (with_reducible repeat (first | refine blk_drewN ?_ _ | refine blk_drew ?_ | refine blk_alloc ?_ _)); refine blk_put (cs := #[.int .i64 0, .bool false, .int .i64 0, .int .i64 0]) ?_ 0 _ rfl; (with_reducible repeat (first | refine blk_drewN ?_ _ | refine blk_drew ?_ | refine blk_alloc ?_ _)); exact BK166.out⟩, ⟨by repeat (first | (with_reducible first | exact HB.out | apply below_alloc | apply pw_below_drewN | apply below_drew1 | refine below_set ?_ GE163.out | refine below_set ?_ GE164.out | refine below_set ?_ GE166.out) | exact HB.out)⟩⟩
              · rw [if_neg c45] at H
                have c45b0 : (((rd_T39 l1 x11_1).f0) == 1) = false := beq_eq_false_iff_ne.mpr c45
                have c45b1 : (((rd_T39 l1 x11_1).f0) != 1) = true := bne_iff_ne.mpr c45
                (first | rw [c45b0] | (simp only [i64_w, i32_w]; rw [c45b0]) | skip)
                by_cases c54 : ((rd_T39 l1 x11_1).f0) = 2
                · rw [if_pos c54] at H
                  have c54b0 : (((rd_T39 l1 x11_1).f0) == 2) = true := beq_iff_eq.mpr c54
                  have c54b1 : (((rd_T39 l1 x11_1).f0) != 2) = false := bne_eq_false_iff_eq.mpr c54
                  clear c54
                  by_cases c55 : ((rd_T39 l1 x11_1).f3) < 0
                  · rw [if_pos c55] at H
                    have c55b0 : decide (((rd_T39 l1 x11_1).f3) < 0) = true := decide_eq_true c55
                    clear c55
                    have H' := Aside0.mk H
                    clear H
                    have hnb56 := NB166_163.out
                    have hnc56 := NB163_166.out
                    have hnb57 := NB166_164.out
                    have hnc57 := NB164_166.out
                    have hcz58_0 : w41.cell? ⟨gb166, 0, none⟩ = some (.int .i64 0) := (blk_cell BK166.out 0).trans rfl
                    have hcz58_1 : w41.cell? ⟨gb166, 1, none⟩ = some (.bool false) := (blk_cell BK166.out 1).trans rfl
                    have hcz58_2 : w41.cell? ⟨gb166, 2, none⟩ = some (.int .i64 0) := (blk_cell BK166.out 2).trans rfl
                    have hcz58_3 : w41.cell? ⟨gb166, 3, none⟩ = some (.int .i64 0) := (blk_cell BK166.out 3).trans rfl
                    have hfz58_0 := blk_frozen BK166.out 0
                    have hfz58_1 := blk_frozen BK166.out 1
                    have hfz58_2 := blk_frozen BK166.out 2
                    have hfz58_3 := blk_frozen BK166.out 3
                    go_wp2
                    go_meet
                    case rel => exact ⟨_, (true), (by first | rfl | (simp; done) | (simp [*]; done)), H', ⟨by have := HK1.out; first | omega | exact Nat.le_refl _⟩, ⟨by (with_reducible repeat (first | apply Kd.R_alloc | apply Kd.R_drewN | apply Kd.R_drew)); exact Kd.R_mono (Kd.R_far (p := ⟨gb166, 3, none⟩) (Kd.R_far (p := ⟨gb166, 2, none⟩) (Kd.R_far (p := ⟨gb166, 1, none⟩) (Kd.R_far (p := ⟨gb166, 0, none⟩) (Kd.R_mono HO_9.out (fun k_ hk => (⟨hk, hk.2⟩ : _ ∧ k_ ≠ gb166))) (fun _ hk => hk.2) (.int .i64 ((rd_T39 l1 x11_1).f0))) (fun _ hk => hk.2) (.bool ((rd_T39 l1 x11_1).f1))) (fun _ hk => hk.2) (.int .i64 ((rd_T39 l1 x11_1).f2))) (fun _ hk => hk.2) (.int .i64 ((rd_T39 l1 x11_1).f3))) (fun _ hk => hk.1.2)⟩, ⟨by (with_reducible repeat (first | refine blk_drewN ?_ _ | refine blk_drew ?_ | refine blk_alloc ?_ _)); refine blk_far ?_ NB163_166.out _; (with_reducible repeat (first | refine blk_drewN ?_ _ | refine blk_drew ?_ | refine blk_alloc ?_ _)); refine blk_far ?_ NB163_166.out _; (with_reducible repeat (first | refine blk_drewN ?_ _ | refine blk_drew ?_ | refine blk_alloc ?_ _)); refine blk_far ?_ NB163_166.out _; (with_reducible repeat (first | refine blk_drewN ?_ _ | refine blk_drew ?_ | refine blk_alloc ?_ _)); refine blk_far ?_ NB163_166.out _; (with_reducible repeat (first | refine blk_drewN ?_ _ | refine blk_drew ?_ | refine blk_alloc ?_ _)); exact BK163.out⟩, ⟨by (with_reducible repeat (first | refine blk_drewN ?_ _ | refine blk_drew ?_ | refine blk_alloc ?_ _)); refine blk_far ?_ NB164_166.out _; (with_reducible repeat (first | refine blk_drewN ?_ _ | refine blk_drew ?_ | refine blk_alloc ?_ _)); refine blk_far ?_ NB164_166.out _; (with_reducible repeat (first | refine blk_drewN ?_ _ | refine blk_drew ?_ | refine blk_alloc ?_ _)); refine blk_far ?_ NB164_166.out _; (with_reducible repeat (first | refine blk_drewN ?_ _ | refine blk_drew ?_ | refine blk_alloc ?_ _)); refine blk_far ?_ NB164_166.out _; (with_reducible repeat (first | refine blk_drewN ?_ _ | refine blk_drew ?_ | refine blk_alloc ?_ _)); exact BK164.out⟩, ⟨by (with_reducible repeat (first | refine blk_drewN ?_ _ | refine blk_drew ?_ | refine blk_alloc ?_ _)); refine blk_put (cs := #[.int .i64 ((rd_T39 l1 x11_1).f0), .bool ((rd_T39 l1 x11_1).f1), .int .i64 ((rd_T39 l1 x11_1).f2), .int .i64 0]) ?_ 3 _ rfl; (with_reducible repeat (first | refine blk_drewN ?_ _ | refine blk_drew ?_ | refine blk_alloc ?_ _)); refine blk_put (cs := #[.int .i64 ((rd_T39 l1 x11_1).f0), .bool ((rd_T39 l1 x11_1).f1), .int .i64 0, .int .i64 0]) ?_ 2 _ rfl; (with_reducible repeat (first | refine blk_drewN ?_ _ | refine blk_drew ?_ | refine blk_alloc ?_ _)); refine blk_put (cs := #[.int .i64 ((rd_T39 l1 x11_1).f0), .bool false, .int .i64 0, .int .i64 0]) ?_ 1 _ rfl; (with_reducible repeat (first | refine blk_drewN ?_ _ | refine blk_drew ?_ | refine blk_alloc ?_ _)); refine blk_put (cs := #[.int .i64 0, .bool false, .int .i64 0, .int .i64 0]) ?_ 0 _ rfl; (with_reducible repeat (first | refine blk_drewN ?_ _ | refine blk_drew ?_ | refine blk_alloc ?_ _)); exact BK166.out⟩, ⟨by repeat (first | (with_reducible first | exact HB.out | apply below_alloc | apply pw_below_drewN | apply below_drew1 | refine below_set ?_ GE163.out | refine below_set ?_ GE164.out | refine below_set ?_ GE166.out) | exact HB.out)⟩⟩
                  · rw [if_neg c55] at H
                    have c55b0 : decide (((rd_T39 l1 x11_1).f3) < 0) = false := decide_eq_false c55
                    clear c55
                    have H' := Aside0.mk H
                    clear H
                    have hnb59 := NB166_163.out
                    have hnc59 := NB163_166.out
                    have hnb60 := NB166_164.out
                    have hnc60 := NB164_166.out
                    have hcz61_0 : w41.cell? ⟨gb166, 0, none⟩ = some (.int .i64 0) := (blk_cell BK166.out 0).trans rfl
                    have hcz61_1 : w41.cell? ⟨gb166, 1, none⟩ = some (.bool false) := (blk_cell BK166.out 1).trans rfl
                    have hcz61_2 : w41.cell? ⟨gb166, 2, none⟩ = some (.int .i64 0) := (blk_cell BK166.out 2).trans rfl
                    have hcz61_3 : w41.cell? ⟨gb166, 3, none⟩ = some (.int .i64 0) := (blk_cell BK166.out 3).trans rfl
                    have hfz61_0 := blk_frozen BK166.out 0
                    have hfz61_1 := blk_frozen BK166.out 1
                    have hfz61_2 := blk_frozen BK166.out 2
                    have hfz61_3 := blk_frozen BK166.out 3
                    obtain ⟨Ao62, co62, eo62⟩ := Kd.R_slice HO_9.out
                    subst eo62
                    go_wp2
                    go_meet
                    case rel => exact ⟨_, (decide (((rd_T39 l1 x11_1).f3) ≥ (x9_1.length : Int))), (by first | rfl | (simp; done) | (simp [*]; done)), H', ⟨by have := HK1.out; first | omega | exact Nat.le_refl _⟩, ⟨by (with_reducible repeat (first | apply Kd.R_alloc | apply Kd.R_drewN | apply Kd.R_drew)); exact Kd.R_mono (Kd.R_far (p := ⟨gb166, 3, none⟩) (Kd.R_far (p := ⟨gb166, 2, none⟩) (Kd.R_far (p := ⟨gb166, 1, none⟩) (Kd.R_far (p := ⟨gb166, 0, none⟩) (Kd.R_mono HO_9.out (fun k_ hk => (⟨hk, hk.2⟩ : _ ∧ k_ ≠ gb166))) (fun _ hk => hk.2) (.int .i64 ((rd_T39 l1 x11_1).f0))) (fun _ hk => hk.2) (.bool ((rd_T39 l1 x11_1).f1))) (fun _ hk => hk.2) (.int .i64 ((rd_T39 l1 x11_1).f2))) (fun _ hk => hk.2) (.int .i64 ((rd_T39 l1 x11_1).f3))) (fun _ hk => hk.1.2)⟩, ⟨by (with_reducible repeat (first | refine blk_drewN ?_ _ | refine blk_drew ?_ | refine blk_alloc ?_ _)); refine blk_far ?_ NB163_166.out _; (with_reducible repeat (first | refine blk_drewN ?_ _ | refine blk_drew ?_ | refine blk_alloc ?_ _)); refine blk_far ?_ NB163_166.out _; (with_reducible repeat (first | refine blk_drewN ?_ _ | refine blk_drew ?_ | refine blk_alloc ?_ _)); refine blk_far ?_ NB163_166.out _; (with_reducible repeat (first | refine blk_drewN ?_ _ | refine blk_drew ?_ | refine blk_alloc ?_ _)); refine blk_far ?_ NB163_166.out _; (with_reducible repeat (first | refine blk_drewN ?_ _ | refine blk_drew ?_ | refine blk_alloc ?_ _)); exact BK163.out⟩, ⟨by (with_reducible repeat (first | refine blk_drewN ?_ _ | refine blk_drew ?_ | refine blk_alloc ?_ _)); refine blk_far ?_ NB164_166.out _; (with_reducible repeat (first | refine blk_drewN ?_ _ | refine blk_drew ?_ | refine blk_alloc ?_ _)); refine blk_far ?_ NB164_166.out _; (with_reducible repeat (first | refine blk_drewN ?_ _ | refine blk_drew ?_ | refine blk_alloc ?_ _)); refine blk_far ?_ NB164_166.out _; (with_reducible repeat (first | refine blk_drewN ?_ _ | refine blk_drew ?_ | refine blk_alloc ?_ _)); refine blk_far ?_ NB164_166.out _; (with_reducible repeat (first | refine blk_drewN ?_ _ | refine blk_drew ?_ | refine blk_alloc ?_ _)); exact BK164.out⟩, ⟨by (with_reducible repeat (first | refine blk_drewN ?_ _ | refine blk_drew ?_ | refine blk_alloc ?_ _)); refine blk_put (cs := #[.int .i64 ((rd_T39 l1 x11_1).f0), .bool ((rd_T39 l1 x11_1).f1), .int .i64 ((rd_T39 l1 x11_1).f2), .int .i64 0]) ?_ 3 _ rfl; (with_reducible repeat (first | refine blk_drewN ?_ _ | refine blk_drew ?_ | refine blk_alloc ?_ _)); refine blk_put (cs := #[.int .i64 ((rd_T39 l1 x11_1).f0), .bool ((rd_T39 l1 x11_1).f1), .int .i64 0, .int .i64 0]) ?_ 2 _ rfl; (with_reducible repeat (first | refine blk_drewN ?_ _ | refine blk_drew ?_ | refine blk_alloc ?_ _)); refine blk_put (cs := #[.int .i64 ((rd_T39 l1 x11_1).f0), .bool false, .int .i64 0, .int .i64 0]) ?_ 1 _ rfl; (with_reducible repeat (first | refine blk_drewN ?_ _ | refine blk_drew ?_ | refine blk_alloc ?_ _)); refine blk_put (cs := #[.int .i64 0, .bool false, .int .i64 0, .int .i64 0]) ?_ 0 _ rfl; (with_reducible repeat (first | refine blk_drewN ?_ _ | refine blk_drew ?_ | refine blk_alloc ?_ _)); exact BK166.out⟩, ⟨by repeat (first | (with_reducible first | exact HB.out | apply below_alloc | apply pw_below_drewN | apply below_drew1 | refine below_set ?_ GE163.out | refine below_set ?_ GE164.out | refine below_set ?_ GE166.out) | exact HB.out)⟩⟩
                · rw [if_neg c54] at H
                  have c54b0 : (((rd_T39 l1 x11_1).f0) == 2) = false := beq_eq_false_iff_ne.mpr c54
                  have c54b1 : (((rd_T39 l1 x11_1).f0) != 2) = true := bne_iff_ne.mpr c54
                  have H' := Aside0.mk H
                  clear H
                  have hnb63 := NB166_163.out
                  have hnc63 := NB163_166.out
                  have hnb64 := NB166_164.out
                  have hnc64 := NB164_166.out
                  have hcz65_0 : w41.cell? ⟨gb166, 0, none⟩ = some (.int .i64 0) := (blk_cell BK166.out 0).trans rfl
                  have hcz65_1 : w41.cell? ⟨gb166, 1, none⟩ = some (.bool false) := (blk_cell BK166.out 1).trans rfl
                  have hcz65_2 : w41.cell? ⟨gb166, 2, none⟩ = some (.int .i64 0) := (blk_cell BK166.out 2).trans rfl
                  have hcz65_3 : w41.cell? ⟨gb166, 3, none⟩ = some (.int .i64 0) := (blk_cell BK166.out 3).trans rfl
                  have hfz65_0 := blk_frozen BK166.out 0
                  have hfz65_1 := blk_frozen BK166.out 1
                  have hfz65_2 := blk_frozen BK166.out 2
                  have hfz65_3 := blk_frozen BK166.out 3
                  go_wp2
                  go_meet
                  case rel => exact ⟨_, (true), (by first | rfl | (simp; done) | (simp [*]; done)), H', ⟨by have := HK1.out; first | omega | exact Nat.le_refl _⟩, ⟨by (with_reducible repeat (first | apply Kd.R_alloc | apply Kd.R_drewN | apply Kd.R_drew)); exact Kd.R_mono (Kd.R_far (p := ⟨gb166, 3, none⟩) (Kd.R_far (p := ⟨gb166, 2, none⟩) (Kd.R_far (p := ⟨gb166, 1, none⟩) (Kd.R_far (p := ⟨gb166, 0, none⟩) (Kd.R_mono HO_9.out (fun k_ hk => (⟨hk, hk.2⟩ : _ ∧ k_ ≠ gb166))) (fun _ hk => hk.2) (.int .i64 ((rd_T39 l1 x11_1).f0))) (fun _ hk => hk.2) (.bool ((rd_T39 l1 x11_1).f1))) (fun _ hk => hk.2) (.int .i64 ((rd_T39 l1 x11_1).f2))) (fun _ hk => hk.2) (.int .i64 ((rd_T39 l1 x11_1).f3))) (fun _ hk => hk.1.2)⟩, ⟨by (with_reducible repeat (first | refine blk_drewN ?_ _ | refine blk_drew ?_ | refine blk_alloc ?_ _)); refine blk_far ?_ NB163_166.out _; (with_reducible repeat (first | refine blk_drewN ?_ _ | refine blk_drew ?_ | refine blk_alloc ?_ _)); refine blk_far ?_ NB163_166.out _; (with_reducible repeat (first | refine blk_drewN ?_ _ | refine blk_drew ?_ | refine blk_alloc ?_ _)); refine blk_far ?_ NB163_166.out _; (with_reducible repeat (first | refine blk_drewN ?_ _ | refine blk_drew ?_ | refine blk_alloc ?_ _)); refine blk_far ?_ NB163_166.out _; (with_reducible repeat (first | refine blk_drewN ?_ _ | refine blk_drew ?_ | refine blk_alloc ?_ _)); exact BK163.out⟩, ⟨by (with_reducible repeat (first | refine blk_drewN ?_ _ | refine blk_drew ?_ | refine blk_alloc ?_ _)); refine blk_far ?_ NB164_166.out _; (with_reducible repeat (first | refine blk_drewN ?_ _ | refine blk_drew ?_ | refine blk_alloc ?_ _)); refine blk_far ?_ NB164_166.out _; (with_reducible repeat (first | refine blk_drewN ?_ _ | refine blk_drew ?_ | refine blk_alloc ?_ _)); refine blk_far ?_ NB164_166.out _; (with_reducible repeat (first | refine blk_drewN ?_ _ | refine blk_drew ?_ | refine blk_alloc ?_ _)); refine blk_far ?_ NB164_166.out _; (with_reducible repeat (first | refine blk_drewN ?_ _ | refine blk_drew ?_ | refine blk_alloc ?_ _)); exact BK164.out⟩, ⟨by (with_reducible repeat (first | refine blk_drewN ?_ _ | refine blk_drew ?_ | refine blk_alloc ?_ _)); refine blk_put (cs := #[.int .i64 ((rd_T39 l1 x11_1).f0), .bool ((rd_T39 l1 x11_1).f1), .int .i64 ((rd_T39 l1 x11_1).f2), .int .i64 0]) ?_ 3 _ rfl; (with_reducible repeat (first | refine blk_drewN ?_ _ | refine blk_drew ?_ | refine blk_alloc ?_ _)); refine blk_put (cs := #[.int .i64 ((rd_T39 l1 x11_1).f0), .bool ((rd_T39 l1 x11_1).f1), .int .i64 0, .int .i64 0]) ?_ 2 _ rfl; (with_reducible repeat (first | refine blk_drewN ?_ _ | refine blk_drew ?_ | refine blk_alloc ?_ _)); refine blk_put (cs := #[.int .i64 ((rd_T39 l1 x11_1).f0), .bool false, .int .i64 0, .int .i64 0]) ?_ 1 _ rfl; (with_reducible repeat (first | refine blk_drewN ?_ _ | refine blk_drew ?_ | refine blk_alloc ?_ _)); refine blk_put (cs := #[.int .i64 0, .bool false, .int .i64 0, .int .i64 0]) ?_ 0 _ rfl; (with_reducible repeat (first | refine blk_drewN ?_ _ | refine blk_drew ?_ | refine blk_alloc ?_ _)); exact BK166.out⟩, ⟨by repeat (first | (with_reducible first | exact HB.out | apply below_alloc | apply pw_below_drewN | apply below_drew1 | refine below_set ?_ GE163.out | refine below_set ?_ GE164.out | refine below_set ?_ GE166.out) | exact HB.out)⟩⟩
            case rest =>
              clear HC40
              try clear c1
              try clear p1
              try clear q1
              try clear hx1
              try clear c2
              try clear p2
              try clear c3
              try clear c4
              try clear c5
              try clear c6
              try clear p6
              try clear c7
              try clear c7b0
              try clear c8
              try clear c8b0
              try clear c9
              try clear c9b0
              try clear c9b1
              try clear c11
              try clear c11b0
              try clear c11b1
              try clear c12
              try clear c14
              try clear c15
              try clear c16
              try clear p16
              try clear q16
              try clear hx16
              try clear c17
              try clear c21
              try clear c22
              try clear c23
              try clear c29
              try clear c30
              try clear c32
              try clear c36
              try clear c37
              try clear c38
              try clear c42
              try clear c43
              try clear c45
              try clear c45b0
              try clear c45b1
              try clear c46
              try clear c46b0
              try clear c47
              try clear c48
              try clear c50
              try clear c51
              try clear c54
              try clear c54b0
              try clear c54b1
              try clear c55
              try clear c55b0
              try clear c56
              try clear c57
              try clear c59
              try clear c60
              try clear c63
              try clear c64
              try clear p64
              try clear hcz16_0
              try clear hcz16_1
              try clear hcz16_2
              try clear hcz16_3
              try clear hcz18_0
              try clear hcz18_1
              try clear hcz18_2
              try clear hcz24_0
              try clear hcz24_1
              try clear hcz24_2
              try clear hcz25_0
              try clear hcz25_1
              try clear hcz25_2
              try clear hcz26_0
              try clear hcz26_1
              try clear hcz26_2
              try clear hcz26_3
              try clear hcz31_0
              try clear hcz31_1
              try clear hcz31_2
              try clear hcz31_3
              try clear hcz33_0
              try clear hcz33_1
              try clear hcz33_2
              try clear hcz39_0
              try clear hcz39_1
              try clear hcz39_2
              try clear hcz44_0
              try clear hcz44_1
              try clear hcz44_2
              try clear hcz44_3
              try clear hcz49_0
              try clear hcz49_1
              try clear hcz49_2
              try clear hcz49_3
              try clear hcz52_0
              try clear hcz52_1
              try clear hcz52_2
              try clear hcz52_3
              try clear hcz58_0
              try clear hcz58_1
              try clear hcz58_2
              try clear hcz58_3
              try clear hcz61_0
              try clear hcz61_1
              try clear hcz61_2
              try clear hcz61_3
              try clear hcz65_0
              try clear hcz65_1
              try clear hcz65_2
              try clear hcz65_3
              try clear hcz6_0
              try clear hcz6_1
              try clear hcz6_2
              try clear hfz16_0
              try clear hfz16_1
              try clear hfz16_2
              try clear hfz16_3
              try clear hfz18_0
              try clear hfz18_1
              try clear hfz18_2
              try clear hfz24_0
              try clear hfz24_1
              try clear hfz24_2
              try clear hfz25_0
              try clear hfz25_1
              try clear hfz25_2
              try clear hfz26_0
              try clear hfz26_1
              try clear hfz26_2
              try clear hfz26_3
              try clear hfz31_0
              try clear hfz31_1
              try clear hfz31_2
              try clear hfz31_3
              try clear hfz33_0
              try clear hfz33_1
              try clear hfz33_2
              try clear hfz39_0
              try clear hfz39_1
              try clear hfz39_2
              try clear hfz44_0
              try clear hfz44_1
              try clear hfz44_2
              try clear hfz44_3
              try clear hfz49_0
              try clear hfz49_1
              try clear hfz49_2
              try clear hfz49_3
              try clear hfz52_0
              try clear hfz52_1
              try clear hfz52_2
              try clear hfz52_3
              try clear hfz58_0
              try clear hfz58_1
              try clear hfz58_2
              try clear hfz58_3
              try clear hfz61_0
              try clear hfz61_1
              try clear hfz61_2
              try clear hfz61_3
              try clear hfz65_0
              try clear hfz65_1
              try clear hfz65_2
              try clear hfz65_3
              try clear hfz6_0
              try clear hfz6_1
              try clear hfz6_2
              try clear hx165_0
              try clear hx165_1
              try clear hx165_2
              try clear hx165_3
              try clear p165
              try clear p2
              try clear q165
              obtain ⟨kq, x68_39, rfl, HA, HJ39, HO_9, BK163, BK164, BK166, HB⟩ := hcut
              cases kq with
              | zero => exact absurd HA.out (by simp [ententelaw05_played.j1])
              | succ kj39 =>
                have H := HA.out
                clear HA
                simp only [ententelaw05_played.j1] at H
                by_cases c66 : x68_39 = true
                · subst c66
                  have H1 : (ententelaw05_played.l0 kj39 l1 x9_1 x10_1 (wrap64 (x11_1 + 1)) x165000_1 x165001_1 x165002_1) = some (r1, r2, r3, r4, r5, r6) := by rw [if_pos rfl] at H; exact H
                  clear H
                  have H := H1
                  clear H1
                  have H' := Aside0.mk H
                  clear H
                  go_wp2
                  go_roundg kj39
                  case measure => have := HK1.out; have := HJ39.out; omega
                  case rel => exact ⟨(x9_1), (x10_1), (wrap64 (x11_1 + 1)), (x164000_1), (x164001_1), (x164002_1), (x165000_1), (x165001_1), (x165002_1), (by first | rfl | (simp; done) | (simp [*]; done)), (by first | rfl | (simp; done) | (simp [*]; done)), H', ⟨by have := HK1.out; have := HJ39.out; omega⟩, ⟨by (with_reducible repeat (first | apply Kd.R_alloc | apply Kd.R_drewN | apply Kd.R_drew)); exact Kd.R_mono HO_9.out (fun _ hk => trivial)⟩, ⟨by (with_reducible repeat (first | refine blk_drewN ?_ _ | refine blk_drew ?_ | refine blk_alloc ?_ _)); exact BK163.out⟩, ⟨by (with_reducible repeat (first | refine blk_drewN ?_ _ | refine blk_drew ?_ | refine blk_alloc ?_ _)); exact BK164.out⟩, ⟨by repeat (first | (with_reducible first | exact HB.out | apply below_alloc | apply pw_below_drewN | apply below_drew1 | refine below_set ?_ GE163.out | refine below_set ?_ GE164.out | refine below_set ?_ GE166.out) | exact HB.out)⟩⟩
                · replace c66 := Bool.eq_false_iff.mpr c66
                  subst c66
                  have H1 : (if 0 ≤ ((rd_T39 l1 x11_1).f3) then (if ((rd_T39 l1 x11_1).f3) < (x9_1.length : Int) then ((some (([] : List (S39)) : List (S39))).bind fun y177 => (if ((rd_T39 l1 x11_1).f3) ≤ (x9_1.length : Int) then ((some (x9_1.take (((rd_T39 l1 x11_1).f3) : Int).toNat : List (S39))).bind fun y180 => (if y177.length + y180.length < 4398046511104 then ((some (y177 ++ y180 : List (S39))).bind fun y184 => (if 0 ≤ (wrap64 (((rd_T39 l1 x11_1).f3) + 1)) then (if (wrap64 (((rd_T39 l1 x11_1).f3) + 1)) ≤ (x9_1.length : Int) then ((some (x9_1.drop ((wrap64 (((rd_T39 l1 x11_1).f3) + 1)) : Int).toNat : List (S39))).bind fun y187 => (if y184.length + y187.length < 4398046511104 then ((some (y184 ++ y187 : List (S39))).bind fun y191 => ((pot_Undo.f kj39 x165000_1 x165001_1 x165002_1 ((rd_T39 x9_1 ((rd_T39 l1 x11_1).f3)).f1) ((rd_T39 x9_1 ((rd_T39 l1 x11_1).f3)).f2)).bind fun bt194 => (if ((rd_T39 l1 x11_1).f0) = 2 then ((pot_Keep.f kj39 x165000_1 x165001_1 x165002_1 ((rd_T39 x9_1 ((rd_T39 l1 x11_1).f3)).f1) ((rd_T39 x9_1 ((rd_T39 l1 x11_1).f3)).f2)).bind fun bt199 => (if (rd_T39 x9_1 ((rd_T39 l1 x11_1).f3)).f1 = true then (ententelaw05_played.j2 kj39 l1 y191 (wrap64 (x10_1 - ((rd_T39 x9_1 ((rd_T39 l1 x11_1).f3)).f2))) x11_1 bt199.2.2.2 x165000_1 x165001_1 x165002_1 bt199.1 bt199.2.1 bt199.2.2.1) else (ententelaw05_played.j2 kj39 l1 y191 (wrap64 (x10_1 + ((rd_T39 x9_1 ((rd_T39 l1 x11_1).f3)).f2))) x11_1 bt199.2.2.2 x165000_1 x165001_1 x165002_1 bt199.1 bt199.2.1 bt199.2.2.1))) else (ententelaw05_played.j2 kj39 l1 y191 x10_1 x11_1 bt194.2.2.2 x165000_1 x165001_1 x165002_1 bt194.1 bt194.2.1 bt194.2.2.1)))) else (none))) else (none)) else (none))) else (none))) else (none))) else (none)) else (none)) = some (r1, r2, r3, r4, r5, r6) := by rw [if_neg (show ¬ (false = true) by decide)] at H; exact H
                  clear H
                  have H := H1
                  clear H1
                  by_cases c67 : 0 ≤ ((rd_T39 l1 x11_1).f3)
                  · rw [if_pos c67] at H
                    have c67b0 : decide (0 ≤ ((rd_T39 l1 x11_1).f3)) = true := decide_eq_true c67
                    clear c67
                    by_cases c68 : ((rd_T39 l1 x11_1).f3) < (x9_1.length : Int)
                    · rw [if_pos c68] at H
                      have c68b0 : decide (((rd_T39 l1 x11_1).f3) < (x9_1.length : Int)) = true := decide_eq_true c68
                      clear c68
                      obtain ⟨y177, hy177⟩ : ∃ y_ : List (S39), y_ = (([] : List (S39))) := ⟨_, rfl⟩
                      replace H : (if ((rd_T39 l1 x11_1).f3) ≤ (x9_1.length : Int) then ((some (x9_1.take (((rd_T39 l1 x11_1).f3) : Int).toNat : List (S39))).bind fun y180 => (if y177.length + y180.length < 4398046511104 then ((some (y177 ++ y180 : List (S39))).bind fun y184 => (if 0 ≤ (wrap64 (((rd_T39 l1 x11_1).f3) + 1)) then (if (wrap64 (((rd_T39 l1 x11_1).f3) + 1)) ≤ (x9_1.length : Int) then ((some (x9_1.drop ((wrap64 (((rd_T39 l1 x11_1).f3) + 1)) : Int).toNat : List (S39))).bind fun y187 => (if y184.length + y187.length < 4398046511104 then ((some (y184 ++ y187 : List (S39))).bind fun y191 => ((pot_Undo.f kj39 x165000_1 x165001_1 x165002_1 ((rd_T39 x9_1 ((rd_T39 l1 x11_1).f3)).f1) ((rd_T39 x9_1 ((rd_T39 l1 x11_1).f3)).f2)).bind fun bt194 => (if ((rd_T39 l1 x11_1).f0) = 2 then ((pot_Keep.f kj39 x165000_1 x165001_1 x165002_1 ((rd_T39 x9_1 ((rd_T39 l1 x11_1).f3)).f1) ((rd_T39 x9_1 ((rd_T39 l1 x11_1).f3)).f2)).bind fun bt199 => (if (rd_T39 x9_1 ((rd_T39 l1 x11_1).f3)).f1 = true then (ententelaw05_played.j2 kj39 l1 y191 (wrap64 (x10_1 - ((rd_T39 x9_1 ((rd_T39 l1 x11_1).f3)).f2))) x11_1 bt199.2.2.2 x165000_1 x165001_1 x165002_1 bt199.1 bt199.2.1 bt199.2.2.1) else (ententelaw05_played.j2 kj39 l1 y191 (wrap64 (x10_1 + ((rd_T39 x9_1 ((rd_T39 l1 x11_1).f3)).f2))) x11_1 bt199.2.2.2 x165000_1 x165001_1 x165002_1 bt199.1 bt199.2.1 bt199.2.2.1))) else (ententelaw05_played.j2 kj39 l1 y191 x10_1 x11_1 bt194.2.2.2 x165000_1 x165001_1 x165002_1 bt194.1 bt194.2.1 bt194.2.2.1)))) else (none))) else (none)) else (none))) else (none))) else (none)) = some (r1, r2, r3, r4, r5, r6) := by first | (rw [hy177]; with_reducible exact H) | (have H2_ := (Option.bind_some _ _).symm.trans H; rw [hy177]; with_reducible exact H2_) | (have H2_ := (Option.bind_some _ _).symm.trans H; with_reducible exact H2_) | with_reducible exact H | (rw [hy177]; exact H) | exact H
                      have Ny177 := Aside0.mk hy177
                      clear hy177
                      have c69b0 := eq_true (of_decide_eq_true (by first | (with_reducible assumption) | assumption) : 0 ≤ ((rd_T39 l1 x11_1).f3))
                      by_cases c70 : ((rd_T39 l1 x11_1).f3) ≤ (x9_1.length : Int)
                      · rw [if_pos c70] at H
                        have c70b0 := eq_true c70
                        have c70b1 : decide (((rd_T39 l1 x11_1).f3) ≤ (x9_1.length : Int)) = true := decide_eq_true c70
                        clear c70
                        obtain ⟨y180, hy180⟩ : ∃ y_ : List (S39), y_ = (x9_1.take (((rd_T39 l1 x11_1).f3) : Int).toNat) := ⟨_, rfl⟩
                        replace H : (if y177.length + y180.length < 4398046511104 then ((some (y177 ++ y180 : List (S39))).bind fun y184 => (if 0 ≤ (wrap64 (((rd_T39 l1 x11_1).f3) + 1)) then (if (wrap64 (((rd_T39 l1 x11_1).f3) + 1)) ≤ (x9_1.length : Int) then ((some (x9_1.drop ((wrap64 (((rd_T39 l1 x11_1).f3) + 1)) : Int).toNat : List (S39))).bind fun y187 => (if y184.length + y187.length < 4398046511104 then ((some (y184 ++ y187 : List (S39))).bind fun y191 => ((pot_Undo.f kj39 x165000_1 x165001_1 x165002_1 ((rd_T39 x9_1 ((rd_T39 l1 x11_1).f3)).f1) ((rd_T39 x9_1 ((rd_T39 l1 x11_1).f3)).f2)).bind fun bt194 => (if ((rd_T39 l1 x11_1).f0) = 2 then ((pot_Keep.f kj39 x165000_1 x165001_1 x165002_1 ((rd_T39 x9_1 ((rd_T39 l1 x11_1).f3)).f1) ((rd_T39 x9_1 ((rd_T39 l1 x11_1).f3)).f2)).bind fun bt199 => (if (rd_T39 x9_1 ((rd_T39 l1 x11_1).f3)).f1 = true then (ententelaw05_played.j2 kj39 l1 y191 (wrap64 (x10_1 - ((rd_T39 x9_1 ((rd_T39 l1 x11_1).f3)).f2))) x11_1 bt199.2.2.2 x165000_1 x165001_1 x165002_1 bt199.1 bt199.2.1 bt199.2.2.1) else (ententelaw05_played.j2 kj39 l1 y191 (wrap64 (x10_1 + ((rd_T39 x9_1 ((rd_T39 l1 x11_1).f3)).f2))) x11_1 bt199.2.2.2 x165000_1 x165001_1 x165002_1 bt199.1 bt199.2.1 bt199.2.2.1))) else (ententelaw05_played.j2 kj39 l1 y191 x10_1 x11_1 bt194.2.2.2 x165000_1 x165001_1 x165002_1 bt194.1 bt194.2.1 bt194.2.2.1)))) else (none))) else (none)) else (none))) else (none)) = some (r1, r2, r3, r4, r5, r6) := by first | (rw [hy180]; with_reducible exact H) | (have H2_ := (Option.bind_some _ _).symm.trans H; rw [hy180]; with_reducible exact H2_) | (have H2_ := (Option.bind_some _ _).symm.trans H; with_reducible exact H2_) | with_reducible exact H | (rw [hy180]; exact H) | exact H
                        have Ny180 := Aside0.mk hy180
                        clear hy180
                        by_cases c71 : y177.length + y180.length < 4398046511104
                        · rw [if_pos c71] at H
                          have LMc71 := Aside0.mk c71
                          clear c71
                          obtain ⟨y184, hy184⟩ : ∃ y_ : List (S39), y_ = (y177 ++ y180) := ⟨_, rfl⟩
                          replace H : (if 0 ≤ (wrap64 (((rd_T39 l1 x11_1).f3) + 1)) then (if (wrap64 (((rd_T39 l1 x11_1).f3) + 1)) ≤ (x9_1.length : Int) then ((some (x9_1.drop ((wrap64 (((rd_T39 l1 x11_1).f3) + 1)) : Int).toNat : List (S39))).bind fun y187 => (if y184.length + y187.length < 4398046511104 then ((some (y184 ++ y187 : List (S39))).bind fun y191 => ((pot_Undo.f kj39 x165000_1 x165001_1 x165002_1 ((rd_T39 x9_1 ((rd_T39 l1 x11_1).f3)).f1) ((rd_T39 x9_1 ((rd_T39 l1 x11_1).f3)).f2)).bind fun bt194 => (if ((rd_T39 l1 x11_1).f0) = 2 then ((pot_Keep.f kj39 x165000_1 x165001_1 x165002_1 ((rd_T39 x9_1 ((rd_T39 l1 x11_1).f3)).f1) ((rd_T39 x9_1 ((rd_T39 l1 x11_1).f3)).f2)).bind fun bt199 => (if (rd_T39 x9_1 ((rd_T39 l1 x11_1).f3)).f1 = true then (ententelaw05_played.j2 kj39 l1 y191 (wrap64 (x10_1 - ((rd_T39 x9_1 ((rd_T39 l1 x11_1).f3)).f2))) x11_1 bt199.2.2.2 x165000_1 x165001_1 x165002_1 bt199.1 bt199.2.1 bt199.2.2.1) else (ententelaw05_played.j2 kj39 l1 y191 (wrap64 (x10_1 + ((rd_T39 x9_1 ((rd_T39 l1 x11_1).f3)).f2))) x11_1 bt199.2.2.2 x165000_1 x165001_1 x165002_1 bt199.1 bt199.2.1 bt199.2.2.1))) else (ententelaw05_played.j2 kj39 l1 y191 x10_1 x11_1 bt194.2.2.2 x165000_1 x165001_1 x165002_1 bt194.1 bt194.2.1 bt194.2.2.1)))) else (none))) else (none)) else (none)) = some (r1, r2, r3, r4, r5, r6) := by first | (rw [hy184]; with_reducible exact H) | (have H2_ := (Option.bind_some _ _).symm.trans H; rw [hy184]; with_reducible exact H2_) | (have H2_ := (Option.bind_some _ _).symm.trans H; with_reducible exact H2_) | with_reducible exact H | (rw [hy184]; exact H) | exact H
                          have Ny184 := Aside0.mk hy184
                          clear hy184
                          obtain ⟨ji72, hji72⟩ : ∃ j_ : Int, (wrap64 (((rd_T39 l1 x11_1).f3) + 1)) = j_ := ⟨_, rfl⟩
                          replace H : (if 0 ≤ (ji72) then (if (ji72) ≤ (x9_1.length : Int) then ((some (x9_1.drop ((ji72) : Int).toNat : List (S39))).bind fun y187 => (if y184.length + y187.length < 4398046511104 then ((some (y184 ++ y187 : List (S39))).bind fun y191 => ((pot_Undo.f kj39 x165000_1 x165001_1 x165002_1 ((rd_T39 x9_1 ((rd_T39 l1 x11_1).f3)).f1) ((rd_T39 x9_1 ((rd_T39 l1 x11_1).f3)).f2)).bind fun bt194 => (if ((rd_T39 l1 x11_1).f0) = 2 then ((pot_Keep.f kj39 x165000_1 x165001_1 x165002_1 ((rd_T39 x9_1 ((rd_T39 l1 x11_1).f3)).f1) ((rd_T39 x9_1 ((rd_T39 l1 x11_1).f3)).f2)).bind fun bt199 => (if (rd_T39 x9_1 ((rd_T39 l1 x11_1).f3)).f1 = true then (ententelaw05_played.j2 kj39 l1 y191 (wrap64 (x10_1 - ((rd_T39 x9_1 ((rd_T39 l1 x11_1).f3)).f2))) x11_1 bt199.2.2.2 x165000_1 x165001_1 x165002_1 bt199.1 bt199.2.1 bt199.2.2.1) else (ententelaw05_played.j2 kj39 l1 y191 (wrap64 (x10_1 + ((rd_T39 x9_1 ((rd_T39 l1 x11_1).f3)).f2))) x11_1 bt199.2.2.2 x165000_1 x165001_1 x165002_1 bt199.1 bt199.2.1 bt199.2.2.1))) else (ententelaw05_played.j2 kj39 l1 y191 x10_1 x11_1 bt194.2.2.2 x165000_1 x165001_1 x165002_1 bt194.1 bt194.2.1 bt194.2.2.1)))) else (none))) else (none)) else (none)) = some (r1, r2, r3, r4, r5, r6) := by first | (rw [hji72] at H; exact H) | (simp only [hji72] at H ⊢; exact H)
                          have hji72w : (IntKind.i64.wrap (((rd_T39 l1 x11_1).f3) + 1)) = ji72 := (i64_w _).trans hji72
                          by_cases c73 : 0 ≤ (ji72)
                          · rw [if_pos c73] at H
                            have c73b0 := eq_true c73
                            have c73b1 : decide (0 ≤ (ji72)) = true := decide_eq_true c73
                            clear c73
                            by_cases c74 : (ji72) ≤ (x9_1.length : Int)
                            · rw [if_pos c74] at H
                              have c74b0 := eq_true c74
                              have c74b1 : decide ((ji72) ≤ (x9_1.length : Int)) = true := decide_eq_true c74
                              clear c74
                              obtain ⟨y187, hy187⟩ : ∃ y_ : List (S39), y_ = (x9_1.drop ((ji72) : Int).toNat) := ⟨_, rfl⟩
                              replace H : (if y184.length + y187.length < 4398046511104 then ((some (y184 ++ y187 : List (S39))).bind fun y191 => ((pot_Undo.f kj39 x165000_1 x165001_1 x165002_1 ((rd_T39 x9_1 ((rd_T39 l1 x11_1).f3)).f1) ((rd_T39 x9_1 ((rd_T39 l1 x11_1).f3)).f2)).bind fun bt194 => (if ((rd_T39 l1 x11_1).f0) = 2 then ((pot_Keep.f kj39 x165000_1 x165001_1 x165002_1 ((rd_T39 x9_1 ((rd_T39 l1 x11_1).f3)).f1) ((rd_T39 x9_1 ((rd_T39 l1 x11_1).f3)).f2)).bind fun bt199 => (if (rd_T39 x9_1 ((rd_T39 l1 x11_1).f3)).f1 = true then (ententelaw05_played.j2 kj39 l1 y191 (wrap64 (x10_1 - ((rd_T39 x9_1 ((rd_T39 l1 x11_1).f3)).f2))) x11_1 bt199.2.2.2 x165000_1 x165001_1 x165002_1 bt199.1 bt199.2.1 bt199.2.2.1) else (ententelaw05_played.j2 kj39 l1 y191 (wrap64 (x10_1 + ((rd_T39 x9_1 ((rd_T39 l1 x11_1).f3)).f2))) x11_1 bt199.2.2.2 x165000_1 x165001_1 x165002_1 bt199.1 bt199.2.1 bt199.2.2.1))) else (ententelaw05_played.j2 kj39 l1 y191 x10_1 x11_1 bt194.2.2.2 x165000_1 x165001_1 x165002_1 bt194.1 bt194.2.1 bt194.2.2.1)))) else (none)) = some (r1, r2, r3, r4, r5, r6) := by first | (rw [hy187]; with_reducible exact H) | (have H2_ := (Option.bind_some _ _).symm.trans H; rw [hy187]; with_reducible exact H2_) | (have H2_ := (Option.bind_some _ _).symm.trans H; with_reducible exact H2_) | with_reducible exact H | (rw [hy187]; exact H) | exact H
                              have Ny187 := Aside0.mk hy187
                              clear hy187
                              by_cases c75 : y184.length + y187.length < 4398046511104
                              · rw [if_pos c75] at H
                                have LMc75 := Aside0.mk c75
                                clear c75
                                obtain ⟨y191, hy191⟩ : ∃ y_ : List (S39), y_ = (y184 ++ y187) := ⟨_, rfl⟩
                                replace H : ((pot_Undo.f kj39 x165000_1 x165001_1 x165002_1 ((rd_T39 x9_1 ((rd_T39 l1 x11_1).f3)).f1) ((rd_T39 x9_1 ((rd_T39 l1 x11_1).f3)).f2)).bind fun bt194 => (if ((rd_T39 l1 x11_1).f0) = 2 then ((pot_Keep.f kj39 x165000_1 x165001_1 x165002_1 ((rd_T39 x9_1 ((rd_T39 l1 x11_1).f3)).f1) ((rd_T39 x9_1 ((rd_T39 l1 x11_1).f3)).f2)).bind fun bt199 => (if (rd_T39 x9_1 ((rd_T39 l1 x11_1).f3)).f1 = true then (ententelaw05_played.j2 kj39 l1 y191 (wrap64 (x10_1 - ((rd_T39 x9_1 ((rd_T39 l1 x11_1).f3)).f2))) x11_1 bt199.2.2.2 x165000_1 x165001_1 x165002_1 bt199.1 bt199.2.1 bt199.2.2.1) else (ententelaw05_played.j2 kj39 l1 y191 (wrap64 (x10_1 + ((rd_T39 x9_1 ((rd_T39 l1 x11_1).f3)).f2))) x11_1 bt199.2.2.2 x165000_1 x165001_1 x165002_1 bt199.1 bt199.2.1 bt199.2.2.1))) else (ententelaw05_played.j2 kj39 l1 y191 x10_1 x11_1 bt194.2.2.2 x165000_1 x165001_1 x165002_1 bt194.1 bt194.2.1 bt194.2.2.1))) = some (r1, r2, r3, r4, r5, r6) := by first | (rw [hy191]; with_reducible exact H) | (have H2_ := (Option.bind_some _ _).symm.trans H; rw [hy191]; with_reducible exact H2_) | (have H2_ := (Option.bind_some _ _).symm.trans H; with_reducible exact H2_) | with_reducible exact H | (rw [hy191]; exact H) | exact H
                                have Ny191 := Aside0.mk hy191
                                clear hy191
                                replace H := Option.bind_eq_some_iff.mp H
                                obtain ⟨⟨t194, t195, t196, t197⟩, A760, H⟩ := H
                                replace H : (if ((rd_T39 l1 x11_1).f0) = 2 then ((pot_Keep.f kj39 x165000_1 x165001_1 x165002_1 ((rd_T39 x9_1 ((rd_T39 l1 x11_1).f3)).f1) ((rd_T39 x9_1 ((rd_T39 l1 x11_1).f3)).f2)).bind fun bt199 => (if (rd_T39 x9_1 ((rd_T39 l1 x11_1).f3)).f1 = true then (ententelaw05_played.j2 kj39 l1 y191 (wrap64 (x10_1 - ((rd_T39 x9_1 ((rd_T39 l1 x11_1).f3)).f2))) x11_1 bt199.2.2.2 x165000_1 x165001_1 x165002_1 bt199.1 bt199.2.1 bt199.2.2.1) else (ententelaw05_played.j2 kj39 l1 y191 (wrap64 (x10_1 + ((rd_T39 x9_1 ((rd_T39 l1 x11_1).f3)).f2))) x11_1 bt199.2.2.2 x165000_1 x165001_1 x165002_1 bt199.1 bt199.2.1 bt199.2.2.1))) else (ententelaw05_played.j2 kj39 l1 y191 x10_1 x11_1 t197 x165000_1 x165001_1 x165002_1 t194 t195 t196)) = some (r1, r2, r3, r4, r5, r6) := H
                                have A76 := Aside0.mk A760
                                clear A760
                                have HC77 := Aside0.mk H
                                clear H
                                have hnb78 := NB166_163.out
                                have hnc78 := NB163_166.out
                                have hnb79 := NB166_164.out
                                have hnc79 := NB164_166.out
                                have hcz80_0 : wc.cell? ⟨gb166, 0, none⟩ = some (.int .i64 ((rd_T39 l1 x11_1).f0)) := (blk_cell BK166.out 0).trans rfl
                                have hcz80_1 : wc.cell? ⟨gb166, 1, none⟩ = some (.bool ((rd_T39 l1 x11_1).f1)) := (blk_cell BK166.out 1).trans rfl
                                have hcz80_2 : wc.cell? ⟨gb166, 2, none⟩ = some (.int .i64 ((rd_T39 l1 x11_1).f2)) := (blk_cell BK166.out 2).trans rfl
                                have hcz80_3 : wc.cell? ⟨gb166, 3, none⟩ = some (.int .i64 ((rd_T39 l1 x11_1).f3)) := (blk_cell BK166.out 3).trans rfl
                                have hfz80_0 := blk_frozen BK166.out 0
                                have hfz80_1 := blk_frozen BK166.out 1
                                have hfz80_2 := blk_frozen BK166.out 2
                                have hfz80_3 := blk_frozen BK166.out 3
                                obtain ⟨Ao81, co81, eo81⟩ := Kd.R_slice HO_9.out
                                subst eo81
                                have p175 : 0 ≤ (((rd_T39 l1 x11_1).f3) : Int) := of_decide_eq_true (by first | (with_reducible assumption) | assumption)
                                have q175 : ((rd_T39 l1 x11_1).f3) < (x9_1.length : Int) := of_decide_eq_true (by first | (with_reducible assumption) | assumption)
                                obtain ⟨ad175, e175, hx175_0, hx175_1, hx175_2, hx175_3⟩ := at_T39 (Kd.R_reads' HO_9.out).2.2 ((rd_T39 l1 x11_1).f3) p175 q175
                                cases e175
                                replace p175 := eq_true p175
                                replace q175 := eq_true q175
                                try go_wp2_with (first | ((with_reducible refine gate_dst (N := 15) rfl ?_); (try (refine gate_guard (by rfl) ?_; dsimp only)); refine box_event ?hg (N := 15) ?hd (cs := #[.int .i64 0, .bool false, .int .i64 0, .int .i64 0]) (t := 39) ?hr ?_; (case hd => rfl); (case hg => rfl); (case hr => first | (go_simp; done) | (go_simp; rfl)); intro gb176 hg w82 hbox hb; have n0_ := Aside0.mk (Kd.R_below (Kd.R_elderB (by (with_reducible repeat (first | apply Kd.R_alloc | apply Kd.R_drewN | apply Kd.R_drew)); exact HO_9.out) gb176 (Nat.le_of_eq hg.symm)) hb); have n1_ := Aside0.mk (blk_below (g := gb163) (o := .cells #[.int .i64 x164000_1, .int .i64 x164001_1, .int .i64 x164002_1] 23 (0, 0)) (by (with_reducible repeat (first | refine blk_drewN ?_ _ | refine blk_drew ?_ | refine blk_alloc ?_ _)); exact BK163.out) hb); have n2_ := Aside0.mk (blk_below (g := gb164) (o := .cells #[.int .i64 x165000_1, .int .i64 x165001_1, .int .i64 x165002_1] 23 (0, 0)) (by (with_reducible repeat (first | refine blk_drewN ?_ _ | refine blk_drew ?_ | refine blk_alloc ?_ _)); exact BK164.out) hb); have n3_ := Aside0.mk (blk_below (g := gb166) (o := .cells #[.int .i64 ((rd_T39 l1 x11_1).f0), .bool ((rd_T39 l1 x11_1).f1), .int .i64 ((rd_T39 l1 x11_1).f2), .int .i64 ((rd_T39 l1 x11_1).f3)] 39 (0, 0)) (by (with_reducible repeat (first | refine blk_drewN ?_ _ | refine blk_drew ?_ | refine blk_alloc ?_ _)); exact BK166.out) hb); have n4_ := Aside0.mk (below_step (by repeat (first | (with_reducible first | exact HB.out | apply below_alloc | apply pw_below_drewN | apply below_drew1 | refine below_set ?_ GE163.out | refine below_set ?_ GE164.out | refine below_set ?_ GE166.out) | exact HB.out)) hb); have n5_ := Aside0.mk (hbox); have n6_ := Aside0.mk ((by rw [hg]; exact (below_size (by repeat (first | (with_reducible first | exact HB.out | apply below_alloc | apply pw_below_drewN | apply below_drew1 | refine below_set ?_ GE163.out | refine below_set ?_ GE164.out | refine below_set ?_ GE166.out) | exact HB.out))) : w.heap.size ≤ gb176)); have n7_ := Aside0.mk ((by rw [hg]; exact (below_size (by repeat (first | (with_reducible first | exact HB.out | apply below_alloc | apply pw_below_drewN | apply below_drew1 | refine below_set ?_ GE163.out | refine below_set ?_ GE164.out | refine below_set ?_ GE166.out) | exact HB.out))) : w.heap.size ≤ gb176)); have n8_ := Aside0.mk ((by rw [hg]; exact Nat.ne_of_lt (blk_lt (g := gb163) (o := .cells #[.int .i64 x164000_1, .int .i64 x164001_1, .int .i64 x164002_1] 23 (0, 0)) (by (with_reducible repeat (first | refine blk_drewN ?_ _ | refine blk_drew ?_ | refine blk_alloc ?_ _)); exact BK163.out)) : gb163 ≠ gb176)); have n9_ := Aside0.mk ((by rw [hg]; exact Nat.ne_of_gt (blk_lt (g := gb163) (o := .cells #[.int .i64 x164000_1, .int .i64 x164001_1, .int .i64 x164002_1] 23 (0, 0)) (by (with_reducible repeat (first | refine blk_drewN ?_ _ | refine blk_drew ?_ | refine blk_alloc ?_ _)); exact BK163.out)) : gb176 ≠ gb163)); have n10_ := Aside0.mk ((by rw [hg]; exact Nat.ne_of_lt (blk_lt (g := gb164) (o := .cells #[.int .i64 x165000_1, .int .i64 x165001_1, .int .i64 x165002_1] 23 (0, 0)) (by (with_reducible repeat (first | refine blk_drewN ?_ _ | refine blk_drew ?_ | refine blk_alloc ?_ _)); exact BK164.out)) : gb164 ≠ gb176)); have n11_ := Aside0.mk ((by rw [hg]; exact Nat.ne_of_gt (blk_lt (g := gb164) (o := .cells #[.int .i64 x165000_1, .int .i64 x165001_1, .int .i64 x165002_1] 23 (0, 0)) (by (with_reducible repeat (first | refine blk_drewN ?_ _ | refine blk_drew ?_ | refine blk_alloc ?_ _)); exact BK164.out)) : gb176 ≠ gb164)); have n12_ := Aside0.mk ((by rw [hg]; exact Nat.ne_of_lt (blk_lt (g := gb166) (o := .cells #[.int .i64 ((rd_T39 l1 x11_1).f0), .bool ((rd_T39 l1 x11_1).f1), .int .i64 ((rd_T39 l1 x11_1).f2), .int .i64 ((rd_T39 l1 x11_1).f3)] 39 (0, 0)) (by (with_reducible repeat (first | refine blk_drewN ?_ _ | refine blk_drew ?_ | refine blk_alloc ?_ _)); exact BK166.out)) : gb166 ≠ gb176)); have n13_ := Aside0.mk ((by rw [hg]; exact Nat.ne_of_gt (blk_lt (g := gb166) (o := .cells #[.int .i64 ((rd_T39 l1 x11_1).f0), .bool ((rd_T39 l1 x11_1).f1), .int .i64 ((rd_T39 l1 x11_1).f2), .int .i64 ((rd_T39 l1 x11_1).f3)] 39 (0, 0)) (by (with_reducible repeat (first | refine blk_drewN ?_ _ | refine blk_drew ?_ | refine blk_alloc ?_ _)); exact BK166.out)) : gb176 ≠ gb166)); clear HO_9; clear BK163; clear BK164; clear BK166; clear HB; have HO_9 := n0_; have BK163 := n1_; have BK164 := n2_; have BK166 := n3_; have HB := n4_; have BK176 := n5_; have GW176 := n6_; have GE176 := n7_; have NB163_176 := n8_; have NB176_163 := n9_; have NB164_176 := n10_; have NB176_164 := n11_; have NB166_176 := n12_; have NB176_166 := n13_; clear n0_ n1_ n2_ n3_ n4_ n5_ n6_ n7_ n8_ n9_ n10_ n11_ n12_ n13_; clear hb hbox hg; have hnb83 := NB176_163.out; have hnc83 := NB163_176.out; have hnb84 := NB176_164.out; have hnc84 := NB164_176.out; have hnb85 := NB176_166.out; have hnc85 := NB166_176.out; have hcz86_0 : w82.cell? ⟨gb176, 0, none⟩ = some (.int .i64 0) := (blk_cell BK176.out 0).trans rfl; have hcz86_1 : w82.cell? ⟨gb176, 1, none⟩ = some (.bool false) := (blk_cell BK176.out 1).trans rfl; have hcz86_2 : w82.cell? ⟨gb176, 2, none⟩ = some (.int .i64 0) := (blk_cell BK176.out 2).trans rfl; have hcz86_3 : w82.cell? ⟨gb176, 3, none⟩ = some (.int .i64 0) := (blk_cell BK176.out 3).trans rfl; have hfz86_0 := blk_frozen BK176.out 0; have hfz86_1 := blk_frozen BK176.out 1; have hfz86_2 := blk_frozen BK176.out 2; have hfz86_3 := blk_frozen BK176.out 3))
                                have n0_ : Aside0 (Kd.R k39 39 ((((w82.setCell ⟨gb176, 0, none⟩ (.int .i64 ((rd_T39 x9_1 ((rd_T39 l1 x11_1).f3)).f0))).setCell ⟨gb176, 1, none⟩ (.bool ((rd_T39 x9_1 ((rd_T39 l1 x11_1).f3)).f1))).setCell ⟨gb176, 2, none⟩ (.int .i64 ((rd_T39 x9_1 ((rd_T39 l1 x11_1).f3)).f2))).setCell ⟨gb176, 3, none⟩ (.int .i64 ((rd_T39 x9_1 ((rd_T39 l1 x11_1).f3)).f3))) w.heap.size (fun k_ => k_ ≠ gb166 ∧ k_ ≠ gb176) (.slice (some ad175) x9_1.length co81) x9_1) := ⟨by (with_reducible repeat (first | apply Kd.R_alloc | apply Kd.R_drewN | apply Kd.R_drew)); exact Kd.R_mono (Kd.R_far (p := ⟨gb176, 3, none⟩) (Kd.R_far (p := ⟨gb176, 2, none⟩) (Kd.R_far (p := ⟨gb176, 1, none⟩) (Kd.R_far (p := ⟨gb176, 0, none⟩) (Kd.R_mono HO_9.out (fun k_ hk => (⟨hk, hk.2⟩ : _ ∧ k_ ≠ gb176))) (fun _ hk => hk.2) (.int .i64 ((rd_T39 x9_1 ((rd_T39 l1 x11_1).f3)).f0))) (fun _ hk => hk.2) (.bool ((rd_T39 x9_1 ((rd_T39 l1 x11_1).f3)).f1))) (fun _ hk => hk.2) (.int .i64 ((rd_T39 x9_1 ((rd_T39 l1 x11_1).f3)).f2))) (fun _ hk => hk.2) (.int .i64 ((rd_T39 x9_1 ((rd_T39 l1 x11_1).f3)).f3))) (fun _ hk => ⟨hk.1.1, hk.1.2⟩)⟩
                                have n1_ : Aside0 (((((w82.setCell ⟨gb176, 0, none⟩ (.int .i64 ((rd_T39 x9_1 ((rd_T39 l1 x11_1).f3)).f0))).setCell ⟨gb176, 1, none⟩ (.bool ((rd_T39 x9_1 ((rd_T39 l1 x11_1).f3)).f1))).setCell ⟨gb176, 2, none⟩ (.int .i64 ((rd_T39 x9_1 ((rd_T39 l1 x11_1).f3)).f2))).setCell ⟨gb176, 3, none⟩ (.int .i64 ((rd_T39 x9_1 ((rd_T39 l1 x11_1).f3)).f3))).heap[gb163]? = some (.cells #[.int .i64 x164000_1, .int .i64 x164001_1, .int .i64 x164002_1] 23 (0, 0))) := ⟨by (with_reducible repeat (first | refine blk_drewN ?_ _ | refine blk_drew ?_ | refine blk_alloc ?_ _)); refine blk_far ?_ NB163_176.out _; (with_reducible repeat (first | refine blk_drewN ?_ _ | refine blk_drew ?_ | refine blk_alloc ?_ _)); refine blk_far ?_ NB163_176.out _; (with_reducible repeat (first | refine blk_drewN ?_ _ | refine blk_drew ?_ | refine blk_alloc ?_ _)); refine blk_far ?_ NB163_176.out _; (with_reducible repeat (first | refine blk_drewN ?_ _ | refine blk_drew ?_ | refine blk_alloc ?_ _)); refine blk_far ?_ NB163_176.out _; (with_reducible repeat (first | refine blk_drewN ?_ _ | refine blk_drew ?_ | refine blk_alloc ?_ _)); exact BK163.out⟩
                                have n2_ : Aside0 (((((w82.setCell ⟨gb176, 0, none⟩ (.int .i64 ((rd_T39 x9_1 ((rd_T39 l1 x11_1).f3)).f0))).setCell ⟨gb176, 1, none⟩ (.bool ((rd_T39 x9_1 ((rd_T39 l1 x11_1).f3)).f1))).setCell ⟨gb176, 2, none⟩ (.int .i64 ((rd_T39 x9_1 ((rd_T39 l1 x11_1).f3)).f2))).setCell ⟨gb176, 3, none⟩ (.int .i64 ((rd_T39 x9_1 ((rd_T39 l1 x11_1).f3)).f3))).heap[gb164]? = some (.cells #[.int .i64 x165000_1, .int .i64 x165001_1, .int .i64 x165002_1] 23 (0, 0))) := ⟨by (with_reducible repeat (first | refine blk_drewN ?_ _ | refine blk_drew ?_ | refine blk_alloc ?_ _)); refine blk_far ?_ NB164_176.out _; (with_reducible repeat (first | refine blk_drewN ?_ _ | refine blk_drew ?_ | refine blk_alloc ?_ _)); refine blk_far ?_ NB164_176.out _; (with_reducible repeat (first | refine blk_drewN ?_ _ | refine blk_drew ?_ | refine blk_alloc ?_ _)); refine blk_far ?_ NB164_176.out _; (with_reducible repeat (first | refine blk_drewN ?_ _ | refine blk_drew ?_ | refine blk_alloc ?_ _)); refine blk_far ?_ NB164_176.out _; (with_reducible repeat (first | refine blk_drewN ?_ _ | refine blk_drew ?_ | refine blk_alloc ?_ _)); exact BK164.out⟩
                                have n3_ : Aside0 (((((w82.setCell ⟨gb176, 0, none⟩ (.int .i64 ((rd_T39 x9_1 ((rd_T39 l1 x11_1).f3)).f0))).setCell ⟨gb176, 1, none⟩ (.bool ((rd_T39 x9_1 ((rd_T39 l1 x11_1).f3)).f1))).setCell ⟨gb176, 2, none⟩ (.int .i64 ((rd_T39 x9_1 ((rd_T39 l1 x11_1).f3)).f2))).setCell ⟨gb176, 3, none⟩ (.int .i64 ((rd_T39 x9_1 ((rd_T39 l1 x11_1).f3)).f3))).heap[gb166]? = some (.cells #[.int .i64 ((rd_T39 l1 x11_1).f0), .bool ((rd_T39 l1 x11_1).f1), .int .i64 ((rd_T39 l1 x11_1).f2), .int .i64 ((rd_T39 l1 x11_1).f3)] 39 (0, 0))) := ⟨by (with_reducible repeat (first | refine blk_drewN ?_ _ | refine blk_drew ?_ | refine blk_alloc ?_ _)); refine blk_far ?_ NB166_176.out _; (with_reducible repeat (first | refine blk_drewN ?_ _ | refine blk_drew ?_ | refine blk_alloc ?_ _)); refine blk_far ?_ NB166_176.out _; (with_reducible repeat (first | refine blk_drewN ?_ _ | refine blk_drew ?_ | refine blk_alloc ?_ _)); refine blk_far ?_ NB166_176.out _; (with_reducible repeat (first | refine blk_drewN ?_ _ | refine blk_drew ?_ | refine blk_alloc ?_ _)); refine blk_far ?_ NB166_176.out _; (with_reducible repeat (first | refine blk_drewN ?_ _ | refine blk_drew ?_ | refine blk_alloc ?_ _)); exact BK166.out⟩
                                have n4_ : Aside0 (((((w82.setCell ⟨gb176, 0, none⟩ (.int .i64 ((rd_T39 x9_1 ((rd_T39 l1 x11_1).f3)).f0))).setCell ⟨gb176, 1, none⟩ (.bool ((rd_T39 x9_1 ((rd_T39 l1 x11_1).f3)).f1))).setCell ⟨gb176, 2, none⟩ (.int .i64 ((rd_T39 x9_1 ((rd_T39 l1 x11_1).f3)).f2))).setCell ⟨gb176, 3, none⟩ (.int .i64 ((rd_T39 x9_1 ((rd_T39 l1 x11_1).f3)).f3))).heap[gb176]? = some (.cells #[.int .i64 ((rd_T39 x9_1 ((rd_T39 l1 x11_1).f3)).f0), .bool ((rd_T39 x9_1 ((rd_T39 l1 x11_1).f3)).f1), .int .i64 ((rd_T39 x9_1 ((rd_T39 l1 x11_1).f3)).f2), .int .i64 ((rd_T39 x9_1 ((rd_T39 l1 x11_1).f3)).f3)] 39 (0, 0))) := ⟨by (with_reducible repeat (first | refine blk_drewN ?_ _ | refine blk_drew ?_ | refine blk_alloc ?_ _)); refine blk_put (cs := #[.int .i64 ((rd_T39 x9_1 ((rd_T39 l1 x11_1).f3)).f0), .bool ((rd_T39 x9_1 ((rd_T39 l1 x11_1).f3)).f1), .int .i64 ((rd_T39 x9_1 ((rd_T39 l1 x11_1).f3)).f2), .int .i64 0]) ?_ 3 _ rfl; (with_reducible repeat (first | refine blk_drewN ?_ _ | refine blk_drew ?_ | refine blk_alloc ?_ _)); refine blk_put (cs := #[.int .i64 ((rd_T39 x9_1 ((rd_T39 l1 x11_1).f3)).f0), .bool ((rd_T39 x9_1 ((rd_T39 l1 x11_1).f3)).f1), .int .i64 0, .int .i64 0]) ?_ 2 _ rfl; (with_reducible repeat (first | refine blk_drewN ?_ _ | refine blk_drew ?_ | refine blk_alloc ?_ _)); refine blk_put (cs := #[.int .i64 ((rd_T39 x9_1 ((rd_T39 l1 x11_1).f3)).f0), .bool false, .int .i64 0, .int .i64 0]) ?_ 1 _ rfl; (with_reducible repeat (first | refine blk_drewN ?_ _ | refine blk_drew ?_ | refine blk_alloc ?_ _)); refine blk_put (cs := #[.int .i64 0, .bool false, .int .i64 0, .int .i64 0]) ?_ 0 _ rfl; (with_reducible repeat (first | refine blk_drewN ?_ _ | refine blk_drew ?_ | refine blk_alloc ?_ _)); exact BK176.out⟩
                                have n5_ : Aside0 (Below w.heap.size w ((((w82.setCell ⟨gb176, 0, none⟩ (.int .i64 ((rd_T39 x9_1 ((rd_T39 l1 x11_1).f3)).f0))).setCell ⟨gb176, 1, none⟩ (.bool ((rd_T39 x9_1 ((rd_T39 l1 x11_1).f3)).f1))).setCell ⟨gb176, 2, none⟩ (.int .i64 ((rd_T39 x9_1 ((rd_T39 l1 x11_1).f3)).f2))).setCell ⟨gb176, 3, none⟩ (.int .i64 ((rd_T39 x9_1 ((rd_T39 l1 x11_1).f3)).f3)))) := ⟨by repeat (first | (with_reducible first | exact HB.out | apply below_alloc | apply pw_below_drewN | apply below_drew1 | refine below_set ?_ GE163.out | refine below_set ?_ GE164.out | refine below_set ?_ GE166.out | refine below_set ?_ GE176.out) | exact HB.out)⟩
                                (try clear HO_9)
                                (try clear BK163)
                                (try clear BK164)
                                (try clear BK166)
                                (try clear BK176)
                                (try clear HB)
                                generalize ((((w82.setCell ⟨gb176, 0, none⟩ (.int .i64 ((rd_T39 x9_1 ((rd_T39 l1 x11_1).f3)).f0))).setCell ⟨gb176, 1, none⟩ (.bool ((rd_T39 x9_1 ((rd_T39 l1 x11_1).f3)).f1))).setCell ⟨gb176, 2, none⟩ (.int .i64 ((rd_T39 x9_1 ((rd_T39 l1 x11_1).f3)).f2))).setCell ⟨gb176, 3, none⟩ (.int .i64 ((rd_T39 x9_1 ((rd_T39 l1 x11_1).f3)).f3))) = w87 at n0_ n1_ n2_ n3_ n4_ n5_ ⊢
                                have HO_9 := n0_
                                have BK163 := n1_
                                have BK164 := n2_
                                have BK166 := n3_
                                have BK176 := n4_
                                have HB := n5_
                                clear n0_ n1_ n2_ n3_ n4_ n5_
                                have n0_ := Aside0.mk (Kd.R_drew HO_9.out)
                                have n1_ := Aside0.mk (blk_drew BK163.out)
                                have n2_ := Aside0.mk (blk_drew BK164.out)
                                have n3_ := Aside0.mk (blk_drew BK166.out)
                                have n4_ := Aside0.mk (blk_drew BK176.out)
                                have n5_ := Aside0.mk (below_drew1 HB.out)
                                clear HO_9
                                clear BK163
                                clear BK164
                                clear BK166
                                clear BK176
                                clear HB
                                have HO_9 := n0_
                                have BK163 := n1_
                                have BK164 := n2_
                                have BK166 := n3_
                                have BK176 := n4_
                                have HB := n5_
                                clear n0_ n1_ n2_ n3_ n4_ n5_
                                have q89 : (((rd_T39 l1 x11_1).f3) : Int) ≤ ((x9_1.length : Int) : Int) := of_decide_eq_true (by first | (with_reducible assumption) | assumption)
                                obtain ⟨i089, hi089, _, hsz89, _⟩ := info_parts info39
                                have hroom89 : x9_1.length ≤ co81 := (Kd.R_reads' HO_9.out).2.1
                                have hC89 : Kd.C k39 _ (some ad175) x9_1.length x9_1 := (Kd.R_reads' HO_9.out).2.2
                                have hcut89 := cut_to (P := Try.prog) 35 39 .i64 Try.underlying35 hi089 (some ad175) x9_1.length co81 ((rd_T39 l1 x11_1).f3) (of_decide_eq_true (by first | (with_reducible assumption) | assumption)) q89 hroom89
                                have hr89 := Kd.C_take (m := (((rd_T39 l1 x11_1).f3) : Int).toNat) hC89 (by omega)
                                have hy89 : y180.length = (((rd_T39 l1 x11_1).f3) : Int).toNat := (by rw [Ny180.out, List.length_take]; omega)
                                rw [← Ny180.out] at hr89
                                rw [← hy89] at hcut89
                                have HR183 := Aside0.mk hr89
                                have HC183 := Aside0.mk (show y180.length ≤ co81 from by omega)
                                clear hr89 hC89 hroom89 hi089 hsz89
                                have KY89 := Aside0.mk hy89
                                clear hy89
                                have KL89 := Aside0.mk (show (((rd_T39 l1 x11_1).f3) : Int).toNat ≤ x9_1.length from by omega)
                                replace q89 := eq_true q89
                                have q90 : ((ji72) : Int) ≤ ((x9_1.length : Int) : Int) := of_decide_eq_true (by first | (with_reducible assumption) | assumption)
                                obtain ⟨i090, hi090, _, hsz90, _⟩ := info_parts info39
                                have hroom90 : x9_1.length ≤ co81 := (Kd.R_reads' HO_9.out).2.1
                                have hC90 : Kd.C k39 _ (some ad175) x9_1.length x9_1 := (Kd.R_reads' HO_9.out).2.2
                                have q090 : (0 : Int) ≤ ((ji72) : Int) := of_decide_eq_true (by first | (with_reducible assumption) | assumption)
                                have hcut90 := cut_from (P := Try.prog) 35 39 .i64 Try.underlying35 hi090 4 hsz90 (some ad175) x9_1.length co81 (ji72) q090 q90
                                have hr90 := Kd.C_drop (m := ((ji72) : Int).toNat) (c := co81) hC90 (by omega) hroom90
                                obtain ⟨A90, hA90⟩ : ∃ A1, A1 = (if co81 = ((ji72) : Int).toNat then (some ad175) else ((some ad175) : Option Addr).map (·.add (((ji72) : Int).toNat * 4))) := ⟨_, rfl⟩
                                obtain ⟨c90, hc90⟩ : ∃ c1, c1 = co81 - ((ji72) : Int).toNat := ⟨_, rfl⟩
                                have hy90 : y187.length = x9_1.length - ((ji72) : Int).toNat := (by rw [Ny187.out, List.length_drop] <;> omega)
                                rw [show (x9_1).drop ((ji72) : Int).toNat = y187 from Ny187.out.symm] at hr90
                                replace hr90 : Kd.C k39 _ A90 y187.length y187 := (by rw [hA90]; exact hr90)
                                rw [← hy90, ← hA90, ← hc90] at hcut90
                                have HR190 := Aside0.mk hr90
                                have HC190 := Aside0.mk (show y187.length ≤ c90 from by rw [hy90, hc90]; exact Nat.sub_le_sub_right hroom90 _)
                                clear hr90 hC90 hroom90 hi090 hsz90 hc90
                                have KY90 := Aside0.mk hy90
                                have KA90 := Aside0.mk hA90
                                clear hy90 hA90
                                have KL90 := Aside0.mk (show ((ji72) : Int).toNat ≤ x9_1.length from by omega)
                                replace q90 := eq_true q90
                                refine start_ (n := 13) (S := fun w' => w'.cell? ⟨gb166, 0, none⟩ = some (.int .i64 ((rd_T39 l1 x11_1).f0)) ∧ w'.cell? ⟨gb166, 1, none⟩ = some (.bool ((rd_T39 l1 x11_1).f1)) ∧ w'.cell? ⟨gb166, 2, none⟩ = some (.int .i64 ((rd_T39 l1 x11_1).f2)) ∧ w'.cell? ⟨gb166, 3, none⟩ = some (.int .i64 ((rd_T39 l1 x11_1).f3))) (ds := []) #[false, false, false, false, false, false, false, false, false, false, false, false, false] (by kernel_rfl) rfl rfl ⟨(blk_cell BK166.out 0).trans rfl, (blk_cell BK166.out 1).trans rfl, (blk_cell BK166.out 2).trans rfl, (blk_cell BK166.out 3).trans rfl⟩ (fun hHeld => ?_); refine with_tabW ententelaw05_played.tab15 ententelaw05_played.bits15 (fun HT_ HW_ => ?_)
                                generalize w87.drew = w88 at HO_9 BK163 BK164 BK166 BK176 HB HR183 HR190 hHeld ⊢
                                refine pure_ (i := 1) (N := some 75) (v := ?_) (a' := ?_) #[false, true, false, false, false, false, false, false, false, false, false, false, false] rfl rfl (any_of HT_.out (by kernel_rfl)) (fun _ _ _ h => h) (Or.inl ⟨by rfl, ?_⟩) ?_ ?_
                                rotate_left
                                · intro w'
                                  go_simp
                                  with_reducible rfl
                                rotate_left
                                · simp only [Act.put, List.setIfInBounds_toArray, List.set_cons_zero, List.set_cons_succ, i64_w, i32_w]
                                  rfl
                                refine pure_ (i := 2) (N := some 76) (v := ?_) (a' := ?_) #[false, true, true, false, false, false, false, false, false, false, false, false, false] rfl rfl (any_of HT_.out (by kernel_rfl)) (fun _ _ _ h => h) (Or.inl ⟨by rfl, ?_⟩) ?_ ?_
                                rotate_left
                                · intro w'
                                  go_simp
                                  with_reducible rfl
                                rotate_left
                                · simp only [Act.put, List.setIfInBounds_toArray, List.set_cons_zero, List.set_cons_succ, i64_w, i32_w]
                                  rfl
                                refine pure_ (i := 6) (N := some 80) (v := ?_) (a' := ?_) #[false, true, true, false, false, false, true, false, false, false, false, false, false] rfl rfl (any_of HT_.out (by kernel_rfl)) (fun _ _ _ h => h) (Or.inl ⟨by rfl, ?_⟩) ?_ ?_
                                rotate_left
                                · intro w'
                                  go_simp
                                  with_reducible rfl
                                rotate_left
                                · simp only [Act.put, List.setIfInBounds_toArray, List.set_cons_zero, List.set_cons_succ, i64_w, i32_w]
                                  rfl
                                refine pure_ (i := 7) (N := some 81) (v := ?_) (a' := ?_) #[false, true, true, false, false, false, true, true, false, false, false, false, false] rfl rfl (any_of HT_.out (by kernel_rfl)) (fun _ _ _ h => h) (Or.inl ⟨by rfl, ?_⟩) ?_ ?_
                                rotate_left
                                · intro w'
                                  go_simp
                                  with_reducible rfl
                                rotate_left
                                · simp only [Act.put, List.setIfInBounds_toArray, List.set_cons_zero, List.set_cons_succ, i64_w, i32_w]
                                  rfl
                                refine take_ (i := 3) (N := some 77) (v := ?_) (a' := ?_) #[false, true, true, true, false, false, true, true, false, false, false, false, false] rfl rfl (take_ofW HT_.out HW_.out (by kernel_rfl)) (fun _ _ _ h => h) (Or.inl ⟨by rfl, ?_⟩) hHeld ?_ ?_
                                rotate_left
                                · rintro w' ⟨s0, s1, s2, s3⟩
                                  go_simp
                                  with_reducible rfl
                                rotate_left
                                · simp only [Act.put, List.setIfInBounds_toArray, List.set_cons_zero, List.set_cons_succ, i64_w, i32_w]
                                  rfl
                                refine pure_ (i := 4) (N := some 78) (v := ?_) (a' := ?_) #[false, true, true, true, true, false, true, true, false, false, false, false, false] rfl rfl (any_of HT_.out (by kernel_rfl)) (fun _ _ _ h => h) (Or.inl ⟨by rfl, ?_⟩) ?_ ?_
                                rotate_left
                                · intro w'
                                  go_simp
                                  with_reducible rfl
                                rotate_left
                                · simp only [Act.put, List.setIfInBounds_toArray, List.set_cons_zero, List.set_cons_succ, i64_w, i32_w]
                                  rfl
                                refine take_ (i := 8) (N := some 82) (v := ?_) (a' := ?_) #[false, true, true, true, true, false, true, true, true, false, false, false, false] rfl rfl (take_ofW HT_.out HW_.out (by kernel_rfl)) (fun _ _ _ h => h) (Or.inl ⟨by rfl, ?_⟩) hHeld ?_ ?_
                                rotate_left
                                · rintro w' ⟨s0, s1, s2, s3⟩
                                  go_simp
                                  with_reducible rfl
                                rotate_left
                                · simp only [Act.put, List.setIfInBounds_toArray, List.set_cons_zero, List.set_cons_succ, i64_w, i32_w]
                                  rfl
                                refine pure_ (i := 9) (N := some 83) (v := ?_) (a' := ?_) #[false, true, true, true, true, false, true, true, true, true, false, false, false] rfl rfl (any_of HT_.out (by kernel_rfl)) (fun _ _ _ h => h) (Or.inl ⟨by rfl, ?_⟩) ?_ ?_
                                rotate_left
                                · intro w'
                                  go_simp
                                  with_reducible rfl
                                rotate_left
                                · simp only [Act.put, List.setIfInBounds_toArray, List.set_cons_zero, List.set_cons_succ, i64_w, i32_w]
                                  rfl
                                refine pure_ (i := 10) (N := some 84) (v := ?_) (a' := ?_) #[false, true, true, true, true, false, true, true, true, true, true, false, false] rfl rfl (any_of HT_.out (by kernel_rfl)) (fun _ _ _ h => h) (Or.inl ⟨by rfl, ?_⟩) ?_ ?_
                                rotate_left
                                · intro w'
                                  go_simp
                                  with_reducible rfl
                                rotate_left
                                · simp only [Act.put, List.setIfInBounds_toArray, List.set_cons_zero, List.set_cons_succ, i64_w, i32_w]
                                  rfl
                                refine one_ (i := 0) (N := some 74) #[true, true, true, true, true, false, true, true, true, true, true, false, false] rfl rfl (one_of HT_.out (by kernel_rfl)) (by decide) (fun K hK => ?_)
                                refine Kd.R_lit_step k39 _ 39 ?hg (N := 74) ?hd (xs := ([] : List (S39))) (inner := []) (ok := fun _ => True) (okp := fun _ => True) ?hr ?hp (fun _ hk => hk) trivial (Below.refl _ _) (Nat.le_refl _) (by simp) ?_; (case hd => rfl); (case hg => rfl); (case hr => first | (go_simp; done) | (go_simp; rfl)); (case hp => exact (Reps.none _ _))
                                intro v178 w91 ho92 hb hg_ hnew_
                                clear hg_ hnew_
                                (first | rw [← Ny177.out] at ho92 | (simp only [Int.reduceToNat] at ho92; rw [← Ny177.out] at ho92))
                                have n0_ := Aside0.mk (Kd.R_elder' (by (with_reducible repeat (first | apply Kd.R_alloc | apply Kd.R_drewN | apply Kd.R_drew)); exact HO_9.out) (Kd.R_base ho92) hb)
                                have n1_ := Aside0.mk (Kd.R_lower (Kd.R_newB (Kd.R_newB (Kd.R_new' ho92 (Kd.R_lt (by (with_reducible repeat (first | apply Kd.R_alloc | apply Kd.R_drewN | apply Kd.R_drew)); exact HO_9.out))) (g := gb166) (o := .cells #[.int .i64 ((rd_T39 l1 x11_1).f0), .bool ((rd_T39 l1 x11_1).f1), .int .i64 ((rd_T39 l1 x11_1).f2), .int .i64 ((rd_T39 l1 x11_1).f3)] 39 (0, 0)) (by (with_reducible repeat (first | refine blk_drewN ?_ _ | refine blk_drew ?_ | refine blk_alloc ?_ _)); exact BK166.out)) (g := gb176) (o := .cells #[.int .i64 ((rd_T39 x9_1 ((rd_T39 l1 x11_1).f3)).f0), .bool ((rd_T39 x9_1 ((rd_T39 l1 x11_1).f3)).f1), .int .i64 ((rd_T39 x9_1 ((rd_T39 l1 x11_1).f3)).f2), .int .i64 ((rd_T39 x9_1 ((rd_T39 l1 x11_1).f3)).f3)] 39 (0, 0)) (by (with_reducible repeat (first | refine blk_drewN ?_ _ | refine blk_drew ?_ | refine blk_alloc ?_ _)); exact BK176.out)) (below_size (by repeat (first | (with_reducible first | exact HB.out | apply below_alloc | apply pw_below_drewN | apply below_drew1 | refine below_set ?_ GE163.out | refine below_set ?_ GE164.out | refine below_set ?_ GE166.out | refine below_set ?_ GE176.out) | exact HB.out))))
                                have n2_ := Aside0.mk (blk_below (g := gb163) (o := .cells #[.int .i64 x164000_1, .int .i64 x164001_1, .int .i64 x164002_1] 23 (0, 0)) (by (with_reducible repeat (first | refine blk_drewN ?_ _ | refine blk_drew ?_ | refine blk_alloc ?_ _)); exact BK163.out) hb)
                                have n3_ := Aside0.mk (blk_below (g := gb164) (o := .cells #[.int .i64 x165000_1, .int .i64 x165001_1, .int .i64 x165002_1] 23 (0, 0)) (by (with_reducible repeat (first | refine blk_drewN ?_ _ | refine blk_drew ?_ | refine blk_alloc ?_ _)); exact BK164.out) hb)
                                have n4_ := Aside0.mk (blk_below (g := gb166) (o := .cells #[.int .i64 ((rd_T39 l1 x11_1).f0), .bool ((rd_T39 l1 x11_1).f1), .int .i64 ((rd_T39 l1 x11_1).f2), .int .i64 ((rd_T39 l1 x11_1).f3)] 39 (0, 0)) (by (with_reducible repeat (first | refine blk_drewN ?_ _ | refine blk_drew ?_ | refine blk_alloc ?_ _)); exact BK166.out) hb)
                                have n5_ := Aside0.mk (blk_below (g := gb176) (o := .cells #[.int .i64 ((rd_T39 x9_1 ((rd_T39 l1 x11_1).f3)).f0), .bool ((rd_T39 x9_1 ((rd_T39 l1 x11_1).f3)).f1), .int .i64 ((rd_T39 x9_1 ((rd_T39 l1 x11_1).f3)).f2), .int .i64 ((rd_T39 x9_1 ((rd_T39 l1 x11_1).f3)).f3)] 39 (0, 0)) (by (with_reducible repeat (first | refine blk_drewN ?_ _ | refine blk_drew ?_ | refine blk_alloc ?_ _)); exact BK176.out) hb)
                                have n6_ := Aside0.mk (Kd.C_below (by repeat (first | (with_reducible exact HR183.out) | (with_reducible refine Kd.C_alloc ?_ _) | (with_reducible refine Kd.C_drewN ?_ _) | (with_reducible refine Kd.C_drew ?_) | exact HR183.out)) hb)
                                have n7_ := Aside0.mk (Kd.C_below (by repeat (first | (with_reducible exact HR190.out) | (with_reducible refine Kd.C_alloc ?_ _) | (with_reducible refine Kd.C_drewN ?_ _) | (with_reducible refine Kd.C_drew ?_) | exact HR190.out)) hb)
                                have n8_ := Aside0.mk (below_step (by repeat (first | (with_reducible first | exact HB.out | apply below_alloc | apply pw_below_drewN | apply below_drew1 | refine below_set ?_ GE163.out | refine below_set ?_ GE164.out | refine below_set ?_ GE166.out | refine below_set ?_ GE176.out) | exact HB.out)) hb)
                                clear HO_9
                                clear BK163
                                clear BK164
                                clear BK166
                                clear BK176
                                clear HR183
                                clear HR190
                                clear HB
                                have HO_9 := n0_
                                have HO179 := n1_
                                have BK163 := n2_
                                have BK164 := n3_
                                have BK166 := n4_
                                have BK176 := n5_
                                have HR183 := n6_
                                have HR190 := n7_
                                have HB := n8_
                                clear n0_ n1_ n2_ n3_ n4_ n5_ n6_ n7_ n8_
                                clear hb ho92
                                refine hK.out _ _ ⟨(blk_cell BK166.out 0).trans rfl, (blk_cell BK166.out 1).trans rfl, (blk_cell BK166.out 2).trans rfl, (blk_cell BK166.out 3).trans rfl⟩ (fun hHeld => ?_)
                                clear hK K
                                refine norm_ (a' := ?_) ?_ ?_
                                rotate_left
                                · show Act.put _ (some 74) _ = _
                                  simp only [Act.put, List.setIfInBounds_toArray, List.set_cons_zero, List.set_cons_succ, i64_w, i32_w]
                                  rfl
                                refine one_ (i := 5) (N := some 79) #[true, true, true, true, true, true, true, true, true, true, true, false, false] rfl rfl (one_of HT_.out (by kernel_rfl)) (by decide) (fun K hK => ?_)
                                refine Kd.R_append_rows_step k39 (w0 := w) w.heap.size (by rfl) (.tmp 74) (.tmp 78) 35 39 (.agg #[(.int .i64 0), (.bool false), (.int .i64 0), (.int .i64 0)]) 32 rfl Try.underlying35 info39 rfl (by decide) (by omega) v178 y177 y180 _ _ _ (fun k_ => some k_ ≠ (.slice (some ad175) x9_1.length co81 : Value).ownBlock ∧ k_ ≠ gb166 ∧ k_ ≠ gb176) (fun _ => False) rfl rfl ?aO ?aR (fun _ _ h => h) (fun _ h => h.elim) ?aF ?aB ?aS ?aL ?_
                                (case aR => repeat (first | exact (by repeat (first | (with_reducible exact HR183.out) | (with_reducible refine Kd.C_alloc ?_ _) | (with_reducible refine Kd.C_drewN ?_ _) | (with_reducible refine Kd.C_drew ?_) | exact HR183.out)) | (with_reducible refine Kd.C_alloc ?_ _) | (with_reducible refine Kd.C_drewN ?_ _) | (with_reducible refine Kd.C_drew ?_)))
                                (case aB => exact (by repeat (first | (with_reducible first | exact HB.out | apply below_alloc | apply pw_below_drewN | apply below_drew1 | refine below_set ?_ GE163.out | refine below_set ?_ GE164.out | refine below_set ?_ GE166.out | refine below_set ?_ GE176.out) | exact HB.out)))
                                (case aF => exact (fun k_ hk => ⟨Kd.fresh' (Kd.R_lt (by (with_reducible repeat (first | apply Kd.R_alloc | apply Kd.R_drewN | apply Kd.R_drew)); exact HO_9.out)) k_ hk, Kd.freshB (g := gb166) (o := .cells #[.int .i64 ((rd_T39 l1 x11_1).f0), .bool ((rd_T39 l1 x11_1).f1), .int .i64 ((rd_T39 l1 x11_1).f2), .int .i64 ((rd_T39 l1 x11_1).f3)] 39 (0, 0)) (by (with_reducible repeat (first | refine blk_drewN ?_ _ | refine blk_drew ?_ | refine blk_alloc ?_ _)); exact BK166.out) k_ hk, Kd.freshB (g := gb176) (o := .cells #[.int .i64 ((rd_T39 x9_1 ((rd_T39 l1 x11_1).f3)).f0), .bool ((rd_T39 x9_1 ((rd_T39 l1 x11_1).f3)).f1), .int .i64 ((rd_T39 x9_1 ((rd_T39 l1 x11_1).f3)).f2), .int .i64 ((rd_T39 x9_1 ((rd_T39 l1 x11_1).f3)).f3)] 39 (0, 0)) (by (with_reducible repeat (first | refine blk_drewN ?_ _ | refine blk_drew ?_ | refine blk_alloc ?_ _)); exact BK176.out) k_ hk⟩))
                                (case aO => exact (by (with_reducible repeat (first | apply Kd.R_alloc | apply Kd.R_drewN | apply Kd.R_drew)); exact Kd.R_mono HO179.out (fun _ hk => ⟨hk.1.1.2, ⟨hk.1.2, hk.2⟩⟩)))
                                (case aS => exact (below_size (by repeat (first | (with_reducible first | exact HB.out | apply below_alloc | apply pw_below_drewN | apply below_drew1 | refine below_set ?_ GE163.out | refine below_set ?_ GE164.out | refine below_set ?_ GE166.out | refine below_set ?_ GE176.out) | exact HB.out))))
                                (case aL => have := LMc71.out; omega)
                                intro v185 w93 ho hb hg hat
                                rw [← Ny184.out] at ho
                                have n0_ := Aside0.mk (Kd.R_after (ok := (fun k_ => k_ ≠ gb166 ∧ k_ ≠ gb176)) (by (with_reducible repeat (first | apply Kd.R_alloc | apply Kd.R_drewN | apply Kd.R_drew)); exact HO_9.out) hg hat)
                                have n1_ := Aside0.mk (blk_grown (g := gb163) (o := .cells #[.int .i64 x164000_1, .int .i64 x164001_1, .int .i64 x164002_1] 23 (0, 0)) (by (with_reducible repeat (first | refine blk_drewN ?_ _ | refine blk_drew ?_ | refine blk_alloc ?_ _)); exact BK163.out) hg (Kd.R_ne HO179.out BK163.out (by decide)))
                                have n2_ := Aside0.mk (blk_grown (g := gb164) (o := .cells #[.int .i64 x165000_1, .int .i64 x165001_1, .int .i64 x165002_1] 23 (0, 0)) (by (with_reducible repeat (first | refine blk_drewN ?_ _ | refine blk_drew ?_ | refine blk_alloc ?_ _)); exact BK164.out) hg (Kd.R_ne HO179.out BK164.out (by decide)))
                                have n3_ := Aside0.mk (blk_grown (g := gb166) (o := .cells #[.int .i64 ((rd_T39 l1 x11_1).f0), .bool ((rd_T39 l1 x11_1).f1), .int .i64 ((rd_T39 l1 x11_1).f2), .int .i64 ((rd_T39 l1 x11_1).f3)] 39 (0, 0)) (by (with_reducible repeat (first | refine blk_drewN ?_ _ | refine blk_drew ?_ | refine blk_alloc ?_ _)); exact BK166.out) hg (Kd.R_away HO179.out (fun _ hk => hk.1.2)))
                                have n4_ := Aside0.mk (blk_grown (g := gb176) (o := .cells #[.int .i64 ((rd_T39 x9_1 ((rd_T39 l1 x11_1).f3)).f0), .bool ((rd_T39 x9_1 ((rd_T39 l1 x11_1).f3)).f1), .int .i64 ((rd_T39 x9_1 ((rd_T39 l1 x11_1).f3)).f2), .int .i64 ((rd_T39 x9_1 ((rd_T39 l1 x11_1).f3)).f3)] 39 (0, 0)) (by (with_reducible repeat (first | refine blk_drewN ?_ _ | refine blk_drew ?_ | refine blk_alloc ?_ _)); exact BK176.out) hg (Kd.R_away HO179.out (fun _ hk => hk.2)))
                                have n5_ := Aside0.mk (hb)
                                have n6_ := Aside0.mk ((show Kd.C k39 w93 (some ad175) y180.length y180 from by rw [Ny180.out]; exact Kd.C_take (m := (((rd_T39 l1 x11_1).f3) : Int).toNat) ((Kd.R_reads' (Kd.R_after (ok := (fun k_ => k_ ≠ gb166 ∧ k_ ≠ gb176)) (by (with_reducible repeat (first | apply Kd.R_alloc | apply Kd.R_drewN | apply Kd.R_drew)); exact HO_9.out) hg hat)).2.2) KL89.out))
                                have n7_ := Aside0.mk ((show Kd.C k39 w93 A90 y187.length y187 from by rw [Ny187.out, KA90.out]; exact Kd.C_drop (m := ((ji72) : Int).toNat) (c := co81) ((Kd.R_reads' (Kd.R_after (ok := (fun k_ => k_ ≠ gb166 ∧ k_ ≠ gb176)) (by (with_reducible repeat (first | apply Kd.R_alloc | apply Kd.R_drewN | apply Kd.R_drew)); exact HO_9.out) hg hat)).2.2) KL90.out ((Kd.R_reads' (Kd.R_after (ok := (fun k_ => k_ ≠ gb166 ∧ k_ ≠ gb176)) (by (with_reducible repeat (first | apply Kd.R_alloc | apply Kd.R_drewN | apply Kd.R_drew)); exact HO_9.out) hg hat)).2.1)))
                                have n8_ := Aside0.mk (ho)
                                clear HO_9
                                clear BK163
                                clear BK164
                                clear BK166
                                clear BK176
                                clear HB
                                clear HR183
                                clear HR190
                                clear HO179
                                have HO_9 := n0_
                                have BK163 := n1_
                                have BK164 := n2_
                                have BK166 := n3_
                                have BK176 := n4_
                                have HB := n5_
                                have HR183 := n6_
                                have HR190 := n7_
                                have HO186 := n8_
                                clear n0_ n1_ n2_ n3_ n4_ n5_ n6_ n7_ n8_
                                clear ho hb hg hat
                                refine hK.out _ _ ⟨(blk_cell BK166.out 0).trans rfl, (blk_cell BK166.out 1).trans rfl, (blk_cell BK166.out 2).trans rfl, (blk_cell BK166.out 3).trans rfl⟩ (fun hHeld => ?_)
                                clear hK K
                                refine norm_ (a' := ?_) ?_ ?_
                                rotate_left
                                · show Act.put _ (some 79) _ = _
                                  simp only [Act.put, List.setIfInBounds_toArray, List.set_cons_zero, List.set_cons_succ, i64_w, i32_w]
                                  rfl
                                refine one_ (i := 11) (N := some 85) #[true, true, true, true, true, true, true, true, true, true, true, true, false] rfl rfl (one_of HT_.out (by kernel_rfl)) (by decide) (fun K hK => ?_)
                                refine Kd.R_append_rows_step k39 (w0 := w) w.heap.size (by rfl) (.tmp 79) (.tmp 84) 35 39 (.agg #[(.int .i64 0), (.bool false), (.int .i64 0), (.int .i64 0)]) 32 rfl Try.underlying35 info39 rfl (by decide) (by omega) v185 y184 y187 _ _ _ (fun k_ => some k_ ≠ (.slice (some ad175) x9_1.length co81 : Value).ownBlock ∧ k_ ≠ gb166 ∧ k_ ≠ gb176) (fun _ => False) rfl rfl ?aO ?aR (fun _ _ h => h) (fun _ h => h.elim) ?aF ?aB ?aS ?aL ?_
                                (case aR => repeat (first | exact (by repeat (first | (with_reducible exact HR190.out) | (with_reducible refine Kd.C_alloc ?_ _) | (with_reducible refine Kd.C_drewN ?_ _) | (with_reducible refine Kd.C_drew ?_) | exact HR190.out)) | (with_reducible refine Kd.C_alloc ?_ _) | (with_reducible refine Kd.C_drewN ?_ _) | (with_reducible refine Kd.C_drew ?_)))
                                (case aB => exact (by repeat (first | (with_reducible first | exact HB.out | apply below_alloc | apply pw_below_drewN | apply below_drew1 | refine below_set ?_ GE163.out | refine below_set ?_ GE164.out | refine below_set ?_ GE166.out | refine below_set ?_ GE176.out) | exact HB.out)))
                                (case aF => exact (fun k_ hk => ⟨Kd.fresh' (Kd.R_lt (by (with_reducible repeat (first | apply Kd.R_alloc | apply Kd.R_drewN | apply Kd.R_drew)); exact HO_9.out)) k_ hk, Kd.freshB (g := gb166) (o := .cells #[.int .i64 ((rd_T39 l1 x11_1).f0), .bool ((rd_T39 l1 x11_1).f1), .int .i64 ((rd_T39 l1 x11_1).f2), .int .i64 ((rd_T39 l1 x11_1).f3)] 39 (0, 0)) (by (with_reducible repeat (first | refine blk_drewN ?_ _ | refine blk_drew ?_ | refine blk_alloc ?_ _)); exact BK166.out) k_ hk, Kd.freshB (g := gb176) (o := .cells #[.int .i64 ((rd_T39 x9_1 ((rd_T39 l1 x11_1).f3)).f0), .bool ((rd_T39 x9_1 ((rd_T39 l1 x11_1).f3)).f1), .int .i64 ((rd_T39 x9_1 ((rd_T39 l1 x11_1).f3)).f2), .int .i64 ((rd_T39 x9_1 ((rd_T39 l1 x11_1).f3)).f3)] 39 (0, 0)) (by (with_reducible repeat (first | refine blk_drewN ?_ _ | refine blk_drew ?_ | refine blk_alloc ?_ _)); exact BK176.out) k_ hk⟩))
                                (case aO => exact (by (with_reducible repeat (first | apply Kd.R_alloc | apply Kd.R_drewN | apply Kd.R_drew)); exact HO186.out))
                                (case aS => exact (below_size (by repeat (first | (with_reducible first | exact HB.out | apply below_alloc | apply pw_below_drewN | apply below_drew1 | refine below_set ?_ GE163.out | refine below_set ?_ GE164.out | refine below_set ?_ GE166.out | refine below_set ?_ GE176.out) | exact HB.out))))
                                (case aL => have := LMc75.out; omega)
                                intro v192 w94 ho hb hg hat
                                rw [← Ny191.out] at ho
                                have n0_ := Aside0.mk (Kd.R_after (ok := (fun k_ => k_ ≠ gb166 ∧ k_ ≠ gb176)) (by (with_reducible repeat (first | apply Kd.R_alloc | apply Kd.R_drewN | apply Kd.R_drew)); exact HO_9.out) hg hat)
                                have n1_ := Aside0.mk (blk_grown (g := gb163) (o := .cells #[.int .i64 x164000_1, .int .i64 x164001_1, .int .i64 x164002_1] 23 (0, 0)) (by (with_reducible repeat (first | refine blk_drewN ?_ _ | refine blk_drew ?_ | refine blk_alloc ?_ _)); exact BK163.out) hg (Kd.R_ne HO186.out BK163.out (by decide)))
                                have n2_ := Aside0.mk (blk_grown (g := gb164) (o := .cells #[.int .i64 x165000_1, .int .i64 x165001_1, .int .i64 x165002_1] 23 (0, 0)) (by (with_reducible repeat (first | refine blk_drewN ?_ _ | refine blk_drew ?_ | refine blk_alloc ?_ _)); exact BK164.out) hg (Kd.R_ne HO186.out BK164.out (by decide)))
                                have n3_ := Aside0.mk (blk_grown (g := gb166) (o := .cells #[.int .i64 ((rd_T39 l1 x11_1).f0), .bool ((rd_T39 l1 x11_1).f1), .int .i64 ((rd_T39 l1 x11_1).f2), .int .i64 ((rd_T39 l1 x11_1).f3)] 39 (0, 0)) (by (with_reducible repeat (first | refine blk_drewN ?_ _ | refine blk_drew ?_ | refine blk_alloc ?_ _)); exact BK166.out) hg (Kd.R_away HO186.out (fun _ hk => hk.2.1)))
                                have n4_ := Aside0.mk (blk_grown (g := gb176) (o := .cells #[.int .i64 ((rd_T39 x9_1 ((rd_T39 l1 x11_1).f3)).f0), .bool ((rd_T39 x9_1 ((rd_T39 l1 x11_1).f3)).f1), .int .i64 ((rd_T39 x9_1 ((rd_T39 l1 x11_1).f3)).f2), .int .i64 ((rd_T39 x9_1 ((rd_T39 l1 x11_1).f3)).f3)] 39 (0, 0)) (by (with_reducible repeat (first | refine blk_drewN ?_ _ | refine blk_drew ?_ | refine blk_alloc ?_ _)); exact BK176.out) hg (Kd.R_away HO186.out (fun _ hk => hk.2.2)))
                                have n5_ := Aside0.mk (hb)
                                have n6_ := Aside0.mk ((show Kd.C k39 w94 (some ad175) y180.length y180 from by rw [Ny180.out]; exact Kd.C_take (m := (((rd_T39 l1 x11_1).f3) : Int).toNat) ((Kd.R_reads' (Kd.R_after (ok := (fun k_ => k_ ≠ gb166 ∧ k_ ≠ gb176)) (by (with_reducible repeat (first | apply Kd.R_alloc | apply Kd.R_drewN | apply Kd.R_drew)); exact HO_9.out) hg hat)).2.2) KL89.out))
                                have n7_ := Aside0.mk ((show Kd.C k39 w94 A90 y187.length y187 from by rw [Ny187.out, KA90.out]; exact Kd.C_drop (m := ((ji72) : Int).toNat) (c := co81) ((Kd.R_reads' (Kd.R_after (ok := (fun k_ => k_ ≠ gb166 ∧ k_ ≠ gb176)) (by (with_reducible repeat (first | apply Kd.R_alloc | apply Kd.R_drewN | apply Kd.R_drew)); exact HO_9.out) hg hat)).2.2) KL90.out ((Kd.R_reads' (Kd.R_after (ok := (fun k_ => k_ ≠ gb166 ∧ k_ ≠ gb176)) (by (with_reducible repeat (first | apply Kd.R_alloc | apply Kd.R_drewN | apply Kd.R_drew)); exact HO_9.out) hg hat)).2.1)))
                                have n8_ := Aside0.mk (ho)
                                clear HO_9
                                clear BK163
                                clear BK164
                                clear BK166
                                clear BK176
                                clear HB
                                clear HR183
                                clear HR190
                                clear HO186
                                have HO_9 := n0_
                                have BK163 := n1_
                                have BK164 := n2_
                                have BK166 := n3_
                                have BK176 := n4_
                                have HB := n5_
                                have HR183 := n6_
                                have HR190 := n7_
                                have HO193 := n8_
                                clear n0_ n1_ n2_ n3_ n4_ n5_ n6_ n7_ n8_
                                clear ho hb hg hat
                                refine hK.out _ _ ⟨(blk_cell BK166.out 0).trans rfl, (blk_cell BK166.out 1).trans rfl, (blk_cell BK166.out 2).trans rfl, (blk_cell BK166.out 3).trans rfl⟩ (fun hHeld => ?_)
                                clear hK K
                                refine norm_ (a' := ?_) ?_ ?_
                                rotate_left
                                · show Act.put _ (some 85) _ = _
                                  simp only [Act.put, List.setIfInBounds_toArray, List.set_cons_zero, List.set_cons_succ, i64_w, i32_w]
                                  rfl
                                refine pure_ (i := 12) (N := some 9) (v := ?_) (a' := ?_) #[true, true, true, true, true, true, true, true, true, true, true, true, true] rfl rfl (any_of HT_.out (by kernel_rfl)) (fun _ _ _ h => h) (Or.inl ⟨by rfl, ?_⟩) ?_ ?_
                                rotate_left
                                · intro w'
                                  go_simp
                                  with_reducible rfl
                                rotate_left
                                · simp only [Act.put, List.setIfInBounds_toArray, List.set_cons_zero, List.set_cons_succ, i64_w, i32_w]
                                  rfl
                                refine done_ (done_of HT_.out (by kernel_rfl)) ?_
                                have hnb95 := NB164_163.out
                                have hnc95 := NB163_164.out
                                have hcz96_0 : w94.cell? ⟨gb164, 0, none⟩ = some (.int .i64 x165000_1) := (blk_cell BK164.out 0).trans rfl
                                have hcz96_1 : w94.cell? ⟨gb164, 1, none⟩ = some (.int .i64 x165001_1) := (blk_cell BK164.out 1).trans rfl
                                have hcz96_2 : w94.cell? ⟨gb164, 2, none⟩ = some (.int .i64 x165002_1) := (blk_cell BK164.out 2).trans rfl
                                have hfz96_0 := blk_frozen BK164.out 0
                                have hfz96_1 := blk_frozen BK164.out 1
                                have hfz96_2 := blk_frozen BK164.out 2
                                have hcz97_0 : w94.cell? ⟨gb176, 0, none⟩ = some (.int .i64 ((rd_T39 x9_1 ((rd_T39 l1 x11_1).f3)).f0)) := (blk_cell BK176.out 0).trans rfl
                                have hcz97_1 : w94.cell? ⟨gb176, 1, none⟩ = some (.bool ((rd_T39 x9_1 ((rd_T39 l1 x11_1).f3)).f1)) := (blk_cell BK176.out 1).trans rfl
                                have hcz97_2 : w94.cell? ⟨gb176, 2, none⟩ = some (.int .i64 ((rd_T39 x9_1 ((rd_T39 l1 x11_1).f3)).f2)) := (blk_cell BK176.out 2).trans rfl
                                have hcz97_3 : w94.cell? ⟨gb176, 3, none⟩ = some (.int .i64 ((rd_T39 x9_1 ((rd_T39 l1 x11_1).f3)).f3)) := (blk_cell BK176.out 3).trans rfl
                                have hfz97_0 := blk_frozen BK176.out 0
                                have hfz97_1 := blk_frozen BK176.out 1
                                have hfz97_2 := blk_frozen BK176.out 2
                                have hfz97_3 := blk_frozen BK176.out 3
                                go_upto_if 97 with (first | ((with_reducible refine gate_callee (f := 18) rfl ?_); refine goesL_ (some 92) rfl rfl Try.func18 (by kernel_rfl) rfl #[.agg #[.int .i64 x165000_1, .int .i64 x165001_1, .int .i64 x165002_1], .bool ((rd_T39 x9_1 ((rd_T39 l1 x11_1).f3)).f1), .int .i64 ((rd_T39 x9_1 ((rd_T39 l1 x11_1).f3)).f2)] rfl (by (try simp only [List.map_toArray, List.map_cons, List.map_nil]); first | done | rfl | (simp only [List.length_drop, List.length_take]; rfl)) ?_; (with_reducible refine (pot_Undo.calls kj39 x165000_1 x165001_1 x165002_1 ((rd_T39 x9_1 ((rd_T39 l1 x11_1).f3)).f1) ((rd_T39 x9_1 ((rd_T39 l1 x11_1).f3)).f2) t194 t195 t196 t197 _ A76.out).mono ?_); rintro e w98 ⟨rfl, hb⟩; refine ⟨_, rfl, ?_⟩; have n0_ := Aside0.mk (Kd.R_below (by (with_reducible repeat (first | apply Kd.R_alloc | apply Kd.R_drewN | apply Kd.R_drew)); exact HO_9.out) hb); have n1_ := Aside0.mk (Kd.R_below (by (with_reducible repeat (first | apply Kd.R_alloc | apply Kd.R_drewN | apply Kd.R_drew)); exact HO193.out) hb); have n2_ := Aside0.mk (blk_below (g := gb163) (o := .cells #[.int .i64 x164000_1, .int .i64 x164001_1, .int .i64 x164002_1] 23 (0, 0)) (by (with_reducible repeat (first | refine blk_drewN ?_ _ | refine blk_drew ?_ | refine blk_alloc ?_ _)); exact BK163.out) hb); have n3_ := Aside0.mk (blk_below (g := gb164) (o := .cells #[.int .i64 x165000_1, .int .i64 x165001_1, .int .i64 x165002_1] 23 (0, 0)) (by (with_reducible repeat (first | refine blk_drewN ?_ _ | refine blk_drew ?_ | refine blk_alloc ?_ _)); exact BK164.out) hb); have n4_ := Aside0.mk (blk_below (g := gb166) (o := .cells #[.int .i64 ((rd_T39 l1 x11_1).f0), .bool ((rd_T39 l1 x11_1).f1), .int .i64 ((rd_T39 l1 x11_1).f2), .int .i64 ((rd_T39 l1 x11_1).f3)] 39 (0, 0)) (by (with_reducible repeat (first | refine blk_drewN ?_ _ | refine blk_drew ?_ | refine blk_alloc ?_ _)); exact BK166.out) hb); have n5_ := Aside0.mk (blk_below (g := gb176) (o := .cells #[.int .i64 ((rd_T39 x9_1 ((rd_T39 l1 x11_1).f3)).f0), .bool ((rd_T39 x9_1 ((rd_T39 l1 x11_1).f3)).f1), .int .i64 ((rd_T39 x9_1 ((rd_T39 l1 x11_1).f3)).f2), .int .i64 ((rd_T39 x9_1 ((rd_T39 l1 x11_1).f3)).f3)] 39 (0, 0)) (by (with_reducible repeat (first | refine blk_drewN ?_ _ | refine blk_drew ?_ | refine blk_alloc ?_ _)); exact BK176.out) hb); have n6_ := Aside0.mk (Kd.C_below (by repeat (first | (with_reducible exact HR183.out) | (with_reducible refine Kd.C_alloc ?_ _) | (with_reducible refine Kd.C_drewN ?_ _) | (with_reducible refine Kd.C_drew ?_) | exact HR183.out)) hb); have n7_ := Aside0.mk (Kd.C_below (by repeat (first | (with_reducible exact HR190.out) | (with_reducible refine Kd.C_alloc ?_ _) | (with_reducible refine Kd.C_drewN ?_ _) | (with_reducible refine Kd.C_drew ?_) | exact HR190.out)) hb); have n8_ := Aside0.mk (below_step (by repeat (first | (with_reducible first | exact HB.out | apply below_alloc | apply pw_below_drewN | apply below_drew1 | refine below_set ?_ GE163.out | refine below_set ?_ GE164.out | refine below_set ?_ GE166.out | refine below_set ?_ GE176.out) | exact HB.out)) hb); clear HO_9; clear HO193; clear BK163; clear BK164; clear BK166; clear BK176; clear HR183; clear HR190; clear HB; have HO_9 := n0_; have HO193 := n1_; have BK163 := n2_; have BK164 := n3_; have BK166 := n4_; have BK176 := n5_; have HR183 := n6_; have HR190 := n7_; have HB := n8_; clear n0_ n1_ n2_ n3_ n4_ n5_ n6_ n7_ n8_; (try clear hb); (try clear hb2); (try clear hk); (try clear hi)) | ((with_reducible refine gate_dst (N := 16) rfl ?_); (try (refine gate_guard (by rfl) ?_; dsimp only)); refine box_event ?hg (N := 16) ?hd (cs := #[.int .i64 0, .int .i64 0, .int .i64 0]) (t := 23) ?hr ?_; (case hd => rfl); (case hg => rfl); (case hr => first | (go_simp; done) | (go_simp; rfl)); intro gb198 hg w99 hbox hb; have n0_ := Aside0.mk (Kd.R_below (by (with_reducible repeat (first | apply Kd.R_alloc | apply Kd.R_drewN | apply Kd.R_drew)); exact HO_9.out) hb); have n1_ := Aside0.mk (Kd.R_below (by (with_reducible repeat (first | apply Kd.R_alloc | apply Kd.R_drewN | apply Kd.R_drew)); exact HO193.out) hb); have n2_ := Aside0.mk (blk_below (g := gb163) (o := .cells #[.int .i64 x164000_1, .int .i64 x164001_1, .int .i64 x164002_1] 23 (0, 0)) (by (with_reducible repeat (first | refine blk_drewN ?_ _ | refine blk_drew ?_ | refine blk_alloc ?_ _)); exact BK163.out) hb); have n3_ := Aside0.mk (blk_below (g := gb164) (o := .cells #[.int .i64 x165000_1, .int .i64 x165001_1, .int .i64 x165002_1] 23 (0, 0)) (by (with_reducible repeat (first | refine blk_drewN ?_ _ | refine blk_drew ?_ | refine blk_alloc ?_ _)); exact BK164.out) hb); have n4_ := Aside0.mk (blk_below (g := gb166) (o := .cells #[.int .i64 ((rd_T39 l1 x11_1).f0), .bool ((rd_T39 l1 x11_1).f1), .int .i64 ((rd_T39 l1 x11_1).f2), .int .i64 ((rd_T39 l1 x11_1).f3)] 39 (0, 0)) (by (with_reducible repeat (first | refine blk_drewN ?_ _ | refine blk_drew ?_ | refine blk_alloc ?_ _)); exact BK166.out) hb); have n5_ := Aside0.mk (blk_below (g := gb176) (o := .cells #[.int .i64 ((rd_T39 x9_1 ((rd_T39 l1 x11_1).f3)).f0), .bool ((rd_T39 x9_1 ((rd_T39 l1 x11_1).f3)).f1), .int .i64 ((rd_T39 x9_1 ((rd_T39 l1 x11_1).f3)).f2), .int .i64 ((rd_T39 x9_1 ((rd_T39 l1 x11_1).f3)).f3)] 39 (0, 0)) (by (with_reducible repeat (first | refine blk_drewN ?_ _ | refine blk_drew ?_ | refine blk_alloc ?_ _)); exact BK176.out) hb); have n6_ := Aside0.mk (Kd.C_below (by repeat (first | (with_reducible exact HR183.out) | (with_reducible refine Kd.C_alloc ?_ _) | (with_reducible refine Kd.C_drewN ?_ _) | (with_reducible refine Kd.C_drew ?_) | exact HR183.out)) hb); have n7_ := Aside0.mk (Kd.C_below (by repeat (first | (with_reducible exact HR190.out) | (with_reducible refine Kd.C_alloc ?_ _) | (with_reducible refine Kd.C_drewN ?_ _) | (with_reducible refine Kd.C_drew ?_) | exact HR190.out)) hb); have n8_ := Aside0.mk (below_step (by repeat (first | (with_reducible first | exact HB.out | apply below_alloc | apply pw_below_drewN | apply below_drew1 | refine below_set ?_ GE163.out | refine below_set ?_ GE164.out | refine below_set ?_ GE166.out | refine below_set ?_ GE176.out) | exact HB.out)) hb); have n9_ := Aside0.mk (hbox); have n10_ := Aside0.mk ((by rw [hg]; exact (below_size (by repeat (first | (with_reducible first | exact HB.out | apply below_alloc | apply pw_below_drewN | apply below_drew1 | refine below_set ?_ GE163.out | refine below_set ?_ GE164.out | refine below_set ?_ GE166.out | refine below_set ?_ GE176.out) | exact HB.out))) : w.heap.size ≤ gb198)); have n11_ := Aside0.mk ((by rw [hg]; exact (below_size (by repeat (first | (with_reducible first | exact HB.out | apply below_alloc | apply pw_below_drewN | apply below_drew1 | refine below_set ?_ GE163.out | refine below_set ?_ GE164.out | refine below_set ?_ GE166.out | refine below_set ?_ GE176.out) | exact HB.out))) : w.heap.size ≤ gb198)); have n12_ := Aside0.mk ((by rw [hg]; exact Nat.ne_of_lt (blk_lt (g := gb163) (o := .cells #[.int .i64 x164000_1, .int .i64 x164001_1, .int .i64 x164002_1] 23 (0, 0)) (by (with_reducible repeat (first | refine blk_drewN ?_ _ | refine blk_drew ?_ | refine blk_alloc ?_ _)); exact BK163.out)) : gb163 ≠ gb198)); have n13_ := Aside0.mk ((by rw [hg]; exact Nat.ne_of_gt (blk_lt (g := gb163) (o := .cells #[.int .i64 x164000_1, .int .i64 x164001_1, .int .i64 x164002_1] 23 (0, 0)) (by (with_reducible repeat (first | refine blk_drewN ?_ _ | refine blk_drew ?_ | refine blk_alloc ?_ _)); exact BK163.out)) : gb198 ≠ gb163)); have n14_ := Aside0.mk ((by rw [hg]; exact Nat.ne_of_lt (blk_lt (g := gb164) (o := .cells #[.int .i64 x165000_1, .int .i64 x165001_1, .int .i64 x165002_1] 23 (0, 0)) (by (with_reducible repeat (first | refine blk_drewN ?_ _ | refine blk_drew ?_ | refine blk_alloc ?_ _)); exact BK164.out)) : gb164 ≠ gb198)); have n15_ := Aside0.mk ((by rw [hg]; exact Nat.ne_of_gt (blk_lt (g := gb164) (o := .cells #[.int .i64 x165000_1, .int .i64 x165001_1, .int .i64 x165002_1] 23 (0, 0)) (by (with_reducible repeat (first | refine blk_drewN ?_ _ | refine blk_drew ?_ | refine blk_alloc ?_ _)); exact BK164.out)) : gb198 ≠ gb164)); have n16_ := Aside0.mk ((by rw [hg]; exact Nat.ne_of_lt (blk_lt (g := gb166) (o := .cells #[.int .i64 ((rd_T39 l1 x11_1).f0), .bool ((rd_T39 l1 x11_1).f1), .int .i64 ((rd_T39 l1 x11_1).f2), .int .i64 ((rd_T39 l1 x11_1).f3)] 39 (0, 0)) (by (with_reducible repeat (first | refine blk_drewN ?_ _ | refine blk_drew ?_ | refine blk_alloc ?_ _)); exact BK166.out)) : gb166 ≠ gb198)); have n17_ := Aside0.mk ((by rw [hg]; exact Nat.ne_of_gt (blk_lt (g := gb166) (o := .cells #[.int .i64 ((rd_T39 l1 x11_1).f0), .bool ((rd_T39 l1 x11_1).f1), .int .i64 ((rd_T39 l1 x11_1).f2), .int .i64 ((rd_T39 l1 x11_1).f3)] 39 (0, 0)) (by (with_reducible repeat (first | refine blk_drewN ?_ _ | refine blk_drew ?_ | refine blk_alloc ?_ _)); exact BK166.out)) : gb198 ≠ gb166)); have n18_ := Aside0.mk ((by rw [hg]; exact Nat.ne_of_lt (blk_lt (g := gb176) (o := .cells #[.int .i64 ((rd_T39 x9_1 ((rd_T39 l1 x11_1).f3)).f0), .bool ((rd_T39 x9_1 ((rd_T39 l1 x11_1).f3)).f1), .int .i64 ((rd_T39 x9_1 ((rd_T39 l1 x11_1).f3)).f2), .int .i64 ((rd_T39 x9_1 ((rd_T39 l1 x11_1).f3)).f3)] 39 (0, 0)) (by (with_reducible repeat (first | refine blk_drewN ?_ _ | refine blk_drew ?_ | refine blk_alloc ?_ _)); exact BK176.out)) : gb176 ≠ gb198)); have n19_ := Aside0.mk ((by rw [hg]; exact Nat.ne_of_gt (blk_lt (g := gb176) (o := .cells #[.int .i64 ((rd_T39 x9_1 ((rd_T39 l1 x11_1).f3)).f0), .bool ((rd_T39 x9_1 ((rd_T39 l1 x11_1).f3)).f1), .int .i64 ((rd_T39 x9_1 ((rd_T39 l1 x11_1).f3)).f2), .int .i64 ((rd_T39 x9_1 ((rd_T39 l1 x11_1).f3)).f3)] 39 (0, 0)) (by (with_reducible repeat (first | refine blk_drewN ?_ _ | refine blk_drew ?_ | refine blk_alloc ?_ _)); exact BK176.out)) : gb198 ≠ gb176)); clear HO_9; clear HO193; clear BK163; clear BK164; clear BK166; clear BK176; clear HR183; clear HR190; clear HB; have HO_9 := n0_; have HO193 := n1_; have BK163 := n2_; have BK164 := n3_; have BK166 := n4_; have BK176 := n5_; have HR183 := n6_; have HR190 := n7_; have HB := n8_; have BK198 := n9_; have GW198 := n10_; have GE198 := n11_; have NB163_198 := n12_; have NB198_163 := n13_; have NB164_198 := n14_; have NB198_164 := n15_; have NB166_198 := n16_; have NB198_166 := n17_; have NB176_198 := n18_; have NB198_176 := n19_; clear n0_ n1_ n2_ n3_ n4_ n5_ n6_ n7_ n8_ n9_ n10_ n11_ n12_ n13_ n14_ n15_ n16_ n17_ n18_ n19_; clear hb hbox hg; have hnb100 := NB198_163.out; have hnc100 := NB163_198.out; have hnb101 := NB198_164.out; have hnc101 := NB164_198.out; have hnb102 := NB198_166.out; have hnc102 := NB166_198.out; have hnb103 := NB198_176.out; have hnc103 := NB176_198.out; have hcz104_0 : w99.cell? ⟨gb198, 0, none⟩ = some (.int .i64 0) := (blk_cell BK198.out 0).trans rfl; have hcz104_1 : w99.cell? ⟨gb198, 1, none⟩ = some (.int .i64 0) := (blk_cell BK198.out 1).trans rfl; have hcz104_2 : w99.cell? ⟨gb198, 2, none⟩ = some (.int .i64 0) := (blk_cell BK198.out 2).trans rfl; have hfz104_0 := blk_frozen BK198.out 0; have hfz104_1 := blk_frozen BK198.out 1; have hfz104_2 := blk_frozen BK198.out 2; have hcz105_0 : w99.cell? ⟨gb166, 0, none⟩ = some (.int .i64 ((rd_T39 l1 x11_1).f0)) := (blk_cell BK166.out 0).trans rfl; have hcz105_1 : w99.cell? ⟨gb166, 1, none⟩ = some (.bool ((rd_T39 l1 x11_1).f1)) := (blk_cell BK166.out 1).trans rfl; have hcz105_2 : w99.cell? ⟨gb166, 2, none⟩ = some (.int .i64 ((rd_T39 l1 x11_1).f2)) := (blk_cell BK166.out 2).trans rfl; have hcz105_3 : w99.cell? ⟨gb166, 3, none⟩ = some (.int .i64 ((rd_T39 l1 x11_1).f3)) := (blk_cell BK166.out 3).trans rfl; have hfz105_0 := blk_frozen BK166.out 0; have hfz105_1 := blk_frozen BK166.out 1; have hfz105_2 := blk_frozen BK166.out 2; have hfz105_3 := blk_frozen BK166.out 3))
                                (try simp only [Act.put, List.setIfInBounds_toArray, List.set_cons_zero, List.set_cons_succ])
                                go_cut [10, 17] (fun v10 v17 wc => ∃ (kq : Nat) (x10_76 : Int) (x17_76 : Int) (x199000_76 : Int) (x199001_76 : Int) (x199002_76 : Int), v10 = .int .i64 x10_76 ∧ v17 = .int .i64 x17_76 ∧ Aside0 (ententelaw05_played.j2 kq l1 y191 x10_76 x11_1 x17_76 x165000_1 x165001_1 x165002_1 x199000_76 x199001_76 x199002_76 = some (r1, r2, r3, r4, r5, r6)) ∧ Aside0 (kq ≤ kj39) ∧ Aside0 (Kd.R k39 39 wc w.heap.size (fun k_ => k_ ≠ gb166 ∧ k_ ≠ gb176) v192 y191) ∧ Aside0 (wc.heap[gb163]? = some (.cells #[.int .i64 x164000_1, .int .i64 x164001_1, .int .i64 x164002_1] 23 (0, 0))) ∧ Aside0 (wc.heap[gb164]? = some (.cells #[.int .i64 x165000_1, .int .i64 x165001_1, .int .i64 x165002_1] 23 (0, 0))) ∧ Aside0 (wc.heap[gb166]? = some (.cells #[.int .i64 ((rd_T39 l1 x11_1).f0), .bool ((rd_T39 l1 x11_1).f1), .int .i64 ((rd_T39 l1 x11_1).f2), .int .i64 ((rd_T39 l1 x11_1).f3)] 39 (0, 0))) ∧ Aside0 (wc.heap[gb176]? = some (.cells #[.int .i64 ((rd_T39 x9_1 ((rd_T39 l1 x11_1).f3)).f0), .bool ((rd_T39 x9_1 ((rd_T39 l1 x11_1).f3)).f1), .int .i64 ((rd_T39 x9_1 ((rd_T39 l1 x11_1).f3)).f2), .int .i64 ((rd_T39 x9_1 ((rd_T39 l1 x11_1).f3)).f3)] 39 (0, 0))) ∧ Aside0 (wc.heap[gb198]? = some (.cells #[.int .i64 x199000_76, .int .i64 x199001_76, .int .i64 x199002_76] 23 (0, 0))) ∧ Aside0 (Below w.heap.size w wc))
                                case first =>
                                  have H := HC77.out
                                  clear HC77
                                  by_cases c106 : ((rd_T39 l1 x11_1).f0) = 2
                                  · rw [if_pos c106] at H
                                    have c106b0 : (((rd_T39 l1 x11_1).f0) == 2) = true := beq_iff_eq.mpr c106
                                    have c106b1 : (((rd_T39 l1 x11_1).f0) != 2) = false := bne_eq_false_iff_eq.mpr c106
                                    clear c106
                                    (first | rw [c106b0] | (simp only [i64_w, i32_w]; rw [c106b0]) | skip)
                                    replace H := Option.bind_eq_some_iff.mp H
                                    obtain ⟨⟨t199, t200, t201, t202⟩, A1070, H⟩ := H
                                    replace H : (if (rd_T39 x9_1 ((rd_T39 l1 x11_1).f3)).f1 = true then (ententelaw05_played.j2 kj39 l1 y191 (wrap64 (x10_1 - ((rd_T39 x9_1 ((rd_T39 l1 x11_1).f3)).f2))) x11_1 t202 x165000_1 x165001_1 x165002_1 t199 t200 t201) else (ententelaw05_played.j2 kj39 l1 y191 (wrap64 (x10_1 + ((rd_T39 x9_1 ((rd_T39 l1 x11_1).f3)).f2))) x11_1 t202 x165000_1 x165001_1 x165002_1 t199 t200 t201)) = some (r1, r2, r3, r4, r5, r6) := H
                                    have A107 := Aside0.mk A1070
                                    clear A1070
                                    obtain ⟨bq108, hbq108⟩ : ∃ b_ : Bool, b_ = ((rd_T39 x9_1 ((rd_T39 l1 x11_1).f3)).f1) := ⟨_, rfl⟩
                                    replace H : (if bq108 = true then (ententelaw05_played.j2 kj39 l1 y191 (wrap64 (x10_1 - ((rd_T39 x9_1 ((rd_T39 l1 x11_1).f3)).f2))) x11_1 t202 x165000_1 x165001_1 x165002_1 t199 t200 t201) else (ententelaw05_played.j2 kj39 l1 y191 (wrap64 (x10_1 + ((rd_T39 x9_1 ((rd_T39 l1 x11_1).f3)).f2))) x11_1 t202 x165000_1 x165001_1 x165002_1 t199 t200 t201)) = some (r1, r2, r3, r4, r5, r6) := by rw [← hbq108] at H; exact H
                                    have Nbq108 := Aside0.mk hbq108
                                    clear hbq108
                                    by_cases c109 : bq108 = true
                                    · subst c109
                                      have H1 : (ententelaw05_played.j2 kj39 l1 y191 (wrap64 (x10_1 - ((rd_T39 x9_1 ((rd_T39 l1 x11_1).f3)).f2))) x11_1 t202 x165000_1 x165001_1 x165002_1 t199 t200 t201) = some (r1, r2, r3, r4, r5, r6) := by rw [if_pos rfl] at H; exact H
                                      clear H
                                      have H := H1
                                      clear H1
                                      have H' := Aside0.mk H
                                      clear H
                                      have hnb110 := NB164_163.out
                                      have hnc110 := NB163_164.out
                                      have hnb111 := NB164_166.out
                                      have hnc111 := NB166_164.out
                                      have hnb112 := NB164_176.out
                                      have hnc112 := NB176_164.out
                                      have hnb113 := NB164_198.out
                                      have hnc113 := NB198_164.out
                                      have hcz114_0 : w99.cell? ⟨gb164, 0, none⟩ = some (.int .i64 x165000_1) := (blk_cell BK164.out 0).trans rfl
                                      have hcz114_1 : w99.cell? ⟨gb164, 1, none⟩ = some (.int .i64 x165001_1) := (blk_cell BK164.out 1).trans rfl
                                      have hcz114_2 : w99.cell? ⟨gb164, 2, none⟩ = some (.int .i64 x165002_1) := (blk_cell BK164.out 2).trans rfl
                                      have hfz114_0 := blk_frozen BK164.out 0
                                      have hfz114_1 := blk_frozen BK164.out 1
                                      have hfz114_2 := blk_frozen BK164.out 2
                                      have hnb115 := NB176_163.out
                                      have hnc115 := NB163_176.out
                                      have hnb116 := NB176_166.out
                                      have hnc116 := NB166_176.out
                                      have hnb117 := NB176_198.out
                                      have hnc117 := NB198_176.out
                                      have hcz118_0 : w99.cell? ⟨gb176, 0, none⟩ = some (.int .i64 ((rd_T39 x9_1 ((rd_T39 l1 x11_1).f3)).f0)) := (blk_cell BK176.out 0).trans rfl
                                      have hcz118_1 : w99.cell? ⟨gb176, 1, none⟩ = some (.bool true) := (blk_cell BK176.out 1).trans (by first | rfl | (rw [Nbq108.out]; rfl))
                                      have hcz118_2 : w99.cell? ⟨gb176, 2, none⟩ = some (.int .i64 ((rd_T39 x9_1 ((rd_T39 l1 x11_1).f3)).f2)) := (blk_cell BK176.out 2).trans rfl
                                      have hcz118_3 : w99.cell? ⟨gb176, 3, none⟩ = some (.int .i64 ((rd_T39 x9_1 ((rd_T39 l1 x11_1).f3)).f3)) := (blk_cell BK176.out 3).trans rfl
                                      have hfz118_0 := blk_frozen BK176.out 0
                                      have hfz118_1 := blk_frozen BK176.out 1
                                      have hfz118_2 := blk_frozen BK176.out 2
                                      have hfz118_3 := blk_frozen BK176.out 3
                                      go_wp2_with (first | ((with_reducible refine gate_callee (f := 20) rfl ?_); refine goesL_ (some 104) rfl rfl Try.func20 (by kernel_rfl) rfl #[.agg #[.int .i64 x165000_1, .int .i64 x165001_1, .int .i64 x165002_1], .bool true, .int .i64 ((rd_T39 x9_1 ((rd_T39 l1 x11_1).f3)).f2)] rfl (by (try simp only [List.map_toArray, List.map_cons, List.map_nil]); first | done | rfl | (simp only [List.length_drop, List.length_take]; rfl)) ?_; (with_reducible refine (pot_Keep.calls kj39 x165000_1 x165001_1 x165002_1 true ((rd_T39 x9_1 ((rd_T39 l1 x11_1).f3)).f2) t199 t200 t201 t202 _ (by first | exact A107.out | (rw [Nbq108.out]; exact A107.out))).mono ?_); rintro e w119 ⟨rfl, hb⟩; refine ⟨_, rfl, ?_⟩; have n0_ := Aside0.mk (Kd.R_below (by (with_reducible repeat (first | apply Kd.R_alloc | apply Kd.R_drewN | apply Kd.R_drew)); exact (Kd.R_mono (Kd.R_far (p := ⟨gb198, 2, none⟩) (Kd.R_far (p := ⟨gb198, 1, none⟩) (Kd.R_far (p := ⟨gb198, 0, none⟩) (Kd.R_types HO_9.out BK198.out (by decide)) (fun _ hk => hk.2) (.int .i64 t194)) (fun _ hk => hk.2) (.int .i64 t195)) (fun _ hk => hk.2) (.int .i64 t196)) (fun _ h_ => h_.1))) hb); have n1_ := Aside0.mk (Kd.R_below (by (with_reducible repeat (first | apply Kd.R_alloc | apply Kd.R_drewN | apply Kd.R_drew)); exact (Kd.R_mono (Kd.R_far (p := ⟨gb198, 2, none⟩) (Kd.R_far (p := ⟨gb198, 1, none⟩) (Kd.R_far (p := ⟨gb198, 0, none⟩) (Kd.R_types HO193.out BK198.out (by decide)) (fun _ hk => hk.2) (.int .i64 t194)) (fun _ hk => hk.2) (.int .i64 t195)) (fun _ hk => hk.2) (.int .i64 t196)) (fun _ h_ => h_.1))) hb); have n2_ := Aside0.mk (blk_below (g := gb163) (o := .cells #[.int .i64 x164000_1, .int .i64 x164001_1, .int .i64 x164002_1] 23 (0, 0)) (by (with_reducible repeat (first | refine blk_drewN ?_ _ | refine blk_drew ?_ | refine blk_alloc ?_ _)); refine blk_far ?_ NB163_198.out _; (with_reducible repeat (first | refine blk_drewN ?_ _ | refine blk_drew ?_ | refine blk_alloc ?_ _)); refine blk_far ?_ NB163_198.out _; (with_reducible repeat (first | refine blk_drewN ?_ _ | refine blk_drew ?_ | refine blk_alloc ?_ _)); refine blk_far ?_ NB163_198.out _; (with_reducible repeat (first | refine blk_drewN ?_ _ | refine blk_drew ?_ | refine blk_alloc ?_ _)); exact BK163.out) hb); have n3_ := Aside0.mk (blk_below (g := gb164) (o := .cells #[.int .i64 x165000_1, .int .i64 x165001_1, .int .i64 x165002_1] 23 (0, 0)) (by (with_reducible repeat (first | refine blk_drewN ?_ _ | refine blk_drew ?_ | refine blk_alloc ?_ _)); refine blk_far ?_ NB164_198.out _; (with_reducible repeat (first | refine blk_drewN ?_ _ | refine blk_drew ?_ | refine blk_alloc ?_ _)); refine blk_far ?_ NB164_198.out _; (with_reducible repeat (first | refine blk_drewN ?_ _ | refine blk_drew ?_ | refine blk_alloc ?_ _)); refine blk_far ?_ NB164_198.out _; (with_reducible repeat (first | refine blk_drewN ?_ _ | refine blk_drew ?_ | refine blk_alloc ?_ _)); exact BK164.out) hb); have n4_ := Aside0.mk (blk_below (g := gb166) (o := .cells #[.int .i64 ((rd_T39 l1 x11_1).f0), .bool ((rd_T39 l1 x11_1).f1), .int .i64 ((rd_T39 l1 x11_1).f2), .int .i64 ((rd_T39 l1 x11_1).f3)] 39 (0, 0)) (by (with_reducible repeat (first | refine blk_drewN ?_ _ | refine blk_drew ?_ | refine blk_alloc ?_ _)); refine blk_far ?_ NB166_198.out _; (with_reducible repeat (first | refine blk_drewN ?_ _ | refine blk_drew ?_ | refine blk_alloc ?_ _)); refine blk_far ?_ NB166_198.out _; (with_reducible repeat (first | refine blk_drewN ?_ _ | refine blk_drew ?_ | refine blk_alloc ?_ _)); refine blk_far ?_ NB166_198.out _; (with_reducible repeat (first | refine blk_drewN ?_ _ | refine blk_drew ?_ | refine blk_alloc ?_ _)); exact BK166.out) hb); have n5_ := Aside0.mk (blk_below (g := gb176) (o := .cells #[.int .i64 ((rd_T39 x9_1 ((rd_T39 l1 x11_1).f3)).f0), .bool true, .int .i64 ((rd_T39 x9_1 ((rd_T39 l1 x11_1).f3)).f2), .int .i64 ((rd_T39 x9_1 ((rd_T39 l1 x11_1).f3)).f3)] 39 (0, 0)) (by (with_reducible repeat (first | refine blk_drewN ?_ _ | refine blk_drew ?_ | refine blk_alloc ?_ _)); refine blk_far ?_ NB176_198.out _; (with_reducible repeat (first | refine blk_drewN ?_ _ | refine blk_drew ?_ | refine blk_alloc ?_ _)); refine blk_far ?_ NB176_198.out _; (with_reducible repeat (first | refine blk_drewN ?_ _ | refine blk_drew ?_ | refine blk_alloc ?_ _)); refine blk_far ?_ NB176_198.out _; (with_reducible repeat (first | refine blk_drewN ?_ _ | refine blk_drew ?_ | refine blk_alloc ?_ _)); (first | exact BK176.out | (rw [Nbq108.out]; exact BK176.out))) hb); have n6_ := Aside0.mk (blk_below (g := gb198) (o := .cells #[.int .i64 t194, .int .i64 t195, .int .i64 t196] 23 (0, 0)) (by (with_reducible repeat (first | refine blk_drewN ?_ _ | refine blk_drew ?_ | refine blk_alloc ?_ _)); refine blk_put (cs := #[.int .i64 t194, .int .i64 t195, .int .i64 0]) ?_ 2 _ rfl; (with_reducible repeat (first | refine blk_drewN ?_ _ | refine blk_drew ?_ | refine blk_alloc ?_ _)); refine blk_put (cs := #[.int .i64 t194, .int .i64 0, .int .i64 0]) ?_ 1 _ rfl; (with_reducible repeat (first | refine blk_drewN ?_ _ | refine blk_drew ?_ | refine blk_alloc ?_ _)); refine blk_put (cs := #[.int .i64 0, .int .i64 0, .int .i64 0]) ?_ 0 _ rfl; (with_reducible repeat (first | refine blk_drewN ?_ _ | refine blk_drew ?_ | refine blk_alloc ?_ _)); exact BK198.out) hb); have n7_ := Aside0.mk (below_step (by repeat (first | (with_reducible first | exact HB.out | apply below_alloc | apply pw_below_drewN | apply below_drew1 | refine below_set ?_ GE163.out | refine below_set ?_ GE164.out | refine below_set ?_ GE166.out | refine below_set ?_ GE176.out | refine below_set ?_ GE198.out) | exact HB.out)) hb); clear HO_9; clear HO193; clear BK163; clear BK164; clear BK166; clear BK176; clear BK198; clear HB; have HO_9 := n0_; have HO193 := n1_; have BK163 := n2_; have BK164 := n3_; have BK166 := n4_; have BK176 := n5_; have BK198 := n6_; have HB := n7_; clear n0_ n1_ n2_ n3_ n4_ n5_ n6_ n7_; (try clear hb); (try clear hb2); (try clear hk); (try clear hi); have hnb120 := NB198_163.out; have hnc120 := NB163_198.out; have hnb121 := NB198_166.out; have hnc121 := NB166_198.out; have hcz122_0 : w119.cell? ⟨gb198, 0, none⟩ = some (.int .i64 t194) := (blk_cell BK198.out 0).trans rfl; have hcz122_1 : w119.cell? ⟨gb198, 1, none⟩ = some (.int .i64 t195) := (blk_cell BK198.out 1).trans rfl; have hcz122_2 : w119.cell? ⟨gb198, 2, none⟩ = some (.int .i64 t196) := (blk_cell BK198.out 2).trans rfl; have hfz122_0 := blk_frozen BK198.out 0; have hfz122_1 := blk_frozen BK198.out 1; have hfz122_2 := blk_frozen BK198.out 2; have hcz123_0 : w119.cell? ⟨gb176, 0, none⟩ = some (.int .i64 ((rd_T39 x9_1 ((rd_T39 l1 x11_1).f3)).f0)) := (blk_cell BK176.out 0).trans rfl; have hcz123_1 : w119.cell? ⟨gb176, 1, none⟩ = some (.bool true) := (blk_cell BK176.out 1).trans (by first | rfl | (rw [Nbq108.out]; rfl)); have hcz123_2 : w119.cell? ⟨gb176, 2, none⟩ = some (.int .i64 ((rd_T39 x9_1 ((rd_T39 l1 x11_1).f3)).f2)) := (blk_cell BK176.out 2).trans rfl; have hcz123_3 : w119.cell? ⟨gb176, 3, none⟩ = some (.int .i64 ((rd_T39 x9_1 ((rd_T39 l1 x11_1).f3)).f3)) := (blk_cell BK176.out 3).trans rfl; have hfz123_0 := blk_frozen BK176.out 0; have hfz123_1 := blk_frozen BK176.out 1; have hfz123_2 := blk_frozen BK176.out 2; have hfz123_3 := blk_frozen BK176.out 3))
                                      go_meet
                                      case rel => exact ⟨_, (wrap64 (x10_1 - ((rd_T39 x9_1 ((rd_T39 l1 x11_1).f3)).f2))), (t202), (t199), (t200), (t201), (by first | rfl | (simp; done) | (simp [*]; done)), (by first | rfl | (simp; done) | (simp [*]; done)), H', ⟨by have := HK1.out; have := HJ39.out; first | omega | exact Nat.le_refl _⟩, ⟨by (with_reducible repeat (first | apply Kd.R_alloc | apply Kd.R_drewN | apply Kd.R_drew)); exact Kd.R_mono (Kd.R_far (p := ⟨gb198, 2, none⟩) (Kd.R_far (p := ⟨gb198, 1, none⟩) (Kd.R_far (p := ⟨gb198, 0, none⟩) (Kd.R_types HO193.out BK198.out (by decide)) (fun _ hk => hk.2) (.int .i64 t199)) (fun _ hk => hk.2) (.int .i64 t200)) (fun _ hk => hk.2) (.int .i64 t201)) (fun _ hk => ⟨hk.1.2.1, hk.1.2.2⟩)⟩, ⟨by (with_reducible repeat (first | refine blk_drewN ?_ _ | refine blk_drew ?_ | refine blk_alloc ?_ _)); refine blk_far ?_ NB163_198.out _; (with_reducible repeat (first | refine blk_drewN ?_ _ | refine blk_drew ?_ | refine blk_alloc ?_ _)); refine blk_far ?_ NB163_198.out _; (with_reducible repeat (first | refine blk_drewN ?_ _ | refine blk_drew ?_ | refine blk_alloc ?_ _)); refine blk_far ?_ NB163_198.out _; (with_reducible repeat (first | refine blk_drewN ?_ _ | refine blk_drew ?_ | refine blk_alloc ?_ _)); (first | exact BK163.out | (rw [← Nbq108.out]; exact BK163.out))⟩, ⟨by (with_reducible repeat (first | refine blk_drewN ?_ _ | refine blk_drew ?_ | refine blk_alloc ?_ _)); refine blk_far ?_ NB164_198.out _; (with_reducible repeat (first | refine blk_drewN ?_ _ | refine blk_drew ?_ | refine blk_alloc ?_ _)); refine blk_far ?_ NB164_198.out _; (with_reducible repeat (first | refine blk_drewN ?_ _ | refine blk_drew ?_ | refine blk_alloc ?_ _)); refine blk_far ?_ NB164_198.out _; (with_reducible repeat (first | refine blk_drewN ?_ _ | refine blk_drew ?_ | refine blk_alloc ?_ _)); (first | exact BK164.out | (rw [← Nbq108.out]; exact BK164.out))⟩, ⟨by (with_reducible repeat (first | refine blk_drewN ?_ _ | refine blk_drew ?_ | refine blk_alloc ?_ _)); refine blk_far ?_ NB166_198.out _; (with_reducible repeat (first | refine blk_drewN ?_ _ | refine blk_drew ?_ | refine blk_alloc ?_ _)); refine blk_far ?_ NB166_198.out _; (with_reducible repeat (first | refine blk_drewN ?_ _ | refine blk_drew ?_ | refine blk_alloc ?_ _)); refine blk_far ?_ NB166_198.out _; (with_reducible repeat (first | refine blk_drewN ?_ _ | refine blk_drew ?_ | refine blk_alloc ?_ _)); (first | exact BK166.out | (rw [← Nbq108.out]; exact BK166.out))⟩, ⟨by (with_reducible repeat (first | refine blk_drewN ?_ _ | refine blk_drew ?_ | refine blk_alloc ?_ _)); refine blk_far ?_ NB176_198.out _; (with_reducible repeat (first | refine blk_drewN ?_ _ | refine blk_drew ?_ | refine blk_alloc ?_ _)); refine blk_far ?_ NB176_198.out _; (with_reducible repeat (first | refine blk_drewN ?_ _ | refine blk_drew ?_ | refine blk_alloc ?_ _)); refine blk_far ?_ NB176_198.out _; (with_reducible repeat (first | refine blk_drewN ?_ _ | refine blk_drew ?_ | refine blk_alloc ?_ _)); (first | exact BK176.out | (rw [← Nbq108.out]; exact BK176.out))⟩, ⟨by (with_reducible repeat (first | refine blk_drewN ?_ _ | refine blk_drew ?_ | refine blk_alloc ?_ _)); refine blk_put (cs := #[.int .i64 t199, .int .i64 t200, .int .i64 t196]) ?_ 2 _ rfl; (with_reducible repeat (first | refine blk_drewN ?_ _ | refine blk_drew ?_ | refine blk_alloc ?_ _)); refine blk_put (cs := #[.int .i64 t199, .int .i64 t195, .int .i64 t196]) ?_ 1 _ rfl; (with_reducible repeat (first | refine blk_drewN ?_ _ | refine blk_drew ?_ | refine blk_alloc ?_ _)); refine blk_put (cs := #[.int .i64 t194, .int .i64 t195, .int .i64 t196]) ?_ 0 _ rfl; (with_reducible repeat (first | refine blk_drewN ?_ _ | refine blk_drew ?_ | refine blk_alloc ?_ _)); (first | exact BK198.out | (rw [← Nbq108.out]; exact BK198.out))⟩, ⟨by repeat (first | (with_reducible first | exact HB.out | apply below_alloc | apply pw_below_drewN | apply below_drew1 | refine below_set ?_ GE163.out | refine below_set ?_ GE164.out | refine below_set ?_ GE166.out | refine below_set ?_ GE176.out | refine below_set ?_ GE198.out) | exact HB.out)⟩⟩
                                    · replace c109 := Bool.eq_false_iff.mpr c109
                                      subst c109
                                      have H1 : (ententelaw05_played.j2 kj39 l1 y191 (wrap64 (x10_1 + ((rd_T39 x9_1 ((rd_T39 l1 x11_1).f3)).f2))) x11_1 t202 x165000_1 x165001_1 x165002_1 t199 t200 t201) = some (r1, r2, r3, r4, r5, r6) := by rw [if_neg (show ¬ (false = true) by decide)] at H; exact H
                                      clear H
                                      have H := H1
                                      clear H1
                                      have H' := Aside0.mk H
                                      clear H
                                      have hnb124 := NB164_163.out
                                      have hnc124 := NB163_164.out
                                      have hnb125 := NB164_166.out
                                      have hnc125 := NB166_164.out
                                      have hnb126 := NB164_176.out
                                      have hnc126 := NB176_164.out
                                      have hnb127 := NB164_198.out
                                      have hnc127 := NB198_164.out
                                      have hcz128_0 : w99.cell? ⟨gb164, 0, none⟩ = some (.int .i64 x165000_1) := (blk_cell BK164.out 0).trans rfl
                                      have hcz128_1 : w99.cell? ⟨gb164, 1, none⟩ = some (.int .i64 x165001_1) := (blk_cell BK164.out 1).trans rfl
                                      have hcz128_2 : w99.cell? ⟨gb164, 2, none⟩ = some (.int .i64 x165002_1) := (blk_cell BK164.out 2).trans rfl
                                      have hfz128_0 := blk_frozen BK164.out 0
                                      have hfz128_1 := blk_frozen BK164.out 1
                                      have hfz128_2 := blk_frozen BK164.out 2
                                      have hnb129 := NB176_163.out
                                      have hnc129 := NB163_176.out
                                      have hnb130 := NB176_166.out
                                      have hnc130 := NB166_176.out
                                      have hnb131 := NB176_198.out
                                      have hnc131 := NB198_176.out
                                      have hcz132_0 : w99.cell? ⟨gb176, 0, none⟩ = some (.int .i64 ((rd_T39 x9_1 ((rd_T39 l1 x11_1).f3)).f0)) := (blk_cell BK176.out 0).trans rfl
                                      have hcz132_1 : w99.cell? ⟨gb176, 1, none⟩ = some (.bool false) := (blk_cell BK176.out 1).trans (by first | rfl | (rw [Nbq108.out]; rfl))
                                      have hcz132_2 : w99.cell? ⟨gb176, 2, none⟩ = some (.int .i64 ((rd_T39 x9_1 ((rd_T39 l1 x11_1).f3)).f2)) := (blk_cell BK176.out 2).trans rfl
                                      have hcz132_3 : w99.cell? ⟨gb176, 3, none⟩ = some (.int .i64 ((rd_T39 x9_1 ((rd_T39 l1 x11_1).f3)).f3)) := (blk_cell BK176.out 3).trans rfl
                                      have hfz132_0 := blk_frozen BK176.out 0
                                      have hfz132_1 := blk_frozen BK176.out 1
                                      have hfz132_2 := blk_frozen BK176.out 2
                                      have hfz132_3 := blk_frozen BK176.out 3
                                      go_wp2_with (first | ((with_reducible refine gate_callee (f := 20) rfl ?_); refine goesL_ (some 104) rfl rfl Try.func20 (by kernel_rfl) rfl #[.agg #[.int .i64 x165000_1, .int .i64 x165001_1, .int .i64 x165002_1], .bool false, .int .i64 ((rd_T39 x9_1 ((rd_T39 l1 x11_1).f3)).f2)] rfl (by (try simp only [List.map_toArray, List.map_cons, List.map_nil]); first | done | rfl | (simp only [List.length_drop, List.length_take]; rfl)) ?_; (with_reducible refine (pot_Keep.calls kj39 x165000_1 x165001_1 x165002_1 false ((rd_T39 x9_1 ((rd_T39 l1 x11_1).f3)).f2) t199 t200 t201 t202 _ (by first | exact A107.out | (rw [Nbq108.out]; exact A107.out))).mono ?_); rintro e w133 ⟨rfl, hb⟩; refine ⟨_, rfl, ?_⟩; have n0_ := Aside0.mk (Kd.R_below (by (with_reducible repeat (first | apply Kd.R_alloc | apply Kd.R_drewN | apply Kd.R_drew)); exact (Kd.R_mono (Kd.R_far (p := ⟨gb198, 2, none⟩) (Kd.R_far (p := ⟨gb198, 1, none⟩) (Kd.R_far (p := ⟨gb198, 0, none⟩) (Kd.R_types HO_9.out BK198.out (by decide)) (fun _ hk => hk.2) (.int .i64 t194)) (fun _ hk => hk.2) (.int .i64 t195)) (fun _ hk => hk.2) (.int .i64 t196)) (fun _ h_ => h_.1))) hb); have n1_ := Aside0.mk (Kd.R_below (by (with_reducible repeat (first | apply Kd.R_alloc | apply Kd.R_drewN | apply Kd.R_drew)); exact (Kd.R_mono (Kd.R_far (p := ⟨gb198, 2, none⟩) (Kd.R_far (p := ⟨gb198, 1, none⟩) (Kd.R_far (p := ⟨gb198, 0, none⟩) (Kd.R_types HO193.out BK198.out (by decide)) (fun _ hk => hk.2) (.int .i64 t194)) (fun _ hk => hk.2) (.int .i64 t195)) (fun _ hk => hk.2) (.int .i64 t196)) (fun _ h_ => h_.1))) hb); have n2_ := Aside0.mk (blk_below (g := gb163) (o := .cells #[.int .i64 x164000_1, .int .i64 x164001_1, .int .i64 x164002_1] 23 (0, 0)) (by (with_reducible repeat (first | refine blk_drewN ?_ _ | refine blk_drew ?_ | refine blk_alloc ?_ _)); refine blk_far ?_ NB163_198.out _; (with_reducible repeat (first | refine blk_drewN ?_ _ | refine blk_drew ?_ | refine blk_alloc ?_ _)); refine blk_far ?_ NB163_198.out _; (with_reducible repeat (first | refine blk_drewN ?_ _ | refine blk_drew ?_ | refine blk_alloc ?_ _)); refine blk_far ?_ NB163_198.out _; (with_reducible repeat (first | refine blk_drewN ?_ _ | refine blk_drew ?_ | refine blk_alloc ?_ _)); exact BK163.out) hb); have n3_ := Aside0.mk (blk_below (g := gb164) (o := .cells #[.int .i64 x165000_1, .int .i64 x165001_1, .int .i64 x165002_1] 23 (0, 0)) (by (with_reducible repeat (first | refine blk_drewN ?_ _ | refine blk_drew ?_ | refine blk_alloc ?_ _)); refine blk_far ?_ NB164_198.out _; (with_reducible repeat (first | refine blk_drewN ?_ _ | refine blk_drew ?_ | refine blk_alloc ?_ _)); refine blk_far ?_ NB164_198.out _; (with_reducible repeat (first | refine blk_drewN ?_ _ | refine blk_drew ?_ | refine blk_alloc ?_ _)); refine blk_far ?_ NB164_198.out _; (with_reducible repeat (first | refine blk_drewN ?_ _ | refine blk_drew ?_ | refine blk_alloc ?_ _)); exact BK164.out) hb); have n4_ := Aside0.mk (blk_below (g := gb166) (o := .cells #[.int .i64 ((rd_T39 l1 x11_1).f0), .bool ((rd_T39 l1 x11_1).f1), .int .i64 ((rd_T39 l1 x11_1).f2), .int .i64 ((rd_T39 l1 x11_1).f3)] 39 (0, 0)) (by (with_reducible repeat (first | refine blk_drewN ?_ _ | refine blk_drew ?_ | refine blk_alloc ?_ _)); refine blk_far ?_ NB166_198.out _; (with_reducible repeat (first | refine blk_drewN ?_ _ | refine blk_drew ?_ | refine blk_alloc ?_ _)); refine blk_far ?_ NB166_198.out _; (with_reducible repeat (first | refine blk_drewN ?_ _ | refine blk_drew ?_ | refine blk_alloc ?_ _)); refine blk_far ?_ NB166_198.out _; (with_reducible repeat (first | refine blk_drewN ?_ _ | refine blk_drew ?_ | refine blk_alloc ?_ _)); exact BK166.out) hb); have n5_ := Aside0.mk (blk_below (g := gb176) (o := .cells #[.int .i64 ((rd_T39 x9_1 ((rd_T39 l1 x11_1).f3)).f0), .bool false, .int .i64 ((rd_T39 x9_1 ((rd_T39 l1 x11_1).f3)).f2), .int .i64 ((rd_T39 x9_1 ((rd_T39 l1 x11_1).f3)).f3)] 39 (0, 0)) (by (with_reducible repeat (first | refine blk_drewN ?_ _ | refine blk_drew ?_ | refine blk_alloc ?_ _)); refine blk_far ?_ NB176_198.out _; (with_reducible repeat (first | refine blk_drewN ?_ _ | refine blk_drew ?_ | refine blk_alloc ?_ _)); refine blk_far ?_ NB176_198.out _; (with_reducible repeat (first | refine blk_drewN ?_ _ | refine blk_drew ?_ | refine blk_alloc ?_ _)); refine blk_far ?_ NB176_198.out _; (with_reducible repeat (first | refine blk_drewN ?_ _ | refine blk_drew ?_ | refine blk_alloc ?_ _)); (first | exact BK176.out | (rw [Nbq108.out]; exact BK176.out))) hb); have n6_ := Aside0.mk (blk_below (g := gb198) (o := .cells #[.int .i64 t194, .int .i64 t195, .int .i64 t196] 23 (0, 0)) (by (with_reducible repeat (first | refine blk_drewN ?_ _ | refine blk_drew ?_ | refine blk_alloc ?_ _)); refine blk_put (cs := #[.int .i64 t194, .int .i64 t195, .int .i64 0]) ?_ 2 _ rfl; (with_reducible repeat (first | refine blk_drewN ?_ _ | refine blk_drew ?_ | refine blk_alloc ?_ _)); refine blk_put (cs := #[.int .i64 t194, .int .i64 0, .int .i64 0]) ?_ 1 _ rfl; (with_reducible repeat (first | refine blk_drewN ?_ _ | refine blk_drew ?_ | refine blk_alloc ?_ _)); refine blk_put (cs := #[.int .i64 0, .int .i64 0, .int .i64 0]) ?_ 0 _ rfl; (with_reducible repeat (first | refine blk_drewN ?_ _ | refine blk_drew ?_ | refine blk_alloc ?_ _)); exact BK198.out) hb); have n7_ := Aside0.mk (below_step (by repeat (first | (with_reducible first | exact HB.out | apply below_alloc | apply pw_below_drewN | apply below_drew1 | refine below_set ?_ GE163.out | refine below_set ?_ GE164.out | refine below_set ?_ GE166.out | refine below_set ?_ GE176.out | refine below_set ?_ GE198.out) | exact HB.out)) hb); clear HO_9; clear HO193; clear BK163; clear BK164; clear BK166; clear BK176; clear BK198; clear HB; have HO_9 := n0_; have HO193 := n1_; have BK163 := n2_; have BK164 := n3_; have BK166 := n4_; have BK176 := n5_; have BK198 := n6_; have HB := n7_; clear n0_ n1_ n2_ n3_ n4_ n5_ n6_ n7_; (try clear hb); (try clear hb2); (try clear hk); (try clear hi); have hnb134 := NB198_163.out; have hnc134 := NB163_198.out; have hnb135 := NB198_166.out; have hnc135 := NB166_198.out; have hcz136_0 : w133.cell? ⟨gb198, 0, none⟩ = some (.int .i64 t194) := (blk_cell BK198.out 0).trans rfl; have hcz136_1 : w133.cell? ⟨gb198, 1, none⟩ = some (.int .i64 t195) := (blk_cell BK198.out 1).trans rfl; have hcz136_2 : w133.cell? ⟨gb198, 2, none⟩ = some (.int .i64 t196) := (blk_cell BK198.out 2).trans rfl; have hfz136_0 := blk_frozen BK198.out 0; have hfz136_1 := blk_frozen BK198.out 1; have hfz136_2 := blk_frozen BK198.out 2; have hcz137_0 : w133.cell? ⟨gb176, 0, none⟩ = some (.int .i64 ((rd_T39 x9_1 ((rd_T39 l1 x11_1).f3)).f0)) := (blk_cell BK176.out 0).trans rfl; have hcz137_1 : w133.cell? ⟨gb176, 1, none⟩ = some (.bool false) := (blk_cell BK176.out 1).trans (by first | rfl | (rw [Nbq108.out]; rfl)); have hcz137_2 : w133.cell? ⟨gb176, 2, none⟩ = some (.int .i64 ((rd_T39 x9_1 ((rd_T39 l1 x11_1).f3)).f2)) := (blk_cell BK176.out 2).trans rfl; have hcz137_3 : w133.cell? ⟨gb176, 3, none⟩ = some (.int .i64 ((rd_T39 x9_1 ((rd_T39 l1 x11_1).f3)).f3)) := (blk_cell BK176.out 3).trans rfl; have hfz137_0 := blk_frozen BK176.out 0; have hfz137_1 := blk_frozen BK176.out 1; have hfz137_2 := blk_frozen BK176.out 2; have hfz137_3 := blk_frozen BK176.out 3))
                                      go_meet
                                      case rel => exact ⟨_, (wrap64 (x10_1 + ((rd_T39 x9_1 ((rd_T39 l1 x11_1).f3)).f2))), (t202), (t199), (t200), (t201), (by first | rfl | (simp; done) | (simp [*]; done)), (by first | rfl | (simp; done) | (simp [*]; done)), H', ⟨by have := HK1.out; have := HJ39.out; first | omega | exact Nat.le_refl _⟩, ⟨by (with_reducible repeat (first | apply Kd.R_alloc | apply Kd.R_drewN | apply Kd.R_drew)); exact Kd.R_mono (Kd.R_far (p := ⟨gb198, 2, none⟩) (Kd.R_far (p := ⟨gb198, 1, none⟩) (Kd.R_far (p := ⟨gb198, 0, none⟩) (Kd.R_types HO193.out BK198.out (by decide)) (fun _ hk => hk.2) (.int .i64 t199)) (fun _ hk => hk.2) (.int .i64 t200)) (fun _ hk => hk.2) (.int .i64 t201)) (fun _ hk => ⟨hk.1.2.1, hk.1.2.2⟩)⟩, ⟨by (with_reducible repeat (first | refine blk_drewN ?_ _ | refine blk_drew ?_ | refine blk_alloc ?_ _)); refine blk_far ?_ NB163_198.out _; (with_reducible repeat (first | refine blk_drewN ?_ _ | refine blk_drew ?_ | refine blk_alloc ?_ _)); refine blk_far ?_ NB163_198.out _; (with_reducible repeat (first | refine blk_drewN ?_ _ | refine blk_drew ?_ | refine blk_alloc ?_ _)); refine blk_far ?_ NB163_198.out _; (with_reducible repeat (first | refine blk_drewN ?_ _ | refine blk_drew ?_ | refine blk_alloc ?_ _)); (first | exact BK163.out | (rw [← Nbq108.out]; exact BK163.out))⟩, ⟨by (with_reducible repeat (first | refine blk_drewN ?_ _ | refine blk_drew ?_ | refine blk_alloc ?_ _)); refine blk_far ?_ NB164_198.out _; (with_reducible repeat (first | refine blk_drewN ?_ _ | refine blk_drew ?_ | refine blk_alloc ?_ _)); refine blk_far ?_ NB164_198.out _; (with_reducible repeat (first | refine blk_drewN ?_ _ | refine blk_drew ?_ | refine blk_alloc ?_ _)); refine blk_far ?_ NB164_198.out _; (with_reducible repeat (first | refine blk_drewN ?_ _ | refine blk_drew ?_ | refine blk_alloc ?_ _)); (first | exact BK164.out | (rw [← Nbq108.out]; exact BK164.out))⟩, ⟨by (with_reducible repeat (first | refine blk_drewN ?_ _ | refine blk_drew ?_ | refine blk_alloc ?_ _)); refine blk_far ?_ NB166_198.out _; (with_reducible repeat (first | refine blk_drewN ?_ _ | refine blk_drew ?_ | refine blk_alloc ?_ _)); refine blk_far ?_ NB166_198.out _; (with_reducible repeat (first | refine blk_drewN ?_ _ | refine blk_drew ?_ | refine blk_alloc ?_ _)); refine blk_far ?_ NB166_198.out _; (with_reducible repeat (first | refine blk_drewN ?_ _ | refine blk_drew ?_ | refine blk_alloc ?_ _)); (first | exact BK166.out | (rw [← Nbq108.out]; exact BK166.out))⟩, ⟨by (with_reducible repeat (first | refine blk_drewN ?_ _ | refine blk_drew ?_ | refine blk_alloc ?_ _)); refine blk_far ?_ NB176_198.out _; (with_reducible repeat (first | refine blk_drewN ?_ _ | refine blk_drew ?_ | refine blk_alloc ?_ _)); refine blk_far ?_ NB176_198.out _; (with_reducible repeat (first | refine blk_drewN ?_ _ | refine blk_drew ?_ | refine blk_alloc ?_ _)); refine blk_far ?_ NB176_198.out _; (with_reducible repeat (first | refine blk_drewN ?_ _ | refine blk_drew ?_ | refine blk_alloc ?_ _)); (first | exact BK176.out | (rw [← Nbq108.out]; exact BK176.out))⟩, ⟨by (with_reducible repeat (first | refine blk_drewN ?_ _ | refine blk_drew ?_ | refine blk_alloc ?_ _)); refine blk_put (cs := #[.int .i64 t199, .int .i64 t200, .int .i64 t196]) ?_ 2 _ rfl; (with_reducible repeat (first | refine blk_drewN ?_ _ | refine blk_drew ?_ | refine blk_alloc ?_ _)); refine blk_put (cs := #[.int .i64 t199, .int .i64 t195, .int .i64 t196]) ?_ 1 _ rfl; (with_reducible repeat (first | refine blk_drewN ?_ _ | refine blk_drew ?_ | refine blk_alloc ?_ _)); refine blk_put (cs := #[.int .i64 t194, .int .i64 t195, .int .i64 t196]) ?_ 0 _ rfl; (with_reducible repeat (first | refine blk_drewN ?_ _ | refine blk_drew ?_ | refine blk_alloc ?_ _)); (first | exact BK198.out | (rw [← Nbq108.out]; exact BK198.out))⟩, ⟨by repeat (first | (with_reducible first | exact HB.out | apply below_alloc | apply pw_below_drewN | apply below_drew1 | refine below_set ?_ GE163.out | refine below_set ?_ GE164.out | refine below_set ?_ GE166.out | refine below_set ?_ GE176.out | refine below_set ?_ GE198.out) | exact HB.out)⟩⟩
                                  · rw [if_neg c106] at H
                                    have c106b0 : (((rd_T39 l1 x11_1).f0) == 2) = false := beq_eq_false_iff_ne.mpr c106
                                    have c106b1 : (((rd_T39 l1 x11_1).f0) != 2) = true := bne_iff_ne.mpr c106
                                    (first | rw [c106b0] | (simp only [i64_w, i32_w]; rw [c106b0]) | skip)
                                    have H' := Aside0.mk H
                                    clear H
                                    go_wp2
                                    go_meet
                                    case rel => exact ⟨_, (x10_1), (t197), (t194), (t195), (t196), (by first | rfl | (simp; done) | (simp [*]; done)), (by first | rfl | (simp; done) | (simp [*]; done)), H', ⟨by have := HK1.out; have := HJ39.out; first | omega | exact Nat.le_refl _⟩, ⟨by (with_reducible repeat (first | apply Kd.R_alloc | apply Kd.R_drewN | apply Kd.R_drew)); exact Kd.R_mono (Kd.R_far (p := ⟨gb198, 2, none⟩) (Kd.R_far (p := ⟨gb198, 1, none⟩) (Kd.R_far (p := ⟨gb198, 0, none⟩) (Kd.R_types HO193.out BK198.out (by decide)) (fun _ hk => hk.2) (.int .i64 t194)) (fun _ hk => hk.2) (.int .i64 t195)) (fun _ hk => hk.2) (.int .i64 t196)) (fun _ hk => ⟨hk.1.2.1, hk.1.2.2⟩)⟩, ⟨by (with_reducible repeat (first | refine blk_drewN ?_ _ | refine blk_drew ?_ | refine blk_alloc ?_ _)); refine blk_far ?_ NB163_198.out _; (with_reducible repeat (first | refine blk_drewN ?_ _ | refine blk_drew ?_ | refine blk_alloc ?_ _)); refine blk_far ?_ NB163_198.out _; (with_reducible repeat (first | refine blk_drewN ?_ _ | refine blk_drew ?_ | refine blk_alloc ?_ _)); refine blk_far ?_ NB163_198.out _; (with_reducible repeat (first | refine blk_drewN ?_ _ | refine blk_drew ?_ | refine blk_alloc ?_ _)); (first | exact BK163.out | (rw [← Nbq108.out]; exact BK163.out))⟩, ⟨by (with_reducible repeat (first | refine blk_drewN ?_ _ | refine blk_drew ?_ | refine blk_alloc ?_ _)); refine blk_far ?_ NB164_198.out _; (with_reducible repeat (first | refine blk_drewN ?_ _ | refine blk_drew ?_ | refine blk_alloc ?_ _)); refine blk_far ?_ NB164_198.out _; (with_reducible repeat (first | refine blk_drewN ?_ _ | refine blk_drew ?_ | refine blk_alloc ?_ _)); refine blk_far ?_ NB164_198.out _; (with_reducible repeat (first | refine blk_drewN ?_ _ | refine blk_drew ?_ | refine blk_alloc ?_ _)); (first | exact BK164.out | (rw [← Nbq108.out]; exact BK164.out))⟩, ⟨by (with_reducible repeat (first | refine blk_drewN ?_ _ | refine blk_drew ?_ | refine blk_alloc ?_ _)); refine blk_far ?_ NB166_198.out _; (with_reducible repeat (first | refine blk_drewN ?_ _ | refine blk_drew ?_ | refine blk_alloc ?_ _)); refine blk_far ?_ NB166_198.out _; (with_reducible repeat (first | refine blk_drewN ?_ _ | refine blk_drew ?_ | refine blk_alloc ?_ _)); refine blk_far ?_ NB166_198.out _; (with_reducible repeat (first | refine blk_drewN ?_ _ | refine blk_drew ?_ | refine blk_alloc ?_ _)); (first | exact BK166.out | (rw [← Nbq108.out]; exact BK166.out))⟩, ⟨by (with_reducible repeat (first | refine blk_drewN ?_ _ | refine blk_drew ?_ | refine blk_alloc ?_ _)); refine blk_far ?_ NB176_198.out _; (with_reducible repeat (first | refine blk_drewN ?_ _ | refine blk_drew ?_ | refine blk_alloc ?_ _)); refine blk_far ?_ NB176_198.out _; (with_reducible repeat (first | refine blk_drewN ?_ _ | refine blk_drew ?_ | refine blk_alloc ?_ _)); refine blk_far ?_ NB176_198.out _; (with_reducible repeat (first | refine blk_drewN ?_ _ | refine blk_drew ?_ | refine blk_alloc ?_ _)); (first | exact BK176.out | (rw [← Nbq108.out]; exact BK176.out))⟩, ⟨by (with_reducible repeat (first | refine blk_drewN ?_ _ | refine blk_drew ?_ | refine blk_alloc ?_ _)); refine blk_put (cs := #[.int .i64 t194, .int .i64 t195, .int .i64 0]) ?_ 2 _ rfl; (with_reducible repeat (first | refine blk_drewN ?_ _ | refine blk_drew ?_ | refine blk_alloc ?_ _)); refine blk_put (cs := #[.int .i64 t194, .int .i64 0, .int .i64 0]) ?_ 1 _ rfl; (with_reducible repeat (first | refine blk_drewN ?_ _ | refine blk_drew ?_ | refine blk_alloc ?_ _)); refine blk_put (cs := #[.int .i64 0, .int .i64 0, .int .i64 0]) ?_ 0 _ rfl; (with_reducible repeat (first | refine blk_drewN ?_ _ | refine blk_drew ?_ | refine blk_alloc ?_ _)); (first | exact BK198.out | (rw [← Nbq108.out]; exact BK198.out))⟩, ⟨by repeat (first | (with_reducible first | exact HB.out | apply below_alloc | apply pw_below_drewN | apply below_drew1 | refine below_set ?_ GE163.out | refine below_set ?_ GE164.out | refine below_set ?_ GE166.out | refine below_set ?_ GE176.out | refine below_set ?_ GE198.out) | exact HB.out)⟩⟩
                                case rest =>
                                  clear HC77
                                  try clear c1
                                  try clear p1
                                  try clear q1
                                  try clear hx1
                                  try clear c2
                                  try clear p2
                                  try clear c6
                                  try clear p6
                                  try clear c7
                                  try clear c8
                                  try clear q8
                                  try clear c9
                                  try clear q9
                                  try clear c10
                                  try clear q10
                                  try clear c11
                                  try clear c12
                                  try clear c13
                                  try clear p16
                                  try clear q16
                                  try clear hx16
                                  try clear p17
                                  try clear q17
                                  try clear hx17
                                  try clear c18
                                  try clear c20
                                  try clear p64
                                  try clear c66
                                  try clear c67
                                  try clear c67b0
                                  try clear c68
                                  try clear c68b0
                                  try clear c69
                                  try clear c69b0
                                  try clear c70
                                  try clear c70b0
                                  try clear c70b1
                                  try clear c71
                                  try clear c73
                                  try clear c73b0
                                  try clear c73b1
                                  try clear c74
                                  try clear c74b0
                                  try clear c74b1
                                  try clear c75
                                  try clear c78
                                  try clear c79
                                  try clear c83
                                  try clear c84
                                  try clear c85
                                  try clear q89
                                  try clear c90
                                  try clear q90
                                  try clear c95
                                  try clear c100
                                  try clear c101
                                  try clear c102
                                  try clear c103
                                  try clear c106
                                  try clear c106b0
                                  try clear c106b1
                                  try clear q108
                                  try clear c109
                                  try clear c110
                                  try clear c111
                                  try clear c112
                                  try clear c113
                                  try clear c115
                                  try clear c116
                                  try clear c117
                                  try clear c120
                                  try clear c121
                                  try clear c124
                                  try clear c125
                                  try clear c126
                                  try clear c127
                                  try clear c129
                                  try clear c130
                                  try clear c131
                                  try clear c134
                                  try clear c135
                                  try clear hcz104_0
                                  try clear hcz104_1
                                  try clear hcz104_2
                                  try clear hcz105_0
                                  try clear hcz105_1
                                  try clear hcz105_2
                                  try clear hcz105_3
                                  try clear hcz114_0
                                  try clear hcz114_1
                                  try clear hcz114_2
                                  try clear hcz118_0
                                  try clear hcz118_1
                                  try clear hcz118_2
                                  try clear hcz118_3
                                  try clear hcz122_0
                                  try clear hcz122_1
                                  try clear hcz122_2
                                  try clear hcz123_0
                                  try clear hcz123_1
                                  try clear hcz123_2
                                  try clear hcz123_3
                                  try clear hcz128_0
                                  try clear hcz128_1
                                  try clear hcz128_2
                                  try clear hcz132_0
                                  try clear hcz132_1
                                  try clear hcz132_2
                                  try clear hcz132_3
                                  try clear hcz136_0
                                  try clear hcz136_1
                                  try clear hcz136_2
                                  try clear hcz137_0
                                  try clear hcz137_1
                                  try clear hcz137_2
                                  try clear hcz137_3
                                  try clear hcz58_1
                                  try clear hcz58_2
                                  try clear hcz58_3
                                  try clear hcz61_0
                                  try clear hcz61_1
                                  try clear hcz61_2
                                  try clear hcz61_3
                                  try clear hcz65_0
                                  try clear hcz65_1
                                  try clear hcz65_2
                                  try clear hcz65_3
                                  try clear hcz6_0
                                  try clear hcz6_1
                                  try clear hcz6_2
                                  try clear hcz80_0
                                  try clear hcz80_1
                                  try clear hcz80_2
                                  try clear hcz80_3
                                  try clear hcz86_0
                                  try clear hcz86_1
                                  try clear hcz86_2
                                  try clear hcz86_3
                                  try clear hcz96_0
                                  try clear hcz96_1
                                  try clear hcz96_2
                                  try clear hcz97_0
                                  try clear hcz97_1
                                  try clear hcz97_2
                                  try clear hcz97_3
                                  try clear hfz104_0
                                  try clear hfz104_1
                                  try clear hfz104_2
                                  try clear hfz105_0
                                  try clear hfz105_1
                                  try clear hfz105_2
                                  try clear hfz105_3
                                  try clear hfz114_0
                                  try clear hfz114_1
                                  try clear hfz114_2
                                  try clear hfz118_0
                                  try clear hfz118_1
                                  try clear hfz118_2
                                  try clear hfz118_3
                                  try clear hfz122_0
                                  try clear hfz122_1
                                  try clear hfz122_2
                                  try clear hfz123_0
                                  try clear hfz123_1
                                  try clear hfz123_2
                                  try clear hfz123_3
                                  try clear hfz128_0
                                  try clear hfz128_1
                                  try clear hfz128_2
                                  try clear hfz132_0
                                  try clear hfz132_1
                                  try clear hfz132_2
                                  try clear hfz132_3
                                  try clear hfz136_0
                                  try clear hfz136_1
                                  try clear hfz136_2
                                  try clear hfz137_0
                                  try clear hfz137_1
                                  try clear hfz137_2
                                  try clear hfz137_3
                                  try clear hfz16_0
                                  try clear hfz16_1
                                  try clear hfz16_2
                                  try clear hfz16_3
                                  try clear hfz18_0
                                  try clear hfz18_1
                                  try clear hfz18_2
                                  try clear hfz24_0
                                  try clear hfz24_1
                                  try clear hfz24_2
                                  try clear hfz25_0
                                  try clear hfz25_1
                                  try clear hfz25_2
                                  try clear hfz26_0
                                  try clear hfz26_1
                                  try clear hfz26_2
                                  try clear hfz26_3
                                  try clear hfz31_0
                                  try clear hfz31_1
                                  try clear hfz31_2
                                  try clear hfz31_3
                                  try clear hfz33_0
                                  try clear hfz33_1
                                  try clear hfz33_2
                                  try clear hfz39_0
                                  try clear hfz39_1
                                  try clear hfz39_2
                                  try clear hfz44_0
                                  try clear hfz44_1
                                  try clear hfz44_2
                                  try clear hfz44_3
                                  try clear hfz49_0
                                  try clear hfz49_1
                                  try clear hfz49_2
                                  try clear hfz49_3
                                  try clear hfz52_0
                                  try clear hfz52_1
                                  try clear hfz52_2
                                  try clear hfz52_3
                                  try clear hfz58_0
                                  try clear hfz58_1
                                  try clear hfz58_2
                                  try clear hfz58_3
                                  try clear hfz61_0
                                  try clear hfz61_1
                                  try clear hfz61_2
                                  try clear hfz61_3
                                  try clear hfz65_0
                                  try clear hfz65_1
                                  try clear hfz65_2
                                  try clear hfz65_3
                                  try clear hfz6_0
                                  try clear hfz6_1
                                  try clear hfz6_2
                                  try clear hfz80_0
                                  try clear hfz80_1
                                  try clear hfz80_2
                                  try clear hfz80_3
                                  try clear hfz86_0
                                  try clear hfz86_1
                                  try clear hfz86_2
                                  try clear hfz86_3
                                  try clear hfz96_0
                                  try clear hfz96_1
                                  try clear hfz96_2
                                  try clear hfz97_0
                                  try clear hfz97_1
                                  try clear hfz97_2
                                  try clear hfz97_3
                                  try clear hx165_0
                                  try clear hx165_1
                                  try clear hx165_2
                                  try clear hx165_3
                                  try clear hx175_0
                                  try clear hx175_1
                                  try clear hx175_2
                                  try clear hx175_3
                                  try clear p165
                                  try clear p175
                                  try clear p2
                                  try clear q090
                                  try clear q165
                                  try clear q175
                                  try clear q89
                                  try clear q90
                                  obtain ⟨kq, x10_76, x17_76, x199000_76, x199001_76, x199002_76, rfl, rfl, HA, HJ76, HO_9, BK163, BK164, BK166, BK176, BK198, HB⟩ := hcut
                                  cases kq with
                                  | zero => exact absurd HA.out (by simp [ententelaw05_played.j2])
                                  | succ kj76 =>
                                    have H := HA.out
                                    clear HA
                                    simp only [ententelaw05_played.j2] at H
                                    by_cases c138 : x17_76 = 0
                                    · rw [if_pos c138] at H
                                      have c138b0 : (x17_76 == 0) = true := beq_iff_eq.mpr c138
                                      have c138b1 : (x17_76 != 0) = false := bne_eq_false_iff_eq.mpr c138
                                      clear c138
                                      replace H := Option.bind_eq_some_iff.mp H
                                      obtain ⟨t203, A1390, H⟩ := H
                                      replace H : (if t203 = 0 then (ententelaw05_played.l0 kj76 l1 y191 x10_76 (wrap64 (x11_1 + 1)) x199000_76 x199001_76 x199002_76) else (some (x165000_1, x165001_1, x165002_1, y191, x10_76, false))) = some (r1, r2, r3, r4, r5, r6) := H
                                      have A139 := Aside0.mk A1390
                                      clear A1390
                                      by_cases c140 : t203 = 0
                                      · rw [if_pos c140] at H
                                        have c140b0 : (t203 == 0) = true := beq_iff_eq.mpr c140
                                        have c140b1 : (t203 != 0) = false := bne_eq_false_iff_eq.mpr c140
                                        clear c140
                                        have H' := Aside0.mk H
                                        clear H
                                        have hnb141 := NB198_163.out
                                        have hnc141 := NB163_198.out
                                        have hnb142 := NB198_164.out
                                        have hnc142 := NB164_198.out
                                        have hnb143 := NB198_166.out
                                        have hnc143 := NB166_198.out
                                        have hnb144 := NB198_176.out
                                        have hnc144 := NB176_198.out
                                        have hcz145_0 : wc.cell? ⟨gb198, 0, none⟩ = some (.int .i64 x199000_76) := (blk_cell BK198.out 0).trans rfl
                                        have hcz145_1 : wc.cell? ⟨gb198, 1, none⟩ = some (.int .i64 x199001_76) := (blk_cell BK198.out 1).trans rfl
                                        have hcz145_2 : wc.cell? ⟨gb198, 2, none⟩ = some (.int .i64 x199002_76) := (blk_cell BK198.out 2).trans rfl
                                        have hfz145_0 := blk_frozen BK198.out 0
                                        have hfz145_1 := blk_frozen BK198.out 1
                                        have hfz145_2 := blk_frozen BK198.out 2
                                        go_wp2_with (first | (go_at_call 9; (with_reducible refine (pot_Check.calls x199000_76 x199001_76 x199002_76 t203 _ A139.out).mono ?_); rintro e w146 ⟨rfl, hb⟩; have n0_ := Aside0.mk (Kd.R_below (by (with_reducible repeat (first | apply Kd.R_alloc | apply Kd.R_drewN | apply Kd.R_drew)); exact HO_9.out) hb); have n1_ := Aside0.mk (blk_below (g := gb163) (o := .cells #[.int .i64 x164000_1, .int .i64 x164001_1, .int .i64 x164002_1] 23 (0, 0)) (by (with_reducible repeat (first | refine blk_drewN ?_ _ | refine blk_drew ?_ | refine blk_alloc ?_ _)); exact BK163.out) hb); have n2_ := Aside0.mk (blk_below (g := gb164) (o := .cells #[.int .i64 x165000_1, .int .i64 x165001_1, .int .i64 x165002_1] 23 (0, 0)) (by (with_reducible repeat (first | refine blk_drewN ?_ _ | refine blk_drew ?_ | refine blk_alloc ?_ _)); exact BK164.out) hb); have n3_ := Aside0.mk (blk_below (g := gb166) (o := .cells #[.int .i64 ((rd_T39 l1 x11_1).f0), .bool ((rd_T39 l1 x11_1).f1), .int .i64 ((rd_T39 l1 x11_1).f2), .int .i64 ((rd_T39 l1 x11_1).f3)] 39 (0, 0)) (by (with_reducible repeat (first | refine blk_drewN ?_ _ | refine blk_drew ?_ | refine blk_alloc ?_ _)); exact BK166.out) hb); have n4_ := Aside0.mk (blk_below (g := gb176) (o := .cells #[.int .i64 ((rd_T39 x9_1 ((rd_T39 l1 x11_1).f3)).f0), .bool ((rd_T39 x9_1 ((rd_T39 l1 x11_1).f3)).f1), .int .i64 ((rd_T39 x9_1 ((rd_T39 l1 x11_1).f3)).f2), .int .i64 ((rd_T39 x9_1 ((rd_T39 l1 x11_1).f3)).f3)] 39 (0, 0)) (by (with_reducible repeat (first | refine blk_drewN ?_ _ | refine blk_drew ?_ | refine blk_alloc ?_ _)); exact BK176.out) hb); have n5_ := Aside0.mk (blk_below (g := gb198) (o := .cells #[.int .i64 x199000_76, .int .i64 x199001_76, .int .i64 x199002_76] 23 (0, 0)) (by (with_reducible repeat (first | refine blk_drewN ?_ _ | refine blk_drew ?_ | refine blk_alloc ?_ _)); exact BK198.out) hb); have n6_ := Aside0.mk (below_step (by repeat (first | (with_reducible first | exact HB.out | apply below_alloc | apply pw_below_drewN | apply below_drew1 | refine below_set ?_ GE163.out | refine below_set ?_ GE164.out | refine below_set ?_ GE166.out | refine below_set ?_ GE176.out | refine below_set ?_ GE198.out) | exact HB.out)) hb); clear HO_9; clear BK163; clear BK164; clear BK166; clear BK176; clear BK198; clear HB; have HO_9 := n0_; have BK163 := n1_; have BK164 := n2_; have BK166 := n3_; have BK176 := n4_; have BK198 := n5_; have HB := n6_; clear n0_ n1_ n2_ n3_ n4_ n5_ n6_; (try clear hb); (try clear hb2); (try clear hk); (try clear hi); have hcz147_0 : w146.cell? ⟨gb198, 0, none⟩ = some (.int .i64 x199000_76) := (blk_cell BK198.out 0).trans rfl; have hcz147_1 : w146.cell? ⟨gb198, 1, none⟩ = some (.int .i64 x199001_76) := (blk_cell BK198.out 1).trans rfl; have hcz147_2 : w146.cell? ⟨gb198, 2, none⟩ = some (.int .i64 x199002_76) := (blk_cell BK198.out 2).trans rfl; have hfz147_0 := blk_frozen BK198.out 0; have hfz147_1 := blk_frozen BK198.out 1; have hfz147_2 := blk_frozen BK198.out 2; have hnb148 := NB164_163.out; have hnc148 := NB163_164.out; have hnb149 := NB164_166.out; have hnc149 := NB166_164.out; have hnb150 := NB164_176.out; have hnc150 := NB176_164.out; have hcz151_0 : w146.cell? ⟨gb164, 0, none⟩ = some (.int .i64 x165000_1) := (blk_cell BK164.out 0).trans rfl; have hcz151_1 : w146.cell? ⟨gb164, 1, none⟩ = some (.int .i64 x165001_1) := (blk_cell BK164.out 1).trans rfl; have hcz151_2 : w146.cell? ⟨gb164, 2, none⟩ = some (.int .i64 x165002_1) := (blk_cell BK164.out 2).trans rfl; have hfz151_0 := blk_frozen BK164.out 0; have hfz151_1 := blk_frozen BK164.out 1; have hfz151_2 := blk_frozen BK164.out 2))
                                        go_roundg kj76
                                        case measure => have := HK1.out; have := HJ39.out; have := HJ76.out; omega
                                        case rel => exact ⟨(y191), (x10_76), (wrap64 (x11_1 + 1)), (x164000_1), (x164001_1), (x164002_1), (x199000_76), (x199001_76), (x199002_76), (by first | rfl | (simp; done) | (simp [*]; done)), (by first | rfl | (simp; done) | (simp [*]; done)), H', ⟨by have := HK1.out; have := HJ39.out; have := HJ76.out; omega⟩, ⟨by (with_reducible repeat (first | apply Kd.R_alloc | apply Kd.R_drewN | apply Kd.R_drew)); exact Kd.R_mono (Kd.R_far (p := ⟨gb164, 2, none⟩) (Kd.R_far (p := ⟨gb164, 1, none⟩) (Kd.R_far (p := ⟨gb164, 0, none⟩) (Kd.R_types HO_9.out BK164.out (by decide)) (fun _ hk => hk.2) (.int .i64 x199000_76)) (fun _ hk => hk.2) (.int .i64 x199001_76)) (fun _ hk => hk.2) (.int .i64 x199002_76)) (fun _ hk => trivial)⟩, ⟨by (with_reducible repeat (first | refine blk_drewN ?_ _ | refine blk_drew ?_ | refine blk_alloc ?_ _)); refine blk_far ?_ NB163_164.out _; (with_reducible repeat (first | refine blk_drewN ?_ _ | refine blk_drew ?_ | refine blk_alloc ?_ _)); refine blk_far ?_ NB163_164.out _; (with_reducible repeat (first | refine blk_drewN ?_ _ | refine blk_drew ?_ | refine blk_alloc ?_ _)); refine blk_far ?_ NB163_164.out _; (with_reducible repeat (first | refine blk_drewN ?_ _ | refine blk_drew ?_ | refine blk_alloc ?_ _)); exact BK163.out⟩, ⟨by (with_reducible repeat (first | refine blk_drewN ?_ _ | refine blk_drew ?_ | refine blk_alloc ?_ _)); refine blk_put (cs := #[.int .i64 x199000_76, .int .i64 x199001_76, .int .i64 x165002_1]) ?_ 2 _ rfl; (with_reducible repeat (first | refine blk_drewN ?_ _ | refine blk_drew ?_ | refine blk_alloc ?_ _)); refine blk_put (cs := #[.int .i64 x199000_76, .int .i64 x165001_1, .int .i64 x165002_1]) ?_ 1 _ rfl; (with_reducible repeat (first | refine blk_drewN ?_ _ | refine blk_drew ?_ | refine blk_alloc ?_ _)); refine blk_put (cs := #[.int .i64 x165000_1, .int .i64 x165001_1, .int .i64 x165002_1]) ?_ 0 _ rfl; (with_reducible repeat (first | refine blk_drewN ?_ _ | refine blk_drew ?_ | refine blk_alloc ?_ _)); exact BK164.out⟩, ⟨by repeat (first | (with_reducible first | exact HB.out | apply below_alloc | apply pw_below_drewN | apply below_drew1 | refine below_set ?_ GE163.out | refine below_set ?_ GE164.out | refine below_set ?_ GE166.out | refine below_set ?_ GE176.out | refine below_set ?_ GE198.out) | exact HB.out)⟩⟩
                                      · rw [if_neg c140] at H
                                        have c140b0 : (t203 == 0) = false := beq_eq_false_iff_ne.mpr c140
                                        have c140b1 : (t203 != 0) = true := bne_iff_ne.mpr c140
                                        simp only [Option.some.injEq, Prod.mk.injEq] at H
                                        obtain ⟨rfl, rfl, rfl, rfl, rfl, rfl⟩ := H
                                        have hnb152 := NB198_163.out
                                        have hnc152 := NB163_198.out
                                        have hnb153 := NB198_164.out
                                        have hnc153 := NB164_198.out
                                        have hnb154 := NB198_166.out
                                        have hnc154 := NB166_198.out
                                        have hnb155 := NB198_176.out
                                        have hnc155 := NB176_198.out
                                        have hcz156_0 : wc.cell? ⟨gb198, 0, none⟩ = some (.int .i64 x199000_76) := (blk_cell BK198.out 0).trans rfl
                                        have hcz156_1 : wc.cell? ⟨gb198, 1, none⟩ = some (.int .i64 x199001_76) := (blk_cell BK198.out 1).trans rfl
                                        have hcz156_2 : wc.cell? ⟨gb198, 2, none⟩ = some (.int .i64 x199002_76) := (blk_cell BK198.out 2).trans rfl
                                        have hfz156_0 := blk_frozen BK198.out 0
                                        have hfz156_1 := blk_frozen BK198.out 1
                                        have hfz156_2 := blk_frozen BK198.out 2
                                        go_wp2_with (first | (go_at_call 9; (with_reducible refine (pot_Check.calls x199000_76 x199001_76 x199002_76 t203 _ A139.out).mono ?_); rintro e w157 ⟨rfl, hb⟩; have n0_ := Aside0.mk (Kd.R_below (by (with_reducible repeat (first | apply Kd.R_alloc | apply Kd.R_drewN | apply Kd.R_drew)); exact HO_9.out) hb); have n1_ := Aside0.mk (blk_below (g := gb163) (o := .cells #[.int .i64 x164000_1, .int .i64 x164001_1, .int .i64 x164002_1] 23 (0, 0)) (by (with_reducible repeat (first | refine blk_drewN ?_ _ | refine blk_drew ?_ | refine blk_alloc ?_ _)); exact BK163.out) hb); have n2_ := Aside0.mk (blk_below (g := gb164) (o := .cells #[.int .i64 x165000_1, .int .i64 x165001_1, .int .i64 x165002_1] 23 (0, 0)) (by (with_reducible repeat (first | refine blk_drewN ?_ _ | refine blk_drew ?_ | refine blk_alloc ?_ _)); exact BK164.out) hb); have n3_ := Aside0.mk (blk_below (g := gb166) (o := .cells #[.int .i64 ((rd_T39 l1 x11_1).f0), .bool ((rd_T39 l1 x11_1).f1), .int .i64 ((rd_T39 l1 x11_1).f2), .int .i64 ((rd_T39 l1 x11_1).f3)] 39 (0, 0)) (by (with_reducible repeat (first | refine blk_drewN ?_ _ | refine blk_drew ?_ | refine blk_alloc ?_ _)); exact BK166.out) hb); have n4_ := Aside0.mk (blk_below (g := gb176) (o := .cells #[.int .i64 ((rd_T39 x9_1 ((rd_T39 l1 x11_1).f3)).f0), .bool ((rd_T39 x9_1 ((rd_T39 l1 x11_1).f3)).f1), .int .i64 ((rd_T39 x9_1 ((rd_T39 l1 x11_1).f3)).f2), .int .i64 ((rd_T39 x9_1 ((rd_T39 l1 x11_1).f3)).f3)] 39 (0, 0)) (by (with_reducible repeat (first | refine blk_drewN ?_ _ | refine blk_drew ?_ | refine blk_alloc ?_ _)); exact BK176.out) hb); have n5_ := Aside0.mk (blk_below (g := gb198) (o := .cells #[.int .i64 x199000_76, .int .i64 x199001_76, .int .i64 x199002_76] 23 (0, 0)) (by (with_reducible repeat (first | refine blk_drewN ?_ _ | refine blk_drew ?_ | refine blk_alloc ?_ _)); exact BK198.out) hb); have n6_ := Aside0.mk (below_step (by repeat (first | (with_reducible first | exact HB.out | apply below_alloc | apply pw_below_drewN | apply below_drew1 | refine below_set ?_ GE163.out | refine below_set ?_ GE164.out | refine below_set ?_ GE166.out | refine below_set ?_ GE176.out | refine below_set ?_ GE198.out) | exact HB.out)) hb); clear HO_9; clear BK163; clear BK164; clear BK166; clear BK176; clear BK198; clear HB; have HO_9 := n0_; have BK163 := n1_; have BK164 := n2_; have BK166 := n3_; have BK176 := n4_; have BK198 := n5_; have HB := n6_; clear n0_ n1_ n2_ n3_ n4_ n5_ n6_; (try clear hb); (try clear hb2); (try clear hk); (try clear hi); have hnb158 := NB164_163.out; have hnc158 := NB163_164.out; have hnb159 := NB164_166.out; have hnc159 := NB166_164.out; have hnb160 := NB164_176.out; have hnc160 := NB176_164.out; have hcz161_0 : w157.cell? ⟨gb164, 0, none⟩ = some (.int .i64 x165000_1) := (blk_cell BK164.out 0).trans rfl; have hcz161_1 : w157.cell? ⟨gb164, 1, none⟩ = some (.int .i64 x165001_1) := (blk_cell BK164.out 1).trans rfl; have hcz161_2 : w157.cell? ⟨gb164, 2, none⟩ = some (.int .i64 x165002_1) := (blk_cell BK164.out 2).trans rfl; have hfz161_0 := blk_frozen BK164.out 0; have hfz161_1 := blk_frozen BK164.out 1; have hfz161_2 := blk_frozen BK164.out 2; have hnb162 := NB163_166.out; have hnc162 := NB166_163.out; have hnb163 := NB163_176.out; have hnc163 := NB176_163.out; have hcz164_0 : w157.cell? ⟨gb163, 0, none⟩ = some (.int .i64 x164000_1) := (blk_cell BK163.out 0).trans rfl; have hcz164_1 : w157.cell? ⟨gb163, 1, none⟩ = some (.int .i64 x164001_1) := (blk_cell BK163.out 1).trans rfl; have hcz164_2 : w157.cell? ⟨gb163, 2, none⟩ = some (.int .i64 x164002_1) := (blk_cell BK163.out 2).trans rfl; have hfz164_0 := blk_frozen BK163.out 0; have hfz164_1 := blk_frozen BK163.out 1; have hfz164_2 := blk_frozen BK163.out 2))
                                        refine bodyPost_ret (results_list (rs := [.cell 4 23, .tmp 5, .tmp 6, .tmp 7]) rfl (by simp) (.cell gb163 23 #[.int .i64 x165000_1, .int .i64 x165001_1, .int .i64 x165002_1] (0, 0) _ rfl (by (with_reducible repeat (first | refine blk_drewN ?_ _ | refine blk_drew ?_ | refine blk_alloc ?_ _)); refine blk_put (cs := #[.int .i64 x165000_1, .int .i64 x165001_1, .int .i64 x164002_1]) ?_ 2 _ rfl; (with_reducible repeat (first | refine blk_drewN ?_ _ | refine blk_drew ?_ | refine blk_alloc ?_ _)); refine blk_put (cs := #[.int .i64 x165000_1, .int .i64 x164001_1, .int .i64 x164002_1]) ?_ 1 _ rfl; (with_reducible repeat (first | refine blk_drewN ?_ _ | refine blk_drew ?_ | refine blk_alloc ?_ _)); refine blk_put (cs := #[.int .i64 x164000_1, .int .i64 x164001_1, .int .i64 x164002_1]) ?_ 0 _ rfl; (with_reducible repeat (first | refine blk_drewN ?_ _ | refine blk_drew ?_ | refine blk_alloc ?_ _)); exact BK163.out) Try.underlying23 rfl (by kernel_rfl) (.tmp (.tmp (.tmp .nil))))) rfl ?_
                                        exact ⟨_, by first | rfl | (simp [errW_none, errW_some] <;> rfl) | (simp only [← hji72]; first | rfl | (simp [errW_none, errW_some] <;> rfl)) | (simp [*, errW_none, errW_some] <;> rfl), by (with_reducible repeat (first | apply Kd.R_alloc | apply Kd.R_drewN | apply Kd.R_drew)); exact Kd.R_mono (Kd.R_far (p := ⟨gb163, 2, none⟩) (Kd.R_far (p := ⟨gb163, 1, none⟩) (Kd.R_far (p := ⟨gb163, 0, none⟩) (Kd.R_types HO_9.out BK163.out (by decide)) (fun _ hk => hk.2) (.int .i64 x165000_1)) (fun _ hk => hk.2) (.int .i64 x165001_1)) (fun _ hk => hk.2) (.int .i64 x165002_1)) (fun _ hk => trivial), by repeat (first | (with_reducible first | exact HB.out | apply below_alloc | apply pw_below_drewN | apply below_drew1 | refine below_set ?_ GE163.out | refine below_set ?_ GE164.out | refine below_set ?_ GE166.out | refine below_set ?_ GE176.out | refine below_set ?_ GE198.out) | exact HB.out)⟩
                                    · rw [if_neg c138] at H
                                      have c138b0 : (x17_76 == 0) = false := beq_eq_false_iff_ne.mpr c138
                                      have c138b1 : (x17_76 != 0) = true := bne_iff_ne.mpr c138
                                      simp only [Option.some.injEq, Prod.mk.injEq] at H
                                      obtain ⟨rfl, rfl, rfl, rfl, rfl, rfl⟩ := H
                                      have hnb165 := NB164_163.out
                                      have hnc165 := NB163_164.out
                                      have hnb166 := NB164_166.out
                                      have hnc166 := NB166_164.out
                                      have hnb167 := NB164_176.out
                                      have hnc167 := NB176_164.out
                                      have hnb168 := NB164_198.out
                                      have hnc168 := NB198_164.out
                                      have hcz169_0 : wc.cell? ⟨gb164, 0, none⟩ = some (.int .i64 x165000_1) := (blk_cell BK164.out 0).trans rfl
                                      have hcz169_1 : wc.cell? ⟨gb164, 1, none⟩ = some (.int .i64 x165001_1) := (blk_cell BK164.out 1).trans rfl
                                      have hcz169_2 : wc.cell? ⟨gb164, 2, none⟩ = some (.int .i64 x165002_1) := (blk_cell BK164.out 2).trans rfl
                                      have hfz169_0 := blk_frozen BK164.out 0
                                      have hfz169_1 := blk_frozen BK164.out 1
                                      have hfz169_2 := blk_frozen BK164.out 2
                                      have hnb170 := NB163_166.out
                                      have hnc170 := NB166_163.out
                                      have hnb171 := NB163_176.out
                                      have hnc171 := NB176_163.out
                                      have hnb172 := NB163_198.out
                                      have hnc172 := NB198_163.out
                                      have hcz173_0 : wc.cell? ⟨gb163, 0, none⟩ = some (.int .i64 x164000_1) := (blk_cell BK163.out 0).trans rfl
                                      have hcz173_1 : wc.cell? ⟨gb163, 1, none⟩ = some (.int .i64 x164001_1) := (blk_cell BK163.out 1).trans rfl
                                      have hcz173_2 : wc.cell? ⟨gb163, 2, none⟩ = some (.int .i64 x164002_1) := (blk_cell BK163.out 2).trans rfl
                                      have hfz173_0 := blk_frozen BK163.out 0
                                      have hfz173_1 := blk_frozen BK163.out 1
                                      have hfz173_2 := blk_frozen BK163.out 2
                                      go_wp2
                                      refine bodyPost_ret (results_list (rs := [.cell 4 23, .tmp 5, .tmp 6, .tmp 7]) rfl (by simp) (.cell gb163 23 #[.int .i64 x165000_1, .int .i64 x165001_1, .int .i64 x165002_1] (0, 0) _ rfl (by (with_reducible repeat (first | refine blk_drewN ?_ _ | refine blk_drew ?_ | refine blk_alloc ?_ _)); refine blk_put (cs := #[.int .i64 x165000_1, .int .i64 x165001_1, .int .i64 x164002_1]) ?_ 2 _ rfl; (with_reducible repeat (first | refine blk_drewN ?_ _ | refine blk_drew ?_ | refine blk_alloc ?_ _)); refine blk_put (cs := #[.int .i64 x165000_1, .int .i64 x164001_1, .int .i64 x164002_1]) ?_ 1 _ rfl; (with_reducible repeat (first | refine blk_drewN ?_ _ | refine blk_drew ?_ | refine blk_alloc ?_ _)); refine blk_put (cs := #[.int .i64 x164000_1, .int .i64 x164001_1, .int .i64 x164002_1]) ?_ 0 _ rfl; (with_reducible repeat (first | refine blk_drewN ?_ _ | refine blk_drew ?_ | refine blk_alloc ?_ _)); exact BK163.out) Try.underlying23 rfl (by kernel_rfl) (.tmp (.tmp (.tmp .nil))))) rfl ?_
                                      exact ⟨_, by first | rfl | (simp [errW_none, errW_some] <;> rfl) | (simp only [← hji72]; first | rfl | (simp [errW_none, errW_some] <;> rfl)) | (simp [*, errW_none, errW_some] <;> rfl), by (with_reducible repeat (first | apply Kd.R_alloc | apply Kd.R_drewN | apply Kd.R_drew)); exact Kd.R_mono (Kd.R_far (p := ⟨gb163, 2, none⟩) (Kd.R_far (p := ⟨gb163, 1, none⟩) (Kd.R_far (p := ⟨gb163, 0, none⟩) (Kd.R_types HO_9.out BK163.out (by decide)) (fun _ hk => hk.2) (.int .i64 x165000_1)) (fun _ hk => hk.2) (.int .i64 x165001_1)) (fun _ hk => hk.2) (.int .i64 x165002_1)) (fun _ hk => trivial), by repeat (first | (with_reducible first | exact HB.out | apply below_alloc | apply pw_below_drewN | apply below_drew1 | refine below_set ?_ GE163.out | refine below_set ?_ GE164.out | refine below_set ?_ GE166.out | refine below_set ?_ GE176.out | refine below_set ?_ GE198.out) | exact HB.out)⟩
                              · rw [if_neg c75] at H
                                exact absurd H (by simp)
                            · rw [if_neg c74] at H
                              exact absurd H (by simp)
                          · rw [if_neg c73] at H
                            exact absurd H (by simp)
                        · rw [if_neg c71] at H
                          exact absurd H (by simp)
                      · rw [if_neg c70] at H
                        exact absurd H (by simp)
                    · rw [if_neg c68] at H
                      exact absurd H (by simp)
                  · rw [if_neg c67] at H
                    exact absurd H (by simp)
        · rw [if_neg c8] at H
          exact absurd H (by simp)
      · rw [if_neg c7] at H
        have c7b0 : decide (x11_1 < (l1.length : Int)) = false := decide_eq_false c7
        clear c7
        simp only [Option.some.injEq, Prod.mk.injEq] at H
        obtain ⟨rfl, rfl, rfl, rfl, rfl, rfl⟩ := H
        have hnb174 := NB164_163.out
        have hnc174 := NB163_164.out
        have hcz175_0 : wr.cell? ⟨gb164, 0, none⟩ = some (.int .i64 x165000_1) := (blk_cell BK164.out 0).trans rfl
        have hcz175_1 : wr.cell? ⟨gb164, 1, none⟩ = some (.int .i64 x165001_1) := (blk_cell BK164.out 1).trans rfl
        have hcz175_2 : wr.cell? ⟨gb164, 2, none⟩ = some (.int .i64 x165002_1) := (blk_cell BK164.out 2).trans rfl
        have hfz175_0 := blk_frozen BK164.out 0
        have hfz175_1 := blk_frozen BK164.out 1
        have hfz175_2 := blk_frozen BK164.out 2
        have hcz176_0 : wr.cell? ⟨gb163, 0, none⟩ = some (.int .i64 x164000_1) := (blk_cell BK163.out 0).trans rfl
        have hcz176_1 : wr.cell? ⟨gb163, 1, none⟩ = some (.int .i64 x164001_1) := (blk_cell BK163.out 1).trans rfl
        have hcz176_2 : wr.cell? ⟨gb163, 2, none⟩ = some (.int .i64 x164002_1) := (blk_cell BK163.out 2).trans rfl
        have hfz176_0 := blk_frozen BK163.out 0
        have hfz176_1 := blk_frozen BK163.out 1
        have hfz176_2 := blk_frozen BK163.out 2
        go_wp2
        refine bodyPost_ret (results_list (rs := [.cell 4 23, .tmp 5, .tmp 6, .tmp 7]) rfl (by simp) (.cell gb163 23 #[.int .i64 x165000_1, .int .i64 x165001_1, .int .i64 x165002_1] (0, 0) _ rfl (by (with_reducible repeat (first | refine blk_drewN ?_ _ | refine blk_drew ?_ | refine blk_alloc ?_ _)); refine blk_put (cs := #[.int .i64 x165000_1, .int .i64 x165001_1, .int .i64 x164002_1]) ?_ 2 _ rfl; (with_reducible repeat (first | refine blk_drewN ?_ _ | refine blk_drew ?_ | refine blk_alloc ?_ _)); refine blk_put (cs := #[.int .i64 x165000_1, .int .i64 x164001_1, .int .i64 x164002_1]) ?_ 1 _ rfl; (with_reducible repeat (first | refine blk_drewN ?_ _ | refine blk_drew ?_ | refine blk_alloc ?_ _)); refine blk_put (cs := #[.int .i64 x164000_1, .int .i64 x164001_1, .int .i64 x164002_1]) ?_ 0 _ rfl; (with_reducible repeat (first | refine blk_drewN ?_ _ | refine blk_drew ?_ | refine blk_alloc ?_ _)); exact BK163.out) Try.underlying23 rfl (by kernel_rfl) (.tmp (.tmp (.tmp .nil))))) rfl ?_
        exact ⟨_, by first | rfl | (simp [errW_none, errW_some] <;> rfl) | (simp [*, errW_none, errW_some] <;> rfl), by (with_reducible repeat (first | apply Kd.R_alloc | apply Kd.R_drewN | apply Kd.R_drew)); exact Kd.R_mono (Kd.R_far (p := ⟨gb163, 2, none⟩) (Kd.R_far (p := ⟨gb163, 1, none⟩) (Kd.R_far (p := ⟨gb163, 0, none⟩) (Kd.R_types HO_9.out BK163.out (by decide)) (fun _ hk => hk.2) (.int .i64 x165000_1)) (fun _ hk => hk.2) (.int .i64 x165001_1)) (fun _ hk => hk.2) (.int .i64 x165002_1)) (fun _ hk => trivial), by repeat (first | (with_reducible first | exact HB.out | apply below_alloc | apply pw_below_drewN | apply below_drew1 | refine below_set ?_ GE163.out | refine below_set ?_ GE164.out) | exact HB.out)⟩

end Go.Proofs.Ytfjlodknogiipaa.PB
