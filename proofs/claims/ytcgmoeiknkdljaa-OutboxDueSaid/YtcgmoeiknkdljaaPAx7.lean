-- Written by a program of this session (wip/tools/mp.py over the kit's printer); Lean checks it.
import Derived.Test.YtcgmoeiknkdljaaPAx0
import Derived.Test.YtcgmoeiknkdljaaPAx4
import Derived.Test.YtcgmoeiknkdljaaPAx6
namespace Go.Proofs.Ytcgmoeiknkdljaa.PA
open Go.RowKit Go.Proofs.YtcgmoeiknkdljaaW.PrintWords Go.Proofs.YtcgmoeiknkdljaaW.PrintLast Go.Proofs.YtcgmoeiknkdljaaW.PrintMore
attribute [local go_sem] max2_int min2_int max_two min_two max_three min_three max_four min_four   -- for this text's walks alone
set_option linter.unusedVariables false
set_option maxHeartbeats 8000000
set_option maxRecDepth 100000
set_option linter.unusedSimpArgs false

/-! ### outbox_May: function 13 -/
def outbox_May.l0 : Nat → List (S46) → Int → List (S46) → Int → Int → Option (Int)
 | 0, _, _, _, _, _ => none
 | k + 1, x0, x3, x9, x10, x11 => if x11 < x10 then (if 0 ≤ x11 then (if x11 < (x9.length : Int) then (if ((rd_T46 x9 x11).f0) < x3 then (some 2) else (if ((rd_T46 x9 x11).f0) > 1000000000 then (some 2) else (if ((rd_T46 x9 x11).f1) < 0 then (some 2) else (if ((rd_T46 x9 x11).f1) > 1000000016 then (some 2) else (if ((rd_T46 x9 x11).f2) < 0 then (some 2) else (if ((rd_T46 x9 x11).f2) > 1000000 then (some 2) else ((note_Check.f k ((rd_T46 x9 x11).f3.f0) ((rd_T46 x9 x11).f3.f1.f0) ((rd_T46 x9 x11).f3.f1.f1) ((rd_T46 x9 x11).f3.f1.f2) ((rd_T46 x9 x11).f3.f2) ((rd_T46 x9 x11).f3.f3)).bind fun t167 => (if t167 = 0 then (if x11 ≤ (x0.length : Int) then ((outbox_has.f k (x0.take (x11 : Int).toNat) ((rd_T46 x9 x11).f3.f0) ((rd_T46 x9 x11).f3.f1.f0) ((rd_T46 x9 x11).f3.f1.f1) ((rd_T46 x9 x11).f3.f1.f2) ((rd_T46 x9 x11).f3.f2) ((rd_T46 x9 x11).f3.f3)).bind fun t172 => (if t172 = true then (some 2) else (outbox_May.l0 k x0 (wrap64 (((rd_T46 x9 x11).f0) + 1)) x9 x10 (wrap64 (x11 + 1))))) else (none)) else (some 2))))))))) else (none)) else (none)) else (some 0)
def outbox_May.f (k : Nat) (l0 : List (S46)) : Option (Int) := if (l0.length : Int) > 12 then (some 2) else (outbox_May.l0 k l0 1 l0 (l0.length : Int) 0)
theorem outbox_May.mono_l : ∀ k, (∀ y0 y1 y2 y3 y4, LeO (outbox_May.l0 k y0 y1 y2 y3 y4) (outbox_May.l0 (k + 1) y0 y1 y2 y3 y4))
 | 0 => fun _ _ _ _ _ r h => by simp [outbox_May.l0] at h
 | k + 1 => by
  have ih0 := outbox_May.mono_l k
  intro y0 y1 y2 y3 y4
  unfold outbox_May.l0
  repeat' (with_reducible first | exact ih0 _ _ _ _ _ | exact note_Check.mono _ _ _ _ _ _ _ | exact outbox_has.mono _ _ _ _ _ _ _ _ | exact LeO.refl _ | exact LeO.none _ | apply LeO.ite | refine LeO.bind ?_ (fun _ => ?_))
theorem outbox_May.mono : ∀ a0 k, LeO (outbox_May.f k a0) (outbox_May.f (k + 1) a0) := by
 intro a0 k
 have ih0 := outbox_May.mono_l k
 unfold outbox_May.f
 repeat' (with_reducible first | exact ih0 _ _ _ _ _ | exact note_Check.mono _ _ _ _ _ _ _ | exact outbox_has.mono _ _ _ _ _ _ _ _ | exact LeO.refl _ | exact LeO.none _ | apply LeO.ite | refine LeO.bind ?_ (fun _ => ?_))
def outbox_May.T7 : Bool × List (List Nat × List Nat) := (true, [([], []), ([0], [0]), ([], []), ([1, 2], [1, 2]), ([3], [3]), ([4], [4]), ([5, 4], [4, 5]), ([6, 4], [4, 6]), ([4, 7], [4, 7]), ([8, 4], [8]), ([9], [9]), ([10, 9], [9, 10]), ([11, 9], [9, 11]), ([9, 12], [9, 12]), ([13, 9], [13]), ([14], [14]), ([15, 14], [14, 15]), ([16, 14], [14, 16]), ([14, 17], [14, 17]), ([18, 14], [18]), ([19], [19]), ([20, 19], [19, 20]), ([21, 19], [19, 21]), ([19, 22], [19, 22]), ([23, 19], [23]), ([24], [24]), ([25, 24], [24, 25]), ([26, 24], [24, 26]), ([24, 27], [24, 27]), ([28, 24], [28]), ([29], [29]), ([30, 29], [29, 30]), ([31, 29, 29], [29, 31]), ([32, 29], [29, 32]), ([29, 33], [29, 33]), ([34, 32], [34]), ([35], [35]), ([35], [35]), ([36, 37, 35], [35, 36, 37]), ([35], [35]), ([39, 35], [35, 39]), ([38, 40, 35, 35], [35, 38, 40]), ([35, 41], [35, 41])])
def outbox_May.B7 : List Nat := [0, 1, 0, 7, 15, 31, 63, 127, 255, 511, 1023, 2047, 4095, 8191, 16383, 32767, 65535, 131071, 262143, 524287, 1048575, 2097151, 4194303, 8388607, 16777215, 33554431, 67108863, 134217727, 268435455, 536870911, 1073741823, 2147483647, 4294967295, 8589934591, 17179869183, 34359738367, 68719476735, 68719476735, 274877906943, 68719476735, 618475290623, 2199023255551, 4398046511103]
theorem outbox_May.tab7 : rtab .any (opsOf Try.f13 7) = outbox_May.T7 := by kernel_rfl
theorem outbox_May.bits7 : waitsOk outbox_May.T7.2 outbox_May.B7 = true := by kernel_rfl
theorem outbox_May.calls (k : Nat) (A0 : Option Addr) (c0 : Nat) (l0 : List (S46)) (r : Int) (w : World) (hr0 : Kd.C k46 w A0 l0.length l0) (hc0 : l0.length ≤ c0) (h : outbox_May.f k l0 = some r) :
  Calls Try.prog 13 #[.slice A0 l0.length c0] w fun e w' => e = .returned (.int .i64 r) ∧ Below w.heap.size w w' := by
 have hu46 := Try.underlying46
 have hu37 := Try.underlying37
 have HR0 := My.am hr0
 have HC0 := My.am hc0
 clear hr0 hc0
 have HB := My.am (Below.refl w.heap.size w)
 unfold outbox_May.f at h
 have H := h
 clear h
 by_cases c2 : (l0.length : Int) > 12
 ·rw [if_pos c2] at H
  have c2b0 : decide (12 < (l0.length : Int)) = true := decide_eq_true c2
  have c2b1 : decide (12 < l0.length) = true := decide_eq_true (by omega)
  clear c2
  obtain rfl := Option.some.inj H
  go_enter Try.func13, Try.ntmps13
  go_wp2
  go_ret
  exact ⟨My.r2, (My.bl_ HB)⟩
 ·rw [if_neg c2] at H
  have c2b0 : decide (12 < (l0.length : Int)) = false := decide_eq_false c2
  have c2b1 : decide (12 < l0.length) = false := decide_eq_false (by omega)
  clear c2
  have H' := My.am H
  clear H
  go_enter Try.func13, Try.ntmps13
  go_wp2
  go_loopg [3, 11] k (fun kq v3 v11 w' => ∃ (x3_1 : Int) (x11_1 : Int), v3 = .int .i64 x3_1 ∧ v11 = .int .i64 x11_1 ∧ Aside0 (outbox_May.l0 kq l0 x3_1 l0 (l0.length : Int) x11_1 = some r) ∧ Aside0 (kq ≤ k) ∧ Aside0 (Below w.heap.size w w'))
  case atStart => exact ⟨(1), (0), My.r1, My.r1, H', ⟨Nat.le_refl _⟩, ⟨(My.bl_ HB)⟩⟩
  case round =>
   clear H'
   try clear c2
   try clear c2b0
   try clear c2b1
   obtain ⟨x3_1, x11_1, rfl, rfl, HA, HK1, HB⟩ := hrel
   cases gk with
   | zero => exact absurd HA.out (by simp [outbox_May.l0])
   | succ k1 =>
    have H := HA.out
    clear HA
    simp only [outbox_May.l0] at H
    by_cases c3 : x11_1 < (l0.length : Int)
    rotate_left
    ·rw [if_neg c3] at H
     have c3b0 := decide_eq_false c3
     clear c3
     obtain rfl := Option.some.inj H
     go_wp2
     go_ret
     exact ⟨My.r2, (My.bl_ HB)⟩

    rw [if_pos c3] at H
    have c3b0 := decide_eq_true c3
    clear c3
    replace H := My.ds H
    obtain ⟨c4b0, H⟩ := H
    replace H := My.ds H
    obtain ⟨c5b0, H⟩ := H
    by_cases c6 : ((rd_T46 l0 x11_1).f0) < x3_1
    ·rw [if_pos c6] at H
     have c6b0 := decide_eq_true c6
     clear c6
     obtain rfl := Option.some.inj H
     have p165 : 0 ≤ (x11_1 : Int) := My.as_
     have q165 : x11_1 < (l0.length : Int) := My.as_
     obtain ⟨ad165, A165_6, c165_6, e165, hx165_0, hx165_1, hx165_2, hx165_3, hx165_4, hx165_5, hx165_6, hx165_7, hx165_8, hl165_6, hi165_6⟩ := at_T46 HR0.out x11_1 p165 q165
     cases e165
     replace hx165_0 := My.up HB hx165_0
     replace hx165_1 := My.up HB hx165_1
     replace hx165_2 := My.up HB hx165_2
     replace hx165_3 := My.up HB hx165_3
     replace hx165_4 := My.up HB hx165_4
     replace hx165_5 := My.up HB hx165_5
     replace hx165_6 := My.up HB hx165_6
     replace hx165_7 := My.up HB hx165_7
     replace hx165_8 := My.up HB hx165_8
     have HR165_6 := My.am hi165_6
     have HC165_6 := My.am hl165_6
     clear hi165_6 hl165_6
     replace p165 := eq_true p165
     replace q165 := eq_true q165
     try go_wp2_with (first | ((with_reducible refine gate_dst (N := 5) rfl ?_); refine My.bx 5 #[.int .i64 0, .int .i64 0, .int .i64 0, .int .i64 0, .int .i64 0, .int .i64 0, .slice none 0 0, .string (⟨#[]⟩ : ByteArray), .int .i64 0] 46 ?_; intro gb166 hg w7 hbox hb; have BK166 := My.am (hbox); have GE166 := My.nge hg (My.bl_ HB); replace HB := My.st HB hb; clear hb hbox hg; have hcz8_0 : w7.cell? ⟨gb166, 0, none⟩ = some (.int .i64 0) := My.b_ BK166 0; have hcz8_1 : w7.cell? ⟨gb166, 1, none⟩ = some (.int .i64 0) := My.b_ BK166 1; have hcz8_2 : w7.cell? ⟨gb166, 2, none⟩ = some (.int .i64 0) := My.b_ BK166 2; have hcz8_3 : w7.cell? ⟨gb166, 3, none⟩ = some (.int .i64 0) := My.b_ BK166 3; have hcz8_4 : w7.cell? ⟨gb166, 4, none⟩ = some (.int .i64 0) := My.b_ BK166 4; have hcz8_5 : w7.cell? ⟨gb166, 5, none⟩ = some (.int .i64 0) := My.b_ BK166 5; have hcz8_6 : w7.cell? ⟨gb166, 6, none⟩ = some (.slice none 0 0) := My.b_ BK166 6; have hcz8_7 : w7.cell? ⟨gb166, 7, none⟩ = some (.string (⟨#[]⟩ : ByteArray)) := My.b_ BK166 7; have hcz8_8 : w7.cell? ⟨gb166, 8, none⟩ = some (.int .i64 0) := My.b_ BK166 8; have hfz8_0 := blk_frozen BK166.out 0; have hfz8_1 := blk_frozen BK166.out 1; have hfz8_2 := blk_frozen BK166.out 2; have hfz8_3 := blk_frozen BK166.out 3; have hfz8_4 := blk_frozen BK166.out 4; have hfz8_5 := blk_frozen BK166.out 5; have hfz8_6 := blk_frozen BK166.out 6; have hfz8_7 := blk_frozen BK166.out 7; have hfz8_8 := blk_frozen BK166.out 8))
     obtain ⟨w9, hz_⟩ : ∃ z_, z_ = (((((((((w7.setCell ⟨gb166, 0, none⟩ (.int .i64 ((rd_T46 l0 x11_1).f0))).setCell ⟨gb166, 1, none⟩ (.int .i64 ((rd_T46 l0 x11_1).f1))).setCell ⟨gb166, 2, none⟩ (.int .i64 ((rd_T46 l0 x11_1).f2))).setCell ⟨gb166, 3, none⟩ (.int .i64 ((rd_T46 l0 x11_1).f3.f0))).setCell ⟨gb166, 4, none⟩ (.int .i64 ((rd_T46 l0 x11_1).f3.f1.f0))).setCell ⟨gb166, 5, none⟩ (.int .i64 ((rd_T46 l0 x11_1).f3.f1.f1))).setCell ⟨gb166, 6, none⟩ (.slice A165_6 ((rd_T46 l0 x11_1).f3.f1.f2).length c165_6)).setCell ⟨gb166, 7, none⟩ (.string ((rd_T46 l0 x11_1).f3.f2))).setCell ⟨gb166, 8, none⟩ (.int .i64 ((rd_T46 l0 x11_1).f3.f3))) := ⟨_, rfl⟩
     replace BK166 : Aside0 (w9.heap[gb166]? = some (.cells #[.int .i64 ((rd_T46 l0 x11_1).f0), .int .i64 ((rd_T46 l0 x11_1).f1), .int .i64 ((rd_T46 l0 x11_1).f2), .int .i64 ((rd_T46 l0 x11_1).f3.f0), .int .i64 ((rd_T46 l0 x11_1).f3.f1.f0), .int .i64 ((rd_T46 l0 x11_1).f3.f1.f1), .slice A165_6 ((rd_T46 l0 x11_1).f3.f1.f2).length c165_6, .string ((rd_T46 l0 x11_1).f3.f2), .int .i64 ((rd_T46 l0 x11_1).f3.f3)] 46 (0, 0))) := ⟨by rw [hz_]; exact (My.sv_ BK166)⟩
     replace HB : Aside0 (Below w.heap.size w w9) := ⟨by rw [hz_]; repeat (first | (with_reducible first | exact HB.out | apply below_alloc | apply pw_below_drewN | apply below_drew1 | refine below_set ?_ GE166.out) | exact HB.out)⟩
     rw [← hz_]
     clear hz_
     replace BK166 := My.am (blk_drew BK166.out)
     replace HB := My.am (below_drew1 HB.out)
     refine start_ (n := 43) (S := fun w' => w'.cell? ⟨gb166, 0, none⟩ = some (.int .i64 ((rd_T46 l0 x11_1).f0)) ∧ w'.cell? ⟨gb166, 1, none⟩ = some (.int .i64 ((rd_T46 l0 x11_1).f1)) ∧ w'.cell? ⟨gb166, 2, none⟩ = some (.int .i64 ((rd_T46 l0 x11_1).f2)) ∧ w'.cell? ⟨gb166, 3, none⟩ = some (.int .i64 ((rd_T46 l0 x11_1).f3.f0)) ∧ w'.cell? ⟨gb166, 4, none⟩ = some (.int .i64 ((rd_T46 l0 x11_1).f3.f1.f0)) ∧ w'.cell? ⟨gb166, 5, none⟩ = some (.int .i64 ((rd_T46 l0 x11_1).f3.f1.f1)) ∧ w'.cell? ⟨gb166, 6, none⟩ = some (.slice A165_6 ((rd_T46 l0 x11_1).f3.f1.f2).length c165_6) ∧ w'.cell? ⟨gb166, 7, none⟩ = some (.string ((rd_T46 l0 x11_1).f3.f2)) ∧ w'.cell? ⟨gb166, 8, none⟩ = some (.int .i64 ((rd_T46 l0 x11_1).f3.f3))) (ds := []) #[false, false, false, false, false, false, false, false, false, false, false, false, false, false, false, false, false, false, false, false, false, false, false, false, false, false, false, false, false, false, false, false, false, false, false, false, false, false, false, false, false, false, false] (by kernel_rfl) rfl rfl ⟨My.b_ BK166 0, My.b_ BK166 1, My.b_ BK166 2, My.b_ BK166 3, My.b_ BK166 4, My.b_ BK166 5, My.b_ BK166 6, My.b_ BK166 7, My.b_ BK166 8⟩ (fun hHeld => ?_); refine with_tabW outbox_May.tab7 outbox_May.bits7 (fun HT_ HW_ => ?_)
     generalize w9.drew = w10 at BK166 HB hHeld ⊢
     refine My.pu_ 0 16 43 HT_.out ?_
     refine My.pv_ 2 18 43 5 HT_.out ?_
     refine My.tv_ 1 17 43 7 HT_.out HW_.out hHeld rfl rfl (by rintro w' ⟨s0, s1, s2, s3, s4, s5, s6, s7, s8⟩; go_simp; with_reducible rfl) ?_
     refine My.pu_ 3 19 43 HT_.out ?_
     refine My.pu_ 4 20 43 HT_.out ?_
     refine My.pn_ 5 21 43 HT_.out ?_
     refine My.pn_ 6 22 43 HT_.out ?_
     refine My.pn_ 7 23 43 HT_.out ?_
     refine My.pu_ 8 24 43 HT_.out ?_
     refine My.pu_ 9 25 43 HT_.out ?_
     refine My.pn_ 10 26 43 HT_.out ?_
     refine My.pn_ 11 27 43 HT_.out ?_
     refine My.pn_ 12 28 43 HT_.out ?_
     refine My.pu_ 13 29 43 HT_.out ?_
     refine My.pu_ 14 30 43 HT_.out ?_
     refine My.pn_ 15 31 43 HT_.out ?_
     refine My.pn_ 16 32 43 HT_.out ?_
     refine My.pn_ 17 33 43 HT_.out ?_
     refine My.pu_ 18 34 43 HT_.out ?_
     refine My.pu_ 19 35 43 HT_.out ?_
     refine My.pn_ 20 36 43 HT_.out ?_
     refine My.pn_ 21 37 43 HT_.out ?_
     refine My.pn_ 22 38 43 HT_.out ?_
     refine My.pu_ 23 39 43 HT_.out ?_
     refine My.pu_ 24 40 43 HT_.out ?_
     refine My.pn_ 25 41 43 HT_.out ?_
     refine My.pn_ 26 42 43 HT_.out ?_
     refine My.pn_ 27 43 43 HT_.out ?_
     refine My.pu_ 28 44 43 HT_.out ?_
     refine My.pu_ 29 45 43 HT_.out ?_
     refine My.pn_ 30 46 43 HT_.out ?_
     refine My.pn_ 31 47 43 HT_.out ?_
     refine My.pn_ 32 48 43 HT_.out ?_
     refine My.pn_ 33 49 43 HT_.out ?_
     refine My.pu_ 34 50 43 HT_.out ?_
     refine My.pu_ 35 51 43 HT_.out ?_
     refine My.pn_ 36 52 43 HT_.out ?_
     refine My.pn_ 37 53 43 HT_.out ?_
     refine My.pn_ 38 54 43 HT_.out ?_
     refine My.pn_ 39 55 43 HT_.out ?_
     refine My.pn_ 40 56 43 HT_.out ?_
     refine My.pn_ 41 57 43 HT_.out ?_
     refine My.pu_ 42 58 43 HT_.out ?_
     refine done_ (done_of HT_.out (by kernel_rfl)) ?_
     try go_wp2
     go_ret
     exact ⟨My.r2, (My.bl_ HB)⟩
    rw [if_neg c6] at H
    have c6b0 := decide_eq_false c6
    clear c6
    by_cases c11 : ((rd_T46 l0 x11_1).f0) > 1000000000
    ·rw [if_pos c11] at H
     have c11b0 : decide (1000000000 < ((rd_T46 l0 x11_1).f0)) = true := decide_eq_true c11
     clear c11
     obtain rfl := Option.some.inj H
     have p165 : 0 ≤ (x11_1 : Int) := My.as_
     have q165 : x11_1 < (l0.length : Int) := My.as_
     obtain ⟨ad165, A165_6, c165_6, e165, hx165_0, hx165_1, hx165_2, hx165_3, hx165_4, hx165_5, hx165_6, hx165_7, hx165_8, hl165_6, hi165_6⟩ := at_T46 HR0.out x11_1 p165 q165
     cases e165
     replace hx165_0 := My.up HB hx165_0
     replace hx165_1 := My.up HB hx165_1
     replace hx165_2 := My.up HB hx165_2
     replace hx165_3 := My.up HB hx165_3
     replace hx165_4 := My.up HB hx165_4
     replace hx165_5 := My.up HB hx165_5
     replace hx165_6 := My.up HB hx165_6
     replace hx165_7 := My.up HB hx165_7
     replace hx165_8 := My.up HB hx165_8
     have HR165_6 := My.am hi165_6
     have HC165_6 := My.am hl165_6
     clear hi165_6 hl165_6
     replace p165 := eq_true p165
     replace q165 := eq_true q165
     try go_wp2_with (first | ((with_reducible refine gate_dst (N := 5) rfl ?_); refine My.bx 5 #[.int .i64 0, .int .i64 0, .int .i64 0, .int .i64 0, .int .i64 0, .int .i64 0, .slice none 0 0, .string (⟨#[]⟩ : ByteArray), .int .i64 0] 46 ?_; intro gb166 hg w12 hbox hb; have BK166 := My.am (hbox); have GE166 := My.nge hg (My.bl_ HB); replace HB := My.st HB hb; clear hb hbox hg; have hcz13_0 : w12.cell? ⟨gb166, 0, none⟩ = some (.int .i64 0) := My.b_ BK166 0; have hcz13_1 : w12.cell? ⟨gb166, 1, none⟩ = some (.int .i64 0) := My.b_ BK166 1; have hcz13_2 : w12.cell? ⟨gb166, 2, none⟩ = some (.int .i64 0) := My.b_ BK166 2; have hcz13_3 : w12.cell? ⟨gb166, 3, none⟩ = some (.int .i64 0) := My.b_ BK166 3; have hcz13_4 : w12.cell? ⟨gb166, 4, none⟩ = some (.int .i64 0) := My.b_ BK166 4; have hcz13_5 : w12.cell? ⟨gb166, 5, none⟩ = some (.int .i64 0) := My.b_ BK166 5; have hcz13_6 : w12.cell? ⟨gb166, 6, none⟩ = some (.slice none 0 0) := My.b_ BK166 6; have hcz13_7 : w12.cell? ⟨gb166, 7, none⟩ = some (.string (⟨#[]⟩ : ByteArray)) := My.b_ BK166 7; have hcz13_8 : w12.cell? ⟨gb166, 8, none⟩ = some (.int .i64 0) := My.b_ BK166 8; have hfz13_0 := blk_frozen BK166.out 0; have hfz13_1 := blk_frozen BK166.out 1; have hfz13_2 := blk_frozen BK166.out 2; have hfz13_3 := blk_frozen BK166.out 3; have hfz13_4 := blk_frozen BK166.out 4; have hfz13_5 := blk_frozen BK166.out 5; have hfz13_6 := blk_frozen BK166.out 6; have hfz13_7 := blk_frozen BK166.out 7; have hfz13_8 := blk_frozen BK166.out 8))
     obtain ⟨w14, hz_⟩ : ∃ z_, z_ = (((((((((w12.setCell ⟨gb166, 0, none⟩ (.int .i64 ((rd_T46 l0 x11_1).f0))).setCell ⟨gb166, 1, none⟩ (.int .i64 ((rd_T46 l0 x11_1).f1))).setCell ⟨gb166, 2, none⟩ (.int .i64 ((rd_T46 l0 x11_1).f2))).setCell ⟨gb166, 3, none⟩ (.int .i64 ((rd_T46 l0 x11_1).f3.f0))).setCell ⟨gb166, 4, none⟩ (.int .i64 ((rd_T46 l0 x11_1).f3.f1.f0))).setCell ⟨gb166, 5, none⟩ (.int .i64 ((rd_T46 l0 x11_1).f3.f1.f1))).setCell ⟨gb166, 6, none⟩ (.slice A165_6 ((rd_T46 l0 x11_1).f3.f1.f2).length c165_6)).setCell ⟨gb166, 7, none⟩ (.string ((rd_T46 l0 x11_1).f3.f2))).setCell ⟨gb166, 8, none⟩ (.int .i64 ((rd_T46 l0 x11_1).f3.f3))) := ⟨_, rfl⟩
     replace BK166 : Aside0 (w14.heap[gb166]? = some (.cells #[.int .i64 ((rd_T46 l0 x11_1).f0), .int .i64 ((rd_T46 l0 x11_1).f1), .int .i64 ((rd_T46 l0 x11_1).f2), .int .i64 ((rd_T46 l0 x11_1).f3.f0), .int .i64 ((rd_T46 l0 x11_1).f3.f1.f0), .int .i64 ((rd_T46 l0 x11_1).f3.f1.f1), .slice A165_6 ((rd_T46 l0 x11_1).f3.f1.f2).length c165_6, .string ((rd_T46 l0 x11_1).f3.f2), .int .i64 ((rd_T46 l0 x11_1).f3.f3)] 46 (0, 0))) := ⟨by rw [hz_]; exact (My.sv_ BK166)⟩
     replace HB : Aside0 (Below w.heap.size w w14) := ⟨by rw [hz_]; repeat (first | (with_reducible first | exact HB.out | apply below_alloc | apply pw_below_drewN | apply below_drew1 | refine below_set ?_ GE166.out) | exact HB.out)⟩
     rw [← hz_]
     clear hz_
     replace BK166 := My.am (blk_drew BK166.out)
     replace HB := My.am (below_drew1 HB.out)
     refine start_ (n := 43) (S := fun w' => w'.cell? ⟨gb166, 0, none⟩ = some (.int .i64 ((rd_T46 l0 x11_1).f0)) ∧ w'.cell? ⟨gb166, 1, none⟩ = some (.int .i64 ((rd_T46 l0 x11_1).f1)) ∧ w'.cell? ⟨gb166, 2, none⟩ = some (.int .i64 ((rd_T46 l0 x11_1).f2)) ∧ w'.cell? ⟨gb166, 3, none⟩ = some (.int .i64 ((rd_T46 l0 x11_1).f3.f0)) ∧ w'.cell? ⟨gb166, 4, none⟩ = some (.int .i64 ((rd_T46 l0 x11_1).f3.f1.f0)) ∧ w'.cell? ⟨gb166, 5, none⟩ = some (.int .i64 ((rd_T46 l0 x11_1).f3.f1.f1)) ∧ w'.cell? ⟨gb166, 6, none⟩ = some (.slice A165_6 ((rd_T46 l0 x11_1).f3.f1.f2).length c165_6) ∧ w'.cell? ⟨gb166, 7, none⟩ = some (.string ((rd_T46 l0 x11_1).f3.f2)) ∧ w'.cell? ⟨gb166, 8, none⟩ = some (.int .i64 ((rd_T46 l0 x11_1).f3.f3))) (ds := []) #[false, false, false, false, false, false, false, false, false, false, false, false, false, false, false, false, false, false, false, false, false, false, false, false, false, false, false, false, false, false, false, false, false, false, false, false, false, false, false, false, false, false, false] (by kernel_rfl) rfl rfl ⟨My.b_ BK166 0, My.b_ BK166 1, My.b_ BK166 2, My.b_ BK166 3, My.b_ BK166 4, My.b_ BK166 5, My.b_ BK166 6, My.b_ BK166 7, My.b_ BK166 8⟩ (fun hHeld => ?_); refine with_tabW outbox_May.tab7 outbox_May.bits7 (fun HT_ HW_ => ?_)
     generalize w14.drew = w15 at BK166 HB hHeld ⊢
     refine My.pu_ 0 16 43 HT_.out ?_
     refine My.pv_ 2 18 43 5 HT_.out ?_
     refine My.tv_ 1 17 43 7 HT_.out HW_.out hHeld rfl rfl (by rintro w' ⟨s0, s1, s2, s3, s4, s5, s6, s7, s8⟩; go_simp; with_reducible rfl) ?_
     refine My.pu_ 3 19 43 HT_.out ?_
     refine My.pu_ 4 20 43 HT_.out ?_
     refine My.pu_ 5 21 43 HT_.out ?_
     refine My.ta_ 6 22 43 HT_.out HW_.out hHeld rfl rfl (by rintro w' ⟨s0, s1, s2, s3, s4, s5, s6, s7, s8⟩; go_simp; with_reducible rfl) ?_
     refine My.pu_ 7 23 43 HT_.out ?_
     refine My.pu_ 8 24 43 HT_.out ?_
     refine My.pu_ 9 25 43 HT_.out ?_
     refine My.pn_ 10 26 43 HT_.out ?_
     refine My.pn_ 11 27 43 HT_.out ?_
     refine My.pn_ 12 28 43 HT_.out ?_
     refine My.pu_ 13 29 43 HT_.out ?_
     refine My.pu_ 14 30 43 HT_.out ?_
     refine My.pn_ 15 31 43 HT_.out ?_
     refine My.pn_ 16 32 43 HT_.out ?_
     refine My.pn_ 17 33 43 HT_.out ?_
     refine My.pu_ 18 34 43 HT_.out ?_
     refine My.pu_ 19 35 43 HT_.out ?_
     refine My.pn_ 20 36 43 HT_.out ?_
     refine My.pn_ 21 37 43 HT_.out ?_
     refine My.pn_ 22 38 43 HT_.out ?_
     refine My.pu_ 23 39 43 HT_.out ?_
     refine My.pu_ 24 40 43 HT_.out ?_
     refine My.pn_ 25 41 43 HT_.out ?_
     refine My.pn_ 26 42 43 HT_.out ?_
     refine My.pn_ 27 43 43 HT_.out ?_
     refine My.pu_ 28 44 43 HT_.out ?_
     refine My.pu_ 29 45 43 HT_.out ?_
     refine My.pn_ 30 46 43 HT_.out ?_
     refine My.pn_ 31 47 43 HT_.out ?_
     refine My.pn_ 32 48 43 HT_.out ?_
     refine My.pn_ 33 49 43 HT_.out ?_
     refine My.pu_ 34 50 43 HT_.out ?_
     refine My.pu_ 35 51 43 HT_.out ?_
     refine My.pn_ 36 52 43 HT_.out ?_
     refine My.pn_ 37 53 43 HT_.out ?_
     refine My.pn_ 38 54 43 HT_.out ?_
     refine My.pn_ 39 55 43 HT_.out ?_
     refine My.pn_ 40 56 43 HT_.out ?_
     refine My.pn_ 41 57 43 HT_.out ?_
     refine My.pu_ 42 58 43 HT_.out ?_
     refine done_ (done_of HT_.out (by kernel_rfl)) ?_
     try go_wp2
     go_ret
     exact ⟨My.r2, (My.bl_ HB)⟩
    rw [if_neg c11] at H
    have c11b0 : decide (1000000000 < ((rd_T46 l0 x11_1).f0)) = false := decide_eq_false c11
    clear c11
    by_cases c16 : ((rd_T46 l0 x11_1).f1) < 0
    ·rw [if_pos c16] at H
     have c16b0 := decide_eq_true c16
     clear c16
     obtain rfl := Option.some.inj H
     have p165 : 0 ≤ (x11_1 : Int) := My.as_
     have q165 : x11_1 < (l0.length : Int) := My.as_
     obtain ⟨ad165, A165_6, c165_6, e165, hx165_0, hx165_1, hx165_2, hx165_3, hx165_4, hx165_5, hx165_6, hx165_7, hx165_8, hl165_6, hi165_6⟩ := at_T46 HR0.out x11_1 p165 q165
     cases e165
     replace hx165_0 := My.up HB hx165_0
     replace hx165_1 := My.up HB hx165_1
     replace hx165_2 := My.up HB hx165_2
     replace hx165_3 := My.up HB hx165_3
     replace hx165_4 := My.up HB hx165_4
     replace hx165_5 := My.up HB hx165_5
     replace hx165_6 := My.up HB hx165_6
     replace hx165_7 := My.up HB hx165_7
     replace hx165_8 := My.up HB hx165_8
     have HR165_6 := My.am hi165_6
     have HC165_6 := My.am hl165_6
     clear hi165_6 hl165_6
     replace p165 := eq_true p165
     replace q165 := eq_true q165
     try go_wp2_with (first | ((with_reducible refine gate_dst (N := 5) rfl ?_); refine My.bx 5 #[.int .i64 0, .int .i64 0, .int .i64 0, .int .i64 0, .int .i64 0, .int .i64 0, .slice none 0 0, .string (⟨#[]⟩ : ByteArray), .int .i64 0] 46 ?_; intro gb166 hg w17 hbox hb; have BK166 := My.am (hbox); have GE166 := My.nge hg (My.bl_ HB); replace HB := My.st HB hb; clear hb hbox hg; have hcz18_0 : w17.cell? ⟨gb166, 0, none⟩ = some (.int .i64 0) := My.b_ BK166 0; have hcz18_1 : w17.cell? ⟨gb166, 1, none⟩ = some (.int .i64 0) := My.b_ BK166 1; have hcz18_2 : w17.cell? ⟨gb166, 2, none⟩ = some (.int .i64 0) := My.b_ BK166 2; have hcz18_3 : w17.cell? ⟨gb166, 3, none⟩ = some (.int .i64 0) := My.b_ BK166 3; have hcz18_4 : w17.cell? ⟨gb166, 4, none⟩ = some (.int .i64 0) := My.b_ BK166 4; have hcz18_5 : w17.cell? ⟨gb166, 5, none⟩ = some (.int .i64 0) := My.b_ BK166 5; have hcz18_6 : w17.cell? ⟨gb166, 6, none⟩ = some (.slice none 0 0) := My.b_ BK166 6; have hcz18_7 : w17.cell? ⟨gb166, 7, none⟩ = some (.string (⟨#[]⟩ : ByteArray)) := My.b_ BK166 7; have hcz18_8 : w17.cell? ⟨gb166, 8, none⟩ = some (.int .i64 0) := My.b_ BK166 8; have hfz18_0 := blk_frozen BK166.out 0; have hfz18_1 := blk_frozen BK166.out 1; have hfz18_2 := blk_frozen BK166.out 2; have hfz18_3 := blk_frozen BK166.out 3; have hfz18_4 := blk_frozen BK166.out 4; have hfz18_5 := blk_frozen BK166.out 5; have hfz18_6 := blk_frozen BK166.out 6; have hfz18_7 := blk_frozen BK166.out 7; have hfz18_8 := blk_frozen BK166.out 8))
     obtain ⟨w19, hz_⟩ : ∃ z_, z_ = (((((((((w17.setCell ⟨gb166, 0, none⟩ (.int .i64 ((rd_T46 l0 x11_1).f0))).setCell ⟨gb166, 1, none⟩ (.int .i64 ((rd_T46 l0 x11_1).f1))).setCell ⟨gb166, 2, none⟩ (.int .i64 ((rd_T46 l0 x11_1).f2))).setCell ⟨gb166, 3, none⟩ (.int .i64 ((rd_T46 l0 x11_1).f3.f0))).setCell ⟨gb166, 4, none⟩ (.int .i64 ((rd_T46 l0 x11_1).f3.f1.f0))).setCell ⟨gb166, 5, none⟩ (.int .i64 ((rd_T46 l0 x11_1).f3.f1.f1))).setCell ⟨gb166, 6, none⟩ (.slice A165_6 ((rd_T46 l0 x11_1).f3.f1.f2).length c165_6)).setCell ⟨gb166, 7, none⟩ (.string ((rd_T46 l0 x11_1).f3.f2))).setCell ⟨gb166, 8, none⟩ (.int .i64 ((rd_T46 l0 x11_1).f3.f3))) := ⟨_, rfl⟩
     replace BK166 : Aside0 (w19.heap[gb166]? = some (.cells #[.int .i64 ((rd_T46 l0 x11_1).f0), .int .i64 ((rd_T46 l0 x11_1).f1), .int .i64 ((rd_T46 l0 x11_1).f2), .int .i64 ((rd_T46 l0 x11_1).f3.f0), .int .i64 ((rd_T46 l0 x11_1).f3.f1.f0), .int .i64 ((rd_T46 l0 x11_1).f3.f1.f1), .slice A165_6 ((rd_T46 l0 x11_1).f3.f1.f2).length c165_6, .string ((rd_T46 l0 x11_1).f3.f2), .int .i64 ((rd_T46 l0 x11_1).f3.f3)] 46 (0, 0))) := ⟨by rw [hz_]; exact (My.sv_ BK166)⟩
     replace HB : Aside0 (Below w.heap.size w w19) := ⟨by rw [hz_]; repeat (first | (with_reducible first | exact HB.out | apply below_alloc | apply pw_below_drewN | apply below_drew1 | refine below_set ?_ GE166.out) | exact HB.out)⟩
     rw [← hz_]
     clear hz_
     replace BK166 := My.am (blk_drew BK166.out)
     replace HB := My.am (below_drew1 HB.out)
     refine start_ (n := 43) (S := fun w' => w'.cell? ⟨gb166, 0, none⟩ = some (.int .i64 ((rd_T46 l0 x11_1).f0)) ∧ w'.cell? ⟨gb166, 1, none⟩ = some (.int .i64 ((rd_T46 l0 x11_1).f1)) ∧ w'.cell? ⟨gb166, 2, none⟩ = some (.int .i64 ((rd_T46 l0 x11_1).f2)) ∧ w'.cell? ⟨gb166, 3, none⟩ = some (.int .i64 ((rd_T46 l0 x11_1).f3.f0)) ∧ w'.cell? ⟨gb166, 4, none⟩ = some (.int .i64 ((rd_T46 l0 x11_1).f3.f1.f0)) ∧ w'.cell? ⟨gb166, 5, none⟩ = some (.int .i64 ((rd_T46 l0 x11_1).f3.f1.f1)) ∧ w'.cell? ⟨gb166, 6, none⟩ = some (.slice A165_6 ((rd_T46 l0 x11_1).f3.f1.f2).length c165_6) ∧ w'.cell? ⟨gb166, 7, none⟩ = some (.string ((rd_T46 l0 x11_1).f3.f2)) ∧ w'.cell? ⟨gb166, 8, none⟩ = some (.int .i64 ((rd_T46 l0 x11_1).f3.f3))) (ds := []) #[false, false, false, false, false, false, false, false, false, false, false, false, false, false, false, false, false, false, false, false, false, false, false, false, false, false, false, false, false, false, false, false, false, false, false, false, false, false, false, false, false, false, false] (by kernel_rfl) rfl rfl ⟨My.b_ BK166 0, My.b_ BK166 1, My.b_ BK166 2, My.b_ BK166 3, My.b_ BK166 4, My.b_ BK166 5, My.b_ BK166 6, My.b_ BK166 7, My.b_ BK166 8⟩ (fun hHeld => ?_); refine with_tabW outbox_May.tab7 outbox_May.bits7 (fun HT_ HW_ => ?_)
     generalize w19.drew = w20 at BK166 HB hHeld ⊢
     refine My.pu_ 0 16 43 HT_.out ?_
     refine My.pv_ 2 18 43 5 HT_.out ?_
     refine My.tv_ 1 17 43 7 HT_.out HW_.out hHeld rfl rfl (by rintro w' ⟨s0, s1, s2, s3, s4, s5, s6, s7, s8⟩; go_simp; with_reducible rfl) ?_
     refine My.pu_ 3 19 43 HT_.out ?_
     refine My.pu_ 4 20 43 HT_.out ?_
     refine My.pu_ 5 21 43 HT_.out ?_
     refine My.ta_ 6 22 43 HT_.out HW_.out hHeld rfl rfl (by rintro w' ⟨s0, s1, s2, s3, s4, s5, s6, s7, s8⟩; go_simp; with_reducible rfl) ?_
     refine My.pu_ 7 23 43 HT_.out ?_
     refine My.pu_ 8 24 43 HT_.out ?_
     refine My.pu_ 9 25 43 HT_.out ?_
     refine My.pu_ 10 26 43 HT_.out ?_
     refine My.ta_ 11 27 43 HT_.out HW_.out hHeld rfl rfl (by rintro w' ⟨s0, s1, s2, s3, s4, s5, s6, s7, s8⟩; go_simp; with_reducible rfl) ?_
     refine My.pu_ 12 28 43 HT_.out ?_
     refine My.pu_ 13 29 43 HT_.out ?_
     refine My.pu_ 14 30 43 HT_.out ?_
     refine My.pn_ 15 31 43 HT_.out ?_
     refine My.pn_ 16 32 43 HT_.out ?_
     refine My.pn_ 17 33 43 HT_.out ?_
     refine My.pu_ 18 34 43 HT_.out ?_
     refine My.pu_ 19 35 43 HT_.out ?_
     refine My.pn_ 20 36 43 HT_.out ?_
     refine My.pn_ 21 37 43 HT_.out ?_
     refine My.pn_ 22 38 43 HT_.out ?_
     refine My.pu_ 23 39 43 HT_.out ?_
     refine My.pu_ 24 40 43 HT_.out ?_
     refine My.pn_ 25 41 43 HT_.out ?_
     refine My.pn_ 26 42 43 HT_.out ?_
     refine My.pn_ 27 43 43 HT_.out ?_
     refine My.pu_ 28 44 43 HT_.out ?_
     refine My.pu_ 29 45 43 HT_.out ?_
     refine My.pn_ 30 46 43 HT_.out ?_
     refine My.pn_ 31 47 43 HT_.out ?_
     refine My.pn_ 32 48 43 HT_.out ?_
     refine My.pn_ 33 49 43 HT_.out ?_
     refine My.pu_ 34 50 43 HT_.out ?_
     refine My.pu_ 35 51 43 HT_.out ?_
     refine My.pn_ 36 52 43 HT_.out ?_
     refine My.pn_ 37 53 43 HT_.out ?_
     refine My.pn_ 38 54 43 HT_.out ?_
     refine My.pn_ 39 55 43 HT_.out ?_
     refine My.pn_ 40 56 43 HT_.out ?_
     refine My.pn_ 41 57 43 HT_.out ?_
     refine My.pu_ 42 58 43 HT_.out ?_
     refine done_ (done_of HT_.out (by kernel_rfl)) ?_
     try go_wp2
     go_ret
     exact ⟨My.r2, (My.bl_ HB)⟩
    rw [if_neg c16] at H
    have c16b0 := decide_eq_false c16
    clear c16
    by_cases c21 : ((rd_T46 l0 x11_1).f1) > 1000000016
    ·rw [if_pos c21] at H
     have c21b0 : decide (1000000016 < ((rd_T46 l0 x11_1).f1)) = true := decide_eq_true c21
     clear c21
     obtain rfl := Option.some.inj H
     have p165 : 0 ≤ (x11_1 : Int) := My.as_
     have q165 : x11_1 < (l0.length : Int) := My.as_
     obtain ⟨ad165, A165_6, c165_6, e165, hx165_0, hx165_1, hx165_2, hx165_3, hx165_4, hx165_5, hx165_6, hx165_7, hx165_8, hl165_6, hi165_6⟩ := at_T46 HR0.out x11_1 p165 q165
     cases e165
     replace hx165_0 := My.up HB hx165_0
     replace hx165_1 := My.up HB hx165_1
     replace hx165_2 := My.up HB hx165_2
     replace hx165_3 := My.up HB hx165_3
     replace hx165_4 := My.up HB hx165_4
     replace hx165_5 := My.up HB hx165_5
     replace hx165_6 := My.up HB hx165_6
     replace hx165_7 := My.up HB hx165_7
     replace hx165_8 := My.up HB hx165_8
     have HR165_6 := My.am hi165_6
     have HC165_6 := My.am hl165_6
     clear hi165_6 hl165_6
     replace p165 := eq_true p165
     replace q165 := eq_true q165
     try go_wp2_with (first | ((with_reducible refine gate_dst (N := 5) rfl ?_); refine My.bx 5 #[.int .i64 0, .int .i64 0, .int .i64 0, .int .i64 0, .int .i64 0, .int .i64 0, .slice none 0 0, .string (⟨#[]⟩ : ByteArray), .int .i64 0] 46 ?_; intro gb166 hg w22 hbox hb; have BK166 := My.am (hbox); have GE166 := My.nge hg (My.bl_ HB); replace HB := My.st HB hb; clear hb hbox hg; have hcz23_0 : w22.cell? ⟨gb166, 0, none⟩ = some (.int .i64 0) := My.b_ BK166 0; have hcz23_1 : w22.cell? ⟨gb166, 1, none⟩ = some (.int .i64 0) := My.b_ BK166 1; have hcz23_2 : w22.cell? ⟨gb166, 2, none⟩ = some (.int .i64 0) := My.b_ BK166 2; have hcz23_3 : w22.cell? ⟨gb166, 3, none⟩ = some (.int .i64 0) := My.b_ BK166 3; have hcz23_4 : w22.cell? ⟨gb166, 4, none⟩ = some (.int .i64 0) := My.b_ BK166 4; have hcz23_5 : w22.cell? ⟨gb166, 5, none⟩ = some (.int .i64 0) := My.b_ BK166 5; have hcz23_6 : w22.cell? ⟨gb166, 6, none⟩ = some (.slice none 0 0) := My.b_ BK166 6; have hcz23_7 : w22.cell? ⟨gb166, 7, none⟩ = some (.string (⟨#[]⟩ : ByteArray)) := My.b_ BK166 7; have hcz23_8 : w22.cell? ⟨gb166, 8, none⟩ = some (.int .i64 0) := My.b_ BK166 8; have hfz23_0 := blk_frozen BK166.out 0; have hfz23_1 := blk_frozen BK166.out 1; have hfz23_2 := blk_frozen BK166.out 2; have hfz23_3 := blk_frozen BK166.out 3; have hfz23_4 := blk_frozen BK166.out 4; have hfz23_5 := blk_frozen BK166.out 5; have hfz23_6 := blk_frozen BK166.out 6; have hfz23_7 := blk_frozen BK166.out 7; have hfz23_8 := blk_frozen BK166.out 8))
     obtain ⟨w24, hz_⟩ : ∃ z_, z_ = (((((((((w22.setCell ⟨gb166, 0, none⟩ (.int .i64 ((rd_T46 l0 x11_1).f0))).setCell ⟨gb166, 1, none⟩ (.int .i64 ((rd_T46 l0 x11_1).f1))).setCell ⟨gb166, 2, none⟩ (.int .i64 ((rd_T46 l0 x11_1).f2))).setCell ⟨gb166, 3, none⟩ (.int .i64 ((rd_T46 l0 x11_1).f3.f0))).setCell ⟨gb166, 4, none⟩ (.int .i64 ((rd_T46 l0 x11_1).f3.f1.f0))).setCell ⟨gb166, 5, none⟩ (.int .i64 ((rd_T46 l0 x11_1).f3.f1.f1))).setCell ⟨gb166, 6, none⟩ (.slice A165_6 ((rd_T46 l0 x11_1).f3.f1.f2).length c165_6)).setCell ⟨gb166, 7, none⟩ (.string ((rd_T46 l0 x11_1).f3.f2))).setCell ⟨gb166, 8, none⟩ (.int .i64 ((rd_T46 l0 x11_1).f3.f3))) := ⟨_, rfl⟩
     replace BK166 : Aside0 (w24.heap[gb166]? = some (.cells #[.int .i64 ((rd_T46 l0 x11_1).f0), .int .i64 ((rd_T46 l0 x11_1).f1), .int .i64 ((rd_T46 l0 x11_1).f2), .int .i64 ((rd_T46 l0 x11_1).f3.f0), .int .i64 ((rd_T46 l0 x11_1).f3.f1.f0), .int .i64 ((rd_T46 l0 x11_1).f3.f1.f1), .slice A165_6 ((rd_T46 l0 x11_1).f3.f1.f2).length c165_6, .string ((rd_T46 l0 x11_1).f3.f2), .int .i64 ((rd_T46 l0 x11_1).f3.f3)] 46 (0, 0))) := ⟨by rw [hz_]; exact (My.sv_ BK166)⟩
     replace HB : Aside0 (Below w.heap.size w w24) := ⟨by rw [hz_]; repeat (first | (with_reducible first | exact HB.out | apply below_alloc | apply pw_below_drewN | apply below_drew1 | refine below_set ?_ GE166.out) | exact HB.out)⟩
     rw [← hz_]
     clear hz_
     replace BK166 := My.am (blk_drew BK166.out)
     replace HB := My.am (below_drew1 HB.out)
     refine start_ (n := 43) (S := fun w' => w'.cell? ⟨gb166, 0, none⟩ = some (.int .i64 ((rd_T46 l0 x11_1).f0)) ∧ w'.cell? ⟨gb166, 1, none⟩ = some (.int .i64 ((rd_T46 l0 x11_1).f1)) ∧ w'.cell? ⟨gb166, 2, none⟩ = some (.int .i64 ((rd_T46 l0 x11_1).f2)) ∧ w'.cell? ⟨gb166, 3, none⟩ = some (.int .i64 ((rd_T46 l0 x11_1).f3.f0)) ∧ w'.cell? ⟨gb166, 4, none⟩ = some (.int .i64 ((rd_T46 l0 x11_1).f3.f1.f0)) ∧ w'.cell? ⟨gb166, 5, none⟩ = some (.int .i64 ((rd_T46 l0 x11_1).f3.f1.f1)) ∧ w'.cell? ⟨gb166, 6, none⟩ = some (.slice A165_6 ((rd_T46 l0 x11_1).f3.f1.f2).length c165_6) ∧ w'.cell? ⟨gb166, 7, none⟩ = some (.string ((rd_T46 l0 x11_1).f3.f2)) ∧ w'.cell? ⟨gb166, 8, none⟩ = some (.int .i64 ((rd_T46 l0 x11_1).f3.f3))) (ds := []) #[false, false, false, false, false, false, false, false, false, false, false, false, false, false, false, false, false, false, false, false, false, false, false, false, false, false, false, false, false, false, false, false, false, false, false, false, false, false, false, false, false, false, false] (by kernel_rfl) rfl rfl ⟨My.b_ BK166 0, My.b_ BK166 1, My.b_ BK166 2, My.b_ BK166 3, My.b_ BK166 4, My.b_ BK166 5, My.b_ BK166 6, My.b_ BK166 7, My.b_ BK166 8⟩ (fun hHeld => ?_); refine with_tabW outbox_May.tab7 outbox_May.bits7 (fun HT_ HW_ => ?_)
     generalize w24.drew = w25 at BK166 HB hHeld ⊢
     refine My.pu_ 0 16 43 HT_.out ?_
     refine My.pv_ 2 18 43 5 HT_.out ?_
     refine My.tv_ 1 17 43 7 HT_.out HW_.out hHeld rfl rfl (by rintro w' ⟨s0, s1, s2, s3, s4, s5, s6, s7, s8⟩; go_simp; with_reducible rfl) ?_
     refine My.pu_ 3 19 43 HT_.out ?_
     refine My.pu_ 4 20 43 HT_.out ?_
     refine My.pu_ 5 21 43 HT_.out ?_
     refine My.ta_ 6 22 43 HT_.out HW_.out hHeld rfl rfl (by rintro w' ⟨s0, s1, s2, s3, s4, s5, s6, s7, s8⟩; go_simp; with_reducible rfl) ?_
     refine My.pu_ 7 23 43 HT_.out ?_
     refine My.pu_ 8 24 43 HT_.out ?_
     refine My.pu_ 9 25 43 HT_.out ?_
     refine My.pu_ 10 26 43 HT_.out ?_
     refine My.ta_ 11 27 43 HT_.out HW_.out hHeld rfl rfl (by rintro w' ⟨s0, s1, s2, s3, s4, s5, s6, s7, s8⟩; go_simp; with_reducible rfl) ?_
     refine My.pu_ 12 28 43 HT_.out ?_
     refine My.pu_ 13 29 43 HT_.out ?_
     refine My.pu_ 14 30 43 HT_.out ?_
     refine My.pu_ 15 31 43 HT_.out ?_
     refine My.ta_ 16 32 43 HT_.out HW_.out hHeld rfl rfl (by rintro w' ⟨s0, s1, s2, s3, s4, s5, s6, s7, s8⟩; go_simp; with_reducible rfl) ?_
     refine My.pu_ 17 33 43 HT_.out ?_
     refine My.pu_ 18 34 43 HT_.out ?_
     refine My.pu_ 19 35 43 HT_.out ?_
     refine My.pn_ 20 36 43 HT_.out ?_
     refine My.pn_ 21 37 43 HT_.out ?_
     refine My.pn_ 22 38 43 HT_.out ?_
     refine My.pu_ 23 39 43 HT_.out ?_
     refine My.pu_ 24 40 43 HT_.out ?_
     refine My.pn_ 25 41 43 HT_.out ?_
     refine My.pn_ 26 42 43 HT_.out ?_
     refine My.pn_ 27 43 43 HT_.out ?_
     refine My.pu_ 28 44 43 HT_.out ?_
     refine My.pu_ 29 45 43 HT_.out ?_
     refine My.pn_ 30 46 43 HT_.out ?_
     refine My.pn_ 31 47 43 HT_.out ?_
     refine My.pn_ 32 48 43 HT_.out ?_
     refine My.pn_ 33 49 43 HT_.out ?_
     refine My.pu_ 34 50 43 HT_.out ?_
     refine My.pu_ 35 51 43 HT_.out ?_
     refine My.pn_ 36 52 43 HT_.out ?_
     refine My.pn_ 37 53 43 HT_.out ?_
     refine My.pn_ 38 54 43 HT_.out ?_
     refine My.pn_ 39 55 43 HT_.out ?_
     refine My.pn_ 40 56 43 HT_.out ?_
     refine My.pn_ 41 57 43 HT_.out ?_
     refine My.pu_ 42 58 43 HT_.out ?_
     refine done_ (done_of HT_.out (by kernel_rfl)) ?_
     try go_wp2
     go_ret
     exact ⟨My.r2, (My.bl_ HB)⟩
    rw [if_neg c21] at H
    have c21b0 : decide (1000000016 < ((rd_T46 l0 x11_1).f1)) = false := decide_eq_false c21
    clear c21
    by_cases c26 : ((rd_T46 l0 x11_1).f2) < 0
    ·rw [if_pos c26] at H
     have c26b0 := decide_eq_true c26
     clear c26
     obtain rfl := Option.some.inj H
     have p165 : 0 ≤ (x11_1 : Int) := My.as_
     have q165 : x11_1 < (l0.length : Int) := My.as_
     obtain ⟨ad165, A165_6, c165_6, e165, hx165_0, hx165_1, hx165_2, hx165_3, hx165_4, hx165_5, hx165_6, hx165_7, hx165_8, hl165_6, hi165_6⟩ := at_T46 HR0.out x11_1 p165 q165
     cases e165
     replace hx165_0 := My.up HB hx165_0
     replace hx165_1 := My.up HB hx165_1
     replace hx165_2 := My.up HB hx165_2
     replace hx165_3 := My.up HB hx165_3
     replace hx165_4 := My.up HB hx165_4
     replace hx165_5 := My.up HB hx165_5
     replace hx165_6 := My.up HB hx165_6
     replace hx165_7 := My.up HB hx165_7
     replace hx165_8 := My.up HB hx165_8
     have HR165_6 := My.am hi165_6
     have HC165_6 := My.am hl165_6
     clear hi165_6 hl165_6
     replace p165 := eq_true p165
     replace q165 := eq_true q165
     try go_wp2_with (first | ((with_reducible refine gate_dst (N := 5) rfl ?_); refine My.bx 5 #[.int .i64 0, .int .i64 0, .int .i64 0, .int .i64 0, .int .i64 0, .int .i64 0, .slice none 0 0, .string (⟨#[]⟩ : ByteArray), .int .i64 0] 46 ?_; intro gb166 hg w27 hbox hb; have BK166 := My.am (hbox); have GE166 := My.nge hg (My.bl_ HB); replace HB := My.st HB hb; clear hb hbox hg; have hcz28_0 : w27.cell? ⟨gb166, 0, none⟩ = some (.int .i64 0) := My.b_ BK166 0; have hcz28_1 : w27.cell? ⟨gb166, 1, none⟩ = some (.int .i64 0) := My.b_ BK166 1; have hcz28_2 : w27.cell? ⟨gb166, 2, none⟩ = some (.int .i64 0) := My.b_ BK166 2; have hcz28_3 : w27.cell? ⟨gb166, 3, none⟩ = some (.int .i64 0) := My.b_ BK166 3; have hcz28_4 : w27.cell? ⟨gb166, 4, none⟩ = some (.int .i64 0) := My.b_ BK166 4; have hcz28_5 : w27.cell? ⟨gb166, 5, none⟩ = some (.int .i64 0) := My.b_ BK166 5; have hcz28_6 : w27.cell? ⟨gb166, 6, none⟩ = some (.slice none 0 0) := My.b_ BK166 6; have hcz28_7 : w27.cell? ⟨gb166, 7, none⟩ = some (.string (⟨#[]⟩ : ByteArray)) := My.b_ BK166 7; have hcz28_8 : w27.cell? ⟨gb166, 8, none⟩ = some (.int .i64 0) := My.b_ BK166 8; have hfz28_0 := blk_frozen BK166.out 0; have hfz28_1 := blk_frozen BK166.out 1; have hfz28_2 := blk_frozen BK166.out 2; have hfz28_3 := blk_frozen BK166.out 3; have hfz28_4 := blk_frozen BK166.out 4; have hfz28_5 := blk_frozen BK166.out 5; have hfz28_6 := blk_frozen BK166.out 6; have hfz28_7 := blk_frozen BK166.out 7; have hfz28_8 := blk_frozen BK166.out 8))
     obtain ⟨w29, hz_⟩ : ∃ z_, z_ = (((((((((w27.setCell ⟨gb166, 0, none⟩ (.int .i64 ((rd_T46 l0 x11_1).f0))).setCell ⟨gb166, 1, none⟩ (.int .i64 ((rd_T46 l0 x11_1).f1))).setCell ⟨gb166, 2, none⟩ (.int .i64 ((rd_T46 l0 x11_1).f2))).setCell ⟨gb166, 3, none⟩ (.int .i64 ((rd_T46 l0 x11_1).f3.f0))).setCell ⟨gb166, 4, none⟩ (.int .i64 ((rd_T46 l0 x11_1).f3.f1.f0))).setCell ⟨gb166, 5, none⟩ (.int .i64 ((rd_T46 l0 x11_1).f3.f1.f1))).setCell ⟨gb166, 6, none⟩ (.slice A165_6 ((rd_T46 l0 x11_1).f3.f1.f2).length c165_6)).setCell ⟨gb166, 7, none⟩ (.string ((rd_T46 l0 x11_1).f3.f2))).setCell ⟨gb166, 8, none⟩ (.int .i64 ((rd_T46 l0 x11_1).f3.f3))) := ⟨_, rfl⟩
     replace BK166 : Aside0 (w29.heap[gb166]? = some (.cells #[.int .i64 ((rd_T46 l0 x11_1).f0), .int .i64 ((rd_T46 l0 x11_1).f1), .int .i64 ((rd_T46 l0 x11_1).f2), .int .i64 ((rd_T46 l0 x11_1).f3.f0), .int .i64 ((rd_T46 l0 x11_1).f3.f1.f0), .int .i64 ((rd_T46 l0 x11_1).f3.f1.f1), .slice A165_6 ((rd_T46 l0 x11_1).f3.f1.f2).length c165_6, .string ((rd_T46 l0 x11_1).f3.f2), .int .i64 ((rd_T46 l0 x11_1).f3.f3)] 46 (0, 0))) := ⟨by rw [hz_]; exact (My.sv_ BK166)⟩
     replace HB : Aside0 (Below w.heap.size w w29) := ⟨by rw [hz_]; repeat (first | (with_reducible first | exact HB.out | apply below_alloc | apply pw_below_drewN | apply below_drew1 | refine below_set ?_ GE166.out) | exact HB.out)⟩
     rw [← hz_]
     clear hz_
     replace BK166 := My.am (blk_drew BK166.out)
     replace HB := My.am (below_drew1 HB.out)
     refine start_ (n := 43) (S := fun w' => w'.cell? ⟨gb166, 0, none⟩ = some (.int .i64 ((rd_T46 l0 x11_1).f0)) ∧ w'.cell? ⟨gb166, 1, none⟩ = some (.int .i64 ((rd_T46 l0 x11_1).f1)) ∧ w'.cell? ⟨gb166, 2, none⟩ = some (.int .i64 ((rd_T46 l0 x11_1).f2)) ∧ w'.cell? ⟨gb166, 3, none⟩ = some (.int .i64 ((rd_T46 l0 x11_1).f3.f0)) ∧ w'.cell? ⟨gb166, 4, none⟩ = some (.int .i64 ((rd_T46 l0 x11_1).f3.f1.f0)) ∧ w'.cell? ⟨gb166, 5, none⟩ = some (.int .i64 ((rd_T46 l0 x11_1).f3.f1.f1)) ∧ w'.cell? ⟨gb166, 6, none⟩ = some (.slice A165_6 ((rd_T46 l0 x11_1).f3.f1.f2).length c165_6) ∧ w'.cell? ⟨gb166, 7, none⟩ = some (.string ((rd_T46 l0 x11_1).f3.f2)) ∧ w'.cell? ⟨gb166, 8, none⟩ = some (.int .i64 ((rd_T46 l0 x11_1).f3.f3))) (ds := []) #[false, false, false, false, false, false, false, false, false, false, false, false, false, false, false, false, false, false, false, false, false, false, false, false, false, false, false, false, false, false, false, false, false, false, false, false, false, false, false, false, false, false, false] (by kernel_rfl) rfl rfl ⟨My.b_ BK166 0, My.b_ BK166 1, My.b_ BK166 2, My.b_ BK166 3, My.b_ BK166 4, My.b_ BK166 5, My.b_ BK166 6, My.b_ BK166 7, My.b_ BK166 8⟩ (fun hHeld => ?_); refine with_tabW outbox_May.tab7 outbox_May.bits7 (fun HT_ HW_ => ?_)
     generalize w29.drew = w30 at BK166 HB hHeld ⊢
     refine My.pu_ 0 16 43 HT_.out ?_
     refine My.pv_ 2 18 43 5 HT_.out ?_
     refine My.tv_ 1 17 43 7 HT_.out HW_.out hHeld rfl rfl (by rintro w' ⟨s0, s1, s2, s3, s4, s5, s6, s7, s8⟩; go_simp; with_reducible rfl) ?_
     refine My.pu_ 3 19 43 HT_.out ?_
     refine My.pu_ 4 20 43 HT_.out ?_
     refine My.pu_ 5 21 43 HT_.out ?_
     refine My.ta_ 6 22 43 HT_.out HW_.out hHeld rfl rfl (by rintro w' ⟨s0, s1, s2, s3, s4, s5, s6, s7, s8⟩; go_simp; with_reducible rfl) ?_
     refine My.pu_ 7 23 43 HT_.out ?_
     refine My.pu_ 8 24 43 HT_.out ?_
     refine My.pu_ 9 25 43 HT_.out ?_
     refine My.pu_ 10 26 43 HT_.out ?_
     refine My.ta_ 11 27 43 HT_.out HW_.out hHeld rfl rfl (by rintro w' ⟨s0, s1, s2, s3, s4, s5, s6, s7, s8⟩; go_simp; with_reducible rfl) ?_
     refine My.pu_ 12 28 43 HT_.out ?_
     refine My.pu_ 13 29 43 HT_.out ?_
     refine My.pu_ 14 30 43 HT_.out ?_
     refine My.pu_ 15 31 43 HT_.out ?_
     refine My.ta_ 16 32 43 HT_.out HW_.out hHeld rfl rfl (by rintro w' ⟨s0, s1, s2, s3, s4, s5, s6, s7, s8⟩; go_simp; with_reducible rfl) ?_
     refine My.pu_ 17 33 43 HT_.out ?_
     refine My.pu_ 18 34 43 HT_.out ?_
     refine My.pu_ 19 35 43 HT_.out ?_
     refine My.pu_ 20 36 43 HT_.out ?_
     refine My.ta_ 21 37 43 HT_.out HW_.out hHeld rfl rfl (by rintro w' ⟨s0, s1, s2, s3, s4, s5, s6, s7, s8⟩; go_simp; with_reducible rfl) ?_
     refine My.pu_ 22 38 43 HT_.out ?_
     refine My.pu_ 23 39 43 HT_.out ?_
     refine My.pu_ 24 40 43 HT_.out ?_
     refine My.pn_ 25 41 43 HT_.out ?_
     refine My.pn_ 26 42 43 HT_.out ?_
     refine My.pn_ 27 43 43 HT_.out ?_
     refine My.pu_ 28 44 43 HT_.out ?_
     refine My.pu_ 29 45 43 HT_.out ?_
     refine My.pn_ 30 46 43 HT_.out ?_
     refine My.pn_ 31 47 43 HT_.out ?_
     refine My.pn_ 32 48 43 HT_.out ?_
     refine My.pn_ 33 49 43 HT_.out ?_
     refine My.pu_ 34 50 43 HT_.out ?_
     refine My.pu_ 35 51 43 HT_.out ?_
     refine My.pn_ 36 52 43 HT_.out ?_
     refine My.pn_ 37 53 43 HT_.out ?_
     refine My.pn_ 38 54 43 HT_.out ?_
     refine My.pn_ 39 55 43 HT_.out ?_
     refine My.pn_ 40 56 43 HT_.out ?_
     refine My.pn_ 41 57 43 HT_.out ?_
     refine My.pu_ 42 58 43 HT_.out ?_
     refine done_ (done_of HT_.out (by kernel_rfl)) ?_
     try go_wp2
     go_ret
     exact ⟨My.r2, (My.bl_ HB)⟩
    rw [if_neg c26] at H
    have c26b0 := decide_eq_false c26
    clear c26
    by_cases c31 : ((rd_T46 l0 x11_1).f2) > 1000000
    ·rw [if_pos c31] at H
     have c31b0 : decide (1000000 < ((rd_T46 l0 x11_1).f2)) = true := decide_eq_true c31
     clear c31
     obtain rfl := Option.some.inj H
     have p165 : 0 ≤ (x11_1 : Int) := My.as_
     have q165 : x11_1 < (l0.length : Int) := My.as_
     obtain ⟨ad165, A165_6, c165_6, e165, hx165_0, hx165_1, hx165_2, hx165_3, hx165_4, hx165_5, hx165_6, hx165_7, hx165_8, hl165_6, hi165_6⟩ := at_T46 HR0.out x11_1 p165 q165
     cases e165
     replace hx165_0 := My.up HB hx165_0
     replace hx165_1 := My.up HB hx165_1
     replace hx165_2 := My.up HB hx165_2
     replace hx165_3 := My.up HB hx165_3
     replace hx165_4 := My.up HB hx165_4
     replace hx165_5 := My.up HB hx165_5
     replace hx165_6 := My.up HB hx165_6
     replace hx165_7 := My.up HB hx165_7
     replace hx165_8 := My.up HB hx165_8
     have HR165_6 := My.am hi165_6
     have HC165_6 := My.am hl165_6
     clear hi165_6 hl165_6
     replace p165 := eq_true p165
     replace q165 := eq_true q165
     try go_wp2_with (first | ((with_reducible refine gate_dst (N := 5) rfl ?_); refine My.bx 5 #[.int .i64 0, .int .i64 0, .int .i64 0, .int .i64 0, .int .i64 0, .int .i64 0, .slice none 0 0, .string (⟨#[]⟩ : ByteArray), .int .i64 0] 46 ?_; intro gb166 hg w32 hbox hb; have BK166 := My.am (hbox); have GE166 := My.nge hg (My.bl_ HB); replace HB := My.st HB hb; clear hb hbox hg; have hcz33_0 : w32.cell? ⟨gb166, 0, none⟩ = some (.int .i64 0) := My.b_ BK166 0; have hcz33_1 : w32.cell? ⟨gb166, 1, none⟩ = some (.int .i64 0) := My.b_ BK166 1; have hcz33_2 : w32.cell? ⟨gb166, 2, none⟩ = some (.int .i64 0) := My.b_ BK166 2; have hcz33_3 : w32.cell? ⟨gb166, 3, none⟩ = some (.int .i64 0) := My.b_ BK166 3; have hcz33_4 : w32.cell? ⟨gb166, 4, none⟩ = some (.int .i64 0) := My.b_ BK166 4; have hcz33_5 : w32.cell? ⟨gb166, 5, none⟩ = some (.int .i64 0) := My.b_ BK166 5; have hcz33_6 : w32.cell? ⟨gb166, 6, none⟩ = some (.slice none 0 0) := My.b_ BK166 6; have hcz33_7 : w32.cell? ⟨gb166, 7, none⟩ = some (.string (⟨#[]⟩ : ByteArray)) := My.b_ BK166 7; have hcz33_8 : w32.cell? ⟨gb166, 8, none⟩ = some (.int .i64 0) := My.b_ BK166 8; have hfz33_0 := blk_frozen BK166.out 0; have hfz33_1 := blk_frozen BK166.out 1; have hfz33_2 := blk_frozen BK166.out 2; have hfz33_3 := blk_frozen BK166.out 3; have hfz33_4 := blk_frozen BK166.out 4; have hfz33_5 := blk_frozen BK166.out 5; have hfz33_6 := blk_frozen BK166.out 6; have hfz33_7 := blk_frozen BK166.out 7; have hfz33_8 := blk_frozen BK166.out 8))
     obtain ⟨w34, hz_⟩ : ∃ z_, z_ = (((((((((w32.setCell ⟨gb166, 0, none⟩ (.int .i64 ((rd_T46 l0 x11_1).f0))).setCell ⟨gb166, 1, none⟩ (.int .i64 ((rd_T46 l0 x11_1).f1))).setCell ⟨gb166, 2, none⟩ (.int .i64 ((rd_T46 l0 x11_1).f2))).setCell ⟨gb166, 3, none⟩ (.int .i64 ((rd_T46 l0 x11_1).f3.f0))).setCell ⟨gb166, 4, none⟩ (.int .i64 ((rd_T46 l0 x11_1).f3.f1.f0))).setCell ⟨gb166, 5, none⟩ (.int .i64 ((rd_T46 l0 x11_1).f3.f1.f1))).setCell ⟨gb166, 6, none⟩ (.slice A165_6 ((rd_T46 l0 x11_1).f3.f1.f2).length c165_6)).setCell ⟨gb166, 7, none⟩ (.string ((rd_T46 l0 x11_1).f3.f2))).setCell ⟨gb166, 8, none⟩ (.int .i64 ((rd_T46 l0 x11_1).f3.f3))) := ⟨_, rfl⟩
     replace BK166 : Aside0 (w34.heap[gb166]? = some (.cells #[.int .i64 ((rd_T46 l0 x11_1).f0), .int .i64 ((rd_T46 l0 x11_1).f1), .int .i64 ((rd_T46 l0 x11_1).f2), .int .i64 ((rd_T46 l0 x11_1).f3.f0), .int .i64 ((rd_T46 l0 x11_1).f3.f1.f0), .int .i64 ((rd_T46 l0 x11_1).f3.f1.f1), .slice A165_6 ((rd_T46 l0 x11_1).f3.f1.f2).length c165_6, .string ((rd_T46 l0 x11_1).f3.f2), .int .i64 ((rd_T46 l0 x11_1).f3.f3)] 46 (0, 0))) := ⟨by rw [hz_]; exact (My.sv_ BK166)⟩
     replace HB : Aside0 (Below w.heap.size w w34) := ⟨by rw [hz_]; repeat (first | (with_reducible first | exact HB.out | apply below_alloc | apply pw_below_drewN | apply below_drew1 | refine below_set ?_ GE166.out) | exact HB.out)⟩
     rw [← hz_]
     clear hz_
     replace BK166 := My.am (blk_drew BK166.out)
     replace HB := My.am (below_drew1 HB.out)
     refine start_ (n := 43) (S := fun w' => w'.cell? ⟨gb166, 0, none⟩ = some (.int .i64 ((rd_T46 l0 x11_1).f0)) ∧ w'.cell? ⟨gb166, 1, none⟩ = some (.int .i64 ((rd_T46 l0 x11_1).f1)) ∧ w'.cell? ⟨gb166, 2, none⟩ = some (.int .i64 ((rd_T46 l0 x11_1).f2)) ∧ w'.cell? ⟨gb166, 3, none⟩ = some (.int .i64 ((rd_T46 l0 x11_1).f3.f0)) ∧ w'.cell? ⟨gb166, 4, none⟩ = some (.int .i64 ((rd_T46 l0 x11_1).f3.f1.f0)) ∧ w'.cell? ⟨gb166, 5, none⟩ = some (.int .i64 ((rd_T46 l0 x11_1).f3.f1.f1)) ∧ w'.cell? ⟨gb166, 6, none⟩ = some (.slice A165_6 ((rd_T46 l0 x11_1).f3.f1.f2).length c165_6) ∧ w'.cell? ⟨gb166, 7, none⟩ = some (.string ((rd_T46 l0 x11_1).f3.f2)) ∧ w'.cell? ⟨gb166, 8, none⟩ = some (.int .i64 ((rd_T46 l0 x11_1).f3.f3))) (ds := []) #[false, false, false, false, false, false, false, false, false, false, false, false, false, false, false, false, false, false, false, false, false, false, false, false, false, false, false, false, false, false, false, false, false, false, false, false, false, false, false, false, false, false, false] (by kernel_rfl) rfl rfl ⟨My.b_ BK166 0, My.b_ BK166 1, My.b_ BK166 2, My.b_ BK166 3, My.b_ BK166 4, My.b_ BK166 5, My.b_ BK166 6, My.b_ BK166 7, My.b_ BK166 8⟩ (fun hHeld => ?_); refine with_tabW outbox_May.tab7 outbox_May.bits7 (fun HT_ HW_ => ?_)
     generalize w34.drew = w35 at BK166 HB hHeld ⊢
     refine My.pu_ 0 16 43 HT_.out ?_
     refine My.pv_ 2 18 43 5 HT_.out ?_
     refine My.tv_ 1 17 43 7 HT_.out HW_.out hHeld rfl rfl (by rintro w' ⟨s0, s1, s2, s3, s4, s5, s6, s7, s8⟩; go_simp; with_reducible rfl) ?_
     refine My.pu_ 3 19 43 HT_.out ?_
     refine My.pu_ 4 20 43 HT_.out ?_
     refine My.pu_ 5 21 43 HT_.out ?_
     refine My.ta_ 6 22 43 HT_.out HW_.out hHeld rfl rfl (by rintro w' ⟨s0, s1, s2, s3, s4, s5, s6, s7, s8⟩; go_simp; with_reducible rfl) ?_
     refine My.pu_ 7 23 43 HT_.out ?_
     refine My.pu_ 8 24 43 HT_.out ?_
     refine My.pu_ 9 25 43 HT_.out ?_
     refine My.pu_ 10 26 43 HT_.out ?_
     refine My.ta_ 11 27 43 HT_.out HW_.out hHeld rfl rfl (by rintro w' ⟨s0, s1, s2, s3, s4, s5, s6, s7, s8⟩; go_simp; with_reducible rfl) ?_
     refine My.pu_ 12 28 43 HT_.out ?_
     refine My.pu_ 13 29 43 HT_.out ?_
     refine My.pu_ 14 30 43 HT_.out ?_
     refine My.pu_ 15 31 43 HT_.out ?_
     refine My.ta_ 16 32 43 HT_.out HW_.out hHeld rfl rfl (by rintro w' ⟨s0, s1, s2, s3, s4, s5, s6, s7, s8⟩; go_simp; with_reducible rfl) ?_
     refine My.pu_ 17 33 43 HT_.out ?_
     refine My.pu_ 18 34 43 HT_.out ?_
     refine My.pu_ 19 35 43 HT_.out ?_
     refine My.pu_ 20 36 43 HT_.out ?_
     refine My.ta_ 21 37 43 HT_.out HW_.out hHeld rfl rfl (by rintro w' ⟨s0, s1, s2, s3, s4, s5, s6, s7, s8⟩; go_simp; with_reducible rfl) ?_
     refine My.pu_ 22 38 43 HT_.out ?_
     refine My.pu_ 23 39 43 HT_.out ?_
     refine My.pu_ 24 40 43 HT_.out ?_
     refine My.pu_ 25 41 43 HT_.out ?_
     refine My.ta_ 26 42 43 HT_.out HW_.out hHeld rfl rfl (by rintro w' ⟨s0, s1, s2, s3, s4, s5, s6, s7, s8⟩; go_simp; with_reducible rfl) ?_
     refine My.pu_ 27 43 43 HT_.out ?_
     refine My.pu_ 28 44 43 HT_.out ?_
     refine My.pu_ 29 45 43 HT_.out ?_
     refine My.pn_ 30 46 43 HT_.out ?_
     refine My.pn_ 31 47 43 HT_.out ?_
     refine My.pn_ 32 48 43 HT_.out ?_
     refine My.pn_ 33 49 43 HT_.out ?_
     refine My.pu_ 34 50 43 HT_.out ?_
     refine My.pu_ 35 51 43 HT_.out ?_
     refine My.pn_ 36 52 43 HT_.out ?_
     refine My.pn_ 37 53 43 HT_.out ?_
     refine My.pn_ 38 54 43 HT_.out ?_
     refine My.pn_ 39 55 43 HT_.out ?_
     refine My.pn_ 40 56 43 HT_.out ?_
     refine My.pn_ 41 57 43 HT_.out ?_
     refine My.pu_ 42 58 43 HT_.out ?_
     refine done_ (done_of HT_.out (by kernel_rfl)) ?_
     try go_wp2
     go_ret
     exact ⟨My.r2, (My.bl_ HB)⟩
    rw [if_neg c31] at H
    have c31b0 : decide (1000000 < ((rd_T46 l0 x11_1).f2)) = false := decide_eq_false c31
    clear c31
    replace H := Option.bind_eq_some_iff.mp H
    obtain ⟨t167, A360, H⟩ := H
    try dsimp only at H
    have A36 := My.am A360
    clear A360
    by_cases c37 : t167 = 0
    rotate_left
    ·rw [if_neg c37] at H
     have c37b0 : (t167 == 0) = false := beq_eq_false_iff_ne.mpr c37
     have c37b1 : (t167 != 0) = true := bne_iff_ne.mpr c37
     obtain rfl := Option.some.inj H
     have p165 : 0 ≤ (x11_1 : Int) := My.as_
     have q165 : x11_1 < (l0.length : Int) := My.as_
     obtain ⟨ad165, A165_6, c165_6, e165, hx165_0, hx165_1, hx165_2, hx165_3, hx165_4, hx165_5, hx165_6, hx165_7, hx165_8, hl165_6, hi165_6⟩ := at_T46 HR0.out x11_1 p165 q165
     cases e165
     replace hx165_0 := My.up HB hx165_0
     replace hx165_1 := My.up HB hx165_1
     replace hx165_2 := My.up HB hx165_2
     replace hx165_3 := My.up HB hx165_3
     replace hx165_4 := My.up HB hx165_4
     replace hx165_5 := My.up HB hx165_5
     replace hx165_6 := My.up HB hx165_6
     replace hx165_7 := My.up HB hx165_7
     replace hx165_8 := My.up HB hx165_8
     have HR165_6 := My.am hi165_6
     have HC165_6 := My.am hl165_6
     clear hi165_6 hl165_6
     replace p165 := eq_true p165
     replace q165 := eq_true q165
     try go_wp2_with (first | ((with_reducible refine gate_dst (N := 5) rfl ?_); refine My.bx 5 #[.int .i64 0, .int .i64 0, .int .i64 0, .int .i64 0, .int .i64 0, .int .i64 0, .slice none 0 0, .string (⟨#[]⟩ : ByteArray), .int .i64 0] 46 ?_; intro gb166 hg w57 hbox hb; have BK166 := My.am (hbox); have GE166 := My.nge hg (My.bl_ HB); replace HB := My.st HB hb; clear hb hbox hg; have hcz58_0 : w57.cell? ⟨gb166, 0, none⟩ = some (.int .i64 0) := My.b_ BK166 0; have hcz58_1 : w57.cell? ⟨gb166, 1, none⟩ = some (.int .i64 0) := My.b_ BK166 1; have hcz58_2 : w57.cell? ⟨gb166, 2, none⟩ = some (.int .i64 0) := My.b_ BK166 2; have hcz58_3 : w57.cell? ⟨gb166, 3, none⟩ = some (.int .i64 0) := My.b_ BK166 3; have hcz58_4 : w57.cell? ⟨gb166, 4, none⟩ = some (.int .i64 0) := My.b_ BK166 4; have hcz58_5 : w57.cell? ⟨gb166, 5, none⟩ = some (.int .i64 0) := My.b_ BK166 5; have hcz58_6 : w57.cell? ⟨gb166, 6, none⟩ = some (.slice none 0 0) := My.b_ BK166 6; have hcz58_7 : w57.cell? ⟨gb166, 7, none⟩ = some (.string (⟨#[]⟩ : ByteArray)) := My.b_ BK166 7; have hcz58_8 : w57.cell? ⟨gb166, 8, none⟩ = some (.int .i64 0) := My.b_ BK166 8; have hfz58_0 := blk_frozen BK166.out 0; have hfz58_1 := blk_frozen BK166.out 1; have hfz58_2 := blk_frozen BK166.out 2; have hfz58_3 := blk_frozen BK166.out 3; have hfz58_4 := blk_frozen BK166.out 4; have hfz58_5 := blk_frozen BK166.out 5; have hfz58_6 := blk_frozen BK166.out 6; have hfz58_7 := blk_frozen BK166.out 7; have hfz58_8 := blk_frozen BK166.out 8))
     obtain ⟨w59, hz_⟩ : ∃ z_, z_ = (((((((((w57.setCell ⟨gb166, 0, none⟩ (.int .i64 ((rd_T46 l0 x11_1).f0))).setCell ⟨gb166, 1, none⟩ (.int .i64 ((rd_T46 l0 x11_1).f1))).setCell ⟨gb166, 2, none⟩ (.int .i64 ((rd_T46 l0 x11_1).f2))).setCell ⟨gb166, 3, none⟩ (.int .i64 ((rd_T46 l0 x11_1).f3.f0))).setCell ⟨gb166, 4, none⟩ (.int .i64 ((rd_T46 l0 x11_1).f3.f1.f0))).setCell ⟨gb166, 5, none⟩ (.int .i64 ((rd_T46 l0 x11_1).f3.f1.f1))).setCell ⟨gb166, 6, none⟩ (.slice A165_6 ((rd_T46 l0 x11_1).f3.f1.f2).length c165_6)).setCell ⟨gb166, 7, none⟩ (.string ((rd_T46 l0 x11_1).f3.f2))).setCell ⟨gb166, 8, none⟩ (.int .i64 ((rd_T46 l0 x11_1).f3.f3))) := ⟨_, rfl⟩
     replace BK166 : Aside0 (w59.heap[gb166]? = some (.cells #[.int .i64 ((rd_T46 l0 x11_1).f0), .int .i64 ((rd_T46 l0 x11_1).f1), .int .i64 ((rd_T46 l0 x11_1).f2), .int .i64 ((rd_T46 l0 x11_1).f3.f0), .int .i64 ((rd_T46 l0 x11_1).f3.f1.f0), .int .i64 ((rd_T46 l0 x11_1).f3.f1.f1), .slice A165_6 ((rd_T46 l0 x11_1).f3.f1.f2).length c165_6, .string ((rd_T46 l0 x11_1).f3.f2), .int .i64 ((rd_T46 l0 x11_1).f3.f3)] 46 (0, 0))) := ⟨by rw [hz_]; exact (My.sv_ BK166)⟩
     replace HB : Aside0 (Below w.heap.size w w59) := ⟨by rw [hz_]; repeat (first | (with_reducible first | exact HB.out | apply below_alloc | apply pw_below_drewN | apply below_drew1 | refine below_set ?_ GE166.out) | exact HB.out)⟩
     rw [← hz_]
     clear hz_
     replace BK166 := My.am (blk_drew BK166.out)
     replace HB := My.am (below_drew1 HB.out)
     refine start_ (n := 43) (S := fun w' => w'.cell? ⟨gb166, 0, none⟩ = some (.int .i64 ((rd_T46 l0 x11_1).f0)) ∧ w'.cell? ⟨gb166, 1, none⟩ = some (.int .i64 ((rd_T46 l0 x11_1).f1)) ∧ w'.cell? ⟨gb166, 2, none⟩ = some (.int .i64 ((rd_T46 l0 x11_1).f2)) ∧ w'.cell? ⟨gb166, 3, none⟩ = some (.int .i64 ((rd_T46 l0 x11_1).f3.f0)) ∧ w'.cell? ⟨gb166, 4, none⟩ = some (.int .i64 ((rd_T46 l0 x11_1).f3.f1.f0)) ∧ w'.cell? ⟨gb166, 5, none⟩ = some (.int .i64 ((rd_T46 l0 x11_1).f3.f1.f1)) ∧ w'.cell? ⟨gb166, 6, none⟩ = some (.slice A165_6 ((rd_T46 l0 x11_1).f3.f1.f2).length c165_6) ∧ w'.cell? ⟨gb166, 7, none⟩ = some (.string ((rd_T46 l0 x11_1).f3.f2)) ∧ w'.cell? ⟨gb166, 8, none⟩ = some (.int .i64 ((rd_T46 l0 x11_1).f3.f3))) (ds := []) #[false, false, false, false, false, false, false, false, false, false, false, false, false, false, false, false, false, false, false, false, false, false, false, false, false, false, false, false, false, false, false, false, false, false, false, false, false, false, false, false, false, false, false] (by kernel_rfl) rfl rfl ⟨My.b_ BK166 0, My.b_ BK166 1, My.b_ BK166 2, My.b_ BK166 3, My.b_ BK166 4, My.b_ BK166 5, My.b_ BK166 6, My.b_ BK166 7, My.b_ BK166 8⟩ (fun hHeld => ?_); refine with_tabW outbox_May.tab7 outbox_May.bits7 (fun HT_ HW_ => ?_)
     generalize w59.drew = w60 at BK166 HB hHeld ⊢
     refine My.pu_ 0 16 43 HT_.out ?_
     refine My.pv_ 2 18 43 5 HT_.out ?_
     refine My.tv_ 1 17 43 7 HT_.out HW_.out hHeld rfl rfl (by rintro w' ⟨s0, s1, s2, s3, s4, s5, s6, s7, s8⟩; go_simp; with_reducible rfl) ?_
     refine My.pu_ 3 19 43 HT_.out ?_
     refine My.pu_ 4 20 43 HT_.out ?_
     refine My.pu_ 5 21 43 HT_.out ?_
     refine My.ta_ 6 22 43 HT_.out HW_.out hHeld rfl rfl (by rintro w' ⟨s0, s1, s2, s3, s4, s5, s6, s7, s8⟩; go_simp; with_reducible rfl) ?_
     refine My.pu_ 7 23 43 HT_.out ?_
     refine My.pu_ 8 24 43 HT_.out ?_
     refine My.pu_ 9 25 43 HT_.out ?_
     refine My.pu_ 10 26 43 HT_.out ?_
     refine My.ta_ 11 27 43 HT_.out HW_.out hHeld rfl rfl (by rintro w' ⟨s0, s1, s2, s3, s4, s5, s6, s7, s8⟩; go_simp; with_reducible rfl) ?_
     refine My.pu_ 12 28 43 HT_.out ?_
     refine My.pu_ 13 29 43 HT_.out ?_
     refine My.pu_ 14 30 43 HT_.out ?_
     refine My.pu_ 15 31 43 HT_.out ?_
     refine My.ta_ 16 32 43 HT_.out HW_.out hHeld rfl rfl (by rintro w' ⟨s0, s1, s2, s3, s4, s5, s6, s7, s8⟩; go_simp; with_reducible rfl) ?_
     refine My.pu_ 17 33 43 HT_.out ?_
     refine My.pu_ 18 34 43 HT_.out ?_
     refine My.pu_ 19 35 43 HT_.out ?_
     refine My.pu_ 20 36 43 HT_.out ?_
     refine My.ta_ 21 37 43 HT_.out HW_.out hHeld rfl rfl (by rintro w' ⟨s0, s1, s2, s3, s4, s5, s6, s7, s8⟩; go_simp; with_reducible rfl) ?_
     refine My.pu_ 22 38 43 HT_.out ?_
     refine My.pu_ 23 39 43 HT_.out ?_
     refine My.pu_ 24 40 43 HT_.out ?_
     refine My.pu_ 25 41 43 HT_.out ?_
     refine My.ta_ 26 42 43 HT_.out HW_.out hHeld rfl rfl (by rintro w' ⟨s0, s1, s2, s3, s4, s5, s6, s7, s8⟩; go_simp; with_reducible rfl) ?_
     refine My.pu_ 27 43 43 HT_.out ?_
     refine My.pu_ 28 44 43 HT_.out ?_
     refine My.pu_ 29 45 43 HT_.out ?_
     refine My.pu_ 30 46 43 HT_.out ?_
     refine My.ta_ 31 47 43 HT_.out HW_.out hHeld rfl rfl (by rintro w' ⟨s0, s1, s2, s3, s4, s5, s6, s7, s8⟩; go_simp; with_reducible rfl) ?_
     refine one_ (i := 32) (N := some 48) (My.Mb 43 8589934591) rfl rfl (one_of HT_.out (by kernel_rfl)) (by decide) (fun K hK => ?_)
     refine goes_ Try.func26 (by kernel_rfl) rfl #[.agg #[.int .i64 ((rd_T46 l0 x11_1).f3.f0), .int .i64 ((rd_T46 l0 x11_1).f3.f1.f0), .int .i64 ((rd_T46 l0 x11_1).f3.f1.f1), .slice A165_6 ((rd_T46 l0 x11_1).f3.f1.f2).length c165_6, .string ((rd_T46 l0 x11_1).f3.f2), .int .i64 ((rd_T46 l0 x11_1).f3.f3)]] (by rfl) rfl rfl My.gx ?_
     with_reducible refine (note_Check.calls k1 ((rd_T46 l0 x11_1).f3.f0) ((rd_T46 l0 x11_1).f3.f1.f0) ((rd_T46 l0 x11_1).f3.f1.f1) _ _ ((rd_T46 l0 x11_1).f3.f1.f2) ((rd_T46 l0 x11_1).f3.f2) ((rd_T46 l0 x11_1).f3.f3) t167 _ ?side1 ?side2 A36.out).mono ?_
     (case side1 => exact My.sd_ HR165_6 HB)
     (case side2 => exact HC165_6.out)
     rintro e w61 ⟨rfl, hb⟩
     refine ⟨_, rfl, ?_⟩
     replace BK166 := My.ab BK166 hb
     replace HB := My.st HB hb
     (try clear hb)
     (try clear hb2)
     (try clear hk)
     (try clear hi)
     refine hK.out _ _ ⟨My.b_ BK166 0, My.b_ BK166 1, My.b_ BK166 2, My.b_ BK166 3, My.b_ BK166 4, My.b_ BK166 5, My.b_ BK166 6, My.b_ BK166 7, My.b_ BK166 8⟩ (fun hHeld => ?_)
     clear hK K
     refine My.nm 48 ?_
     refine My.pu_ 33 49 43 HT_.out ?_
     refine My.pu_ 34 50 43 HT_.out ?_
     refine My.pu_ 35 51 43 HT_.out ?_
     refine My.pn_ 36 52 43 HT_.out ?_
     refine My.pn_ 37 53 43 HT_.out ?_
     refine My.pn_ 38 54 43 HT_.out ?_
     refine My.pn_ 39 55 43 HT_.out ?_
     refine My.pn_ 40 56 43 HT_.out ?_
     refine My.pn_ 41 57 43 HT_.out ?_
     refine My.pu_ 42 58 43 HT_.out ?_
     refine done_ (done_of HT_.out (by kernel_rfl)) ?_
     try go_wp2
     go_ret
     exact ⟨My.r2, (My.bl_ HB)⟩
    rw [if_pos c37] at H
    have c37b0 : (t167 == 0) = true := beq_iff_eq.mpr c37
    have c37b1 : (t167 != 0) = false := bne_eq_false_iff_eq.mpr c37
    clear c37
    have c38b0 := eq_true (My.as_ : 0 ≤ x11_1)
    by_cases c39 : x11_1 ≤ (l0.length : Int)
    rotate_left
    ·exact My.nn c39 H
    rw [if_pos c39] at H
    have c39b0 := eq_true c39
    have c39b1 := decide_eq_true c39
    clear c39
    obtain ⟨y168, hy168⟩ : ∃ y_ : List (S46), y_ = (l0.take (x11_1 : Int).toNat) := ⟨_, rfl⟩
    replace H : ((outbox_has.f k1 y168 ((rd_T46 l0 x11_1).f3.f0) ((rd_T46 l0 x11_1).f3.f1.f0) ((rd_T46 l0 x11_1).f3.f1.f1) ((rd_T46 l0 x11_1).f3.f1.f2) ((rd_T46 l0 x11_1).f3.f2) ((rd_T46 l0 x11_1).f3.f3)).bind fun t172 => (if t172 = true then (some 2) else (outbox_May.l0 k1 l0 (wrap64 (((rd_T46 l0 x11_1).f0) + 1)) l0 (l0.length : Int) (wrap64 (x11_1 + 1))))) = some r := by first | (rw [hy168]; with_reducible exact H) | (have H2_ := (Option.bind_some _ _).symm.trans H; rw [hy168]; with_reducible exact H2_) | (have H2_ := (Option.bind_some _ _).symm.trans H; with_reducible exact H2_) | with_reducible exact H | (rw [hy168]; exact H) | exact H
    have Ny168 := My.am hy168
    clear hy168
    replace H := Option.bind_eq_some_iff.mp H
    obtain ⟨t172, A400, H⟩ := H
    try dsimp only at H
    have A40 := My.am A400
    clear A400
    by_cases c41 : t172 = true
    ·subst c41
     rw [if_pos rfl] at H
     obtain rfl := Option.some.inj H
     have p165 : 0 ≤ (x11_1 : Int) := My.as_
     have q165 : x11_1 < (l0.length : Int) := My.as_
     obtain ⟨ad165, A165_6, c165_6, e165, hx165_0, hx165_1, hx165_2, hx165_3, hx165_4, hx165_5, hx165_6, hx165_7, hx165_8, hl165_6, hi165_6⟩ := at_T46 HR0.out x11_1 p165 q165
     cases e165
     replace hx165_0 := My.up HB hx165_0
     replace hx165_1 := My.up HB hx165_1
     replace hx165_2 := My.up HB hx165_2
     replace hx165_3 := My.up HB hx165_3
     replace hx165_4 := My.up HB hx165_4
     replace hx165_5 := My.up HB hx165_5
     replace hx165_6 := My.up HB hx165_6
     replace hx165_7 := My.up HB hx165_7
     replace hx165_8 := My.up HB hx165_8
     have HR165_6 := My.am hi165_6
     have HC165_6 := My.am hl165_6
     clear hi165_6 hl165_6
     replace p165 := eq_true p165
     replace q165 := eq_true q165
     try go_wp2_with (first | ((with_reducible refine gate_dst (N := 5) rfl ?_); refine My.bx 5 #[.int .i64 0, .int .i64 0, .int .i64 0, .int .i64 0, .int .i64 0, .int .i64 0, .slice none 0 0, .string (⟨#[]⟩ : ByteArray), .int .i64 0] 46 ?_; intro gb166 hg w42 hbox hb; have BK166 := My.am (hbox); have GE166 := My.nge hg (My.bl_ HB); replace HB := My.st HB hb; clear hb hbox hg; have hcz43_0 : w42.cell? ⟨gb166, 0, none⟩ = some (.int .i64 0) := My.b_ BK166 0; have hcz43_1 : w42.cell? ⟨gb166, 1, none⟩ = some (.int .i64 0) := My.b_ BK166 1; have hcz43_2 : w42.cell? ⟨gb166, 2, none⟩ = some (.int .i64 0) := My.b_ BK166 2; have hcz43_3 : w42.cell? ⟨gb166, 3, none⟩ = some (.int .i64 0) := My.b_ BK166 3; have hcz43_4 : w42.cell? ⟨gb166, 4, none⟩ = some (.int .i64 0) := My.b_ BK166 4; have hcz43_5 : w42.cell? ⟨gb166, 5, none⟩ = some (.int .i64 0) := My.b_ BK166 5; have hcz43_6 : w42.cell? ⟨gb166, 6, none⟩ = some (.slice none 0 0) := My.b_ BK166 6; have hcz43_7 : w42.cell? ⟨gb166, 7, none⟩ = some (.string (⟨#[]⟩ : ByteArray)) := My.b_ BK166 7; have hcz43_8 : w42.cell? ⟨gb166, 8, none⟩ = some (.int .i64 0) := My.b_ BK166 8; have hfz43_0 := blk_frozen BK166.out 0; have hfz43_1 := blk_frozen BK166.out 1; have hfz43_2 := blk_frozen BK166.out 2; have hfz43_3 := blk_frozen BK166.out 3; have hfz43_4 := blk_frozen BK166.out 4; have hfz43_5 := blk_frozen BK166.out 5; have hfz43_6 := blk_frozen BK166.out 6; have hfz43_7 := blk_frozen BK166.out 7; have hfz43_8 := blk_frozen BK166.out 8))
     obtain ⟨w44, hz_⟩ : ∃ z_, z_ = (((((((((w42.setCell ⟨gb166, 0, none⟩ (.int .i64 ((rd_T46 l0 x11_1).f0))).setCell ⟨gb166, 1, none⟩ (.int .i64 ((rd_T46 l0 x11_1).f1))).setCell ⟨gb166, 2, none⟩ (.int .i64 ((rd_T46 l0 x11_1).f2))).setCell ⟨gb166, 3, none⟩ (.int .i64 ((rd_T46 l0 x11_1).f3.f0))).setCell ⟨gb166, 4, none⟩ (.int .i64 ((rd_T46 l0 x11_1).f3.f1.f0))).setCell ⟨gb166, 5, none⟩ (.int .i64 ((rd_T46 l0 x11_1).f3.f1.f1))).setCell ⟨gb166, 6, none⟩ (.slice A165_6 ((rd_T46 l0 x11_1).f3.f1.f2).length c165_6)).setCell ⟨gb166, 7, none⟩ (.string ((rd_T46 l0 x11_1).f3.f2))).setCell ⟨gb166, 8, none⟩ (.int .i64 ((rd_T46 l0 x11_1).f3.f3))) := ⟨_, rfl⟩
     replace BK166 : Aside0 (w44.heap[gb166]? = some (.cells #[.int .i64 ((rd_T46 l0 x11_1).f0), .int .i64 ((rd_T46 l0 x11_1).f1), .int .i64 ((rd_T46 l0 x11_1).f2), .int .i64 ((rd_T46 l0 x11_1).f3.f0), .int .i64 ((rd_T46 l0 x11_1).f3.f1.f0), .int .i64 ((rd_T46 l0 x11_1).f3.f1.f1), .slice A165_6 ((rd_T46 l0 x11_1).f3.f1.f2).length c165_6, .string ((rd_T46 l0 x11_1).f3.f2), .int .i64 ((rd_T46 l0 x11_1).f3.f3)] 46 (0, 0))) := ⟨by rw [hz_]; exact (My.sv_ BK166)⟩
     replace HB : Aside0 (Below w.heap.size w w44) := ⟨by rw [hz_]; repeat (first | (with_reducible first | exact HB.out | apply below_alloc | apply pw_below_drewN | apply below_drew1 | refine below_set ?_ GE166.out) | exact HB.out)⟩
     rw [← hz_]
     clear hz_
     replace BK166 := My.am (blk_drew BK166.out)
     replace HB := My.am (below_drew1 HB.out)
     refine start_ (n := 43) (S := fun w' => w'.cell? ⟨gb166, 0, none⟩ = some (.int .i64 ((rd_T46 l0 x11_1).f0)) ∧ w'.cell? ⟨gb166, 1, none⟩ = some (.int .i64 ((rd_T46 l0 x11_1).f1)) ∧ w'.cell? ⟨gb166, 2, none⟩ = some (.int .i64 ((rd_T46 l0 x11_1).f2)) ∧ w'.cell? ⟨gb166, 3, none⟩ = some (.int .i64 ((rd_T46 l0 x11_1).f3.f0)) ∧ w'.cell? ⟨gb166, 4, none⟩ = some (.int .i64 ((rd_T46 l0 x11_1).f3.f1.f0)) ∧ w'.cell? ⟨gb166, 5, none⟩ = some (.int .i64 ((rd_T46 l0 x11_1).f3.f1.f1)) ∧ w'.cell? ⟨gb166, 6, none⟩ = some (.slice A165_6 ((rd_T46 l0 x11_1).f3.f1.f2).length c165_6) ∧ w'.cell? ⟨gb166, 7, none⟩ = some (.string ((rd_T46 l0 x11_1).f3.f2)) ∧ w'.cell? ⟨gb166, 8, none⟩ = some (.int .i64 ((rd_T46 l0 x11_1).f3.f3))) (ds := []) #[false, false, false, false, false, false, false, false, false, false, false, false, false, false, false, false, false, false, false, false, false, false, false, false, false, false, false, false, false, false, false, false, false, false, false, false, false, false, false, false, false, false, false] (by kernel_rfl) rfl rfl ⟨My.b_ BK166 0, My.b_ BK166 1, My.b_ BK166 2, My.b_ BK166 3, My.b_ BK166 4, My.b_ BK166 5, My.b_ BK166 6, My.b_ BK166 7, My.b_ BK166 8⟩ (fun hHeld => ?_); refine with_tabW outbox_May.tab7 outbox_May.bits7 (fun HT_ HW_ => ?_)
     generalize w44.drew = w45 at BK166 HB hHeld ⊢
     refine My.pu_ 0 16 43 HT_.out ?_
     refine My.pv_ 2 18 43 5 HT_.out ?_
     refine My.tv_ 1 17 43 7 HT_.out HW_.out hHeld rfl rfl (by rintro w' ⟨s0, s1, s2, s3, s4, s5, s6, s7, s8⟩; go_simp; with_reducible rfl) ?_
     refine My.pu_ 3 19 43 HT_.out ?_
     refine My.pu_ 4 20 43 HT_.out ?_
     refine My.pu_ 5 21 43 HT_.out ?_
     refine My.ta_ 6 22 43 HT_.out HW_.out hHeld rfl rfl (by rintro w' ⟨s0, s1, s2, s3, s4, s5, s6, s7, s8⟩; go_simp; with_reducible rfl) ?_
     refine My.pu_ 7 23 43 HT_.out ?_
     refine My.pu_ 8 24 43 HT_.out ?_
     refine My.pu_ 9 25 43 HT_.out ?_
     refine My.pu_ 10 26 43 HT_.out ?_
     refine My.ta_ 11 27 43 HT_.out HW_.out hHeld rfl rfl (by rintro w' ⟨s0, s1, s2, s3, s4, s5, s6, s7, s8⟩; go_simp; with_reducible rfl) ?_
     refine My.pu_ 12 28 43 HT_.out ?_
     refine My.pu_ 13 29 43 HT_.out ?_
     refine My.pu_ 14 30 43 HT_.out ?_
     refine My.pu_ 15 31 43 HT_.out ?_
     refine My.ta_ 16 32 43 HT_.out HW_.out hHeld rfl rfl (by rintro w' ⟨s0, s1, s2, s3, s4, s5, s6, s7, s8⟩; go_simp; with_reducible rfl) ?_
     refine My.pu_ 17 33 43 HT_.out ?_
     refine My.pu_ 18 34 43 HT_.out ?_
     refine My.pu_ 19 35 43 HT_.out ?_
     refine My.pu_ 20 36 43 HT_.out ?_
     refine My.ta_ 21 37 43 HT_.out HW_.out hHeld rfl rfl (by rintro w' ⟨s0, s1, s2, s3, s4, s5, s6, s7, s8⟩; go_simp; with_reducible rfl) ?_
     refine My.pu_ 22 38 43 HT_.out ?_
     refine My.pu_ 23 39 43 HT_.out ?_
     refine My.pu_ 24 40 43 HT_.out ?_
     refine My.pu_ 25 41 43 HT_.out ?_
     refine My.ta_ 26 42 43 HT_.out HW_.out hHeld rfl rfl (by rintro w' ⟨s0, s1, s2, s3, s4, s5, s6, s7, s8⟩; go_simp; with_reducible rfl) ?_
     refine My.pu_ 27 43 43 HT_.out ?_
     refine My.pu_ 28 44 43 HT_.out ?_
     refine My.pu_ 29 45 43 HT_.out ?_
     refine My.pu_ 30 46 43 HT_.out ?_
     refine My.ta_ 31 47 43 HT_.out HW_.out hHeld rfl rfl (by rintro w' ⟨s0, s1, s2, s3, s4, s5, s6, s7, s8⟩; go_simp; with_reducible rfl) ?_
     refine one_ (i := 32) (N := some 48) (My.Mb 43 8589934591) rfl rfl (one_of HT_.out (by kernel_rfl)) (by decide) (fun K hK => ?_)
     refine goes_ Try.func26 (by kernel_rfl) rfl #[.agg #[.int .i64 ((rd_T46 l0 x11_1).f3.f0), .int .i64 ((rd_T46 l0 x11_1).f3.f1.f0), .int .i64 ((rd_T46 l0 x11_1).f3.f1.f1), .slice A165_6 ((rd_T46 l0 x11_1).f3.f1.f2).length c165_6, .string ((rd_T46 l0 x11_1).f3.f2), .int .i64 ((rd_T46 l0 x11_1).f3.f3)]] (by rfl) rfl rfl My.gx ?_
     with_reducible refine (note_Check.calls k1 ((rd_T46 l0 x11_1).f3.f0) ((rd_T46 l0 x11_1).f3.f1.f0) ((rd_T46 l0 x11_1).f3.f1.f1) _ _ ((rd_T46 l0 x11_1).f3.f1.f2) ((rd_T46 l0 x11_1).f3.f2) ((rd_T46 l0 x11_1).f3.f3) t167 _ ?side1 ?side2 A36.out).mono ?_
     (case side1 => exact My.sd_ HR165_6 HB)
     (case side2 => exact HC165_6.out)
     rintro e w46 ⟨rfl, hb⟩
     refine ⟨_, rfl, ?_⟩
     replace BK166 := My.ab BK166 hb
     replace HB := My.st HB hb
     (try clear hb)
     (try clear hb2)
     (try clear hk)
     (try clear hi)
     have q47 : (x11_1 : Int) ≤ ((l0.length : Int) : Int) := My.as_
     obtain ⟨i047, hi047, _, hsz47, _⟩ := info_parts info46
     have hroom47 : l0.length ≤ c0 := HC0.out
     have hC47 : Kd.C k46 _ (some ad165) l0.length l0 := HR0.out
     have hcut47 := cut_to (P := Try.prog) 22 46 .i64 Try.underlying22 hi047 (some ad165) l0.length c0 x11_1 (My.as_) q47 hroom47
     have hr47 := Kd.C_take (m := (x11_1 : Int).toNat) hC47 (by omega)
     have hy47 : y168.length = (x11_1 : Int).toNat := (by rw [Ny168.out, List.length_take]; omega)
     rw [← Ny168.out] at hr47
     rw [← hy47] at hcut47
     have HR171 := My.am hr47
     have HC171 := My.am (show y168.length ≤ c0 from by omega)
     clear hr47 hC47 hroom47 hi047 hsz47
     have KY47 := My.am hy47
     clear hy47
     replace q47 := eq_true q47
     refine hK.out _ _ ⟨My.b_ BK166 0, My.b_ BK166 1, My.b_ BK166 2, My.b_ BK166 3, My.b_ BK166 4, My.b_ BK166 5, My.b_ BK166 6, My.b_ BK166 7, My.b_ BK166 8⟩ (fun hHeld => ?_)
     clear hK K
     refine My.nm 48 ?_
     refine My.pu_ 33 49 43 HT_.out ?_
     refine My.pu_ 34 50 43 HT_.out ?_
     refine My.pu_ 35 51 43 HT_.out ?_
     refine My.pu_ 36 52 43 HT_.out ?_
     refine My.pu_ 37 53 43 HT_.out ?_
     refine My.pu_ 38 54 43 HT_.out ?_
     refine My.pu_ 39 55 43 HT_.out ?_
     refine My.ta_ 40 56 43 HT_.out HW_.out hHeld rfl rfl (by rintro w' ⟨s0, s1, s2, s3, s4, s5, s6, s7, s8⟩; go_simp; with_reducible rfl) ?_
     refine one_ (i := 41) (N := some 57) (My.Mb 43 4398046511103) rfl rfl (one_of HT_.out (by kernel_rfl)) (by decide) (fun K hK => ?_)
     refine goes_ Try.func27 (by kernel_rfl) rfl #[.slice (some ad165) y168.length c0, .agg #[.int .i64 ((rd_T46 l0 x11_1).f3.f0), .int .i64 ((rd_T46 l0 x11_1).f3.f1.f0), .int .i64 ((rd_T46 l0 x11_1).f3.f1.f1), .slice A165_6 ((rd_T46 l0 x11_1).f3.f1.f2).length c165_6, .string ((rd_T46 l0 x11_1).f3.f2), .int .i64 ((rd_T46 l0 x11_1).f3.f3)]] (by rfl) rfl rfl My.gx ?_
     with_reducible refine (outbox_has.calls k1 _ _ y168 ((rd_T46 l0 x11_1).f3.f0) ((rd_T46 l0 x11_1).f3.f1.f0) ((rd_T46 l0 x11_1).f3.f1.f1) _ _ ((rd_T46 l0 x11_1).f3.f1.f2) ((rd_T46 l0 x11_1).f3.f2) ((rd_T46 l0 x11_1).f3.f3) true _ ?side1 ?side2 ?side3 ?side4 A40.out).mono ?_
     (case side1 => exact My.sd_ HR171 HB)
     (case side2 => exact HC171.out)
     (case side3 => exact My.sd_ HR165_6 HB)
     (case side4 => exact HC165_6.out)
     rintro e w48 ⟨rfl, hb⟩
     refine ⟨_, rfl, ?_⟩
     replace BK166 := My.ab BK166 hb
     replace HB := My.st HB hb
     (try clear hb)
     (try clear hb2)
     (try clear hk)
     (try clear hi)
     refine hK.out _ _ ⟨My.b_ BK166 0, My.b_ BK166 1, My.b_ BK166 2, My.b_ BK166 3, My.b_ BK166 4, My.b_ BK166 5, My.b_ BK166 6, My.b_ BK166 7, My.b_ BK166 8⟩ (fun hHeld => ?_)
     clear hK K
     refine My.nm 57 ?_
     refine My.pu_ 42 58 43 HT_.out ?_
     refine done_ (done_of HT_.out (by kernel_rfl)) ?_
     try go_wp2
     go_ret
     exact ⟨My.r2, (My.bl_ HB)⟩
    replace c41 := Bool.eq_false_iff.mpr c41
    subst c41
    rw [if_neg (show ¬ (false = true) by decide)] at H
    have H' := My.am H
    clear H
    have p165 : 0 ≤ (x11_1 : Int) := My.as_
    have q165 : x11_1 < (l0.length : Int) := My.as_
    obtain ⟨ad165, A165_6, c165_6, e165, hx165_0, hx165_1, hx165_2, hx165_3, hx165_4, hx165_5, hx165_6, hx165_7, hx165_8, hl165_6, hi165_6⟩ := at_T46 HR0.out x11_1 p165 q165
    cases e165
    replace hx165_0 := My.up HB hx165_0
    replace hx165_1 := My.up HB hx165_1
    replace hx165_2 := My.up HB hx165_2
    replace hx165_3 := My.up HB hx165_3
    replace hx165_4 := My.up HB hx165_4
    replace hx165_5 := My.up HB hx165_5
    replace hx165_6 := My.up HB hx165_6
    replace hx165_7 := My.up HB hx165_7
    replace hx165_8 := My.up HB hx165_8
    have HR165_6 := My.am hi165_6
    have HC165_6 := My.am hl165_6
    clear hi165_6 hl165_6
    replace p165 := eq_true p165
    replace q165 := eq_true q165
    try go_wp2_with (first | ((with_reducible refine gate_dst (N := 5) rfl ?_); refine My.bx 5 #[.int .i64 0, .int .i64 0, .int .i64 0, .int .i64 0, .int .i64 0, .int .i64 0, .slice none 0 0, .string (⟨#[]⟩ : ByteArray), .int .i64 0] 46 ?_; intro gb166 hg w49 hbox hb; have BK166 := My.am (hbox); have GE166 := My.nge hg (My.bl_ HB); replace HB := My.st HB hb; clear hb hbox hg; have hcz50_0 : w49.cell? ⟨gb166, 0, none⟩ = some (.int .i64 0) := My.b_ BK166 0; have hcz50_1 : w49.cell? ⟨gb166, 1, none⟩ = some (.int .i64 0) := My.b_ BK166 1; have hcz50_2 : w49.cell? ⟨gb166, 2, none⟩ = some (.int .i64 0) := My.b_ BK166 2; have hcz50_3 : w49.cell? ⟨gb166, 3, none⟩ = some (.int .i64 0) := My.b_ BK166 3; have hcz50_4 : w49.cell? ⟨gb166, 4, none⟩ = some (.int .i64 0) := My.b_ BK166 4; have hcz50_5 : w49.cell? ⟨gb166, 5, none⟩ = some (.int .i64 0) := My.b_ BK166 5; have hcz50_6 : w49.cell? ⟨gb166, 6, none⟩ = some (.slice none 0 0) := My.b_ BK166 6; have hcz50_7 : w49.cell? ⟨gb166, 7, none⟩ = some (.string (⟨#[]⟩ : ByteArray)) := My.b_ BK166 7; have hcz50_8 : w49.cell? ⟨gb166, 8, none⟩ = some (.int .i64 0) := My.b_ BK166 8; have hfz50_0 := blk_frozen BK166.out 0; have hfz50_1 := blk_frozen BK166.out 1; have hfz50_2 := blk_frozen BK166.out 2; have hfz50_3 := blk_frozen BK166.out 3; have hfz50_4 := blk_frozen BK166.out 4; have hfz50_5 := blk_frozen BK166.out 5; have hfz50_6 := blk_frozen BK166.out 6; have hfz50_7 := blk_frozen BK166.out 7; have hfz50_8 := blk_frozen BK166.out 8))
    obtain ⟨w51, hz_⟩ : ∃ z_, z_ = (((((((((w49.setCell ⟨gb166, 0, none⟩ (.int .i64 ((rd_T46 l0 x11_1).f0))).setCell ⟨gb166, 1, none⟩ (.int .i64 ((rd_T46 l0 x11_1).f1))).setCell ⟨gb166, 2, none⟩ (.int .i64 ((rd_T46 l0 x11_1).f2))).setCell ⟨gb166, 3, none⟩ (.int .i64 ((rd_T46 l0 x11_1).f3.f0))).setCell ⟨gb166, 4, none⟩ (.int .i64 ((rd_T46 l0 x11_1).f3.f1.f0))).setCell ⟨gb166, 5, none⟩ (.int .i64 ((rd_T46 l0 x11_1).f3.f1.f1))).setCell ⟨gb166, 6, none⟩ (.slice A165_6 ((rd_T46 l0 x11_1).f3.f1.f2).length c165_6)).setCell ⟨gb166, 7, none⟩ (.string ((rd_T46 l0 x11_1).f3.f2))).setCell ⟨gb166, 8, none⟩ (.int .i64 ((rd_T46 l0 x11_1).f3.f3))) := ⟨_, rfl⟩
    replace BK166 : Aside0 (w51.heap[gb166]? = some (.cells #[.int .i64 ((rd_T46 l0 x11_1).f0), .int .i64 ((rd_T46 l0 x11_1).f1), .int .i64 ((rd_T46 l0 x11_1).f2), .int .i64 ((rd_T46 l0 x11_1).f3.f0), .int .i64 ((rd_T46 l0 x11_1).f3.f1.f0), .int .i64 ((rd_T46 l0 x11_1).f3.f1.f1), .slice A165_6 ((rd_T46 l0 x11_1).f3.f1.f2).length c165_6, .string ((rd_T46 l0 x11_1).f3.f2), .int .i64 ((rd_T46 l0 x11_1).f3.f3)] 46 (0, 0))) := ⟨by rw [hz_]; exact (My.sv_ BK166)⟩
    replace HB : Aside0 (Below w.heap.size w w51) := ⟨by rw [hz_]; repeat (first | (with_reducible first | exact HB.out | apply below_alloc | apply pw_below_drewN | apply below_drew1 | refine below_set ?_ GE166.out) | exact HB.out)⟩
    rw [← hz_]
    clear hz_
    replace BK166 := My.am (blk_drew BK166.out)
    replace HB := My.am (below_drew1 HB.out)
    refine start_ (n := 43) (S := fun w' => w'.cell? ⟨gb166, 0, none⟩ = some (.int .i64 ((rd_T46 l0 x11_1).f0)) ∧ w'.cell? ⟨gb166, 1, none⟩ = some (.int .i64 ((rd_T46 l0 x11_1).f1)) ∧ w'.cell? ⟨gb166, 2, none⟩ = some (.int .i64 ((rd_T46 l0 x11_1).f2)) ∧ w'.cell? ⟨gb166, 3, none⟩ = some (.int .i64 ((rd_T46 l0 x11_1).f3.f0)) ∧ w'.cell? ⟨gb166, 4, none⟩ = some (.int .i64 ((rd_T46 l0 x11_1).f3.f1.f0)) ∧ w'.cell? ⟨gb166, 5, none⟩ = some (.int .i64 ((rd_T46 l0 x11_1).f3.f1.f1)) ∧ w'.cell? ⟨gb166, 6, none⟩ = some (.slice A165_6 ((rd_T46 l0 x11_1).f3.f1.f2).length c165_6) ∧ w'.cell? ⟨gb166, 7, none⟩ = some (.string ((rd_T46 l0 x11_1).f3.f2)) ∧ w'.cell? ⟨gb166, 8, none⟩ = some (.int .i64 ((rd_T46 l0 x11_1).f3.f3))) (ds := []) #[false, false, false, false, false, false, false, false, false, false, false, false, false, false, false, false, false, false, false, false, false, false, false, false, false, false, false, false, false, false, false, false, false, false, false, false, false, false, false, false, false, false, false] (by kernel_rfl) rfl rfl ⟨My.b_ BK166 0, My.b_ BK166 1, My.b_ BK166 2, My.b_ BK166 3, My.b_ BK166 4, My.b_ BK166 5, My.b_ BK166 6, My.b_ BK166 7, My.b_ BK166 8⟩ (fun hHeld => ?_); refine with_tabW outbox_May.tab7 outbox_May.bits7 (fun HT_ HW_ => ?_)
    generalize w51.drew = w52 at BK166 HB hHeld ⊢
    refine My.pu_ 0 16 43 HT_.out ?_
    refine My.pv_ 2 18 43 5 HT_.out ?_
    refine My.tv_ 1 17 43 7 HT_.out HW_.out hHeld rfl rfl (by rintro w' ⟨s0, s1, s2, s3, s4, s5, s6, s7, s8⟩; go_simp; with_reducible rfl) ?_
    refine My.pu_ 3 19 43 HT_.out ?_
    refine My.pu_ 4 20 43 HT_.out ?_
    refine My.pu_ 5 21 43 HT_.out ?_
    refine My.ta_ 6 22 43 HT_.out HW_.out hHeld rfl rfl (by rintro w' ⟨s0, s1, s2, s3, s4, s5, s6, s7, s8⟩; go_simp; with_reducible rfl) ?_
    refine My.pu_ 7 23 43 HT_.out ?_
    refine My.pu_ 8 24 43 HT_.out ?_
    refine My.pu_ 9 25 43 HT_.out ?_
    refine My.pu_ 10 26 43 HT_.out ?_
    refine My.ta_ 11 27 43 HT_.out HW_.out hHeld rfl rfl (by rintro w' ⟨s0, s1, s2, s3, s4, s5, s6, s7, s8⟩; go_simp; with_reducible rfl) ?_
    refine My.pu_ 12 28 43 HT_.out ?_
    refine My.pu_ 13 29 43 HT_.out ?_
    refine My.pu_ 14 30 43 HT_.out ?_
    refine My.pu_ 15 31 43 HT_.out ?_
    refine My.ta_ 16 32 43 HT_.out HW_.out hHeld rfl rfl (by rintro w' ⟨s0, s1, s2, s3, s4, s5, s6, s7, s8⟩; go_simp; with_reducible rfl) ?_
    refine My.pu_ 17 33 43 HT_.out ?_
    refine My.pu_ 18 34 43 HT_.out ?_
    refine My.pu_ 19 35 43 HT_.out ?_
    refine My.pu_ 20 36 43 HT_.out ?_
    refine My.ta_ 21 37 43 HT_.out HW_.out hHeld rfl rfl (by rintro w' ⟨s0, s1, s2, s3, s4, s5, s6, s7, s8⟩; go_simp; with_reducible rfl) ?_
    refine My.pu_ 22 38 43 HT_.out ?_
    refine My.pu_ 23 39 43 HT_.out ?_
    refine My.pu_ 24 40 43 HT_.out ?_
    refine My.pu_ 25 41 43 HT_.out ?_
    refine My.ta_ 26 42 43 HT_.out HW_.out hHeld rfl rfl (by rintro w' ⟨s0, s1, s2, s3, s4, s5, s6, s7, s8⟩; go_simp; with_reducible rfl) ?_
    refine My.pu_ 27 43 43 HT_.out ?_
    refine My.pu_ 28 44 43 HT_.out ?_
    refine My.pu_ 29 45 43 HT_.out ?_
    refine My.pu_ 30 46 43 HT_.out ?_
    refine My.ta_ 31 47 43 HT_.out HW_.out hHeld rfl rfl (by rintro w' ⟨s0, s1, s2, s3, s4, s5, s6, s7, s8⟩; go_simp; with_reducible rfl) ?_
    refine one_ (i := 32) (N := some 48) (My.Mb 43 8589934591) rfl rfl (one_of HT_.out (by kernel_rfl)) (by decide) (fun K hK => ?_)
    refine goes_ Try.func26 (by kernel_rfl) rfl #[.agg #[.int .i64 ((rd_T46 l0 x11_1).f3.f0), .int .i64 ((rd_T46 l0 x11_1).f3.f1.f0), .int .i64 ((rd_T46 l0 x11_1).f3.f1.f1), .slice A165_6 ((rd_T46 l0 x11_1).f3.f1.f2).length c165_6, .string ((rd_T46 l0 x11_1).f3.f2), .int .i64 ((rd_T46 l0 x11_1).f3.f3)]] (by rfl) rfl rfl My.gx ?_
    with_reducible refine (note_Check.calls k1 ((rd_T46 l0 x11_1).f3.f0) ((rd_T46 l0 x11_1).f3.f1.f0) ((rd_T46 l0 x11_1).f3.f1.f1) _ _ ((rd_T46 l0 x11_1).f3.f1.f2) ((rd_T46 l0 x11_1).f3.f2) ((rd_T46 l0 x11_1).f3.f3) t167 _ ?side1 ?side2 A36.out).mono ?_
    (case side1 => exact My.sd_ HR165_6 HB)
    (case side2 => exact HC165_6.out)
    rintro e w53 ⟨rfl, hb⟩
    refine ⟨_, rfl, ?_⟩
    replace BK166 := My.ab BK166 hb
    replace HB := My.st HB hb
    (try clear hb)
    (try clear hb2)
    (try clear hk)
    (try clear hi)
    have q54 : (x11_1 : Int) ≤ ((l0.length : Int) : Int) := My.as_
    obtain ⟨i054, hi054, _, hsz54, _⟩ := info_parts info46
    have hroom54 : l0.length ≤ c0 := HC0.out
    have hC54 : Kd.C k46 _ (some ad165) l0.length l0 := HR0.out
    have hcut54 := cut_to (P := Try.prog) 22 46 .i64 Try.underlying22 hi054 (some ad165) l0.length c0 x11_1 (My.as_) q54 hroom54
    have hr54 := Kd.C_take (m := (x11_1 : Int).toNat) hC54 (by omega)
    have hy54 : y168.length = (x11_1 : Int).toNat := (by rw [Ny168.out, List.length_take]; omega)
    rw [← Ny168.out] at hr54
    rw [← hy54] at hcut54
    have HR171 := My.am hr54
    have HC171 := My.am (show y168.length ≤ c0 from by omega)
    clear hr54 hC54 hroom54 hi054 hsz54
    have KY54 := My.am hy54
    clear hy54
    replace q54 := eq_true q54
    refine hK.out _ _ ⟨My.b_ BK166 0, My.b_ BK166 1, My.b_ BK166 2, My.b_ BK166 3, My.b_ BK166 4, My.b_ BK166 5, My.b_ BK166 6, My.b_ BK166 7, My.b_ BK166 8⟩ (fun hHeld => ?_)
    clear hK K
    refine My.nm 48 ?_
    refine My.pu_ 33 49 43 HT_.out ?_
    refine My.pu_ 34 50 43 HT_.out ?_
    refine My.pu_ 35 51 43 HT_.out ?_
    refine My.pu_ 36 52 43 HT_.out ?_
    refine My.pu_ 37 53 43 HT_.out ?_
    refine My.pu_ 38 54 43 HT_.out ?_
    refine My.pu_ 39 55 43 HT_.out ?_
    refine My.ta_ 40 56 43 HT_.out HW_.out hHeld rfl rfl (by rintro w' ⟨s0, s1, s2, s3, s4, s5, s6, s7, s8⟩; go_simp; with_reducible rfl) ?_
    refine one_ (i := 41) (N := some 57) (My.Mb 43 4398046511103) rfl rfl (one_of HT_.out (by kernel_rfl)) (by decide) (fun K hK => ?_)
    refine goes_ Try.func27 (by kernel_rfl) rfl #[.slice (some ad165) y168.length c0, .agg #[.int .i64 ((rd_T46 l0 x11_1).f3.f0), .int .i64 ((rd_T46 l0 x11_1).f3.f1.f0), .int .i64 ((rd_T46 l0 x11_1).f3.f1.f1), .slice A165_6 ((rd_T46 l0 x11_1).f3.f1.f2).length c165_6, .string ((rd_T46 l0 x11_1).f3.f2), .int .i64 ((rd_T46 l0 x11_1).f3.f3)]] (by rfl) rfl rfl My.gx ?_
    with_reducible refine (outbox_has.calls k1 _ _ y168 ((rd_T46 l0 x11_1).f3.f0) ((rd_T46 l0 x11_1).f3.f1.f0) ((rd_T46 l0 x11_1).f3.f1.f1) _ _ ((rd_T46 l0 x11_1).f3.f1.f2) ((rd_T46 l0 x11_1).f3.f2) ((rd_T46 l0 x11_1).f3.f3) false _ ?side1 ?side2 ?side3 ?side4 A40.out).mono ?_
    (case side1 => exact My.sd_ HR171 HB)
    (case side2 => exact HC171.out)
    (case side3 => exact My.sd_ HR165_6 HB)
    (case side4 => exact HC165_6.out)
    rintro e w55 ⟨rfl, hb⟩
    refine ⟨_, rfl, ?_⟩
    replace BK166 := My.ab BK166 hb
    replace HB := My.st HB hb
    (try clear hb)
    (try clear hb2)
    (try clear hk)
    (try clear hi)
    refine hK.out _ _ ⟨My.b_ BK166 0, My.b_ BK166 1, My.b_ BK166 2, My.b_ BK166 3, My.b_ BK166 4, My.b_ BK166 5, My.b_ BK166 6, My.b_ BK166 7, My.b_ BK166 8⟩ (fun hHeld => ?_)
    clear hK K
    refine My.nm 57 ?_
    refine My.pu_ 42 58 43 HT_.out ?_
    refine done_ (done_of HT_.out (by kernel_rfl)) ?_
    have hcz56_0 : w55.cell? ⟨gb166, 0, none⟩ = some (.int .i64 ((rd_T46 l0 x11_1).f0)) := My.b_ BK166 0
    have hcz56_1 : w55.cell? ⟨gb166, 1, none⟩ = some (.int .i64 ((rd_T46 l0 x11_1).f1)) := My.b_ BK166 1
    have hcz56_2 : w55.cell? ⟨gb166, 2, none⟩ = some (.int .i64 ((rd_T46 l0 x11_1).f2)) := My.b_ BK166 2
    have hcz56_3 : w55.cell? ⟨gb166, 3, none⟩ = some (.int .i64 ((rd_T46 l0 x11_1).f3.f0)) := My.b_ BK166 3
    have hcz56_4 : w55.cell? ⟨gb166, 4, none⟩ = some (.int .i64 ((rd_T46 l0 x11_1).f3.f1.f0)) := My.b_ BK166 4
    have hcz56_5 : w55.cell? ⟨gb166, 5, none⟩ = some (.int .i64 ((rd_T46 l0 x11_1).f3.f1.f1)) := My.b_ BK166 5
    have hcz56_6 : w55.cell? ⟨gb166, 6, none⟩ = some (.slice A165_6 ((rd_T46 l0 x11_1).f3.f1.f2).length c165_6) := My.b_ BK166 6
    have hcz56_7 : w55.cell? ⟨gb166, 7, none⟩ = some (.string ((rd_T46 l0 x11_1).f3.f2)) := My.b_ BK166 7
    have hcz56_8 : w55.cell? ⟨gb166, 8, none⟩ = some (.int .i64 ((rd_T46 l0 x11_1).f3.f3)) := My.b_ BK166 8
    have hfz56_0 := blk_frozen BK166.out 0
    have hfz56_1 := blk_frozen BK166.out 1
    have hfz56_2 := blk_frozen BK166.out 2
    have hfz56_3 := blk_frozen BK166.out 3
    have hfz56_4 := blk_frozen BK166.out 4
    have hfz56_5 := blk_frozen BK166.out 5
    have hfz56_6 := blk_frozen BK166.out 6
    have hfz56_7 := blk_frozen BK166.out 7
    have hfz56_8 := blk_frozen BK166.out 8
    try go_wp2
    go_roundg k1
    case measure => have := HK1.out; omega
    case rel => exact ⟨(wrap64 (((rd_T46 l0 x11_1).f0) + 1)), (wrap64 (x11_1 + 1)), My.r1, My.r1, H', ⟨by have := HK1.out; omega⟩, ⟨(My.bl_ HB)⟩⟩
end Go.Proofs.Ytcgmoeiknkdljaa.PA
