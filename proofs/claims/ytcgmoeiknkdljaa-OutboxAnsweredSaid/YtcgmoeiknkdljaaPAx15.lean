-- Written by a program of this session (wip/tools/mp.py over the kit's printer); Lean checks it.
import Derived.Test.YtcgmoeiknkdljaaPAx0
import Derived.Test.YtcgmoeiknkdljaaPAx12
import Derived.Test.YtcgmoeiknkdljaaPAx14
namespace Go.Proofs.Ytcgmoeiknkdljaa.PA
open Go.RowKit Go.Proofs.YtcgmoeiknkdljaaW.PrintWords Go.Proofs.YtcgmoeiknkdljaaW.PrintLast Go.Proofs.YtcgmoeiknkdljaaW.PrintMore
attribute [local go_sem] max2_int min2_int max_two min_two max_three min_three max_four min_four   -- for this text's walks alone
set_option linter.unusedVariables false
set_option maxHeartbeats 8000000
set_option maxRecDepth 100000
set_option linter.unusedSimpArgs false

/-! ### ententeref19_May: function 14 -/
mutual
def ententeref19_May.l0 : Nat → List (S46) → Int → Option (Int)
 | 0, _, _ => none
 | k + 1, x0, x3 => if x3 < (x0.length : Int) then (if 0 ≤ x3 then (if ((rd_T46 x0 x3).f0) < 1 then (ententeref19_May.j1 k x0 x3 true ((rd_T46 x0 x3).f0) ((rd_T46 x0 x3).f1) ((rd_T46 x0 x3).f2) ((rd_T46 x0 x3).f3.f0) ((rd_T46 x0 x3).f3.f1.f0) ((rd_T46 x0 x3).f3.f1.f1) ((rd_T46 x0 x3).f3.f1.f2) ((rd_T46 x0 x3).f3.f2) ((rd_T46 x0 x3).f3.f3)) else (if ((rd_T46 x0 x3).f0) > 1000000000 then (ententeref19_May.j1 k x0 x3 true ((rd_T46 x0 x3).f0) ((rd_T46 x0 x3).f1) ((rd_T46 x0 x3).f2) ((rd_T46 x0 x3).f3.f0) ((rd_T46 x0 x3).f3.f1.f0) ((rd_T46 x0 x3).f3.f1.f1) ((rd_T46 x0 x3).f3.f1.f2) ((rd_T46 x0 x3).f3.f2) ((rd_T46 x0 x3).f3.f3)) else (if x3 > 0 then (if 0 ≤ (wrap64 (x3 - 1)) then (if (wrap64 (x3 - 1)) < (x0.length : Int) then (if ((rd_T46 x0 (wrap64 (x3 - 1))).f0) ≥ ((rd_T46 x0 x3).f0) then (ententeref19_May.j1 k x0 x3 true ((rd_T46 x0 x3).f0) ((rd_T46 x0 x3).f1) ((rd_T46 x0 x3).f2) ((rd_T46 x0 x3).f3.f0) ((rd_T46 x0 x3).f3.f1.f0) ((rd_T46 x0 x3).f3.f1.f1) ((rd_T46 x0 x3).f3.f1.f2) ((rd_T46 x0 x3).f3.f2) ((rd_T46 x0 x3).f3.f3)) else ((ententeref13_Check.f k ((rd_T46 x0 x3).f3.f0) ((rd_T46 x0 x3).f3.f1.f0) ((rd_T46 x0 x3).f3.f1.f1) ((rd_T46 x0 x3).f3.f1.f2) ((rd_T46 x0 x3).f3.f2) ((rd_T46 x0 x3).f3.f3)).bind fun t283 => (if t283 = 0 then (if x3 ≤ (x0.length : Int) then ((ententeref19_among.f k (x0.take (x3 : Int).toNat) ((rd_T46 x0 x3).f3.f0) ((rd_T46 x0 x3).f3.f1.f0) ((rd_T46 x0 x3).f3.f1.f1) ((rd_T46 x0 x3).f3.f1.f2) ((rd_T46 x0 x3).f3.f2) ((rd_T46 x0 x3).f3.f3)).bind fun t288 => (ententeref19_May.j1 k x0 x3 t288 ((rd_T46 x0 x3).f0) ((rd_T46 x0 x3).f1) ((rd_T46 x0 x3).f2) ((rd_T46 x0 x3).f3.f0) ((rd_T46 x0 x3).f3.f1.f0) ((rd_T46 x0 x3).f3.f1.f1) ((rd_T46 x0 x3).f3.f1.f2) ((rd_T46 x0 x3).f3.f2) ((rd_T46 x0 x3).f3.f3))) else (none)) else (ententeref19_May.j1 k x0 x3 true ((rd_T46 x0 x3).f0) ((rd_T46 x0 x3).f1) ((rd_T46 x0 x3).f2) ((rd_T46 x0 x3).f3.f0) ((rd_T46 x0 x3).f3.f1.f0) ((rd_T46 x0 x3).f3.f1.f1) ((rd_T46 x0 x3).f3.f1.f2) ((rd_T46 x0 x3).f3.f2) ((rd_T46 x0 x3).f3.f3))))) else (none)) else (none)) else ((ententeref13_Check.f k ((rd_T46 x0 x3).f3.f0) ((rd_T46 x0 x3).f3.f1.f0) ((rd_T46 x0 x3).f3.f1.f1) ((rd_T46 x0 x3).f3.f1.f2) ((rd_T46 x0 x3).f3.f2) ((rd_T46 x0 x3).f3.f3)).bind fun t289 => (if t289 = 0 then (if x3 ≤ (x0.length : Int) then ((ententeref19_among.f k (x0.take (x3 : Int).toNat) ((rd_T46 x0 x3).f3.f0) ((rd_T46 x0 x3).f3.f1.f0) ((rd_T46 x0 x3).f3.f1.f1) ((rd_T46 x0 x3).f3.f1.f2) ((rd_T46 x0 x3).f3.f2) ((rd_T46 x0 x3).f3.f3)).bind fun t294 => (ententeref19_May.j1 k x0 x3 t294 ((rd_T46 x0 x3).f0) ((rd_T46 x0 x3).f1) ((rd_T46 x0 x3).f2) ((rd_T46 x0 x3).f3.f0) ((rd_T46 x0 x3).f3.f1.f0) ((rd_T46 x0 x3).f3.f1.f1) ((rd_T46 x0 x3).f3.f1.f2) ((rd_T46 x0 x3).f3.f2) ((rd_T46 x0 x3).f3.f3))) else (none)) else (ententeref19_May.j1 k x0 x3 true ((rd_T46 x0 x3).f0) ((rd_T46 x0 x3).f1) ((rd_T46 x0 x3).f2) ((rd_T46 x0 x3).f3.f0) ((rd_T46 x0 x3).f3.f1.f0) ((rd_T46 x0 x3).f3.f1.f1) ((rd_T46 x0 x3).f3.f1.f2) ((rd_T46 x0 x3).f3.f2) ((rd_T46 x0 x3).f3.f3))))))) else (none)) else (some 0)
def ententeref19_May.j1 : Nat → List (S46) → Int → Bool → Int → Int → Int → Int → Int → Int → List (S62) → ByteArray → Int → Option (Int)
 | 0, _, _, _, _, _, _, _, _, _, _, _, _ => none
 | k + 1, x0, x3, x54, x282000, x282001, x282002, x282003, x282004, x282005, x282006, x282007, x282008 => if x54 = true then (some 2) else (if x282001 < 0 then (some 2) else (if x282001 > 1000000016 then (some 2) else (if x282002 < 0 then (some 2) else (if x282002 > 1000000 then (some 2) else (ententeref19_May.l0 k x0 (wrap64 (x3 + 1)))))))
end
def ententeref19_May.f (k : Nat) (l0 : List (S46)) : Option (Int) := if (l0.length : Int) > 12 then (some 2) else (ententeref19_May.l0 k l0 0)
theorem ententeref19_May.mono_l : ∀ k, (∀ y0 y1, LeO (ententeref19_May.l0 k y0 y1) (ententeref19_May.l0 (k + 1) y0 y1)) ∧ (∀ y0 y1 y2 y3 y4 y5 y6 y7 y8 y9 y10 y11, LeO (ententeref19_May.j1 k y0 y1 y2 y3 y4 y5 y6 y7 y8 y9 y10 y11) (ententeref19_May.j1 (k + 1) y0 y1 y2 y3 y4 y5 y6 y7 y8 y9 y10 y11))
 | 0 => ⟨fun _ _ r h => by simp [ententeref19_May.l0] at h, fun _ _ _ _ _ _ _ _ _ _ _ _ r h => by simp [ententeref19_May.j1] at h⟩
 | k + 1 => by
  obtain ⟨ih0, ih1⟩ := ententeref19_May.mono_l k
  refine ⟨?_, ?_⟩
  ·intro y0 y1
   unfold ententeref19_May.l0
   repeat' (with_reducible first | exact ih0 _ _ | exact ih1 _ _ _ _ _ _ _ _ _ _ _ _ | exact ententeref13_Check.mono _ _ _ _ _ _ _ | exact ententeref19_among.mono _ _ _ _ _ _ _ _ | exact LeO.refl _ | exact LeO.none _ | apply LeO.ite | refine LeO.bind ?_ (fun _ => ?_))
  intro y0 y1 y2 y3 y4 y5 y6 y7 y8 y9 y10 y11
  unfold ententeref19_May.j1
  repeat' (with_reducible first | exact ih0 _ _ | exact ih1 _ _ _ _ _ _ _ _ _ _ _ _ | exact ententeref13_Check.mono _ _ _ _ _ _ _ | exact ententeref19_among.mono _ _ _ _ _ _ _ _ | exact LeO.refl _ | exact LeO.none _ | apply LeO.ite | refine LeO.bind ?_ (fun _ => ?_))
theorem ententeref19_May.mono : ∀ a0 k, LeO (ententeref19_May.f k a0) (ententeref19_May.f (k + 1) a0) := by
 intro a0 k
 obtain ⟨ih0, ih1⟩ := ententeref19_May.mono_l k
 unfold ententeref19_May.f
 repeat' (with_reducible first | exact ih0 _ _ | exact ih1 _ _ _ _ _ _ _ _ _ _ _ _ | exact ententeref13_Check.mono _ _ _ _ _ _ _ | exact ententeref19_among.mono _ _ _ _ _ _ _ _ | exact LeO.refl _ | exact LeO.none _ | apply LeO.ite | refine LeO.bind ?_ (fun _ => ?_))
def ententeref19_May.T7 : Bool × List (List Nat × List Nat) := (true, [([], []), ([0], [0]), ([1], [1]), ([2], [2]), ([3], [3]), ([4, 3], [3, 4]), ([5, 3], [3, 5]), ([3, 6], [3, 6]), ([7, 3], [7]), ([8], [8]), ([9, 8], [8, 9]), ([10, 8, 8], [8, 10]), ([11], [11]), ([11], [11]), ([13, 11], [11, 13]), ([12, 14, 11], [11, 12, 14]), ([15, 11], [11, 15]), ([16, 11], [11, 16]), ([11], [11]), ([18, 11], [11, 18]), ([17, 19, 11], [11, 17, 19]), ([11, 20, 8], [8, 11, 20]), ([8, 21], [8, 21]), ([22, 11], [22]), ([23], [23]), ([24, 23], [23, 24]), ([25, 23, 23], [23, 25]), ([26, 23], [23, 26]), ([23, 27], [23, 27]), ([28, 26], [28]), ([29], [29]), ([29], [29]), ([30, 31, 29], [29, 30, 31]), ([29], [29]), ([33, 29], [29, 33]), ([32, 34, 29, 29], [29, 32, 34]), ([29, 35], [29, 35])])
def ententeref19_May.B7 : List Nat := [0, 1, 3, 7, 15, 31, 63, 127, 255, 511, 1023, 2047, 4095, 4095, 12287, 32767, 65535, 131071, 4095, 266239, 1048575, 2097151, 4194303, 8388607, 16777215, 33554431, 67108863, 134217727, 268435455, 536870911, 1073741823, 1073741823, 4294967295, 1073741823, 9663676415, 34359738367, 68719476735]
theorem ententeref19_May.tab7 : rtab .any (opsOf Try.f14 7) = ententeref19_May.T7 := by kernel_rfl
theorem ententeref19_May.bits7 : waitsOk ententeref19_May.T7.2 ententeref19_May.B7 = true := by kernel_rfl
theorem ententeref19_May.calls (k : Nat) (A0 : Option Addr) (c0 : Nat) (l0 : List (S46)) (r : Int) (w : World) (hr0 : Kd.C k46 w A0 l0.length l0) (hc0 : l0.length ≤ c0) (h : ententeref19_May.f k l0 = some r) :
  Calls Try.prog 14 #[.slice A0 l0.length c0] w fun e w' => e = .returned (.int .i64 r) ∧ Below w.heap.size w w' := by
 have hu46 := Try.underlying46
 have hu37 := Try.underlying37
 have HR0 := My.am hr0
 have HC0 := My.am hc0
 clear hr0 hc0
 have HB := My.am (Below.refl w.heap.size w)
 unfold ententeref19_May.f at h
 have H := h
 clear h
 by_cases c2 : (l0.length : Int) > 12
 ·rw [if_pos c2] at H
  have c2b0 : decide (12 < (l0.length : Int)) = true := decide_eq_true c2
  have c2b1 : decide (12 < l0.length) = true := decide_eq_true (by omega)
  clear c2
  obtain rfl := Option.some.inj H
  go_enter Try.func14, Try.ntmps14
  go_wp2
  go_ret
  exact ⟨My.r2, (My.bl_ HB)⟩
 ·rw [if_neg c2] at H
  have c2b0 : decide (12 < (l0.length : Int)) = false := decide_eq_false c2
  have c2b1 : decide (12 < l0.length) = false := decide_eq_false (by omega)
  clear c2
  have H' := My.am H
  clear H
  go_enter Try.func14, Try.ntmps14
  go_wp2
  go_loopg [3] k (fun kq v3 w' => ∃ (x3_1 : Int), v3 = .int .i64 x3_1 ∧ Aside0 (ententeref19_May.l0 kq l0 x3_1 = some r) ∧ Aside0 (kq ≤ k) ∧ Aside0 (Below w.heap.size w w'))
  case atStart => exact ⟨(0), My.r1, H', ⟨Nat.le_refl _⟩, ⟨(My.bl_ HB)⟩⟩
  case round =>
   clear H'
   try clear c2
   try clear c2b0
   try clear c2b1
   obtain ⟨x3_1, rfl, HA, HK1, HB⟩ := hrel
   cases gk with
   | zero => exact absurd HA.out (by simp [ententeref19_May.l0])
   | succ k1 =>
    have H := HA.out
    clear HA
    simp only [ententeref19_May.l0] at H
    by_cases c3 : x3_1 < (l0.length : Int)
    rotate_left
    ·rw [if_neg c3] at H
     have c3b0 := decide_eq_false c3
     clear c3
     obtain rfl := Option.some.inj H
     go_wp2
     go_ret
     exact ⟨My.r2, (My.bl_ HB)⟩

    rw [if_pos c3] at H
    have c3b0 := decide_eq_true c3
    clear c3
    replace H := My.ds H
    obtain ⟨c4b0, H⟩ := H
    have HC5 := My.am H
    clear H
    have p280 : 0 ≤ (x3_1 : Int) := My.as_
    have q280 : x3_1 < (l0.length : Int) := My.as_
    obtain ⟨ad280, A280_6, c280_6, e280, hx280_0, hx280_1, hx280_2, hx280_3, hx280_4, hx280_5, hx280_6, hx280_7, hx280_8, hl280_6, hi280_6⟩ := at_T46 HR0.out x3_1 p280 q280
    cases e280
    replace hx280_0 := My.up HB hx280_0
    replace hx280_1 := My.up HB hx280_1
    replace hx280_2 := My.up HB hx280_2
    replace hx280_3 := My.up HB hx280_3
    replace hx280_4 := My.up HB hx280_4
    replace hx280_5 := My.up HB hx280_5
    replace hx280_6 := My.up HB hx280_6
    replace hx280_7 := My.up HB hx280_7
    replace hx280_8 := My.up HB hx280_8
    have HR280_6 := My.am hi280_6
    have HC280_6 := My.am hl280_6
    clear hi280_6 hl280_6
    replace p280 := eq_true p280
    replace q280 := eq_true q280
    go_upto_region 7 with (first | ((with_reducible refine gate_dst (N := 4) rfl ?_); refine My.bx 4 #[.int .i64 0, .int .i64 0, .int .i64 0, .int .i64 0, .int .i64 0, .int .i64 0, .slice none 0 0, .string (⟨#[]⟩ : ByteArray), .int .i64 0] 46 ?_; intro gb281 hg w6 hbox hb; have BK281 := My.am (hbox); have GE281 := My.nge hg (My.bl_ HB); replace HB := My.st HB hb; clear hb hbox hg; have hcz7_0 : w6.cell? ⟨gb281, 0, none⟩ = some (.int .i64 0) := My.b_ BK281 0; have hcz7_1 : w6.cell? ⟨gb281, 1, none⟩ = some (.int .i64 0) := My.b_ BK281 1; have hcz7_2 : w6.cell? ⟨gb281, 2, none⟩ = some (.int .i64 0) := My.b_ BK281 2; have hcz7_3 : w6.cell? ⟨gb281, 3, none⟩ = some (.int .i64 0) := My.b_ BK281 3; have hcz7_4 : w6.cell? ⟨gb281, 4, none⟩ = some (.int .i64 0) := My.b_ BK281 4; have hcz7_5 : w6.cell? ⟨gb281, 5, none⟩ = some (.int .i64 0) := My.b_ BK281 5; have hcz7_6 : w6.cell? ⟨gb281, 6, none⟩ = some (.slice none 0 0) := My.b_ BK281 6; have hcz7_7 : w6.cell? ⟨gb281, 7, none⟩ = some (.string (⟨#[]⟩ : ByteArray)) := My.b_ BK281 7; have hcz7_8 : w6.cell? ⟨gb281, 8, none⟩ = some (.int .i64 0) := My.b_ BK281 8; have hfz7_0 := blk_frozen BK281.out 0; have hfz7_1 := blk_frozen BK281.out 1; have hfz7_2 := blk_frozen BK281.out 2; have hfz7_3 := blk_frozen BK281.out 3; have hfz7_4 := blk_frozen BK281.out 4; have hfz7_5 := blk_frozen BK281.out 5; have hfz7_6 := blk_frozen BK281.out 6; have hfz7_7 := blk_frozen BK281.out 7; have hfz7_8 := blk_frozen BK281.out 8))
    (try simp only [Act.put, List.setIfInBounds_toArray, List.set_cons_zero, List.set_cons_succ])
    go_cut [54] (fun v54 wc => ∃ (kq : Nat) (x54_4 : Bool), v54 = .bool x54_4 ∧ Aside0 (ententeref19_May.j1 kq l0 x3_1 x54_4 ((rd_T46 l0 x3_1).f0) ((rd_T46 l0 x3_1).f1) ((rd_T46 l0 x3_1).f2) ((rd_T46 l0 x3_1).f3.f0) ((rd_T46 l0 x3_1).f3.f1.f0) ((rd_T46 l0 x3_1).f3.f1.f1) ((rd_T46 l0 x3_1).f3.f1.f2) ((rd_T46 l0 x3_1).f3.f2) ((rd_T46 l0 x3_1).f3.f3) = some r) ∧ Aside0 (kq ≤ k1) ∧ Aside0 (wc.heap[gb281]? = some (.cells #[.int .i64 ((rd_T46 l0 x3_1).f0), .int .i64 ((rd_T46 l0 x3_1).f1), .int .i64 ((rd_T46 l0 x3_1).f2), .int .i64 ((rd_T46 l0 x3_1).f3.f0), .int .i64 ((rd_T46 l0 x3_1).f3.f1.f0), .int .i64 ((rd_T46 l0 x3_1).f3.f1.f1), (.slice A280_6 ((rd_T46 l0 x3_1).f3.f1.f2).length c280_6), .string ((rd_T46 l0 x3_1).f3.f2), .int .i64 ((rd_T46 l0 x3_1).f3.f3)] 46 (0, 0))) ∧ Aside0 (Below w.heap.size w wc))
    case first =>
     have H := HC5.out
     clear HC5
     by_cases c8 : ((rd_T46 l0 x3_1).f0) < 1
     ·rw [if_pos c8] at H
      have c8b0 := decide_eq_true c8
      clear c8
      (first | rw [c8b0] | (simp only [i64_w, i32_w]; rw [c8b0]) | skip)
      have H' := My.am H
      clear H
      try go_wp2
      obtain ⟨w9, hz_⟩ : ∃ z_, z_ = (((((((((w6.setCell ⟨gb281, 0, none⟩ (.int .i64 ((rd_T46 l0 x3_1).f0))).setCell ⟨gb281, 1, none⟩ (.int .i64 ((rd_T46 l0 x3_1).f1))).setCell ⟨gb281, 2, none⟩ (.int .i64 ((rd_T46 l0 x3_1).f2))).setCell ⟨gb281, 3, none⟩ (.int .i64 ((rd_T46 l0 x3_1).f3.f0))).setCell ⟨gb281, 4, none⟩ (.int .i64 ((rd_T46 l0 x3_1).f3.f1.f0))).setCell ⟨gb281, 5, none⟩ (.int .i64 ((rd_T46 l0 x3_1).f3.f1.f1))).setCell ⟨gb281, 6, none⟩ (.slice A280_6 ((rd_T46 l0 x3_1).f3.f1.f2).length c280_6)).setCell ⟨gb281, 7, none⟩ (.string ((rd_T46 l0 x3_1).f3.f2))).setCell ⟨gb281, 8, none⟩ (.int .i64 ((rd_T46 l0 x3_1).f3.f3))) := ⟨_, rfl⟩
      replace BK281 : Aside0 (w9.heap[gb281]? = some (.cells #[.int .i64 ((rd_T46 l0 x3_1).f0), .int .i64 ((rd_T46 l0 x3_1).f1), .int .i64 ((rd_T46 l0 x3_1).f2), .int .i64 ((rd_T46 l0 x3_1).f3.f0), .int .i64 ((rd_T46 l0 x3_1).f3.f1.f0), .int .i64 ((rd_T46 l0 x3_1).f3.f1.f1), .slice A280_6 ((rd_T46 l0 x3_1).f3.f1.f2).length c280_6, .string ((rd_T46 l0 x3_1).f3.f2), .int .i64 ((rd_T46 l0 x3_1).f3.f3)] 46 (0, 0))) := ⟨by rw [hz_]; exact (My.sv_ BK281)⟩
      replace HB : Aside0 (Below w.heap.size w w9) := ⟨by rw [hz_]; repeat (first | (with_reducible first | exact HB.out | apply below_alloc | apply pw_below_drewN | apply below_drew1 | refine below_set ?_ GE281.out) | exact HB.out)⟩
      rw [← hz_]
      clear hz_
      replace BK281 := My.am (blk_drew BK281.out)
      replace HB := My.am (below_drew1 HB.out)
      refine start_ (n := 37) (S := fun w' => w'.cell? ⟨gb281, 0, none⟩ = some (.int .i64 ((rd_T46 l0 x3_1).f0)) ∧ w'.cell? ⟨gb281, 1, none⟩ = some (.int .i64 ((rd_T46 l0 x3_1).f1)) ∧ w'.cell? ⟨gb281, 2, none⟩ = some (.int .i64 ((rd_T46 l0 x3_1).f2)) ∧ w'.cell? ⟨gb281, 3, none⟩ = some (.int .i64 ((rd_T46 l0 x3_1).f3.f0)) ∧ w'.cell? ⟨gb281, 4, none⟩ = some (.int .i64 ((rd_T46 l0 x3_1).f3.f1.f0)) ∧ w'.cell? ⟨gb281, 5, none⟩ = some (.int .i64 ((rd_T46 l0 x3_1).f3.f1.f1)) ∧ w'.cell? ⟨gb281, 6, none⟩ = some (.slice A280_6 ((rd_T46 l0 x3_1).f3.f1.f2).length c280_6) ∧ w'.cell? ⟨gb281, 7, none⟩ = some (.string ((rd_T46 l0 x3_1).f3.f2)) ∧ w'.cell? ⟨gb281, 8, none⟩ = some (.int .i64 ((rd_T46 l0 x3_1).f3.f3))) (ds := []) #[false, false, false, false, false, false, false, false, false, false, false, false, false, false, false, false, false, false, false, false, false, false, false, false, false, false, false, false, false, false, false, false, false, false, false, false, false] (by kernel_rfl) rfl rfl ⟨My.b_ BK281 0, My.b_ BK281 1, My.b_ BK281 2, My.b_ BK281 3, My.b_ BK281 4, My.b_ BK281 5, My.b_ BK281 6, My.b_ BK281 7, My.b_ BK281 8⟩ (fun hHeld => ?_); refine with_tabW ententeref19_May.tab7 ententeref19_May.bits7 (fun HT_ HW_ => ?_)
      generalize w9.drew = w10 at BK281 HB hHeld ⊢
      refine My.pu_ 0 18 37 HT_.out ?_
      refine My.ta_ 1 19 37 HT_.out HW_.out hHeld rfl rfl (by rintro w' ⟨s0, s1, s2, s3, s4, s5, s6, s7, s8⟩; go_simp; with_reducible rfl) ?_
      refine My.pu_ 2 20 37 HT_.out ?_
      refine My.pu_ 3 21 37 HT_.out ?_
      refine My.pn_ 4 22 37 HT_.out ?_
      refine My.pn_ 5 23 37 HT_.out ?_
      refine My.pn_ 6 24 37 HT_.out ?_
      refine My.pu_ 7 25 37 HT_.out ?_
      refine My.pu_ 8 26 37 HT_.out ?_
      refine My.pn_ 9 27 37 HT_.out ?_
      refine My.pn_ 10 28 37 HT_.out ?_
      refine My.pn_ 11 29 37 HT_.out ?_
      refine My.pn_ 12 30 37 HT_.out ?_
      refine My.pn_ 13 31 37 HT_.out ?_
      refine My.pn_ 14 32 37 HT_.out ?_
      refine My.pn_ 15 33 37 HT_.out ?_
      refine My.pn_ 16 34 37 HT_.out ?_
      refine My.pn_ 17 35 37 HT_.out ?_
      refine My.pn_ 18 36 37 HT_.out ?_
      refine My.pn_ 19 37 37 HT_.out ?_
      refine My.pn_ 20 38 37 HT_.out ?_
      refine My.pn_ 21 39 37 HT_.out ?_
      refine My.pu_ 22 40 37 HT_.out ?_
      refine My.pu_ 23 41 37 HT_.out ?_
      refine My.pn_ 24 42 37 HT_.out ?_
      refine My.pn_ 25 43 37 HT_.out ?_
      refine My.pn_ 26 44 37 HT_.out ?_
      refine My.pn_ 27 45 37 HT_.out ?_
      refine My.pu_ 28 46 37 HT_.out ?_
      refine My.pu_ 29 47 37 HT_.out ?_
      refine My.pn_ 30 48 37 HT_.out ?_
      refine My.pn_ 31 49 37 HT_.out ?_
      refine My.pn_ 32 50 37 HT_.out ?_
      refine My.pn_ 33 51 37 HT_.out ?_
      refine My.pn_ 34 52 37 HT_.out ?_
      refine My.pn_ 35 53 37 HT_.out ?_
      refine My.pu_ 36 54 37 HT_.out ?_
      refine done_ (done_of HT_.out (by kernel_rfl)) ?_
      try go_wp2
      go_meet
      case rel => exact ⟨_, (true), My.r1, H', ⟨by have := HK1.out; first | omega | exact Nat.le_refl _⟩, ⟨(My.at_ BK281)⟩, ⟨(My.bl_ HB)⟩⟩
     rw [if_neg c8] at H
     have c8b0 := decide_eq_false c8
     clear c8
     (first | rw [c8b0] | (simp only [i64_w, i32_w]; rw [c8b0]) | skip)
     by_cases c11 : ((rd_T46 l0 x3_1).f0) > 1000000000
     ·rw [if_pos c11] at H
      have c11b0 : decide (1000000000 < ((rd_T46 l0 x3_1).f0)) = true := decide_eq_true c11
      clear c11
      have H' := My.am H
      clear H
      try go_wp2
      obtain ⟨w12, hz_⟩ : ∃ z_, z_ = (((((((((w6.setCell ⟨gb281, 0, none⟩ (.int .i64 ((rd_T46 l0 x3_1).f0))).setCell ⟨gb281, 1, none⟩ (.int .i64 ((rd_T46 l0 x3_1).f1))).setCell ⟨gb281, 2, none⟩ (.int .i64 ((rd_T46 l0 x3_1).f2))).setCell ⟨gb281, 3, none⟩ (.int .i64 ((rd_T46 l0 x3_1).f3.f0))).setCell ⟨gb281, 4, none⟩ (.int .i64 ((rd_T46 l0 x3_1).f3.f1.f0))).setCell ⟨gb281, 5, none⟩ (.int .i64 ((rd_T46 l0 x3_1).f3.f1.f1))).setCell ⟨gb281, 6, none⟩ (.slice A280_6 ((rd_T46 l0 x3_1).f3.f1.f2).length c280_6)).setCell ⟨gb281, 7, none⟩ (.string ((rd_T46 l0 x3_1).f3.f2))).setCell ⟨gb281, 8, none⟩ (.int .i64 ((rd_T46 l0 x3_1).f3.f3))) := ⟨_, rfl⟩
      replace BK281 : Aside0 (w12.heap[gb281]? = some (.cells #[.int .i64 ((rd_T46 l0 x3_1).f0), .int .i64 ((rd_T46 l0 x3_1).f1), .int .i64 ((rd_T46 l0 x3_1).f2), .int .i64 ((rd_T46 l0 x3_1).f3.f0), .int .i64 ((rd_T46 l0 x3_1).f3.f1.f0), .int .i64 ((rd_T46 l0 x3_1).f3.f1.f1), .slice A280_6 ((rd_T46 l0 x3_1).f3.f1.f2).length c280_6, .string ((rd_T46 l0 x3_1).f3.f2), .int .i64 ((rd_T46 l0 x3_1).f3.f3)] 46 (0, 0))) := ⟨by rw [hz_]; exact (My.sv_ BK281)⟩
      replace HB : Aside0 (Below w.heap.size w w12) := ⟨by rw [hz_]; repeat (first | (with_reducible first | exact HB.out | apply below_alloc | apply pw_below_drewN | apply below_drew1 | refine below_set ?_ GE281.out) | exact HB.out)⟩
      rw [← hz_]
      clear hz_
      replace BK281 := My.am (blk_drew BK281.out)
      replace HB := My.am (below_drew1 HB.out)
      refine start_ (n := 37) (S := fun w' => w'.cell? ⟨gb281, 0, none⟩ = some (.int .i64 ((rd_T46 l0 x3_1).f0)) ∧ w'.cell? ⟨gb281, 1, none⟩ = some (.int .i64 ((rd_T46 l0 x3_1).f1)) ∧ w'.cell? ⟨gb281, 2, none⟩ = some (.int .i64 ((rd_T46 l0 x3_1).f2)) ∧ w'.cell? ⟨gb281, 3, none⟩ = some (.int .i64 ((rd_T46 l0 x3_1).f3.f0)) ∧ w'.cell? ⟨gb281, 4, none⟩ = some (.int .i64 ((rd_T46 l0 x3_1).f3.f1.f0)) ∧ w'.cell? ⟨gb281, 5, none⟩ = some (.int .i64 ((rd_T46 l0 x3_1).f3.f1.f1)) ∧ w'.cell? ⟨gb281, 6, none⟩ = some (.slice A280_6 ((rd_T46 l0 x3_1).f3.f1.f2).length c280_6) ∧ w'.cell? ⟨gb281, 7, none⟩ = some (.string ((rd_T46 l0 x3_1).f3.f2)) ∧ w'.cell? ⟨gb281, 8, none⟩ = some (.int .i64 ((rd_T46 l0 x3_1).f3.f3))) (ds := []) #[false, false, false, false, false, false, false, false, false, false, false, false, false, false, false, false, false, false, false, false, false, false, false, false, false, false, false, false, false, false, false, false, false, false, false, false, false] (by kernel_rfl) rfl rfl ⟨My.b_ BK281 0, My.b_ BK281 1, My.b_ BK281 2, My.b_ BK281 3, My.b_ BK281 4, My.b_ BK281 5, My.b_ BK281 6, My.b_ BK281 7, My.b_ BK281 8⟩ (fun hHeld => ?_); refine with_tabW ententeref19_May.tab7 ententeref19_May.bits7 (fun HT_ HW_ => ?_)
      generalize w12.drew = w13 at BK281 HB hHeld ⊢
      refine My.pu_ 0 18 37 HT_.out ?_
      refine My.ta_ 1 19 37 HT_.out HW_.out hHeld rfl rfl (by rintro w' ⟨s0, s1, s2, s3, s4, s5, s6, s7, s8⟩; go_simp; with_reducible rfl) ?_
      refine My.pu_ 2 20 37 HT_.out ?_
      refine My.pu_ 3 21 37 HT_.out ?_
      refine My.pu_ 4 22 37 HT_.out ?_
      refine My.ta_ 5 23 37 HT_.out HW_.out hHeld rfl rfl (by rintro w' ⟨s0, s1, s2, s3, s4, s5, s6, s7, s8⟩; go_simp; with_reducible rfl) ?_
      refine My.pu_ 6 24 37 HT_.out ?_
      refine My.pu_ 7 25 37 HT_.out ?_
      refine My.pu_ 8 26 37 HT_.out ?_
      refine My.pn_ 9 27 37 HT_.out ?_
      refine My.pn_ 10 28 37 HT_.out ?_
      refine My.pn_ 11 29 37 HT_.out ?_
      refine My.pn_ 12 30 37 HT_.out ?_
      refine My.pn_ 13 31 37 HT_.out ?_
      refine My.pn_ 14 32 37 HT_.out ?_
      refine My.pn_ 15 33 37 HT_.out ?_
      refine My.pn_ 16 34 37 HT_.out ?_
      refine My.pn_ 17 35 37 HT_.out ?_
      refine My.pn_ 18 36 37 HT_.out ?_
      refine My.pn_ 19 37 37 HT_.out ?_
      refine My.pn_ 20 38 37 HT_.out ?_
      refine My.pn_ 21 39 37 HT_.out ?_
      refine My.pu_ 22 40 37 HT_.out ?_
      refine My.pu_ 23 41 37 HT_.out ?_
      refine My.pn_ 24 42 37 HT_.out ?_
      refine My.pn_ 25 43 37 HT_.out ?_
      refine My.pn_ 26 44 37 HT_.out ?_
      refine My.pn_ 27 45 37 HT_.out ?_
      refine My.pu_ 28 46 37 HT_.out ?_
      refine My.pu_ 29 47 37 HT_.out ?_
      refine My.pn_ 30 48 37 HT_.out ?_
      refine My.pn_ 31 49 37 HT_.out ?_
      refine My.pn_ 32 50 37 HT_.out ?_
      refine My.pn_ 33 51 37 HT_.out ?_
      refine My.pn_ 34 52 37 HT_.out ?_
      refine My.pn_ 35 53 37 HT_.out ?_
      refine My.pu_ 36 54 37 HT_.out ?_
      refine done_ (done_of HT_.out (by kernel_rfl)) ?_
      try go_wp2
      go_meet
      case rel => exact ⟨_, (true), My.r1, H', ⟨by have := HK1.out; first | omega | exact Nat.le_refl _⟩, ⟨(My.at_ BK281)⟩, ⟨(My.bl_ HB)⟩⟩
     rw [if_neg c11] at H
     have c11b0 : decide (1000000000 < ((rd_T46 l0 x3_1).f0)) = false := decide_eq_false c11
     clear c11
     by_cases c14 : x3_1 > 0
     rotate_left
     ·rw [if_neg c14] at H
      have c14b0 : decide (0 < x3_1) = false := decide_eq_false c14
      clear c14
      replace H := Option.bind_eq_some_iff.mp H
      obtain ⟨t289, A340, H⟩ := H
      try dsimp only at H
      have A34 := My.am A340
      clear A340
      by_cases c35 : t289 = 0
      rotate_left
      ·rw [if_neg c35] at H
       have c35b0 : (t289 == 0) = false := beq_eq_false_iff_ne.mpr c35
       have c35b1 : (t289 != 0) = true := bne_iff_ne.mpr c35
       have H' := My.am H
       clear H
       try go_wp2
       obtain ⟨w44, hz_⟩ : ∃ z_, z_ = (((((((((w6.setCell ⟨gb281, 0, none⟩ (.int .i64 ((rd_T46 l0 x3_1).f0))).setCell ⟨gb281, 1, none⟩ (.int .i64 ((rd_T46 l0 x3_1).f1))).setCell ⟨gb281, 2, none⟩ (.int .i64 ((rd_T46 l0 x3_1).f2))).setCell ⟨gb281, 3, none⟩ (.int .i64 ((rd_T46 l0 x3_1).f3.f0))).setCell ⟨gb281, 4, none⟩ (.int .i64 ((rd_T46 l0 x3_1).f3.f1.f0))).setCell ⟨gb281, 5, none⟩ (.int .i64 ((rd_T46 l0 x3_1).f3.f1.f1))).setCell ⟨gb281, 6, none⟩ (.slice A280_6 ((rd_T46 l0 x3_1).f3.f1.f2).length c280_6)).setCell ⟨gb281, 7, none⟩ (.string ((rd_T46 l0 x3_1).f3.f2))).setCell ⟨gb281, 8, none⟩ (.int .i64 ((rd_T46 l0 x3_1).f3.f3))) := ⟨_, rfl⟩
       replace BK281 : Aside0 (w44.heap[gb281]? = some (.cells #[.int .i64 ((rd_T46 l0 x3_1).f0), .int .i64 ((rd_T46 l0 x3_1).f1), .int .i64 ((rd_T46 l0 x3_1).f2), .int .i64 ((rd_T46 l0 x3_1).f3.f0), .int .i64 ((rd_T46 l0 x3_1).f3.f1.f0), .int .i64 ((rd_T46 l0 x3_1).f3.f1.f1), .slice A280_6 ((rd_T46 l0 x3_1).f3.f1.f2).length c280_6, .string ((rd_T46 l0 x3_1).f3.f2), .int .i64 ((rd_T46 l0 x3_1).f3.f3)] 46 (0, 0))) := ⟨by rw [hz_]; exact (My.sv_ BK281)⟩
       replace HB : Aside0 (Below w.heap.size w w44) := ⟨by rw [hz_]; repeat (first | (with_reducible first | exact HB.out | apply below_alloc | apply pw_below_drewN | apply below_drew1 | refine below_set ?_ GE281.out) | exact HB.out)⟩
       rw [← hz_]
       clear hz_
       replace BK281 := My.am (blk_drew BK281.out)
       replace HB := My.am (below_drew1 HB.out)
       refine start_ (n := 37) (S := fun w' => w'.cell? ⟨gb281, 0, none⟩ = some (.int .i64 ((rd_T46 l0 x3_1).f0)) ∧ w'.cell? ⟨gb281, 1, none⟩ = some (.int .i64 ((rd_T46 l0 x3_1).f1)) ∧ w'.cell? ⟨gb281, 2, none⟩ = some (.int .i64 ((rd_T46 l0 x3_1).f2)) ∧ w'.cell? ⟨gb281, 3, none⟩ = some (.int .i64 ((rd_T46 l0 x3_1).f3.f0)) ∧ w'.cell? ⟨gb281, 4, none⟩ = some (.int .i64 ((rd_T46 l0 x3_1).f3.f1.f0)) ∧ w'.cell? ⟨gb281, 5, none⟩ = some (.int .i64 ((rd_T46 l0 x3_1).f3.f1.f1)) ∧ w'.cell? ⟨gb281, 6, none⟩ = some (.slice A280_6 ((rd_T46 l0 x3_1).f3.f1.f2).length c280_6) ∧ w'.cell? ⟨gb281, 7, none⟩ = some (.string ((rd_T46 l0 x3_1).f3.f2)) ∧ w'.cell? ⟨gb281, 8, none⟩ = some (.int .i64 ((rd_T46 l0 x3_1).f3.f3))) (ds := []) #[false, false, false, false, false, false, false, false, false, false, false, false, false, false, false, false, false, false, false, false, false, false, false, false, false, false, false, false, false, false, false, false, false, false, false, false, false] (by kernel_rfl) rfl rfl ⟨My.b_ BK281 0, My.b_ BK281 1, My.b_ BK281 2, My.b_ BK281 3, My.b_ BK281 4, My.b_ BK281 5, My.b_ BK281 6, My.b_ BK281 7, My.b_ BK281 8⟩ (fun hHeld => ?_); refine with_tabW ententeref19_May.tab7 ententeref19_May.bits7 (fun HT_ HW_ => ?_)
       generalize w44.drew = w45 at BK281 HB hHeld ⊢
       refine My.pu_ 0 18 37 HT_.out ?_
       refine My.ta_ 1 19 37 HT_.out HW_.out hHeld rfl rfl (by rintro w' ⟨s0, s1, s2, s3, s4, s5, s6, s7, s8⟩; go_simp; with_reducible rfl) ?_
       refine My.pu_ 2 20 37 HT_.out ?_
       refine My.pu_ 3 21 37 HT_.out ?_
       refine My.pu_ 4 22 37 HT_.out ?_
       refine My.ta_ 5 23 37 HT_.out HW_.out hHeld rfl rfl (by rintro w' ⟨s0, s1, s2, s3, s4, s5, s6, s7, s8⟩; go_simp; with_reducible rfl) ?_
       refine My.pu_ 6 24 37 HT_.out ?_
       refine My.pu_ 7 25 37 HT_.out ?_
       refine My.pu_ 8 26 37 HT_.out ?_
       refine My.pu_ 9 27 37 HT_.out ?_
       refine My.pu_ 10 28 37 HT_.out ?_
       refine My.pu_ 11 29 37 HT_.out ?_
       refine My.pn_ 12 30 37 HT_.out ?_
       refine My.pn_ 13 31 37 HT_.out ?_
       refine My.pn_ 14 32 37 HT_.out ?_
       refine My.pn_ 15 33 37 HT_.out ?_
       refine My.pn_ 16 34 37 HT_.out ?_
       refine My.pn_ 17 35 37 HT_.out ?_
       refine My.pn_ 18 36 37 HT_.out ?_
       refine My.pn_ 19 37 37 HT_.out ?_
       refine My.pn_ 20 38 37 HT_.out ?_
       refine My.pu_ 21 39 37 HT_.out ?_
       refine My.pu_ 22 40 37 HT_.out ?_
       refine My.pu_ 23 41 37 HT_.out ?_
       refine My.pu_ 24 42 37 HT_.out ?_
       refine My.ta_ 25 43 37 HT_.out HW_.out hHeld rfl rfl (by rintro w' ⟨s0, s1, s2, s3, s4, s5, s6, s7, s8⟩; go_simp; with_reducible rfl) ?_
       refine one_ (i := 26) (N := some 44) (My.Mb 37 134217727) rfl rfl (one_of HT_.out (by kernel_rfl)) (by decide) (fun K hK => ?_)
       refine goes_ Try.func29 (by kernel_rfl) rfl #[.agg #[.int .i64 ((rd_T46 l0 x3_1).f3.f0), .int .i64 ((rd_T46 l0 x3_1).f3.f1.f0), .int .i64 ((rd_T46 l0 x3_1).f3.f1.f1), .slice A280_6 ((rd_T46 l0 x3_1).f3.f1.f2).length c280_6, .string ((rd_T46 l0 x3_1).f3.f2), .int .i64 ((rd_T46 l0 x3_1).f3.f3)]] (by rfl) rfl rfl My.gx ?_
       with_reducible refine (ententeref13_Check.calls k1 ((rd_T46 l0 x3_1).f3.f0) ((rd_T46 l0 x3_1).f3.f1.f0) ((rd_T46 l0 x3_1).f3.f1.f1) _ _ ((rd_T46 l0 x3_1).f3.f1.f2) ((rd_T46 l0 x3_1).f3.f2) ((rd_T46 l0 x3_1).f3.f3) t289 _ ?side1 ?side2 A34.out).mono ?_
       (case side1 => exact My.sd_ HR280_6 HB)
       (case side2 => exact HC280_6.out)
       rintro e w46 ⟨rfl, hb⟩
       refine ⟨_, rfl, ?_⟩
       replace BK281 := My.ab BK281 hb
       replace HB := My.st HB hb
       (try clear hb)
       (try clear hb2)
       (try clear hk)
       (try clear hi)
       refine hK.out _ _ ⟨My.b_ BK281 0, My.b_ BK281 1, My.b_ BK281 2, My.b_ BK281 3, My.b_ BK281 4, My.b_ BK281 5, My.b_ BK281 6, My.b_ BK281 7, My.b_ BK281 8⟩ (fun hHeld => ?_)
       clear hK K
       refine My.nm 44 ?_
       refine My.pu_ 27 45 37 HT_.out ?_
       refine My.pu_ 28 46 37 HT_.out ?_
       refine My.pu_ 29 47 37 HT_.out ?_
       refine My.pn_ 30 48 37 HT_.out ?_
       refine My.pn_ 31 49 37 HT_.out ?_
       refine My.pn_ 32 50 37 HT_.out ?_
       refine My.pn_ 33 51 37 HT_.out ?_
       refine My.pn_ 34 52 37 HT_.out ?_
       refine My.pn_ 35 53 37 HT_.out ?_
       refine My.pu_ 36 54 37 HT_.out ?_
       refine done_ (done_of HT_.out (by kernel_rfl)) ?_
       try go_wp2
       go_meet
       case rel => exact ⟨_, (true), My.r1, H', ⟨by have := HK1.out; first | omega | exact Nat.le_refl _⟩, ⟨(My.at_ BK281)⟩, ⟨(My.bl_ HB)⟩⟩
      rw [if_pos c35] at H
      have c35b0 : (t289 == 0) = true := beq_iff_eq.mpr c35
      have c35b1 : (t289 != 0) = false := bne_eq_false_iff_eq.mpr c35
      clear c35
      have c36b0 := eq_true (My.as_ : 0 ≤ x3_1)
      by_cases c37 : x3_1 ≤ (l0.length : Int)
      rotate_left
      ·exact My.nn c37 H
      rw [if_pos c37] at H
      have c37b0 := eq_true c37
      have c37b1 := decide_eq_true c37
      clear c37
      obtain ⟨y290, hy290⟩ : ∃ y_ : List (S46), y_ = (l0.take (x3_1 : Int).toNat) := ⟨_, rfl⟩
      replace H : ((ententeref19_among.f k1 y290 ((rd_T46 l0 x3_1).f3.f0) ((rd_T46 l0 x3_1).f3.f1.f0) ((rd_T46 l0 x3_1).f3.f1.f1) ((rd_T46 l0 x3_1).f3.f1.f2) ((rd_T46 l0 x3_1).f3.f2) ((rd_T46 l0 x3_1).f3.f3)).bind fun t294 => (ententeref19_May.j1 k1 l0 x3_1 t294 ((rd_T46 l0 x3_1).f0) ((rd_T46 l0 x3_1).f1) ((rd_T46 l0 x3_1).f2) ((rd_T46 l0 x3_1).f3.f0) ((rd_T46 l0 x3_1).f3.f1.f0) ((rd_T46 l0 x3_1).f3.f1.f1) ((rd_T46 l0 x3_1).f3.f1.f2) ((rd_T46 l0 x3_1).f3.f2) ((rd_T46 l0 x3_1).f3.f3))) = some r := by first | (rw [hy290]; with_reducible exact H) | (have H2_ := (Option.bind_some _ _).symm.trans H; rw [hy290]; with_reducible exact H2_) | (have H2_ := (Option.bind_some _ _).symm.trans H; with_reducible exact H2_) | with_reducible exact H | (rw [hy290]; exact H) | exact H
      have Ny290 := My.am hy290
      clear hy290
      replace H := Option.bind_eq_some_iff.mp H
      obtain ⟨t294, A380, H⟩ := H
      try dsimp only at H
      have A38 := My.am A380
      clear A380
      have H' := My.am H
      clear H
      try go_wp2
      obtain ⟨w39, hz_⟩ : ∃ z_, z_ = (((((((((w6.setCell ⟨gb281, 0, none⟩ (.int .i64 ((rd_T46 l0 x3_1).f0))).setCell ⟨gb281, 1, none⟩ (.int .i64 ((rd_T46 l0 x3_1).f1))).setCell ⟨gb281, 2, none⟩ (.int .i64 ((rd_T46 l0 x3_1).f2))).setCell ⟨gb281, 3, none⟩ (.int .i64 ((rd_T46 l0 x3_1).f3.f0))).setCell ⟨gb281, 4, none⟩ (.int .i64 ((rd_T46 l0 x3_1).f3.f1.f0))).setCell ⟨gb281, 5, none⟩ (.int .i64 ((rd_T46 l0 x3_1).f3.f1.f1))).setCell ⟨gb281, 6, none⟩ (.slice A280_6 ((rd_T46 l0 x3_1).f3.f1.f2).length c280_6)).setCell ⟨gb281, 7, none⟩ (.string ((rd_T46 l0 x3_1).f3.f2))).setCell ⟨gb281, 8, none⟩ (.int .i64 ((rd_T46 l0 x3_1).f3.f3))) := ⟨_, rfl⟩
      replace BK281 : Aside0 (w39.heap[gb281]? = some (.cells #[.int .i64 ((rd_T46 l0 x3_1).f0), .int .i64 ((rd_T46 l0 x3_1).f1), .int .i64 ((rd_T46 l0 x3_1).f2), .int .i64 ((rd_T46 l0 x3_1).f3.f0), .int .i64 ((rd_T46 l0 x3_1).f3.f1.f0), .int .i64 ((rd_T46 l0 x3_1).f3.f1.f1), .slice A280_6 ((rd_T46 l0 x3_1).f3.f1.f2).length c280_6, .string ((rd_T46 l0 x3_1).f3.f2), .int .i64 ((rd_T46 l0 x3_1).f3.f3)] 46 (0, 0))) := ⟨by rw [hz_]; exact (My.sv_ BK281)⟩
      replace HB : Aside0 (Below w.heap.size w w39) := ⟨by rw [hz_]; repeat (first | (with_reducible first | exact HB.out | apply below_alloc | apply pw_below_drewN | apply below_drew1 | refine below_set ?_ GE281.out) | exact HB.out)⟩
      rw [← hz_]
      clear hz_
      replace BK281 := My.am (blk_drew BK281.out)
      replace HB := My.am (below_drew1 HB.out)
      refine start_ (n := 37) (S := fun w' => w'.cell? ⟨gb281, 0, none⟩ = some (.int .i64 ((rd_T46 l0 x3_1).f0)) ∧ w'.cell? ⟨gb281, 1, none⟩ = some (.int .i64 ((rd_T46 l0 x3_1).f1)) ∧ w'.cell? ⟨gb281, 2, none⟩ = some (.int .i64 ((rd_T46 l0 x3_1).f2)) ∧ w'.cell? ⟨gb281, 3, none⟩ = some (.int .i64 ((rd_T46 l0 x3_1).f3.f0)) ∧ w'.cell? ⟨gb281, 4, none⟩ = some (.int .i64 ((rd_T46 l0 x3_1).f3.f1.f0)) ∧ w'.cell? ⟨gb281, 5, none⟩ = some (.int .i64 ((rd_T46 l0 x3_1).f3.f1.f1)) ∧ w'.cell? ⟨gb281, 6, none⟩ = some (.slice A280_6 ((rd_T46 l0 x3_1).f3.f1.f2).length c280_6) ∧ w'.cell? ⟨gb281, 7, none⟩ = some (.string ((rd_T46 l0 x3_1).f3.f2)) ∧ w'.cell? ⟨gb281, 8, none⟩ = some (.int .i64 ((rd_T46 l0 x3_1).f3.f3))) (ds := []) #[false, false, false, false, false, false, false, false, false, false, false, false, false, false, false, false, false, false, false, false, false, false, false, false, false, false, false, false, false, false, false, false, false, false, false, false, false] (by kernel_rfl) rfl rfl ⟨My.b_ BK281 0, My.b_ BK281 1, My.b_ BK281 2, My.b_ BK281 3, My.b_ BK281 4, My.b_ BK281 5, My.b_ BK281 6, My.b_ BK281 7, My.b_ BK281 8⟩ (fun hHeld => ?_); refine with_tabW ententeref19_May.tab7 ententeref19_May.bits7 (fun HT_ HW_ => ?_)
      generalize w39.drew = w40 at BK281 HB hHeld ⊢
      refine My.pu_ 0 18 37 HT_.out ?_
      refine My.ta_ 1 19 37 HT_.out HW_.out hHeld rfl rfl (by rintro w' ⟨s0, s1, s2, s3, s4, s5, s6, s7, s8⟩; go_simp; with_reducible rfl) ?_
      refine My.pu_ 2 20 37 HT_.out ?_
      refine My.pu_ 3 21 37 HT_.out ?_
      refine My.pu_ 4 22 37 HT_.out ?_
      refine My.ta_ 5 23 37 HT_.out HW_.out hHeld rfl rfl (by rintro w' ⟨s0, s1, s2, s3, s4, s5, s6, s7, s8⟩; go_simp; with_reducible rfl) ?_
      refine My.pu_ 6 24 37 HT_.out ?_
      refine My.pu_ 7 25 37 HT_.out ?_
      refine My.pu_ 8 26 37 HT_.out ?_
      refine My.pu_ 9 27 37 HT_.out ?_
      refine My.pu_ 10 28 37 HT_.out ?_
      refine My.pu_ 11 29 37 HT_.out ?_
      refine My.pn_ 12 30 37 HT_.out ?_
      refine My.pn_ 13 31 37 HT_.out ?_
      refine My.pn_ 14 32 37 HT_.out ?_
      refine My.pn_ 15 33 37 HT_.out ?_
      refine My.pn_ 16 34 37 HT_.out ?_
      refine My.pn_ 17 35 37 HT_.out ?_
      refine My.pn_ 18 36 37 HT_.out ?_
      refine My.pn_ 19 37 37 HT_.out ?_
      refine My.pn_ 20 38 37 HT_.out ?_
      refine My.pu_ 21 39 37 HT_.out ?_
      refine My.pu_ 22 40 37 HT_.out ?_
      refine My.pu_ 23 41 37 HT_.out ?_
      refine My.pu_ 24 42 37 HT_.out ?_
      refine My.ta_ 25 43 37 HT_.out HW_.out hHeld rfl rfl (by rintro w' ⟨s0, s1, s2, s3, s4, s5, s6, s7, s8⟩; go_simp; with_reducible rfl) ?_
      refine one_ (i := 26) (N := some 44) (My.Mb 37 134217727) rfl rfl (one_of HT_.out (by kernel_rfl)) (by decide) (fun K hK => ?_)
      refine goes_ Try.func29 (by kernel_rfl) rfl #[.agg #[.int .i64 ((rd_T46 l0 x3_1).f3.f0), .int .i64 ((rd_T46 l0 x3_1).f3.f1.f0), .int .i64 ((rd_T46 l0 x3_1).f3.f1.f1), .slice A280_6 ((rd_T46 l0 x3_1).f3.f1.f2).length c280_6, .string ((rd_T46 l0 x3_1).f3.f2), .int .i64 ((rd_T46 l0 x3_1).f3.f3)]] (by rfl) rfl rfl My.gx ?_
      with_reducible refine (ententeref13_Check.calls k1 ((rd_T46 l0 x3_1).f3.f0) ((rd_T46 l0 x3_1).f3.f1.f0) ((rd_T46 l0 x3_1).f3.f1.f1) _ _ ((rd_T46 l0 x3_1).f3.f1.f2) ((rd_T46 l0 x3_1).f3.f2) ((rd_T46 l0 x3_1).f3.f3) t289 _ ?side1 ?side2 A34.out).mono ?_
      (case side1 => exact My.sd_ HR280_6 HB)
      (case side2 => exact HC280_6.out)
      rintro e w41 ⟨rfl, hb⟩
      refine ⟨_, rfl, ?_⟩
      replace BK281 := My.ab BK281 hb
      replace HB := My.st HB hb
      (try clear hb)
      (try clear hb2)
      (try clear hk)
      (try clear hi)
      have q42 : (x3_1 : Int) ≤ ((l0.length : Int) : Int) := My.as_
      obtain ⟨i042, hi042, _, hsz42, _⟩ := info_parts info46
      have hroom42 : l0.length ≤ c0 := HC0.out
      have hC42 : Kd.C k46 _ (some ad280) l0.length l0 := HR0.out
      have hcut42 := cut_to (P := Try.prog) 22 46 .i64 Try.underlying22 hi042 (some ad280) l0.length c0 x3_1 (My.as_) q42 hroom42
      have hr42 := Kd.C_take (m := (x3_1 : Int).toNat) hC42 (by omega)
      have hy42 : y290.length = (x3_1 : Int).toNat := (by rw [Ny290.out, List.length_take]; omega)
      rw [← Ny290.out] at hr42
      rw [← hy42] at hcut42
      have HR293 := My.am hr42
      have HC293 := My.am (show y290.length ≤ c0 from by omega)
      clear hr42 hC42 hroom42 hi042 hsz42
      have KY42 := My.am hy42
      clear hy42
      replace q42 := eq_true q42
      refine hK.out _ _ ⟨My.b_ BK281 0, My.b_ BK281 1, My.b_ BK281 2, My.b_ BK281 3, My.b_ BK281 4, My.b_ BK281 5, My.b_ BK281 6, My.b_ BK281 7, My.b_ BK281 8⟩ (fun hHeld => ?_)
      clear hK K
      refine My.nm 44 ?_
      refine My.pu_ 27 45 37 HT_.out ?_
      refine My.pu_ 28 46 37 HT_.out ?_
      refine My.pu_ 29 47 37 HT_.out ?_
      refine My.pu_ 30 48 37 HT_.out ?_
      refine My.pu_ 31 49 37 HT_.out ?_
      refine My.pu_ 32 50 37 HT_.out ?_
      refine My.pu_ 33 51 37 HT_.out ?_
      refine My.ta_ 34 52 37 HT_.out HW_.out hHeld rfl rfl (by rintro w' ⟨s0, s1, s2, s3, s4, s5, s6, s7, s8⟩; go_simp; with_reducible rfl) ?_
      refine one_ (i := 35) (N := some 53) (My.Mb 37 68719476735) rfl rfl (one_of HT_.out (by kernel_rfl)) (by decide) (fun K hK => ?_)
      refine goes_ Try.func30 (by kernel_rfl) rfl #[.slice (some ad280) y290.length c0, .agg #[.int .i64 ((rd_T46 l0 x3_1).f3.f0), .int .i64 ((rd_T46 l0 x3_1).f3.f1.f0), .int .i64 ((rd_T46 l0 x3_1).f3.f1.f1), .slice A280_6 ((rd_T46 l0 x3_1).f3.f1.f2).length c280_6, .string ((rd_T46 l0 x3_1).f3.f2), .int .i64 ((rd_T46 l0 x3_1).f3.f3)]] (by rfl) rfl rfl My.gx ?_
      with_reducible refine (ententeref19_among.calls k1 _ _ y290 ((rd_T46 l0 x3_1).f3.f0) ((rd_T46 l0 x3_1).f3.f1.f0) ((rd_T46 l0 x3_1).f3.f1.f1) _ _ ((rd_T46 l0 x3_1).f3.f1.f2) ((rd_T46 l0 x3_1).f3.f2) ((rd_T46 l0 x3_1).f3.f3) t294 _ ?side1 ?side2 ?side3 ?side4 A38.out).mono ?_
      (case side1 => exact My.sd_ HR293 HB)
      (case side2 => exact HC293.out)
      (case side3 => exact My.sd_ HR280_6 HB)
      (case side4 => exact HC280_6.out)
      rintro e w43 ⟨rfl, hb⟩
      refine ⟨_, rfl, ?_⟩
      replace BK281 := My.ab BK281 hb
      replace HB := My.st HB hb
      (try clear hb)
      (try clear hb2)
      (try clear hk)
      (try clear hi)
      refine hK.out _ _ ⟨My.b_ BK281 0, My.b_ BK281 1, My.b_ BK281 2, My.b_ BK281 3, My.b_ BK281 4, My.b_ BK281 5, My.b_ BK281 6, My.b_ BK281 7, My.b_ BK281 8⟩ (fun hHeld => ?_)
      clear hK K
      refine My.nm 53 ?_
      refine My.pu_ 36 54 37 HT_.out ?_
      refine done_ (done_of HT_.out (by kernel_rfl)) ?_
      try go_wp2
      go_meet
      case rel => exact ⟨_, (t294), My.r1, H', ⟨by have := HK1.out; first | omega | exact Nat.le_refl _⟩, ⟨(My.at_ BK281)⟩, ⟨(My.bl_ HB)⟩⟩
     rw [if_pos c14] at H
     have c14b0 : decide (0 < x3_1) = true := decide_eq_true c14
     clear c14
     obtain ⟨ji15, hji15⟩ : ∃ j_ : Int, (wrap64 (x3_1 - 1)) = j_ := ⟨_, rfl⟩
     replace H : (if 0 ≤ (ji15) then (if (ji15) < (l0.length : Int) then (if ((rd_T46 l0 (ji15)).f0) ≥ ((rd_T46 l0 x3_1).f0) then (ententeref19_May.j1 k1 l0 x3_1 true ((rd_T46 l0 x3_1).f0) ((rd_T46 l0 x3_1).f1) ((rd_T46 l0 x3_1).f2) ((rd_T46 l0 x3_1).f3.f0) ((rd_T46 l0 x3_1).f3.f1.f0) ((rd_T46 l0 x3_1).f3.f1.f1) ((rd_T46 l0 x3_1).f3.f1.f2) ((rd_T46 l0 x3_1).f3.f2) ((rd_T46 l0 x3_1).f3.f3)) else ((ententeref13_Check.f k1 ((rd_T46 l0 x3_1).f3.f0) ((rd_T46 l0 x3_1).f3.f1.f0) ((rd_T46 l0 x3_1).f3.f1.f1) ((rd_T46 l0 x3_1).f3.f1.f2) ((rd_T46 l0 x3_1).f3.f2) ((rd_T46 l0 x3_1).f3.f3)).bind fun t283 => (if t283 = 0 then (if x3_1 ≤ (l0.length : Int) then ((ententeref19_among.f k1 (l0.take (x3_1 : Int).toNat) ((rd_T46 l0 x3_1).f3.f0) ((rd_T46 l0 x3_1).f3.f1.f0) ((rd_T46 l0 x3_1).f3.f1.f1) ((rd_T46 l0 x3_1).f3.f1.f2) ((rd_T46 l0 x3_1).f3.f2) ((rd_T46 l0 x3_1).f3.f3)).bind fun t288 => (ententeref19_May.j1 k1 l0 x3_1 t288 ((rd_T46 l0 x3_1).f0) ((rd_T46 l0 x3_1).f1) ((rd_T46 l0 x3_1).f2) ((rd_T46 l0 x3_1).f3.f0) ((rd_T46 l0 x3_1).f3.f1.f0) ((rd_T46 l0 x3_1).f3.f1.f1) ((rd_T46 l0 x3_1).f3.f1.f2) ((rd_T46 l0 x3_1).f3.f2) ((rd_T46 l0 x3_1).f3.f3))) else (none)) else (ententeref19_May.j1 k1 l0 x3_1 true ((rd_T46 l0 x3_1).f0) ((rd_T46 l0 x3_1).f1) ((rd_T46 l0 x3_1).f2) ((rd_T46 l0 x3_1).f3.f0) ((rd_T46 l0 x3_1).f3.f1.f0) ((rd_T46 l0 x3_1).f3.f1.f1) ((rd_T46 l0 x3_1).f3.f1.f2) ((rd_T46 l0 x3_1).f3.f2) ((rd_T46 l0 x3_1).f3.f3))))) else (none)) else (none)) = some r := by first | (rw [hji15] at H; exact H) | (simp only [hji15] at H ⊢; exact H)
     have hji15w : (IntKind.i64.wrap (x3_1 - 1)) = ji15 := (i64_w _).trans hji15
     replace H := My.ds H
     obtain ⟨c16b0, H⟩ := H
     replace H := My.ds H
     obtain ⟨c17b0, H⟩ := H
     by_cases c18 : ((rd_T46 l0 (ji15)).f0) ≥ ((rd_T46 l0 x3_1).f0)
     ·rw [if_pos c18] at H
      have c18b0 : decide (((rd_T46 l0 x3_1).f0) ≤ ((rd_T46 l0 (ji15)).f0)) = true := decide_eq_true c18
      clear c18
      have H' := My.am H
      clear H
      try go_wp2
      obtain ⟨w19, hz_⟩ : ∃ z_, z_ = (((((((((w6.setCell ⟨gb281, 0, none⟩ (.int .i64 ((rd_T46 l0 x3_1).f0))).setCell ⟨gb281, 1, none⟩ (.int .i64 ((rd_T46 l0 x3_1).f1))).setCell ⟨gb281, 2, none⟩ (.int .i64 ((rd_T46 l0 x3_1).f2))).setCell ⟨gb281, 3, none⟩ (.int .i64 ((rd_T46 l0 x3_1).f3.f0))).setCell ⟨gb281, 4, none⟩ (.int .i64 ((rd_T46 l0 x3_1).f3.f1.f0))).setCell ⟨gb281, 5, none⟩ (.int .i64 ((rd_T46 l0 x3_1).f3.f1.f1))).setCell ⟨gb281, 6, none⟩ (.slice A280_6 ((rd_T46 l0 x3_1).f3.f1.f2).length c280_6)).setCell ⟨gb281, 7, none⟩ (.string ((rd_T46 l0 x3_1).f3.f2))).setCell ⟨gb281, 8, none⟩ (.int .i64 ((rd_T46 l0 x3_1).f3.f3))) := ⟨_, rfl⟩
      replace BK281 : Aside0 (w19.heap[gb281]? = some (.cells #[.int .i64 ((rd_T46 l0 x3_1).f0), .int .i64 ((rd_T46 l0 x3_1).f1), .int .i64 ((rd_T46 l0 x3_1).f2), .int .i64 ((rd_T46 l0 x3_1).f3.f0), .int .i64 ((rd_T46 l0 x3_1).f3.f1.f0), .int .i64 ((rd_T46 l0 x3_1).f3.f1.f1), .slice A280_6 ((rd_T46 l0 x3_1).f3.f1.f2).length c280_6, .string ((rd_T46 l0 x3_1).f3.f2), .int .i64 ((rd_T46 l0 x3_1).f3.f3)] 46 (0, 0))) := ⟨by rw [hz_]; exact (My.sv_ BK281)⟩
      replace HB : Aside0 (Below w.heap.size w w19) := ⟨by rw [hz_]; repeat (first | (with_reducible first | exact HB.out | apply below_alloc | apply pw_below_drewN | apply below_drew1 | refine below_set ?_ GE281.out) | exact HB.out)⟩
      rw [← hz_]
      clear hz_
      replace BK281 := My.am (blk_drew BK281.out)
      replace HB := My.am (below_drew1 HB.out)
      have p282 : 0 ≤ ((ji15) : Int) := My.as_
      have q282 : (ji15) < (l0.length : Int) := My.as_
      obtain ⟨ad282, A282_6, c282_6, e282, hx282_0, hx282_1, hx282_2, hx282_3, hx282_4, hx282_5, hx282_6, hx282_7, hx282_8, hl282_6, hi282_6⟩ := at_T46 HR0.out (ji15) p282 q282
      have hw282_8 := hx282_8
      have hw282_7 := hx282_7
      have hw282_6 := hx282_6
      have hw282_5 := hx282_5
      have hw282_4 := hx282_4
      have hw282_3 := hx282_3
      have hw282_2 := hx282_2
      have hw282_1 := hx282_1
      have hw282_0 := hx282_0
      obtain rfl : ad280 = ad282 := (by injection e282)
      replace hx282_0 := My.up HB hx282_0
      replace hx282_1 := My.up HB hx282_1
      replace hx282_2 := My.up HB hx282_2
      replace hx282_3 := My.up HB hx282_3
      replace hx282_4 := My.up HB hx282_4
      replace hx282_5 := My.up HB hx282_5
      replace hx282_6 := My.up HB hx282_6
      replace hx282_7 := My.up HB hx282_7
      replace hx282_8 := My.up HB hx282_8
      have HR282_6 := My.am hi282_6
      have HC282_6 := My.am hl282_6
      clear hi282_6 hl282_6
      replace p282 := eq_true p282
      replace q282 := eq_true q282
      refine start_ (n := 37) (S := fun w' => w'.cell? ⟨gb281, 0, none⟩ = some (.int .i64 ((rd_T46 l0 x3_1).f0)) ∧ w'.cell? ⟨gb281, 1, none⟩ = some (.int .i64 ((rd_T46 l0 x3_1).f1)) ∧ w'.cell? ⟨gb281, 2, none⟩ = some (.int .i64 ((rd_T46 l0 x3_1).f2)) ∧ w'.cell? ⟨gb281, 3, none⟩ = some (.int .i64 ((rd_T46 l0 x3_1).f3.f0)) ∧ w'.cell? ⟨gb281, 4, none⟩ = some (.int .i64 ((rd_T46 l0 x3_1).f3.f1.f0)) ∧ w'.cell? ⟨gb281, 5, none⟩ = some (.int .i64 ((rd_T46 l0 x3_1).f3.f1.f1)) ∧ w'.cell? ⟨gb281, 6, none⟩ = some (.slice A280_6 ((rd_T46 l0 x3_1).f3.f1.f2).length c280_6) ∧ w'.cell? ⟨gb281, 7, none⟩ = some (.string ((rd_T46 l0 x3_1).f3.f2)) ∧ w'.cell? ⟨gb281, 8, none⟩ = some (.int .i64 ((rd_T46 l0 x3_1).f3.f3)) ∧ w'.cell? (ad280.add (((ji15)).toNat * 9)) = some (.int .i64 ((rd_T46 l0 (ji15)).f0)) ∧ w'.cell? ⟨(ad280.add (((ji15)).toNat * 9)).block, (ad280.add (((ji15)).toNat * 9)).off + 1, none⟩ = some (.int .i64 ((rd_T46 l0 (ji15)).f1)) ∧ w'.cell? ⟨(ad280.add (((ji15)).toNat * 9)).block, (ad280.add (((ji15)).toNat * 9)).off + 2, none⟩ = some (.int .i64 ((rd_T46 l0 (ji15)).f2)) ∧ w'.cell? ⟨(ad280.add (((ji15)).toNat * 9)).block, (ad280.add (((ji15)).toNat * 9)).off + 3, none⟩ = some (.int .i64 ((rd_T46 l0 (ji15)).f3.f0)) ∧ w'.cell? ⟨(ad280.add (((ji15)).toNat * 9)).block, (ad280.add (((ji15)).toNat * 9)).off + 4, none⟩ = some (.int .i64 ((rd_T46 l0 (ji15)).f3.f1.f0)) ∧ w'.cell? ⟨(ad280.add (((ji15)).toNat * 9)).block, (ad280.add (((ji15)).toNat * 9)).off + 5, none⟩ = some (.int .i64 ((rd_T46 l0 (ji15)).f3.f1.f1)) ∧ w'.cell? ⟨(ad280.add (((ji15)).toNat * 9)).block, (ad280.add (((ji15)).toNat * 9)).off + 6, none⟩ = some (.slice A282_6 ((rd_T46 l0 (ji15)).f3.f1.f2).length c282_6) ∧ w'.cell? ⟨(ad280.add (((ji15)).toNat * 9)).block, (ad280.add (((ji15)).toNat * 9)).off + 7, none⟩ = some (.string ((rd_T46 l0 (ji15)).f3.f2)) ∧ w'.cell? ⟨(ad280.add (((ji15)).toNat * 9)).block, (ad280.add (((ji15)).toNat * 9)).off + 8, none⟩ = some (.int .i64 ((rd_T46 l0 (ji15)).f3.f3))) (ds := []) #[false, false, false, false, false, false, false, false, false, false, false, false, false, false, false, false, false, false, false, false, false, false, false, false, false, false, false, false, false, false, false, false, false, false, false, false, false] (by kernel_rfl) rfl rfl ⟨My.b_ BK281 0, My.b_ BK281 1, My.b_ BK281 2, My.b_ BK281 3, My.b_ BK281 4, My.b_ BK281 5, My.b_ BK281 6, My.b_ BK281 7, My.b_ BK281 8, (My.up HB hw282_0), (My.up HB hw282_1), (My.up HB hw282_2), (My.up HB hw282_3), (My.up HB hw282_4), (My.up HB hw282_5), (My.up HB hw282_6), (My.up HB hw282_7), (My.up HB hw282_8)⟩ (fun hHeld => ?_); refine with_tabW ententeref19_May.tab7 ententeref19_May.bits7 (fun HT_ HW_ => ?_)
      generalize w19.drew = w20 at BK281 HB HR282_6 hx282_0 hx282_1 hx282_2 hx282_3 hx282_4 hx282_5 hx282_6 hx282_7 hx282_8 hHeld ⊢
      refine My.pu_ 0 18 37 HT_.out ?_
      refine My.ta_ 1 19 37 HT_.out HW_.out hHeld rfl rfl (by rintro w' ⟨s0, s1, s2, s3, s4, s5, s6, s7, s8, s9, s10, s11, s12, s13, s14, s15, s16, s17⟩; go_simp; with_reducible rfl) ?_
      refine My.pu_ 2 20 37 HT_.out ?_
      refine My.pu_ 3 21 37 HT_.out ?_
      refine My.pu_ 4 22 37 HT_.out ?_
      refine My.ta_ 5 23 37 HT_.out HW_.out hHeld rfl rfl (by rintro w' ⟨s0, s1, s2, s3, s4, s5, s6, s7, s8, s9, s10, s11, s12, s13, s14, s15, s16, s17⟩; go_simp; with_reducible rfl) ?_
      refine My.pu_ 6 24 37 HT_.out ?_
      refine My.pu_ 7 25 37 HT_.out ?_
      refine My.pu_ 8 26 37 HT_.out ?_
      refine My.pu_ 9 27 37 HT_.out ?_
      refine My.pu_ 10 28 37 HT_.out ?_
      refine My.pu_ 11 29 37 HT_.out ?_
      refine My.pu_ 12 30 37 HT_.out ?_
      refine My.pu_ 13 31 37 HT_.out ?_
      refine My.pu_ 14 32 37 HT_.out ?_
      refine My.pu_ 15 33 37 HT_.out ?_
      refine My.pu_ 16 34 37 HT_.out ?_
      refine My.pv_ 18 36 37 393215 HT_.out ?_
      refine My.tv_ 17 35 37 524287 HT_.out HW_.out hHeld rfl rfl (by rintro w' ⟨s0, s1, s2, s3, s4, s5, s6, s7, s8, s9, s10, s11, s12, s13, s14, s15, s16, s17⟩; go_simp; with_reducible rfl) ?_
      refine My.ta_ 19 37 37 HT_.out HW_.out hHeld rfl rfl (by rintro w' ⟨s0, s1, s2, s3, s4, s5, s6, s7, s8, s9, s10, s11, s12, s13, s14, s15, s16, s17⟩; go_simp; with_reducible rfl) ?_
      refine My.pu_ 20 38 37 HT_.out ?_
      refine My.pu_ 21 39 37 HT_.out ?_
      refine My.pu_ 22 40 37 HT_.out ?_
      refine My.pu_ 23 41 37 HT_.out ?_
      refine My.pn_ 24 42 37 HT_.out ?_
      refine My.pn_ 25 43 37 HT_.out ?_
      refine My.pn_ 26 44 37 HT_.out ?_
      refine My.pn_ 27 45 37 HT_.out ?_
      refine My.pu_ 28 46 37 HT_.out ?_
      refine My.pu_ 29 47 37 HT_.out ?_
      refine My.pn_ 30 48 37 HT_.out ?_
      refine My.pn_ 31 49 37 HT_.out ?_
      refine My.pn_ 32 50 37 HT_.out ?_
      refine My.pn_ 33 51 37 HT_.out ?_
      refine My.pn_ 34 52 37 HT_.out ?_
      refine My.pn_ 35 53 37 HT_.out ?_
      refine My.pu_ 36 54 37 HT_.out ?_
      refine done_ (done_of HT_.out (by kernel_rfl)) ?_
      try go_wp2
      go_meet
      case rel => exact ⟨_, (true), My.r1, H', ⟨by have := HK1.out; first | omega | exact Nat.le_refl _⟩, ⟨(My.at_ BK281)⟩, ⟨(My.bl_ HB)⟩⟩
     rw [if_neg c18] at H
     have c18b0 : decide (((rd_T46 l0 x3_1).f0) ≤ ((rd_T46 l0 (ji15)).f0)) = false := decide_eq_false c18
     clear c18
     replace H := Option.bind_eq_some_iff.mp H
     obtain ⟨t283, A210, H⟩ := H
     try dsimp only at H
     have A21 := My.am A210
     clear A210
     by_cases c22 : t283 = 0
     rotate_left
     ·rw [if_neg c22] at H
      have c22b0 : (t283 == 0) = false := beq_eq_false_iff_ne.mpr c22
      have c22b1 : (t283 != 0) = true := bne_iff_ne.mpr c22
      have H' := My.am H
      clear H
      try go_wp2
      obtain ⟨w31, hz_⟩ : ∃ z_, z_ = (((((((((w6.setCell ⟨gb281, 0, none⟩ (.int .i64 ((rd_T46 l0 x3_1).f0))).setCell ⟨gb281, 1, none⟩ (.int .i64 ((rd_T46 l0 x3_1).f1))).setCell ⟨gb281, 2, none⟩ (.int .i64 ((rd_T46 l0 x3_1).f2))).setCell ⟨gb281, 3, none⟩ (.int .i64 ((rd_T46 l0 x3_1).f3.f0))).setCell ⟨gb281, 4, none⟩ (.int .i64 ((rd_T46 l0 x3_1).f3.f1.f0))).setCell ⟨gb281, 5, none⟩ (.int .i64 ((rd_T46 l0 x3_1).f3.f1.f1))).setCell ⟨gb281, 6, none⟩ (.slice A280_6 ((rd_T46 l0 x3_1).f3.f1.f2).length c280_6)).setCell ⟨gb281, 7, none⟩ (.string ((rd_T46 l0 x3_1).f3.f2))).setCell ⟨gb281, 8, none⟩ (.int .i64 ((rd_T46 l0 x3_1).f3.f3))) := ⟨_, rfl⟩
      replace BK281 : Aside0 (w31.heap[gb281]? = some (.cells #[.int .i64 ((rd_T46 l0 x3_1).f0), .int .i64 ((rd_T46 l0 x3_1).f1), .int .i64 ((rd_T46 l0 x3_1).f2), .int .i64 ((rd_T46 l0 x3_1).f3.f0), .int .i64 ((rd_T46 l0 x3_1).f3.f1.f0), .int .i64 ((rd_T46 l0 x3_1).f3.f1.f1), .slice A280_6 ((rd_T46 l0 x3_1).f3.f1.f2).length c280_6, .string ((rd_T46 l0 x3_1).f3.f2), .int .i64 ((rd_T46 l0 x3_1).f3.f3)] 46 (0, 0))) := ⟨by rw [hz_]; exact (My.sv_ BK281)⟩
      replace HB : Aside0 (Below w.heap.size w w31) := ⟨by rw [hz_]; repeat (first | (with_reducible first | exact HB.out | apply below_alloc | apply pw_below_drewN | apply below_drew1 | refine below_set ?_ GE281.out) | exact HB.out)⟩
      rw [← hz_]
      clear hz_
      replace BK281 := My.am (blk_drew BK281.out)
      replace HB := My.am (below_drew1 HB.out)
      have p282 : 0 ≤ ((ji15) : Int) := My.as_
      have q282 : (ji15) < (l0.length : Int) := My.as_
      obtain ⟨ad282, A282_6, c282_6, e282, hx282_0, hx282_1, hx282_2, hx282_3, hx282_4, hx282_5, hx282_6, hx282_7, hx282_8, hl282_6, hi282_6⟩ := at_T46 HR0.out (ji15) p282 q282
      have hw282_8 := hx282_8
      have hw282_7 := hx282_7
      have hw282_6 := hx282_6
      have hw282_5 := hx282_5
      have hw282_4 := hx282_4
      have hw282_3 := hx282_3
      have hw282_2 := hx282_2
      have hw282_1 := hx282_1
      have hw282_0 := hx282_0
      obtain rfl : ad280 = ad282 := (by injection e282)
      replace hx282_0 := My.up HB hx282_0
      replace hx282_1 := My.up HB hx282_1
      replace hx282_2 := My.up HB hx282_2
      replace hx282_3 := My.up HB hx282_3
      replace hx282_4 := My.up HB hx282_4
      replace hx282_5 := My.up HB hx282_5
      replace hx282_6 := My.up HB hx282_6
      replace hx282_7 := My.up HB hx282_7
      replace hx282_8 := My.up HB hx282_8
      have HR282_6 := My.am hi282_6
      have HC282_6 := My.am hl282_6
      clear hi282_6 hl282_6
      replace p282 := eq_true p282
      replace q282 := eq_true q282
      refine start_ (n := 37) (S := fun w' => w'.cell? ⟨gb281, 0, none⟩ = some (.int .i64 ((rd_T46 l0 x3_1).f0)) ∧ w'.cell? ⟨gb281, 1, none⟩ = some (.int .i64 ((rd_T46 l0 x3_1).f1)) ∧ w'.cell? ⟨gb281, 2, none⟩ = some (.int .i64 ((rd_T46 l0 x3_1).f2)) ∧ w'.cell? ⟨gb281, 3, none⟩ = some (.int .i64 ((rd_T46 l0 x3_1).f3.f0)) ∧ w'.cell? ⟨gb281, 4, none⟩ = some (.int .i64 ((rd_T46 l0 x3_1).f3.f1.f0)) ∧ w'.cell? ⟨gb281, 5, none⟩ = some (.int .i64 ((rd_T46 l0 x3_1).f3.f1.f1)) ∧ w'.cell? ⟨gb281, 6, none⟩ = some (.slice A280_6 ((rd_T46 l0 x3_1).f3.f1.f2).length c280_6) ∧ w'.cell? ⟨gb281, 7, none⟩ = some (.string ((rd_T46 l0 x3_1).f3.f2)) ∧ w'.cell? ⟨gb281, 8, none⟩ = some (.int .i64 ((rd_T46 l0 x3_1).f3.f3)) ∧ w'.cell? (ad280.add (((ji15)).toNat * 9)) = some (.int .i64 ((rd_T46 l0 (ji15)).f0)) ∧ w'.cell? ⟨(ad280.add (((ji15)).toNat * 9)).block, (ad280.add (((ji15)).toNat * 9)).off + 1, none⟩ = some (.int .i64 ((rd_T46 l0 (ji15)).f1)) ∧ w'.cell? ⟨(ad280.add (((ji15)).toNat * 9)).block, (ad280.add (((ji15)).toNat * 9)).off + 2, none⟩ = some (.int .i64 ((rd_T46 l0 (ji15)).f2)) ∧ w'.cell? ⟨(ad280.add (((ji15)).toNat * 9)).block, (ad280.add (((ji15)).toNat * 9)).off + 3, none⟩ = some (.int .i64 ((rd_T46 l0 (ji15)).f3.f0)) ∧ w'.cell? ⟨(ad280.add (((ji15)).toNat * 9)).block, (ad280.add (((ji15)).toNat * 9)).off + 4, none⟩ = some (.int .i64 ((rd_T46 l0 (ji15)).f3.f1.f0)) ∧ w'.cell? ⟨(ad280.add (((ji15)).toNat * 9)).block, (ad280.add (((ji15)).toNat * 9)).off + 5, none⟩ = some (.int .i64 ((rd_T46 l0 (ji15)).f3.f1.f1)) ∧ w'.cell? ⟨(ad280.add (((ji15)).toNat * 9)).block, (ad280.add (((ji15)).toNat * 9)).off + 6, none⟩ = some (.slice A282_6 ((rd_T46 l0 (ji15)).f3.f1.f2).length c282_6) ∧ w'.cell? ⟨(ad280.add (((ji15)).toNat * 9)).block, (ad280.add (((ji15)).toNat * 9)).off + 7, none⟩ = some (.string ((rd_T46 l0 (ji15)).f3.f2)) ∧ w'.cell? ⟨(ad280.add (((ji15)).toNat * 9)).block, (ad280.add (((ji15)).toNat * 9)).off + 8, none⟩ = some (.int .i64 ((rd_T46 l0 (ji15)).f3.f3))) (ds := []) #[false, false, false, false, false, false, false, false, false, false, false, false, false, false, false, false, false, false, false, false, false, false, false, false, false, false, false, false, false, false, false, false, false, false, false, false, false] (by kernel_rfl) rfl rfl ⟨My.b_ BK281 0, My.b_ BK281 1, My.b_ BK281 2, My.b_ BK281 3, My.b_ BK281 4, My.b_ BK281 5, My.b_ BK281 6, My.b_ BK281 7, My.b_ BK281 8, (My.up HB hw282_0), (My.up HB hw282_1), (My.up HB hw282_2), (My.up HB hw282_3), (My.up HB hw282_4), (My.up HB hw282_5), (My.up HB hw282_6), (My.up HB hw282_7), (My.up HB hw282_8)⟩ (fun hHeld => ?_); refine with_tabW ententeref19_May.tab7 ententeref19_May.bits7 (fun HT_ HW_ => ?_)
      generalize w31.drew = w32 at BK281 HB HR282_6 hx282_0 hx282_1 hx282_2 hx282_3 hx282_4 hx282_5 hx282_6 hx282_7 hx282_8 hHeld ⊢
      refine My.pu_ 0 18 37 HT_.out ?_
      refine My.ta_ 1 19 37 HT_.out HW_.out hHeld rfl rfl (by rintro w' ⟨s0, s1, s2, s3, s4, s5, s6, s7, s8, s9, s10, s11, s12, s13, s14, s15, s16, s17⟩; go_simp; with_reducible rfl) ?_
      refine My.pu_ 2 20 37 HT_.out ?_
      refine My.pu_ 3 21 37 HT_.out ?_
      refine My.pu_ 4 22 37 HT_.out ?_
      refine My.ta_ 5 23 37 HT_.out HW_.out hHeld rfl rfl (by rintro w' ⟨s0, s1, s2, s3, s4, s5, s6, s7, s8, s9, s10, s11, s12, s13, s14, s15, s16, s17⟩; go_simp; with_reducible rfl) ?_
      refine My.pu_ 6 24 37 HT_.out ?_
      refine My.pu_ 7 25 37 HT_.out ?_
      refine My.pu_ 8 26 37 HT_.out ?_
      refine My.pu_ 9 27 37 HT_.out ?_
      refine My.pu_ 10 28 37 HT_.out ?_
      refine My.pu_ 11 29 37 HT_.out ?_
      refine My.pu_ 12 30 37 HT_.out ?_
      refine My.pu_ 13 31 37 HT_.out ?_
      refine My.pu_ 14 32 37 HT_.out ?_
      refine My.pu_ 15 33 37 HT_.out ?_
      refine My.pu_ 16 34 37 HT_.out ?_
      refine My.pv_ 18 36 37 393215 HT_.out ?_
      refine My.tv_ 17 35 37 524287 HT_.out HW_.out hHeld rfl rfl (by rintro w' ⟨s0, s1, s2, s3, s4, s5, s6, s7, s8, s9, s10, s11, s12, s13, s14, s15, s16, s17⟩; go_simp; with_reducible rfl) ?_
      refine My.ta_ 19 37 37 HT_.out HW_.out hHeld rfl rfl (by rintro w' ⟨s0, s1, s2, s3, s4, s5, s6, s7, s8, s9, s10, s11, s12, s13, s14, s15, s16, s17⟩; go_simp; with_reducible rfl) ?_
      refine My.pu_ 20 38 37 HT_.out ?_
      refine My.pu_ 21 39 37 HT_.out ?_
      refine My.pu_ 22 40 37 HT_.out ?_
      refine My.pu_ 23 41 37 HT_.out ?_
      refine My.pu_ 24 42 37 HT_.out ?_
      refine My.ta_ 25 43 37 HT_.out HW_.out hHeld rfl rfl (by rintro w' ⟨s0, s1, s2, s3, s4, s5, s6, s7, s8, s9, s10, s11, s12, s13, s14, s15, s16, s17⟩; go_simp; with_reducible rfl) ?_
      refine one_ (i := 26) (N := some 44) (My.Mb 37 134217727) rfl rfl (one_of HT_.out (by kernel_rfl)) (by decide) (fun K hK => ?_)
      refine goes_ Try.func29 (by kernel_rfl) rfl #[.agg #[.int .i64 ((rd_T46 l0 x3_1).f3.f0), .int .i64 ((rd_T46 l0 x3_1).f3.f1.f0), .int .i64 ((rd_T46 l0 x3_1).f3.f1.f1), .slice A280_6 ((rd_T46 l0 x3_1).f3.f1.f2).length c280_6, .string ((rd_T46 l0 x3_1).f3.f2), .int .i64 ((rd_T46 l0 x3_1).f3.f3)]] (by rfl) rfl rfl My.gx ?_
      with_reducible refine (ententeref13_Check.calls k1 ((rd_T46 l0 x3_1).f3.f0) ((rd_T46 l0 x3_1).f3.f1.f0) ((rd_T46 l0 x3_1).f3.f1.f1) _ _ ((rd_T46 l0 x3_1).f3.f1.f2) ((rd_T46 l0 x3_1).f3.f2) ((rd_T46 l0 x3_1).f3.f3) t283 _ ?side1 ?side2 A21.out).mono ?_
      (case side1 => exact My.sd_ HR280_6 HB)
      (case side2 => exact HC280_6.out)
      rintro e w33 ⟨rfl, hb⟩
      refine ⟨_, rfl, ?_⟩
      replace BK281 := My.ab BK281 hb
      replace HB := My.st HB hb
      (try clear hb)
      (try clear hb2)
      (try clear hk)
      (try clear hi)
      refine hK.out _ _ ⟨My.b_ BK281 0, My.b_ BK281 1, My.b_ BK281 2, My.b_ BK281 3, My.b_ BK281 4, My.b_ BK281 5, My.b_ BK281 6, My.b_ BK281 7, My.b_ BK281 8, (My.up HB hw282_0), (My.up HB hw282_1), (My.up HB hw282_2), (My.up HB hw282_3), (My.up HB hw282_4), (My.up HB hw282_5), (My.up HB hw282_6), (My.up HB hw282_7), (My.up HB hw282_8)⟩ (fun hHeld => ?_)
      clear hK K
      refine My.nm 44 ?_
      refine My.pu_ 27 45 37 HT_.out ?_
      refine My.pu_ 28 46 37 HT_.out ?_
      refine My.pu_ 29 47 37 HT_.out ?_
      refine My.pn_ 30 48 37 HT_.out ?_
      refine My.pn_ 31 49 37 HT_.out ?_
      refine My.pn_ 32 50 37 HT_.out ?_
      refine My.pn_ 33 51 37 HT_.out ?_
      refine My.pn_ 34 52 37 HT_.out ?_
      refine My.pn_ 35 53 37 HT_.out ?_
      refine My.pu_ 36 54 37 HT_.out ?_
      refine done_ (done_of HT_.out (by kernel_rfl)) ?_
      try go_wp2
      go_meet
      case rel => exact ⟨_, (true), My.r1, H', ⟨by have := HK1.out; first | omega | exact Nat.le_refl _⟩, ⟨(My.at_ BK281)⟩, ⟨(My.bl_ HB)⟩⟩
     rw [if_pos c22] at H
     have c22b0 : (t283 == 0) = true := beq_iff_eq.mpr c22
     have c22b1 : (t283 != 0) = false := bne_eq_false_iff_eq.mpr c22
     clear c22
     have c23b0 := eq_true (My.as_ : 0 ≤ x3_1)
     by_cases c24 : x3_1 ≤ (l0.length : Int)
     rotate_left
     ·exact My.nn c24 H
     rw [if_pos c24] at H
     have c24b0 := eq_true c24
     have c24b1 := decide_eq_true c24
     clear c24
     obtain ⟨y284, hy284⟩ : ∃ y_ : List (S46), y_ = (l0.take (x3_1 : Int).toNat) := ⟨_, rfl⟩
     replace H : ((ententeref19_among.f k1 y284 ((rd_T46 l0 x3_1).f3.f0) ((rd_T46 l0 x3_1).f3.f1.f0) ((rd_T46 l0 x3_1).f3.f1.f1) ((rd_T46 l0 x3_1).f3.f1.f2) ((rd_T46 l0 x3_1).f3.f2) ((rd_T46 l0 x3_1).f3.f3)).bind fun t288 => (ententeref19_May.j1 k1 l0 x3_1 t288 ((rd_T46 l0 x3_1).f0) ((rd_T46 l0 x3_1).f1) ((rd_T46 l0 x3_1).f2) ((rd_T46 l0 x3_1).f3.f0) ((rd_T46 l0 x3_1).f3.f1.f0) ((rd_T46 l0 x3_1).f3.f1.f1) ((rd_T46 l0 x3_1).f3.f1.f2) ((rd_T46 l0 x3_1).f3.f2) ((rd_T46 l0 x3_1).f3.f3))) = some r := by first | (rw [hy284]; with_reducible exact H) | (have H2_ := (Option.bind_some _ _).symm.trans H; rw [hy284]; with_reducible exact H2_) | (have H2_ := (Option.bind_some _ _).symm.trans H; with_reducible exact H2_) | with_reducible exact H | (rw [hy284]; exact H) | exact H
     have Ny284 := My.am hy284
     clear hy284
     replace H := Option.bind_eq_some_iff.mp H
     obtain ⟨t288, A250, H⟩ := H
     try dsimp only at H
     have A25 := My.am A250
     clear A250
     have H' := My.am H
     clear H
     try go_wp2
     obtain ⟨w26, hz_⟩ : ∃ z_, z_ = (((((((((w6.setCell ⟨gb281, 0, none⟩ (.int .i64 ((rd_T46 l0 x3_1).f0))).setCell ⟨gb281, 1, none⟩ (.int .i64 ((rd_T46 l0 x3_1).f1))).setCell ⟨gb281, 2, none⟩ (.int .i64 ((rd_T46 l0 x3_1).f2))).setCell ⟨gb281, 3, none⟩ (.int .i64 ((rd_T46 l0 x3_1).f3.f0))).setCell ⟨gb281, 4, none⟩ (.int .i64 ((rd_T46 l0 x3_1).f3.f1.f0))).setCell ⟨gb281, 5, none⟩ (.int .i64 ((rd_T46 l0 x3_1).f3.f1.f1))).setCell ⟨gb281, 6, none⟩ (.slice A280_6 ((rd_T46 l0 x3_1).f3.f1.f2).length c280_6)).setCell ⟨gb281, 7, none⟩ (.string ((rd_T46 l0 x3_1).f3.f2))).setCell ⟨gb281, 8, none⟩ (.int .i64 ((rd_T46 l0 x3_1).f3.f3))) := ⟨_, rfl⟩
     replace BK281 : Aside0 (w26.heap[gb281]? = some (.cells #[.int .i64 ((rd_T46 l0 x3_1).f0), .int .i64 ((rd_T46 l0 x3_1).f1), .int .i64 ((rd_T46 l0 x3_1).f2), .int .i64 ((rd_T46 l0 x3_1).f3.f0), .int .i64 ((rd_T46 l0 x3_1).f3.f1.f0), .int .i64 ((rd_T46 l0 x3_1).f3.f1.f1), .slice A280_6 ((rd_T46 l0 x3_1).f3.f1.f2).length c280_6, .string ((rd_T46 l0 x3_1).f3.f2), .int .i64 ((rd_T46 l0 x3_1).f3.f3)] 46 (0, 0))) := ⟨by rw [hz_]; exact (My.sv_ BK281)⟩
     replace HB : Aside0 (Below w.heap.size w w26) := ⟨by rw [hz_]; repeat (first | (with_reducible first | exact HB.out | apply below_alloc | apply pw_below_drewN | apply below_drew1 | refine below_set ?_ GE281.out) | exact HB.out)⟩
     rw [← hz_]
     clear hz_
     replace BK281 := My.am (blk_drew BK281.out)
     replace HB := My.am (below_drew1 HB.out)
     have p282 : 0 ≤ ((ji15) : Int) := My.as_
     have q282 : (ji15) < (l0.length : Int) := My.as_
     obtain ⟨ad282, A282_6, c282_6, e282, hx282_0, hx282_1, hx282_2, hx282_3, hx282_4, hx282_5, hx282_6, hx282_7, hx282_8, hl282_6, hi282_6⟩ := at_T46 HR0.out (ji15) p282 q282
     have hw282_8 := hx282_8
     have hw282_7 := hx282_7
     have hw282_6 := hx282_6
     have hw282_5 := hx282_5
     have hw282_4 := hx282_4
     have hw282_3 := hx282_3
     have hw282_2 := hx282_2
     have hw282_1 := hx282_1
     have hw282_0 := hx282_0
     obtain rfl : ad280 = ad282 := (by injection e282)
     replace hx282_0 := My.up HB hx282_0
     replace hx282_1 := My.up HB hx282_1
     replace hx282_2 := My.up HB hx282_2
     replace hx282_3 := My.up HB hx282_3
     replace hx282_4 := My.up HB hx282_4
     replace hx282_5 := My.up HB hx282_5
     replace hx282_6 := My.up HB hx282_6
     replace hx282_7 := My.up HB hx282_7
     replace hx282_8 := My.up HB hx282_8
     have HR282_6 := My.am hi282_6
     have HC282_6 := My.am hl282_6
     clear hi282_6 hl282_6
     replace p282 := eq_true p282
     replace q282 := eq_true q282
     refine start_ (n := 37) (S := fun w' => w'.cell? ⟨gb281, 0, none⟩ = some (.int .i64 ((rd_T46 l0 x3_1).f0)) ∧ w'.cell? ⟨gb281, 1, none⟩ = some (.int .i64 ((rd_T46 l0 x3_1).f1)) ∧ w'.cell? ⟨gb281, 2, none⟩ = some (.int .i64 ((rd_T46 l0 x3_1).f2)) ∧ w'.cell? ⟨gb281, 3, none⟩ = some (.int .i64 ((rd_T46 l0 x3_1).f3.f0)) ∧ w'.cell? ⟨gb281, 4, none⟩ = some (.int .i64 ((rd_T46 l0 x3_1).f3.f1.f0)) ∧ w'.cell? ⟨gb281, 5, none⟩ = some (.int .i64 ((rd_T46 l0 x3_1).f3.f1.f1)) ∧ w'.cell? ⟨gb281, 6, none⟩ = some (.slice A280_6 ((rd_T46 l0 x3_1).f3.f1.f2).length c280_6) ∧ w'.cell? ⟨gb281, 7, none⟩ = some (.string ((rd_T46 l0 x3_1).f3.f2)) ∧ w'.cell? ⟨gb281, 8, none⟩ = some (.int .i64 ((rd_T46 l0 x3_1).f3.f3)) ∧ w'.cell? (ad280.add (((ji15)).toNat * 9)) = some (.int .i64 ((rd_T46 l0 (ji15)).f0)) ∧ w'.cell? ⟨(ad280.add (((ji15)).toNat * 9)).block, (ad280.add (((ji15)).toNat * 9)).off + 1, none⟩ = some (.int .i64 ((rd_T46 l0 (ji15)).f1)) ∧ w'.cell? ⟨(ad280.add (((ji15)).toNat * 9)).block, (ad280.add (((ji15)).toNat * 9)).off + 2, none⟩ = some (.int .i64 ((rd_T46 l0 (ji15)).f2)) ∧ w'.cell? ⟨(ad280.add (((ji15)).toNat * 9)).block, (ad280.add (((ji15)).toNat * 9)).off + 3, none⟩ = some (.int .i64 ((rd_T46 l0 (ji15)).f3.f0)) ∧ w'.cell? ⟨(ad280.add (((ji15)).toNat * 9)).block, (ad280.add (((ji15)).toNat * 9)).off + 4, none⟩ = some (.int .i64 ((rd_T46 l0 (ji15)).f3.f1.f0)) ∧ w'.cell? ⟨(ad280.add (((ji15)).toNat * 9)).block, (ad280.add (((ji15)).toNat * 9)).off + 5, none⟩ = some (.int .i64 ((rd_T46 l0 (ji15)).f3.f1.f1)) ∧ w'.cell? ⟨(ad280.add (((ji15)).toNat * 9)).block, (ad280.add (((ji15)).toNat * 9)).off + 6, none⟩ = some (.slice A282_6 ((rd_T46 l0 (ji15)).f3.f1.f2).length c282_6) ∧ w'.cell? ⟨(ad280.add (((ji15)).toNat * 9)).block, (ad280.add (((ji15)).toNat * 9)).off + 7, none⟩ = some (.string ((rd_T46 l0 (ji15)).f3.f2)) ∧ w'.cell? ⟨(ad280.add (((ji15)).toNat * 9)).block, (ad280.add (((ji15)).toNat * 9)).off + 8, none⟩ = some (.int .i64 ((rd_T46 l0 (ji15)).f3.f3))) (ds := []) #[false, false, false, false, false, false, false, false, false, false, false, false, false, false, false, false, false, false, false, false, false, false, false, false, false, false, false, false, false, false, false, false, false, false, false, false, false] (by kernel_rfl) rfl rfl ⟨My.b_ BK281 0, My.b_ BK281 1, My.b_ BK281 2, My.b_ BK281 3, My.b_ BK281 4, My.b_ BK281 5, My.b_ BK281 6, My.b_ BK281 7, My.b_ BK281 8, (My.up HB hw282_0), (My.up HB hw282_1), (My.up HB hw282_2), (My.up HB hw282_3), (My.up HB hw282_4), (My.up HB hw282_5), (My.up HB hw282_6), (My.up HB hw282_7), (My.up HB hw282_8)⟩ (fun hHeld => ?_); refine with_tabW ententeref19_May.tab7 ententeref19_May.bits7 (fun HT_ HW_ => ?_)
     generalize w26.drew = w27 at BK281 HB HR282_6 hx282_0 hx282_1 hx282_2 hx282_3 hx282_4 hx282_5 hx282_6 hx282_7 hx282_8 hHeld ⊢
     refine My.pu_ 0 18 37 HT_.out ?_
     refine My.ta_ 1 19 37 HT_.out HW_.out hHeld rfl rfl (by rintro w' ⟨s0, s1, s2, s3, s4, s5, s6, s7, s8, s9, s10, s11, s12, s13, s14, s15, s16, s17⟩; go_simp; with_reducible rfl) ?_
     refine My.pu_ 2 20 37 HT_.out ?_
     refine My.pu_ 3 21 37 HT_.out ?_
     refine My.pu_ 4 22 37 HT_.out ?_
     refine My.ta_ 5 23 37 HT_.out HW_.out hHeld rfl rfl (by rintro w' ⟨s0, s1, s2, s3, s4, s5, s6, s7, s8, s9, s10, s11, s12, s13, s14, s15, s16, s17⟩; go_simp; with_reducible rfl) ?_
     refine My.pu_ 6 24 37 HT_.out ?_
     refine My.pu_ 7 25 37 HT_.out ?_
     refine My.pu_ 8 26 37 HT_.out ?_
     refine My.pu_ 9 27 37 HT_.out ?_
     refine My.pu_ 10 28 37 HT_.out ?_
     refine My.pu_ 11 29 37 HT_.out ?_
     refine My.pu_ 12 30 37 HT_.out ?_
     refine My.pu_ 13 31 37 HT_.out ?_
     refine My.pu_ 14 32 37 HT_.out ?_
     refine My.pu_ 15 33 37 HT_.out ?_
     refine My.pu_ 16 34 37 HT_.out ?_
     refine My.pv_ 18 36 37 393215 HT_.out ?_
     refine My.tv_ 17 35 37 524287 HT_.out HW_.out hHeld rfl rfl (by rintro w' ⟨s0, s1, s2, s3, s4, s5, s6, s7, s8, s9, s10, s11, s12, s13, s14, s15, s16, s17⟩; go_simp; with_reducible rfl) ?_
     refine My.ta_ 19 37 37 HT_.out HW_.out hHeld rfl rfl (by rintro w' ⟨s0, s1, s2, s3, s4, s5, s6, s7, s8, s9, s10, s11, s12, s13, s14, s15, s16, s17⟩; go_simp; with_reducible rfl) ?_
     refine My.pu_ 20 38 37 HT_.out ?_
     refine My.pu_ 21 39 37 HT_.out ?_
     refine My.pu_ 22 40 37 HT_.out ?_
     refine My.pu_ 23 41 37 HT_.out ?_
     refine My.pu_ 24 42 37 HT_.out ?_
     refine My.ta_ 25 43 37 HT_.out HW_.out hHeld rfl rfl (by rintro w' ⟨s0, s1, s2, s3, s4, s5, s6, s7, s8, s9, s10, s11, s12, s13, s14, s15, s16, s17⟩; go_simp; with_reducible rfl) ?_
     refine one_ (i := 26) (N := some 44) (My.Mb 37 134217727) rfl rfl (one_of HT_.out (by kernel_rfl)) (by decide) (fun K hK => ?_)
     refine goes_ Try.func29 (by kernel_rfl) rfl #[.agg #[.int .i64 ((rd_T46 l0 x3_1).f3.f0), .int .i64 ((rd_T46 l0 x3_1).f3.f1.f0), .int .i64 ((rd_T46 l0 x3_1).f3.f1.f1), .slice A280_6 ((rd_T46 l0 x3_1).f3.f1.f2).length c280_6, .string ((rd_T46 l0 x3_1).f3.f2), .int .i64 ((rd_T46 l0 x3_1).f3.f3)]] (by rfl) rfl rfl My.gx ?_
     with_reducible refine (ententeref13_Check.calls k1 ((rd_T46 l0 x3_1).f3.f0) ((rd_T46 l0 x3_1).f3.f1.f0) ((rd_T46 l0 x3_1).f3.f1.f1) _ _ ((rd_T46 l0 x3_1).f3.f1.f2) ((rd_T46 l0 x3_1).f3.f2) ((rd_T46 l0 x3_1).f3.f3) t283 _ ?side1 ?side2 A21.out).mono ?_
     (case side1 => exact My.sd_ HR280_6 HB)
     (case side2 => exact HC280_6.out)
     rintro e w28 ⟨rfl, hb⟩
     refine ⟨_, rfl, ?_⟩
     replace BK281 := My.ab BK281 hb
     replace HB := My.st HB hb
     (try clear hb)
     (try clear hb2)
     (try clear hk)
     (try clear hi)
     have q29 : (x3_1 : Int) ≤ ((l0.length : Int) : Int) := My.as_
     obtain ⟨i029, hi029, _, hsz29, _⟩ := info_parts info46
     have hroom29 : l0.length ≤ c0 := HC0.out
     have hC29 : Kd.C k46 _ (some ad280) l0.length l0 := HR0.out
     have hcut29 := cut_to (P := Try.prog) 22 46 .i64 Try.underlying22 hi029 (some ad280) l0.length c0 x3_1 (My.as_) q29 hroom29
     have hr29 := Kd.C_take (m := (x3_1 : Int).toNat) hC29 (by omega)
     have hy29 : y284.length = (x3_1 : Int).toNat := (by rw [Ny284.out, List.length_take]; omega)
     rw [← Ny284.out] at hr29
     rw [← hy29] at hcut29
     have HR287 := My.am hr29
     have HC287 := My.am (show y284.length ≤ c0 from by omega)
     clear hr29 hC29 hroom29 hi029 hsz29
     have KY29 := My.am hy29
     clear hy29
     replace q29 := eq_true q29
     refine hK.out _ _ ⟨My.b_ BK281 0, My.b_ BK281 1, My.b_ BK281 2, My.b_ BK281 3, My.b_ BK281 4, My.b_ BK281 5, My.b_ BK281 6, My.b_ BK281 7, My.b_ BK281 8, (My.up HB hw282_0), (My.up HB hw282_1), (My.up HB hw282_2), (My.up HB hw282_3), (My.up HB hw282_4), (My.up HB hw282_5), (My.up HB hw282_6), (My.up HB hw282_7), (My.up HB hw282_8)⟩ (fun hHeld => ?_)
     clear hK K
     refine My.nm 44 ?_
     refine My.pu_ 27 45 37 HT_.out ?_
     refine My.pu_ 28 46 37 HT_.out ?_
     refine My.pu_ 29 47 37 HT_.out ?_
     refine My.pu_ 30 48 37 HT_.out ?_
     refine My.pu_ 31 49 37 HT_.out ?_
     refine My.pu_ 32 50 37 HT_.out ?_
     refine My.pu_ 33 51 37 HT_.out ?_
     refine My.ta_ 34 52 37 HT_.out HW_.out hHeld rfl rfl (by rintro w' ⟨s0, s1, s2, s3, s4, s5, s6, s7, s8, s9, s10, s11, s12, s13, s14, s15, s16, s17⟩; go_simp; with_reducible rfl) ?_
     refine one_ (i := 35) (N := some 53) (My.Mb 37 68719476735) rfl rfl (one_of HT_.out (by kernel_rfl)) (by decide) (fun K hK => ?_)
     refine goes_ Try.func30 (by kernel_rfl) rfl #[.slice (some ad280) y284.length c0, .agg #[.int .i64 ((rd_T46 l0 x3_1).f3.f0), .int .i64 ((rd_T46 l0 x3_1).f3.f1.f0), .int .i64 ((rd_T46 l0 x3_1).f3.f1.f1), .slice A280_6 ((rd_T46 l0 x3_1).f3.f1.f2).length c280_6, .string ((rd_T46 l0 x3_1).f3.f2), .int .i64 ((rd_T46 l0 x3_1).f3.f3)]] (by rfl) rfl rfl My.gx ?_
     with_reducible refine (ententeref19_among.calls k1 _ _ y284 ((rd_T46 l0 x3_1).f3.f0) ((rd_T46 l0 x3_1).f3.f1.f0) ((rd_T46 l0 x3_1).f3.f1.f1) _ _ ((rd_T46 l0 x3_1).f3.f1.f2) ((rd_T46 l0 x3_1).f3.f2) ((rd_T46 l0 x3_1).f3.f3) t288 _ ?side1 ?side2 ?side3 ?side4 A25.out).mono ?_
     (case side1 => exact My.sd_ HR287 HB)
     (case side2 => exact HC287.out)
     (case side3 => exact My.sd_ HR280_6 HB)
     (case side4 => exact HC280_6.out)
     rintro e w30 ⟨rfl, hb⟩
     refine ⟨_, rfl, ?_⟩
     replace BK281 := My.ab BK281 hb
     replace HB := My.st HB hb
     (try clear hb)
     (try clear hb2)
     (try clear hk)
     (try clear hi)
     refine hK.out _ _ ⟨My.b_ BK281 0, My.b_ BK281 1, My.b_ BK281 2, My.b_ BK281 3, My.b_ BK281 4, My.b_ BK281 5, My.b_ BK281 6, My.b_ BK281 7, My.b_ BK281 8, (My.up HB hw282_0), (My.up HB hw282_1), (My.up HB hw282_2), (My.up HB hw282_3), (My.up HB hw282_4), (My.up HB hw282_5), (My.up HB hw282_6), (My.up HB hw282_7), (My.up HB hw282_8)⟩ (fun hHeld => ?_)
     clear hK K
     refine My.nm 53 ?_
     refine My.pu_ 36 54 37 HT_.out ?_
     refine done_ (done_of HT_.out (by kernel_rfl)) ?_
     try go_wp2
     go_meet
     case rel => exact ⟨_, (t288), My.r1, H', ⟨by have := HK1.out; first | omega | exact Nat.le_refl _⟩, ⟨(My.at_ BK281)⟩, ⟨(My.bl_ HB)⟩⟩
    case rest =>
     clear HC5
     try clear c2
     try clear c3
     obtain ⟨kq, x54_4, rfl, HA, HJ4, BK281, HB⟩ := hcut
     cases kq with
     | zero => exact absurd HA.out (by simp [ententeref19_May.j1])
     | succ kj4 =>
      have H := HA.out
      clear HA
      simp only [ententeref19_May.j1] at H
      by_cases c47 : x54_4 = true
      ·subst c47
       rw [if_pos rfl] at H
       obtain rfl := Option.some.inj H
       go_wp2
       go_ret
       exact ⟨My.r2, (My.bl_ HB)⟩
      replace c47 := Bool.eq_false_iff.mpr c47
      subst c47
      rw [if_neg (show ¬ (false = true) by decide)] at H
      by_cases c48 : ((rd_T46 l0 x3_1).f1) < 0
      ·rw [if_pos c48] at H
       have c48b0 := decide_eq_true c48
       clear c48
       obtain rfl := Option.some.inj H
       have hcz49_0 : wc.cell? ⟨gb281, 0, none⟩ = some (.int .i64 ((rd_T46 l0 x3_1).f0)) := My.b_ BK281 0
       have hcz49_1 : wc.cell? ⟨gb281, 1, none⟩ = some (.int .i64 ((rd_T46 l0 x3_1).f1)) := My.b_ BK281 1
       have hcz49_2 : wc.cell? ⟨gb281, 2, none⟩ = some (.int .i64 ((rd_T46 l0 x3_1).f2)) := My.b_ BK281 2
       have hcz49_3 : wc.cell? ⟨gb281, 3, none⟩ = some (.int .i64 ((rd_T46 l0 x3_1).f3.f0)) := My.b_ BK281 3
       have hcz49_4 : wc.cell? ⟨gb281, 4, none⟩ = some (.int .i64 ((rd_T46 l0 x3_1).f3.f1.f0)) := My.b_ BK281 4
       have hcz49_5 : wc.cell? ⟨gb281, 5, none⟩ = some (.int .i64 ((rd_T46 l0 x3_1).f3.f1.f1)) := My.b_ BK281 5
       have hcz49_6 : wc.cell? ⟨gb281, 6, none⟩ = some (.slice A280_6 ((rd_T46 l0 x3_1).f3.f1.f2).length c280_6) := My.b_ BK281 6
       have hcz49_7 : wc.cell? ⟨gb281, 7, none⟩ = some (.string ((rd_T46 l0 x3_1).f3.f2)) := My.b_ BK281 7
       have hcz49_8 : wc.cell? ⟨gb281, 8, none⟩ = some (.int .i64 ((rd_T46 l0 x3_1).f3.f3)) := My.b_ BK281 8
       have hfz49_0 := blk_frozen BK281.out 0
       have hfz49_1 := blk_frozen BK281.out 1
       have hfz49_2 := blk_frozen BK281.out 2
       have hfz49_3 := blk_frozen BK281.out 3
       have hfz49_4 := blk_frozen BK281.out 4
       have hfz49_5 := blk_frozen BK281.out 5
       have hfz49_6 := blk_frozen BK281.out 6
       have hfz49_7 := blk_frozen BK281.out 7
       have hfz49_8 := blk_frozen BK281.out 8
       go_wp2
       go_ret
       exact ⟨My.r2, (My.bl_ HB)⟩
      rw [if_neg c48] at H
      have c48b0 := decide_eq_false c48
      clear c48
      by_cases c50 : ((rd_T46 l0 x3_1).f1) > 1000000016
      ·rw [if_pos c50] at H
       have c50b0 : decide (1000000016 < ((rd_T46 l0 x3_1).f1)) = true := decide_eq_true c50
       clear c50
       obtain rfl := Option.some.inj H
       have hcz51_0 : wc.cell? ⟨gb281, 0, none⟩ = some (.int .i64 ((rd_T46 l0 x3_1).f0)) := My.b_ BK281 0
       have hcz51_1 : wc.cell? ⟨gb281, 1, none⟩ = some (.int .i64 ((rd_T46 l0 x3_1).f1)) := My.b_ BK281 1
       have hcz51_2 : wc.cell? ⟨gb281, 2, none⟩ = some (.int .i64 ((rd_T46 l0 x3_1).f2)) := My.b_ BK281 2
       have hcz51_3 : wc.cell? ⟨gb281, 3, none⟩ = some (.int .i64 ((rd_T46 l0 x3_1).f3.f0)) := My.b_ BK281 3
       have hcz51_4 : wc.cell? ⟨gb281, 4, none⟩ = some (.int .i64 ((rd_T46 l0 x3_1).f3.f1.f0)) := My.b_ BK281 4
       have hcz51_5 : wc.cell? ⟨gb281, 5, none⟩ = some (.int .i64 ((rd_T46 l0 x3_1).f3.f1.f1)) := My.b_ BK281 5
       have hcz51_6 : wc.cell? ⟨gb281, 6, none⟩ = some (.slice A280_6 ((rd_T46 l0 x3_1).f3.f1.f2).length c280_6) := My.b_ BK281 6
       have hcz51_7 : wc.cell? ⟨gb281, 7, none⟩ = some (.string ((rd_T46 l0 x3_1).f3.f2)) := My.b_ BK281 7
       have hcz51_8 : wc.cell? ⟨gb281, 8, none⟩ = some (.int .i64 ((rd_T46 l0 x3_1).f3.f3)) := My.b_ BK281 8
       have hfz51_0 := blk_frozen BK281.out 0
       have hfz51_1 := blk_frozen BK281.out 1
       have hfz51_2 := blk_frozen BK281.out 2
       have hfz51_3 := blk_frozen BK281.out 3
       have hfz51_4 := blk_frozen BK281.out 4
       have hfz51_5 := blk_frozen BK281.out 5
       have hfz51_6 := blk_frozen BK281.out 6
       have hfz51_7 := blk_frozen BK281.out 7
       have hfz51_8 := blk_frozen BK281.out 8
       go_wp2
       go_ret
       exact ⟨My.r2, (My.bl_ HB)⟩
      rw [if_neg c50] at H
      have c50b0 : decide (1000000016 < ((rd_T46 l0 x3_1).f1)) = false := decide_eq_false c50
      clear c50
      by_cases c52 : ((rd_T46 l0 x3_1).f2) < 0
      ·rw [if_pos c52] at H
       have c52b0 := decide_eq_true c52
       clear c52
       obtain rfl := Option.some.inj H
       have hcz53_0 : wc.cell? ⟨gb281, 0, none⟩ = some (.int .i64 ((rd_T46 l0 x3_1).f0)) := My.b_ BK281 0
       have hcz53_1 : wc.cell? ⟨gb281, 1, none⟩ = some (.int .i64 ((rd_T46 l0 x3_1).f1)) := My.b_ BK281 1
       have hcz53_2 : wc.cell? ⟨gb281, 2, none⟩ = some (.int .i64 ((rd_T46 l0 x3_1).f2)) := My.b_ BK281 2
       have hcz53_3 : wc.cell? ⟨gb281, 3, none⟩ = some (.int .i64 ((rd_T46 l0 x3_1).f3.f0)) := My.b_ BK281 3
       have hcz53_4 : wc.cell? ⟨gb281, 4, none⟩ = some (.int .i64 ((rd_T46 l0 x3_1).f3.f1.f0)) := My.b_ BK281 4
       have hcz53_5 : wc.cell? ⟨gb281, 5, none⟩ = some (.int .i64 ((rd_T46 l0 x3_1).f3.f1.f1)) := My.b_ BK281 5
       have hcz53_6 : wc.cell? ⟨gb281, 6, none⟩ = some (.slice A280_6 ((rd_T46 l0 x3_1).f3.f1.f2).length c280_6) := My.b_ BK281 6
       have hcz53_7 : wc.cell? ⟨gb281, 7, none⟩ = some (.string ((rd_T46 l0 x3_1).f3.f2)) := My.b_ BK281 7
       have hcz53_8 : wc.cell? ⟨gb281, 8, none⟩ = some (.int .i64 ((rd_T46 l0 x3_1).f3.f3)) := My.b_ BK281 8
       have hfz53_0 := blk_frozen BK281.out 0
       have hfz53_1 := blk_frozen BK281.out 1
       have hfz53_2 := blk_frozen BK281.out 2
       have hfz53_3 := blk_frozen BK281.out 3
       have hfz53_4 := blk_frozen BK281.out 4
       have hfz53_5 := blk_frozen BK281.out 5
       have hfz53_6 := blk_frozen BK281.out 6
       have hfz53_7 := blk_frozen BK281.out 7
       have hfz53_8 := blk_frozen BK281.out 8
       go_wp2
       go_ret
       exact ⟨My.r2, (My.bl_ HB)⟩
      rw [if_neg c52] at H
      have c52b0 := decide_eq_false c52
      clear c52
      by_cases c54 : ((rd_T46 l0 x3_1).f2) > 1000000
      ·rw [if_pos c54] at H
       have c54b0 : decide (1000000 < ((rd_T46 l0 x3_1).f2)) = true := decide_eq_true c54
       clear c54
       obtain rfl := Option.some.inj H
       have hcz55_0 : wc.cell? ⟨gb281, 0, none⟩ = some (.int .i64 ((rd_T46 l0 x3_1).f0)) := My.b_ BK281 0
       have hcz55_1 : wc.cell? ⟨gb281, 1, none⟩ = some (.int .i64 ((rd_T46 l0 x3_1).f1)) := My.b_ BK281 1
       have hcz55_2 : wc.cell? ⟨gb281, 2, none⟩ = some (.int .i64 ((rd_T46 l0 x3_1).f2)) := My.b_ BK281 2
       have hcz55_3 : wc.cell? ⟨gb281, 3, none⟩ = some (.int .i64 ((rd_T46 l0 x3_1).f3.f0)) := My.b_ BK281 3
       have hcz55_4 : wc.cell? ⟨gb281, 4, none⟩ = some (.int .i64 ((rd_T46 l0 x3_1).f3.f1.f0)) := My.b_ BK281 4
       have hcz55_5 : wc.cell? ⟨gb281, 5, none⟩ = some (.int .i64 ((rd_T46 l0 x3_1).f3.f1.f1)) := My.b_ BK281 5
       have hcz55_6 : wc.cell? ⟨gb281, 6, none⟩ = some (.slice A280_6 ((rd_T46 l0 x3_1).f3.f1.f2).length c280_6) := My.b_ BK281 6
       have hcz55_7 : wc.cell? ⟨gb281, 7, none⟩ = some (.string ((rd_T46 l0 x3_1).f3.f2)) := My.b_ BK281 7
       have hcz55_8 : wc.cell? ⟨gb281, 8, none⟩ = some (.int .i64 ((rd_T46 l0 x3_1).f3.f3)) := My.b_ BK281 8
       have hfz55_0 := blk_frozen BK281.out 0
       have hfz55_1 := blk_frozen BK281.out 1
       have hfz55_2 := blk_frozen BK281.out 2
       have hfz55_3 := blk_frozen BK281.out 3
       have hfz55_4 := blk_frozen BK281.out 4
       have hfz55_5 := blk_frozen BK281.out 5
       have hfz55_6 := blk_frozen BK281.out 6
       have hfz55_7 := blk_frozen BK281.out 7
       have hfz55_8 := blk_frozen BK281.out 8
       go_wp2
       go_ret
       exact ⟨My.r2, (My.bl_ HB)⟩
      rw [if_neg c54] at H
      have c54b0 : decide (1000000 < ((rd_T46 l0 x3_1).f2)) = false := decide_eq_false c54
      clear c54
      have H' := My.am H
      clear H
      have hcz56_0 : wc.cell? ⟨gb281, 0, none⟩ = some (.int .i64 ((rd_T46 l0 x3_1).f0)) := My.b_ BK281 0
      have hcz56_1 : wc.cell? ⟨gb281, 1, none⟩ = some (.int .i64 ((rd_T46 l0 x3_1).f1)) := My.b_ BK281 1
      have hcz56_2 : wc.cell? ⟨gb281, 2, none⟩ = some (.int .i64 ((rd_T46 l0 x3_1).f2)) := My.b_ BK281 2
      have hcz56_3 : wc.cell? ⟨gb281, 3, none⟩ = some (.int .i64 ((rd_T46 l0 x3_1).f3.f0)) := My.b_ BK281 3
      have hcz56_4 : wc.cell? ⟨gb281, 4, none⟩ = some (.int .i64 ((rd_T46 l0 x3_1).f3.f1.f0)) := My.b_ BK281 4
      have hcz56_5 : wc.cell? ⟨gb281, 5, none⟩ = some (.int .i64 ((rd_T46 l0 x3_1).f3.f1.f1)) := My.b_ BK281 5
      have hcz56_6 : wc.cell? ⟨gb281, 6, none⟩ = some (.slice A280_6 ((rd_T46 l0 x3_1).f3.f1.f2).length c280_6) := My.b_ BK281 6
      have hcz56_7 : wc.cell? ⟨gb281, 7, none⟩ = some (.string ((rd_T46 l0 x3_1).f3.f2)) := My.b_ BK281 7
      have hcz56_8 : wc.cell? ⟨gb281, 8, none⟩ = some (.int .i64 ((rd_T46 l0 x3_1).f3.f3)) := My.b_ BK281 8
      have hfz56_0 := blk_frozen BK281.out 0
      have hfz56_1 := blk_frozen BK281.out 1
      have hfz56_2 := blk_frozen BK281.out 2
      have hfz56_3 := blk_frozen BK281.out 3
      have hfz56_4 := blk_frozen BK281.out 4
      have hfz56_5 := blk_frozen BK281.out 5
      have hfz56_6 := blk_frozen BK281.out 6
      have hfz56_7 := blk_frozen BK281.out 7
      have hfz56_8 := blk_frozen BK281.out 8
      go_wp2
      go_roundg kj4
      case measure => have := HK1.out; have := HJ4.out; omega
      case rel => exact ⟨(wrap64 (x3_1 + 1)), My.r1, H', ⟨by have := HK1.out; have := HJ4.out; omega⟩, ⟨(My.bl_ HB)⟩⟩
end Go.Proofs.Ytcgmoeiknkdljaa.PA
