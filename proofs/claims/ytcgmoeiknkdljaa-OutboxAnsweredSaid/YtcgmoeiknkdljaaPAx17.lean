-- Written by a program of this session (wip/tools/mp.py over the kit's printer); Lean checks it.
import Derived.Test.YtcgmoeiknkdljaaPAx0
import Derived.Test.YtcgmoeiknkdljaaPAx14
namespace Go.Proofs.Ytcgmoeiknkdljaa.PA
open Go.RowKit Go.Proofs.YtcgmoeiknkdljaaW.PrintWords Go.Proofs.YtcgmoeiknkdljaaW.PrintLast Go.Proofs.YtcgmoeiknkdljaaW.PrintMore
attribute [local go_sem] max2_int min2_int max_two min_two max_three min_three max_four min_four   -- for this text's walks alone
set_option linter.unusedVariables false
set_option maxHeartbeats 8000000
set_option maxRecDepth 100000
set_option linter.unusedSimpArgs false

/-! ### ententeref19_Same: function 15 -/
def ententeref19_Same.l0 : Nat → List (S46) → List (S46) → Int → Option (Bool)
 | 0, _, _, _ => none
 | k + 1, x0, x1, x5 => if x5 < (x0.length : Int) then (if 0 ≤ x5 then (if x5 < (x1.length : Int) then (if ((rd_T46 x0 x5).f0) = ((rd_T46 x1 x5).f0) then (if ((rd_T46 x0 x5).f1) = ((rd_T46 x1 x5).f1) then (if ((rd_T46 x0 x5).f2) = ((rd_T46 x1 x5).f2) then ((ententeref13_SameNote.f k ((rd_T46 x0 x5).f3.f0) ((rd_T46 x0 x5).f3.f1.f0) ((rd_T46 x0 x5).f3.f1.f1) ((rd_T46 x0 x5).f3.f1.f2) ((rd_T46 x0 x5).f3.f2) ((rd_T46 x0 x5).f3.f3) ((rd_T46 x1 x5).f3.f0) ((rd_T46 x1 x5).f3.f1.f0) ((rd_T46 x1 x5).f3.f1.f1) ((rd_T46 x1 x5).f3.f1.f2) ((rd_T46 x1 x5).f3.f2) ((rd_T46 x1 x5).f3.f3)).bind fun t328 => (if t328 = true then (ententeref19_Same.l0 k x0 x1 (wrap64 (x5 + 1))) else (some false))) else (some false)) else (some false)) else (some false)) else (none)) else (none)) else (some true)
def ententeref19_Same.f (k : Nat) (l0 : List (S46)) (l1 : List (S46)) : Option (Bool) := if (l0.length : Int) = (l1.length : Int) then (ententeref19_Same.l0 k l0 l1 0) else (some false)
theorem ententeref19_Same.mono_l : ∀ k, (∀ y0 y1 y2, LeO (ententeref19_Same.l0 k y0 y1 y2) (ententeref19_Same.l0 (k + 1) y0 y1 y2))
 | 0 => fun _ _ _ r h => by simp [ententeref19_Same.l0] at h
 | k + 1 => by
  have ih0 := ententeref19_Same.mono_l k
  intro y0 y1 y2
  unfold ententeref19_Same.l0
  repeat' (with_reducible first | exact ih0 _ _ _ | exact ententeref13_SameNote.mono _ _ _ _ _ _ _ _ _ _ _ _ _ | exact LeO.refl _ | exact LeO.none _ | apply LeO.ite | refine LeO.bind ?_ (fun _ => ?_))
theorem ententeref19_Same.mono : ∀ a0 a1 k, LeO (ententeref19_Same.f k a0 a1) (ententeref19_Same.f (k + 1) a0 a1) := by
 intro a0 a1 k
 have ih0 := ententeref19_Same.mono_l k
 unfold ententeref19_Same.f
 repeat' (with_reducible first | exact ih0 _ _ _ | exact ententeref13_SameNote.mono _ _ _ _ _ _ _ _ _ _ _ _ _ | exact LeO.refl _ | exact LeO.none _ | apply LeO.ite | refine LeO.bind ?_ (fun _ => ?_))
def ententeref19_Same.T6 : Bool × List (List Nat × List Nat) := (true, [([], []), ([], []), ([0, 1], [0, 1]), ([2], [2]), ([3], [3]), ([], []), ([], []), ([5, 6], [5, 6]), ([7], [7]), ([8], [8]), ([4, 9], [4, 9]), ([10], [10]), ([11], [11]), ([11], [11]), ([12, 13, 11], [11, 12, 13]), ([14, 11], [11, 14]), ([15, 11], [11, 15]), ([11], [11]), ([11], [11]), ([17, 18, 11], [11, 17, 18]), ([19, 11], [11, 19]), ([20, 11], [11, 20]), ([16, 21, 11], [11, 16, 21]), ([11, 22], [11, 22]), ([23, 11], [23]), ([24], [24]), ([24], [24]), ([25, 26, 24], [24, 25, 26]), ([27, 24], [24, 27]), ([28, 24], [24, 28]), ([24], [24]), ([24], [24]), ([30, 31, 24], [24, 30, 31]), ([32, 24], [24, 32]), ([33, 24], [24, 33]), ([29, 34, 24], [24, 29, 34]), ([24, 35], [24, 35]), ([36, 24], [36]), ([37], [37]), ([37], [37]), ([38, 39, 37], [37, 38, 39]), ([40, 37], [37, 40]), ([41, 37], [37, 41]), ([37], [37]), ([37], [37]), ([43, 44, 37], [37, 43, 44]), ([45, 37], [37, 45]), ([46, 37], [37, 46]), ([42, 47, 37, 37], [37, 42, 47]), ([48, 37], [37, 48]), ([37, 49], [37, 49])])
def ententeref19_Same.B6 : List Nat := [0, 0, 3, 7, 15, 0, 0, 96, 224, 480, 1023, 2047, 4095, 4095, 16383, 32767, 65535, 4095, 4095, 397311, 921599, 1970175, 4194303, 8388607, 16777215, 33554431, 33554431, 134217727, 268435455, 536870911, 33554431, 33554431, 3254779903, 7549747199, 16139681791, 34359738367, 68719476735, 137438953471, 274877906943, 274877906943, 1099511627775, 2199023255551, 4398046511103, 274877906943, 274877906943, 26663156973567, 61847529062399, 132216273240063, 281474976710655, 562949953421311, 1125899906842623]
theorem ententeref19_Same.tab6 : rtab .any (opsOf Try.f15 6) = ententeref19_Same.T6 := by kernel_rfl
theorem ententeref19_Same.bits6 : waitsOk ententeref19_Same.T6.2 ententeref19_Same.B6 = true := by kernel_rfl
theorem ententeref19_Same.calls (k : Nat) (A0 : Option Addr) (c0 : Nat) (l0 : List (S46)) (A1 : Option Addr) (c1 : Nat) (l1 : List (S46)) (r : Bool) (w : World) (hr0 : Kd.C k46 w A0 l0.length l0) (hc0 : l0.length ≤ c0) (hr1 : Kd.C k46 w A1 l1.length l1) (hc1 : l1.length ≤ c1) (h : ententeref19_Same.f k l0 l1 = some r) :
  Calls Try.prog 15 #[.slice A0 l0.length c0, .slice A1 l1.length c1] w fun e w' => e = .returned (.bool r) ∧ Below w.heap.size w w' := by
 have hu37 := Try.underlying37
 have HR0 := My.am hr0
 have HC0 := My.am hc0
 clear hr0 hc0
 have HR1 := My.am hr1
 have HC1 := My.am hc1
 clear hr1 hc1
 have HB := My.am (Below.refl w.heap.size w)
 unfold ententeref19_Same.f at h
 have H := h
 clear h
 by_cases c3 : (l0.length : Int) = (l1.length : Int)
 ·rw [if_pos c3] at H
  have c3b0 : ((l0.length : Int) == (l1.length : Int)) = true := beq_iff_eq.mpr c3
  have c3b1 : ((l0.length : Int) != (l1.length : Int)) = false := bne_eq_false_iff_eq.mpr c3
  have c3b2 : (l0.length == l1.length) = true := by first | simpa using c3 | (simp at c3 ⊢; omega)
  clear c3
  have H' := My.am H
  clear H
  go_enter Try.func15, Try.ntmps15
  go_wp2
  go_loopg [5] k (fun kq v5 w' => ∃ (x5_1 : Int), v5 = .int .i64 x5_1 ∧ Aside0 (ententeref19_Same.l0 kq l0 l1 x5_1 = some r) ∧ Aside0 (kq ≤ k) ∧ Aside0 (Below w.heap.size w w'))
  case atStart => exact ⟨(0), My.r1, H', ⟨Nat.le_refl _⟩, ⟨(My.bl_ HB)⟩⟩
  case round =>
   clear H'
   try clear c1
   try clear c3
   try clear c3b0
   try clear c3b1
   try clear c3b2
   obtain ⟨x5_1, rfl, HA, HK1, HB⟩ := hrel
   cases gk with
   | zero => exact absurd HA.out (by simp [ententeref19_Same.l0])
   | succ k1 =>
    have H := HA.out
    clear HA
    simp only [ententeref19_Same.l0] at H
    by_cases c4 : x5_1 < (l0.length : Int)
    rotate_left
    ·rw [if_neg c4] at H
     have c4b0 := decide_eq_false c4
     clear c4
     obtain rfl := Option.some.inj H
     go_wp2
     go_ret
     exact ⟨My.r2, (My.bl_ HB)⟩
    rw [if_pos c4] at H
    have c4b0 := decide_eq_true c4
    clear c4
    replace H := My.ds H
    obtain ⟨c5b0, H⟩ := H
    replace H := My.ds H
    obtain ⟨c6b0, H⟩ := H
    by_cases c7 : ((rd_T46 l0 x5_1).f0) = ((rd_T46 l1 x5_1).f0)
    rotate_left
    ·rw [if_neg c7] at H
     have c7b0 : (((rd_T46 l0 x5_1).f0) == ((rd_T46 l1 x5_1).f0)) = false := beq_eq_false_iff_ne.mpr c7
     have c7b1 : (((rd_T46 l0 x5_1).f0) != ((rd_T46 l1 x5_1).f0)) = true := bne_iff_ne.mpr c7
     obtain rfl := Option.some.inj H
     try go_wp2
     replace HB := My.am (below_drew1 HB.out)
     have p320 : 0 ≤ (x5_1 : Int) := My.as_
     have q320 : x5_1 < (l0.length : Int) := My.as_
     obtain ⟨ad320, A320_6, c320_6, e320, hx320_0, hx320_1, hx320_2, hx320_3, hx320_4, hx320_5, hx320_6, hx320_7, hx320_8, hl320_6, hi320_6⟩ := at_T46 HR0.out x5_1 p320 q320
     have hw320_8 := hx320_8
     have hw320_7 := hx320_7
     have hw320_6 := hx320_6
     have hw320_5 := hx320_5
     have hw320_4 := hx320_4
     have hw320_3 := hx320_3
     have hw320_2 := hx320_2
     have hw320_1 := hx320_1
     have hw320_0 := hx320_0
     cases e320
     replace hx320_0 := My.up HB hx320_0
     replace hx320_1 := My.up HB hx320_1
     replace hx320_2 := My.up HB hx320_2
     replace hx320_3 := My.up HB hx320_3
     replace hx320_4 := My.up HB hx320_4
     replace hx320_5 := My.up HB hx320_5
     replace hx320_6 := My.up HB hx320_6
     replace hx320_7 := My.up HB hx320_7
     replace hx320_8 := My.up HB hx320_8
     have HR320_6 := My.am hi320_6
     have HC320_6 := My.am hl320_6
     clear hi320_6 hl320_6
     replace p320 := eq_true p320
     replace q320 := eq_true q320
     have p321 : 0 ≤ (x5_1 : Int) := My.as_
     have q321 : x5_1 < (l1.length : Int) := My.as_
     obtain ⟨ad321, A321_6, c321_6, e321, hx321_0, hx321_1, hx321_2, hx321_3, hx321_4, hx321_5, hx321_6, hx321_7, hx321_8, hl321_6, hi321_6⟩ := at_T46 HR1.out x5_1 p321 q321
     have hw321_8 := hx321_8
     have hw321_7 := hx321_7
     have hw321_6 := hx321_6
     have hw321_5 := hx321_5
     have hw321_4 := hx321_4
     have hw321_3 := hx321_3
     have hw321_2 := hx321_2
     have hw321_1 := hx321_1
     have hw321_0 := hx321_0
     cases e321
     replace hx321_0 := My.up HB hx321_0
     replace hx321_1 := My.up HB hx321_1
     replace hx321_2 := My.up HB hx321_2
     replace hx321_3 := My.up HB hx321_3
     replace hx321_4 := My.up HB hx321_4
     replace hx321_5 := My.up HB hx321_5
     replace hx321_6 := My.up HB hx321_6
     replace hx321_7 := My.up HB hx321_7
     replace hx321_8 := My.up HB hx321_8
     have HR321_6 := My.am hi321_6
     have HC321_6 := My.am hl321_6
     clear hi321_6 hl321_6
     replace p321 := eq_true p321
     replace q321 := eq_true q321
     refine start_ (n := 51) (S := fun w' => w'.cell? (ad320.add ((x5_1).toNat * 9)) = some (.int .i64 ((rd_T46 l0 x5_1).f0)) ∧ w'.cell? ⟨(ad320.add ((x5_1).toNat * 9)).block, (ad320.add ((x5_1).toNat * 9)).off + 1, none⟩ = some (.int .i64 ((rd_T46 l0 x5_1).f1)) ∧ w'.cell? ⟨(ad320.add ((x5_1).toNat * 9)).block, (ad320.add ((x5_1).toNat * 9)).off + 2, none⟩ = some (.int .i64 ((rd_T46 l0 x5_1).f2)) ∧ w'.cell? ⟨(ad320.add ((x5_1).toNat * 9)).block, (ad320.add ((x5_1).toNat * 9)).off + 3, none⟩ = some (.int .i64 ((rd_T46 l0 x5_1).f3.f0)) ∧ w'.cell? ⟨(ad320.add ((x5_1).toNat * 9)).block, (ad320.add ((x5_1).toNat * 9)).off + 4, none⟩ = some (.int .i64 ((rd_T46 l0 x5_1).f3.f1.f0)) ∧ w'.cell? ⟨(ad320.add ((x5_1).toNat * 9)).block, (ad320.add ((x5_1).toNat * 9)).off + 5, none⟩ = some (.int .i64 ((rd_T46 l0 x5_1).f3.f1.f1)) ∧ w'.cell? ⟨(ad320.add ((x5_1).toNat * 9)).block, (ad320.add ((x5_1).toNat * 9)).off + 6, none⟩ = some (.slice A320_6 ((rd_T46 l0 x5_1).f3.f1.f2).length c320_6) ∧ w'.cell? ⟨(ad320.add ((x5_1).toNat * 9)).block, (ad320.add ((x5_1).toNat * 9)).off + 7, none⟩ = some (.string ((rd_T46 l0 x5_1).f3.f2)) ∧ w'.cell? ⟨(ad320.add ((x5_1).toNat * 9)).block, (ad320.add ((x5_1).toNat * 9)).off + 8, none⟩ = some (.int .i64 ((rd_T46 l0 x5_1).f3.f3)) ∧ w'.cell? (ad321.add ((x5_1).toNat * 9)) = some (.int .i64 ((rd_T46 l1 x5_1).f0)) ∧ w'.cell? ⟨(ad321.add ((x5_1).toNat * 9)).block, (ad321.add ((x5_1).toNat * 9)).off + 1, none⟩ = some (.int .i64 ((rd_T46 l1 x5_1).f1)) ∧ w'.cell? ⟨(ad321.add ((x5_1).toNat * 9)).block, (ad321.add ((x5_1).toNat * 9)).off + 2, none⟩ = some (.int .i64 ((rd_T46 l1 x5_1).f2)) ∧ w'.cell? ⟨(ad321.add ((x5_1).toNat * 9)).block, (ad321.add ((x5_1).toNat * 9)).off + 3, none⟩ = some (.int .i64 ((rd_T46 l1 x5_1).f3.f0)) ∧ w'.cell? ⟨(ad321.add ((x5_1).toNat * 9)).block, (ad321.add ((x5_1).toNat * 9)).off + 4, none⟩ = some (.int .i64 ((rd_T46 l1 x5_1).f3.f1.f0)) ∧ w'.cell? ⟨(ad321.add ((x5_1).toNat * 9)).block, (ad321.add ((x5_1).toNat * 9)).off + 5, none⟩ = some (.int .i64 ((rd_T46 l1 x5_1).f3.f1.f1)) ∧ w'.cell? ⟨(ad321.add ((x5_1).toNat * 9)).block, (ad321.add ((x5_1).toNat * 9)).off + 6, none⟩ = some (.slice A321_6 ((rd_T46 l1 x5_1).f3.f1.f2).length c321_6) ∧ w'.cell? ⟨(ad321.add ((x5_1).toNat * 9)).block, (ad321.add ((x5_1).toNat * 9)).off + 7, none⟩ = some (.string ((rd_T46 l1 x5_1).f3.f2)) ∧ w'.cell? ⟨(ad321.add ((x5_1).toNat * 9)).block, (ad321.add ((x5_1).toNat * 9)).off + 8, none⟩ = some (.int .i64 ((rd_T46 l1 x5_1).f3.f3))) (ds := []) #[false, false, false, false, false, false, false, false, false, false, false, false, false, false, false, false, false, false, false, false, false, false, false, false, false, false, false, false, false, false, false, false, false, false, false, false, false, false, false, false, false, false, false, false, false, false, false, false, false, false, false] (by kernel_rfl) rfl rfl ⟨(My.up HB hw320_0), (My.up HB hw320_1), (My.up HB hw320_2), (My.up HB hw320_3), (My.up HB hw320_4), (My.up HB hw320_5), (My.up HB hw320_6), (My.up HB hw320_7), (My.up HB hw320_8), (My.up HB hw321_0), (My.up HB hw321_1), (My.up HB hw321_2), (My.up HB hw321_3), (My.up HB hw321_4), (My.up HB hw321_5), (My.up HB hw321_6), (My.up HB hw321_7), (My.up HB hw321_8)⟩ (fun hHeld => ?_); refine with_tabW ententeref19_Same.tab6 ententeref19_Same.bits6 (fun HT_ HW_ => ?_)
     generalize wr.drew = w18 at HB HR320_6 HR321_6 hx320_0 hx320_1 hx320_2 hx320_3 hx320_4 hx320_5 hx320_6 hx320_7 hx320_8 hx321_0 hx321_1 hx321_2 hx321_3 hx321_4 hx321_5 hx321_6 hx321_7 hx321_8 hHeld ⊢
     refine My.pu_ 0 17 51 HT_.out ?_
     refine My.pu_ 1 18 51 HT_.out ?_
     refine My.pu_ 2 19 51 HT_.out ?_
     refine My.pu_ 3 20 51 HT_.out ?_
     refine My.pv_ 5 22 51 47 HT_.out ?_
     refine My.pv_ 6 23 51 111 HT_.out ?_
     refine My.pv_ 7 24 51 239 HT_.out ?_
     refine My.pv_ 8 25 51 495 HT_.out ?_
     refine My.tv_ 4 21 51 511 HT_.out HW_.out hHeld rfl rfl (by rintro w' ⟨s0, s1, s2, s3, s4, s5, s6, s7, s8, s9, s10, s11, s12, s13, s14, s15, s16, s17⟩; go_simp; with_reducible rfl) ?_
     refine My.ta_ 9 26 51 HT_.out HW_.out hHeld rfl rfl (by rintro w' ⟨s0, s1, s2, s3, s4, s5, s6, s7, s8, s9, s10, s11, s12, s13, s14, s15, s16, s17⟩; go_simp; with_reducible rfl) ?_
     refine My.pu_ 10 27 51 HT_.out ?_
     refine My.pu_ 11 28 51 HT_.out ?_
     refine My.pn_ 12 29 51 HT_.out ?_
     refine My.pn_ 13 30 51 HT_.out ?_
     refine My.pn_ 14 31 51 HT_.out ?_
     refine My.pn_ 15 32 51 HT_.out ?_
     refine My.pn_ 16 33 51 HT_.out ?_
     refine My.pn_ 17 34 51 HT_.out ?_
     refine My.pn_ 18 35 51 HT_.out ?_
     refine My.pn_ 19 36 51 HT_.out ?_
     refine My.pn_ 20 37 51 HT_.out ?_
     refine My.pn_ 21 38 51 HT_.out ?_
     refine My.pn_ 22 39 51 HT_.out ?_
     refine My.pu_ 23 40 51 HT_.out ?_
     refine My.pu_ 24 41 51 HT_.out ?_
     refine My.pn_ 25 42 51 HT_.out ?_
     refine My.pn_ 26 43 51 HT_.out ?_
     refine My.pn_ 27 44 51 HT_.out ?_
     refine My.pn_ 28 45 51 HT_.out ?_
     refine My.pn_ 29 46 51 HT_.out ?_
     refine My.pn_ 30 47 51 HT_.out ?_
     refine My.pn_ 31 48 51 HT_.out ?_
     refine My.pn_ 32 49 51 HT_.out ?_
     refine My.pn_ 33 50 51 HT_.out ?_
     refine My.pn_ 34 51 51 HT_.out ?_
     refine My.pn_ 35 52 51 HT_.out ?_
     refine My.pu_ 36 53 51 HT_.out ?_
     refine My.pu_ 37 54 51 HT_.out ?_
     refine My.pn_ 38 55 51 HT_.out ?_
     refine My.pn_ 39 56 51 HT_.out ?_
     refine My.pn_ 40 57 51 HT_.out ?_
     refine My.pn_ 41 58 51 HT_.out ?_
     refine My.pn_ 42 59 51 HT_.out ?_
     refine My.pn_ 43 60 51 HT_.out ?_
     refine My.pn_ 44 61 51 HT_.out ?_
     refine My.pn_ 45 62 51 HT_.out ?_
     refine My.pn_ 46 63 51 HT_.out ?_
     refine My.pn_ 47 64 51 HT_.out ?_
     refine My.pn_ 48 65 51 HT_.out ?_
     refine My.pn_ 49 66 51 HT_.out ?_
     refine My.pu_ 50 67 51 HT_.out ?_
     refine done_ (done_of HT_.out (by kernel_rfl)) ?_
     try go_wp2
     go_ret
     exact ⟨My.r2, (My.bl_ HB)⟩
    rw [if_pos c7] at H
    have c7b0 : (((rd_T46 l0 x5_1).f0) == ((rd_T46 l1 x5_1).f0)) = true := beq_iff_eq.mpr c7
    have c7b1 : (((rd_T46 l0 x5_1).f0) != ((rd_T46 l1 x5_1).f0)) = false := bne_eq_false_iff_eq.mpr c7
    clear c7
    by_cases c8 : ((rd_T46 l0 x5_1).f1) = ((rd_T46 l1 x5_1).f1)
    rotate_left
    ·rw [if_neg c8] at H
     have c8b0 : (((rd_T46 l0 x5_1).f1) == ((rd_T46 l1 x5_1).f1)) = false := beq_eq_false_iff_ne.mpr c8
     have c8b1 : (((rd_T46 l0 x5_1).f1) != ((rd_T46 l1 x5_1).f1)) = true := bne_iff_ne.mpr c8
     obtain rfl := Option.some.inj H
     try go_wp2
     replace HB := My.am (below_drew1 HB.out)
     have p320 : 0 ≤ (x5_1 : Int) := My.as_
     have q320 : x5_1 < (l0.length : Int) := My.as_
     obtain ⟨ad320, A320_6, c320_6, e320, hx320_0, hx320_1, hx320_2, hx320_3, hx320_4, hx320_5, hx320_6, hx320_7, hx320_8, hl320_6, hi320_6⟩ := at_T46 HR0.out x5_1 p320 q320
     have hw320_8 := hx320_8
     have hw320_7 := hx320_7
     have hw320_6 := hx320_6
     have hw320_5 := hx320_5
     have hw320_4 := hx320_4
     have hw320_3 := hx320_3
     have hw320_2 := hx320_2
     have hw320_1 := hx320_1
     have hw320_0 := hx320_0
     cases e320
     replace hx320_0 := My.up HB hx320_0
     replace hx320_1 := My.up HB hx320_1
     replace hx320_2 := My.up HB hx320_2
     replace hx320_3 := My.up HB hx320_3
     replace hx320_4 := My.up HB hx320_4
     replace hx320_5 := My.up HB hx320_5
     replace hx320_6 := My.up HB hx320_6
     replace hx320_7 := My.up HB hx320_7
     replace hx320_8 := My.up HB hx320_8
     have HR320_6 := My.am hi320_6
     have HC320_6 := My.am hl320_6
     clear hi320_6 hl320_6
     replace p320 := eq_true p320
     replace q320 := eq_true q320
     have p321 : 0 ≤ (x5_1 : Int) := My.as_
     have q321 : x5_1 < (l1.length : Int) := My.as_
     obtain ⟨ad321, A321_6, c321_6, e321, hx321_0, hx321_1, hx321_2, hx321_3, hx321_4, hx321_5, hx321_6, hx321_7, hx321_8, hl321_6, hi321_6⟩ := at_T46 HR1.out x5_1 p321 q321
     have hw321_8 := hx321_8
     have hw321_7 := hx321_7
     have hw321_6 := hx321_6
     have hw321_5 := hx321_5
     have hw321_4 := hx321_4
     have hw321_3 := hx321_3
     have hw321_2 := hx321_2
     have hw321_1 := hx321_1
     have hw321_0 := hx321_0
     cases e321
     replace hx321_0 := My.up HB hx321_0
     replace hx321_1 := My.up HB hx321_1
     replace hx321_2 := My.up HB hx321_2
     replace hx321_3 := My.up HB hx321_3
     replace hx321_4 := My.up HB hx321_4
     replace hx321_5 := My.up HB hx321_5
     replace hx321_6 := My.up HB hx321_6
     replace hx321_7 := My.up HB hx321_7
     replace hx321_8 := My.up HB hx321_8
     have HR321_6 := My.am hi321_6
     have HC321_6 := My.am hl321_6
     clear hi321_6 hl321_6
     replace p321 := eq_true p321
     replace q321 := eq_true q321
     have p322 : 0 ≤ (x5_1 : Int) := My.as_
     have q322 : x5_1 < (l0.length : Int) := My.as_
     obtain ⟨ad322, A322_6, c322_6, e322, hx322_0, hx322_1, hx322_2, hx322_3, hx322_4, hx322_5, hx322_6, hx322_7, hx322_8, hl322_6, hi322_6⟩ := at_T46 HR0.out x5_1 p322 q322
     have hw322_8 := hx322_8
     have hw322_7 := hx322_7
     have hw322_6 := hx322_6
     have hw322_5 := hx322_5
     have hw322_4 := hx322_4
     have hw322_3 := hx322_3
     have hw322_2 := hx322_2
     have hw322_1 := hx322_1
     have hw322_0 := hx322_0
     obtain rfl : ad320 = ad322 := (by injection e322)
     replace hx322_0 := My.up HB hx322_0
     replace hx322_1 := My.up HB hx322_1
     replace hx322_2 := My.up HB hx322_2
     replace hx322_3 := My.up HB hx322_3
     replace hx322_4 := My.up HB hx322_4
     replace hx322_5 := My.up HB hx322_5
     replace hx322_6 := My.up HB hx322_6
     replace hx322_7 := My.up HB hx322_7
     replace hx322_8 := My.up HB hx322_8
     have HR322_6 := My.am hi322_6
     have HC322_6 := My.am hl322_6
     clear hi322_6 hl322_6
     replace p322 := eq_true p322
     replace q322 := eq_true q322
     have ea_ := Option.some.inj (hx320_6.symm.trans hx322_6)
     injection ea_ with ea_ en_ ec_
     subst ea_
     subst ec_
     clear en_
     have p323 : 0 ≤ (x5_1 : Int) := My.as_
     have q323 : x5_1 < (l1.length : Int) := My.as_
     obtain ⟨ad323, A323_6, c323_6, e323, hx323_0, hx323_1, hx323_2, hx323_3, hx323_4, hx323_5, hx323_6, hx323_7, hx323_8, hl323_6, hi323_6⟩ := at_T46 HR1.out x5_1 p323 q323
     have hw323_8 := hx323_8
     have hw323_7 := hx323_7
     have hw323_6 := hx323_6
     have hw323_5 := hx323_5
     have hw323_4 := hx323_4
     have hw323_3 := hx323_3
     have hw323_2 := hx323_2
     have hw323_1 := hx323_1
     have hw323_0 := hx323_0
     obtain rfl : ad321 = ad323 := (by injection e323)
     replace hx323_0 := My.up HB hx323_0
     replace hx323_1 := My.up HB hx323_1
     replace hx323_2 := My.up HB hx323_2
     replace hx323_3 := My.up HB hx323_3
     replace hx323_4 := My.up HB hx323_4
     replace hx323_5 := My.up HB hx323_5
     replace hx323_6 := My.up HB hx323_6
     replace hx323_7 := My.up HB hx323_7
     replace hx323_8 := My.up HB hx323_8
     have HR323_6 := My.am hi323_6
     have HC323_6 := My.am hl323_6
     clear hi323_6 hl323_6
     replace p323 := eq_true p323
     replace q323 := eq_true q323
     have ea_ := Option.some.inj (hx321_6.symm.trans hx323_6)
     injection ea_ with ea_ en_ ec_
     subst ea_
     subst ec_
     clear en_
     refine start_ (n := 51) (S := fun w' => w'.cell? (ad320.add ((x5_1).toNat * 9)) = some (.int .i64 ((rd_T46 l0 x5_1).f0)) ∧ w'.cell? ⟨(ad320.add ((x5_1).toNat * 9)).block, (ad320.add ((x5_1).toNat * 9)).off + 1, none⟩ = some (.int .i64 ((rd_T46 l0 x5_1).f1)) ∧ w'.cell? ⟨(ad320.add ((x5_1).toNat * 9)).block, (ad320.add ((x5_1).toNat * 9)).off + 2, none⟩ = some (.int .i64 ((rd_T46 l0 x5_1).f2)) ∧ w'.cell? ⟨(ad320.add ((x5_1).toNat * 9)).block, (ad320.add ((x5_1).toNat * 9)).off + 3, none⟩ = some (.int .i64 ((rd_T46 l0 x5_1).f3.f0)) ∧ w'.cell? ⟨(ad320.add ((x5_1).toNat * 9)).block, (ad320.add ((x5_1).toNat * 9)).off + 4, none⟩ = some (.int .i64 ((rd_T46 l0 x5_1).f3.f1.f0)) ∧ w'.cell? ⟨(ad320.add ((x5_1).toNat * 9)).block, (ad320.add ((x5_1).toNat * 9)).off + 5, none⟩ = some (.int .i64 ((rd_T46 l0 x5_1).f3.f1.f1)) ∧ w'.cell? ⟨(ad320.add ((x5_1).toNat * 9)).block, (ad320.add ((x5_1).toNat * 9)).off + 6, none⟩ = some (.slice A320_6 ((rd_T46 l0 x5_1).f3.f1.f2).length c320_6) ∧ w'.cell? ⟨(ad320.add ((x5_1).toNat * 9)).block, (ad320.add ((x5_1).toNat * 9)).off + 7, none⟩ = some (.string ((rd_T46 l0 x5_1).f3.f2)) ∧ w'.cell? ⟨(ad320.add ((x5_1).toNat * 9)).block, (ad320.add ((x5_1).toNat * 9)).off + 8, none⟩ = some (.int .i64 ((rd_T46 l0 x5_1).f3.f3)) ∧ w'.cell? (ad321.add ((x5_1).toNat * 9)) = some (.int .i64 ((rd_T46 l1 x5_1).f0)) ∧ w'.cell? ⟨(ad321.add ((x5_1).toNat * 9)).block, (ad321.add ((x5_1).toNat * 9)).off + 1, none⟩ = some (.int .i64 ((rd_T46 l1 x5_1).f1)) ∧ w'.cell? ⟨(ad321.add ((x5_1).toNat * 9)).block, (ad321.add ((x5_1).toNat * 9)).off + 2, none⟩ = some (.int .i64 ((rd_T46 l1 x5_1).f2)) ∧ w'.cell? ⟨(ad321.add ((x5_1).toNat * 9)).block, (ad321.add ((x5_1).toNat * 9)).off + 3, none⟩ = some (.int .i64 ((rd_T46 l1 x5_1).f3.f0)) ∧ w'.cell? ⟨(ad321.add ((x5_1).toNat * 9)).block, (ad321.add ((x5_1).toNat * 9)).off + 4, none⟩ = some (.int .i64 ((rd_T46 l1 x5_1).f3.f1.f0)) ∧ w'.cell? ⟨(ad321.add ((x5_1).toNat * 9)).block, (ad321.add ((x5_1).toNat * 9)).off + 5, none⟩ = some (.int .i64 ((rd_T46 l1 x5_1).f3.f1.f1)) ∧ w'.cell? ⟨(ad321.add ((x5_1).toNat * 9)).block, (ad321.add ((x5_1).toNat * 9)).off + 6, none⟩ = some (.slice A321_6 ((rd_T46 l1 x5_1).f3.f1.f2).length c321_6) ∧ w'.cell? ⟨(ad321.add ((x5_1).toNat * 9)).block, (ad321.add ((x5_1).toNat * 9)).off + 7, none⟩ = some (.string ((rd_T46 l1 x5_1).f3.f2)) ∧ w'.cell? ⟨(ad321.add ((x5_1).toNat * 9)).block, (ad321.add ((x5_1).toNat * 9)).off + 8, none⟩ = some (.int .i64 ((rd_T46 l1 x5_1).f3.f3)) ∧ w'.cell? (ad320.add ((x5_1).toNat * 9)) = some (.int .i64 ((rd_T46 l0 x5_1).f0)) ∧ w'.cell? ⟨(ad320.add ((x5_1).toNat * 9)).block, (ad320.add ((x5_1).toNat * 9)).off + 1, none⟩ = some (.int .i64 ((rd_T46 l0 x5_1).f1)) ∧ w'.cell? ⟨(ad320.add ((x5_1).toNat * 9)).block, (ad320.add ((x5_1).toNat * 9)).off + 2, none⟩ = some (.int .i64 ((rd_T46 l0 x5_1).f2)) ∧ w'.cell? ⟨(ad320.add ((x5_1).toNat * 9)).block, (ad320.add ((x5_1).toNat * 9)).off + 3, none⟩ = some (.int .i64 ((rd_T46 l0 x5_1).f3.f0)) ∧ w'.cell? ⟨(ad320.add ((x5_1).toNat * 9)).block, (ad320.add ((x5_1).toNat * 9)).off + 4, none⟩ = some (.int .i64 ((rd_T46 l0 x5_1).f3.f1.f0)) ∧ w'.cell? ⟨(ad320.add ((x5_1).toNat * 9)).block, (ad320.add ((x5_1).toNat * 9)).off + 5, none⟩ = some (.int .i64 ((rd_T46 l0 x5_1).f3.f1.f1)) ∧ w'.cell? ⟨(ad320.add ((x5_1).toNat * 9)).block, (ad320.add ((x5_1).toNat * 9)).off + 6, none⟩ = some (.slice A320_6 ((rd_T46 l0 x5_1).f3.f1.f2).length c320_6) ∧ w'.cell? ⟨(ad320.add ((x5_1).toNat * 9)).block, (ad320.add ((x5_1).toNat * 9)).off + 7, none⟩ = some (.string ((rd_T46 l0 x5_1).f3.f2)) ∧ w'.cell? ⟨(ad320.add ((x5_1).toNat * 9)).block, (ad320.add ((x5_1).toNat * 9)).off + 8, none⟩ = some (.int .i64 ((rd_T46 l0 x5_1).f3.f3)) ∧ w'.cell? (ad321.add ((x5_1).toNat * 9)) = some (.int .i64 ((rd_T46 l1 x5_1).f0)) ∧ w'.cell? ⟨(ad321.add ((x5_1).toNat * 9)).block, (ad321.add ((x5_1).toNat * 9)).off + 1, none⟩ = some (.int .i64 ((rd_T46 l1 x5_1).f1)) ∧ w'.cell? ⟨(ad321.add ((x5_1).toNat * 9)).block, (ad321.add ((x5_1).toNat * 9)).off + 2, none⟩ = some (.int .i64 ((rd_T46 l1 x5_1).f2)) ∧ w'.cell? ⟨(ad321.add ((x5_1).toNat * 9)).block, (ad321.add ((x5_1).toNat * 9)).off + 3, none⟩ = some (.int .i64 ((rd_T46 l1 x5_1).f3.f0)) ∧ w'.cell? ⟨(ad321.add ((x5_1).toNat * 9)).block, (ad321.add ((x5_1).toNat * 9)).off + 4, none⟩ = some (.int .i64 ((rd_T46 l1 x5_1).f3.f1.f0)) ∧ w'.cell? ⟨(ad321.add ((x5_1).toNat * 9)).block, (ad321.add ((x5_1).toNat * 9)).off + 5, none⟩ = some (.int .i64 ((rd_T46 l1 x5_1).f3.f1.f1)) ∧ w'.cell? ⟨(ad321.add ((x5_1).toNat * 9)).block, (ad321.add ((x5_1).toNat * 9)).off + 6, none⟩ = some (.slice A321_6 ((rd_T46 l1 x5_1).f3.f1.f2).length c321_6) ∧ w'.cell? ⟨(ad321.add ((x5_1).toNat * 9)).block, (ad321.add ((x5_1).toNat * 9)).off + 7, none⟩ = some (.string ((rd_T46 l1 x5_1).f3.f2)) ∧ w'.cell? ⟨(ad321.add ((x5_1).toNat * 9)).block, (ad321.add ((x5_1).toNat * 9)).off + 8, none⟩ = some (.int .i64 ((rd_T46 l1 x5_1).f3.f3))) (ds := []) #[false, false, false, false, false, false, false, false, false, false, false, false, false, false, false, false, false, false, false, false, false, false, false, false, false, false, false, false, false, false, false, false, false, false, false, false, false, false, false, false, false, false, false, false, false, false, false, false, false, false, false] (by kernel_rfl) rfl rfl ⟨(My.up HB hw320_0), (My.up HB hw320_1), (My.up HB hw320_2), (My.up HB hw320_3), (My.up HB hw320_4), (My.up HB hw320_5), (My.up HB hw320_6), (My.up HB hw320_7), (My.up HB hw320_8), (My.up HB hw321_0), (My.up HB hw321_1), (My.up HB hw321_2), (My.up HB hw321_3), (My.up HB hw321_4), (My.up HB hw321_5), (My.up HB hw321_6), (My.up HB hw321_7), (My.up HB hw321_8), (My.up HB hw322_0), (My.up HB hw322_1), (My.up HB hw322_2), (My.up HB hw322_3), (My.up HB hw322_4), (My.up HB hw322_5), (My.up HB hw322_6), (My.up HB hw322_7), (My.up HB hw322_8), (My.up HB hw323_0), (My.up HB hw323_1), (My.up HB hw323_2), (My.up HB hw323_3), (My.up HB hw323_4), (My.up HB hw323_5), (My.up HB hw323_6), (My.up HB hw323_7), (My.up HB hw323_8)⟩ (fun hHeld => ?_); refine with_tabW ententeref19_Same.tab6 ententeref19_Same.bits6 (fun HT_ HW_ => ?_)
     generalize wr.drew = w17 at HB HR320_6 HR321_6 HR322_6 HR323_6 hx320_0 hx320_1 hx320_2 hx320_3 hx320_4 hx320_5 hx320_6 hx320_7 hx320_8 hx321_0 hx321_1 hx321_2 hx321_3 hx321_4 hx321_5 hx321_6 hx321_7 hx321_8 hx322_0 hx322_1 hx322_2 hx322_3 hx322_4 hx322_5 hx322_6 hx322_7 hx322_8 hx323_0 hx323_1 hx323_2 hx323_3 hx323_4 hx323_5 hx323_6 hx323_7 hx323_8 hHeld ⊢
     refine My.pu_ 0 17 51 HT_.out ?_
     refine My.pu_ 1 18 51 HT_.out ?_
     refine My.pu_ 2 19 51 HT_.out ?_
     refine My.pu_ 3 20 51 HT_.out ?_
     refine My.pv_ 5 22 51 47 HT_.out ?_
     refine My.pv_ 6 23 51 111 HT_.out ?_
     refine My.pv_ 7 24 51 239 HT_.out ?_
     refine My.pv_ 8 25 51 495 HT_.out ?_
     refine My.tv_ 4 21 51 511 HT_.out HW_.out hHeld rfl rfl (by rintro w' ⟨s0, s1, s2, s3, s4, s5, s6, s7, s8, s9, s10, s11, s12, s13, s14, s15, s16, s17, s18, s19, s20, s21, s22, s23, s24, s25, s26, s27, s28, s29, s30, s31, s32, s33, s34, s35⟩; go_simp; with_reducible rfl) ?_
     refine My.ta_ 9 26 51 HT_.out HW_.out hHeld rfl rfl (by rintro w' ⟨s0, s1, s2, s3, s4, s5, s6, s7, s8, s9, s10, s11, s12, s13, s14, s15, s16, s17, s18, s19, s20, s21, s22, s23, s24, s25, s26, s27, s28, s29, s30, s31, s32, s33, s34, s35⟩; go_simp; with_reducible rfl) ?_
     refine My.pu_ 10 27 51 HT_.out ?_
     refine My.pu_ 11 28 51 HT_.out ?_
     refine My.pu_ 12 29 51 HT_.out ?_
     refine My.pu_ 13 30 51 HT_.out ?_
     refine My.pu_ 14 31 51 HT_.out ?_
     refine My.pu_ 15 32 51 HT_.out ?_
     refine My.pv_ 17 34 51 196607 HT_.out ?_
     refine My.pv_ 18 35 51 458751 HT_.out ?_
     refine My.pv_ 19 36 51 983039 HT_.out ?_
     refine My.pv_ 20 37 51 2031615 HT_.out ?_
     refine My.tv_ 16 33 51 2097151 HT_.out HW_.out hHeld rfl rfl (by rintro w' ⟨s0, s1, s2, s3, s4, s5, s6, s7, s8, s9, s10, s11, s12, s13, s14, s15, s16, s17, s18, s19, s20, s21, s22, s23, s24, s25, s26, s27, s28, s29, s30, s31, s32, s33, s34, s35⟩; go_simp; with_reducible rfl) ?_
     refine My.ta_ 21 38 51 HT_.out HW_.out hHeld rfl rfl (by rintro w' ⟨s0, s1, s2, s3, s4, s5, s6, s7, s8, s9, s10, s11, s12, s13, s14, s15, s16, s17, s18, s19, s20, s21, s22, s23, s24, s25, s26, s27, s28, s29, s30, s31, s32, s33, s34, s35⟩; go_simp; with_reducible rfl) ?_
     refine My.pu_ 22 39 51 HT_.out ?_
     refine My.pu_ 23 40 51 HT_.out ?_
     refine My.pu_ 24 41 51 HT_.out ?_
     refine My.pn_ 25 42 51 HT_.out ?_
     refine My.pn_ 26 43 51 HT_.out ?_
     refine My.pn_ 27 44 51 HT_.out ?_
     refine My.pn_ 28 45 51 HT_.out ?_
     refine My.pn_ 29 46 51 HT_.out ?_
     refine My.pn_ 30 47 51 HT_.out ?_
     refine My.pn_ 31 48 51 HT_.out ?_
     refine My.pn_ 32 49 51 HT_.out ?_
     refine My.pn_ 33 50 51 HT_.out ?_
     refine My.pn_ 34 51 51 HT_.out ?_
     refine My.pn_ 35 52 51 HT_.out ?_
     refine My.pu_ 36 53 51 HT_.out ?_
     refine My.pu_ 37 54 51 HT_.out ?_
     refine My.pn_ 38 55 51 HT_.out ?_
     refine My.pn_ 39 56 51 HT_.out ?_
     refine My.pn_ 40 57 51 HT_.out ?_
     refine My.pn_ 41 58 51 HT_.out ?_
     refine My.pn_ 42 59 51 HT_.out ?_
     refine My.pn_ 43 60 51 HT_.out ?_
     refine My.pn_ 44 61 51 HT_.out ?_
     refine My.pn_ 45 62 51 HT_.out ?_
     refine My.pn_ 46 63 51 HT_.out ?_
     refine My.pn_ 47 64 51 HT_.out ?_
     refine My.pn_ 48 65 51 HT_.out ?_
     refine My.pn_ 49 66 51 HT_.out ?_
     refine My.pu_ 50 67 51 HT_.out ?_
     refine done_ (done_of HT_.out (by kernel_rfl)) ?_
     try go_wp2
     go_ret
     exact ⟨My.r2, (My.bl_ HB)⟩
    rw [if_pos c8] at H
    have c8b0 : (((rd_T46 l0 x5_1).f1) == ((rd_T46 l1 x5_1).f1)) = true := beq_iff_eq.mpr c8
    have c8b1 : (((rd_T46 l0 x5_1).f1) != ((rd_T46 l1 x5_1).f1)) = false := bne_eq_false_iff_eq.mpr c8
    clear c8
    by_cases c9 : ((rd_T46 l0 x5_1).f2) = ((rd_T46 l1 x5_1).f2)
    rotate_left
    ·rw [if_neg c9] at H
     have c9b0 : (((rd_T46 l0 x5_1).f2) == ((rd_T46 l1 x5_1).f2)) = false := beq_eq_false_iff_ne.mpr c9
     have c9b1 : (((rd_T46 l0 x5_1).f2) != ((rd_T46 l1 x5_1).f2)) = true := bne_iff_ne.mpr c9
     obtain rfl := Option.some.inj H
     try go_wp2
     replace HB := My.am (below_drew1 HB.out)
     have p320 : 0 ≤ (x5_1 : Int) := My.as_
     have q320 : x5_1 < (l0.length : Int) := My.as_
     obtain ⟨ad320, A320_6, c320_6, e320, hx320_0, hx320_1, hx320_2, hx320_3, hx320_4, hx320_5, hx320_6, hx320_7, hx320_8, hl320_6, hi320_6⟩ := at_T46 HR0.out x5_1 p320 q320
     have hw320_8 := hx320_8
     have hw320_7 := hx320_7
     have hw320_6 := hx320_6
     have hw320_5 := hx320_5
     have hw320_4 := hx320_4
     have hw320_3 := hx320_3
     have hw320_2 := hx320_2
     have hw320_1 := hx320_1
     have hw320_0 := hx320_0
     cases e320
     replace hx320_0 := My.up HB hx320_0
     replace hx320_1 := My.up HB hx320_1
     replace hx320_2 := My.up HB hx320_2
     replace hx320_3 := My.up HB hx320_3
     replace hx320_4 := My.up HB hx320_4
     replace hx320_5 := My.up HB hx320_5
     replace hx320_6 := My.up HB hx320_6
     replace hx320_7 := My.up HB hx320_7
     replace hx320_8 := My.up HB hx320_8
     have HR320_6 := My.am hi320_6
     have HC320_6 := My.am hl320_6
     clear hi320_6 hl320_6
     replace p320 := eq_true p320
     replace q320 := eq_true q320
     have p321 : 0 ≤ (x5_1 : Int) := My.as_
     have q321 : x5_1 < (l1.length : Int) := My.as_
     obtain ⟨ad321, A321_6, c321_6, e321, hx321_0, hx321_1, hx321_2, hx321_3, hx321_4, hx321_5, hx321_6, hx321_7, hx321_8, hl321_6, hi321_6⟩ := at_T46 HR1.out x5_1 p321 q321
     have hw321_8 := hx321_8
     have hw321_7 := hx321_7
     have hw321_6 := hx321_6
     have hw321_5 := hx321_5
     have hw321_4 := hx321_4
     have hw321_3 := hx321_3
     have hw321_2 := hx321_2
     have hw321_1 := hx321_1
     have hw321_0 := hx321_0
     cases e321
     replace hx321_0 := My.up HB hx321_0
     replace hx321_1 := My.up HB hx321_1
     replace hx321_2 := My.up HB hx321_2
     replace hx321_3 := My.up HB hx321_3
     replace hx321_4 := My.up HB hx321_4
     replace hx321_5 := My.up HB hx321_5
     replace hx321_6 := My.up HB hx321_6
     replace hx321_7 := My.up HB hx321_7
     replace hx321_8 := My.up HB hx321_8
     have HR321_6 := My.am hi321_6
     have HC321_6 := My.am hl321_6
     clear hi321_6 hl321_6
     replace p321 := eq_true p321
     replace q321 := eq_true q321
     have p322 : 0 ≤ (x5_1 : Int) := My.as_
     have q322 : x5_1 < (l0.length : Int) := My.as_
     obtain ⟨ad322, A322_6, c322_6, e322, hx322_0, hx322_1, hx322_2, hx322_3, hx322_4, hx322_5, hx322_6, hx322_7, hx322_8, hl322_6, hi322_6⟩ := at_T46 HR0.out x5_1 p322 q322
     have hw322_8 := hx322_8
     have hw322_7 := hx322_7
     have hw322_6 := hx322_6
     have hw322_5 := hx322_5
     have hw322_4 := hx322_4
     have hw322_3 := hx322_3
     have hw322_2 := hx322_2
     have hw322_1 := hx322_1
     have hw322_0 := hx322_0
     obtain rfl : ad320 = ad322 := (by injection e322)
     replace hx322_0 := My.up HB hx322_0
     replace hx322_1 := My.up HB hx322_1
     replace hx322_2 := My.up HB hx322_2
     replace hx322_3 := My.up HB hx322_3
     replace hx322_4 := My.up HB hx322_4
     replace hx322_5 := My.up HB hx322_5
     replace hx322_6 := My.up HB hx322_6
     replace hx322_7 := My.up HB hx322_7
     replace hx322_8 := My.up HB hx322_8
     have HR322_6 := My.am hi322_6
     have HC322_6 := My.am hl322_6
     clear hi322_6 hl322_6
     replace p322 := eq_true p322
     replace q322 := eq_true q322
     have ea_ := Option.some.inj (hx320_6.symm.trans hx322_6)
     injection ea_ with ea_ en_ ec_
     subst ea_
     subst ec_
     clear en_
     have p323 : 0 ≤ (x5_1 : Int) := My.as_
     have q323 : x5_1 < (l1.length : Int) := My.as_
     obtain ⟨ad323, A323_6, c323_6, e323, hx323_0, hx323_1, hx323_2, hx323_3, hx323_4, hx323_5, hx323_6, hx323_7, hx323_8, hl323_6, hi323_6⟩ := at_T46 HR1.out x5_1 p323 q323
     have hw323_8 := hx323_8
     have hw323_7 := hx323_7
     have hw323_6 := hx323_6
     have hw323_5 := hx323_5
     have hw323_4 := hx323_4
     have hw323_3 := hx323_3
     have hw323_2 := hx323_2
     have hw323_1 := hx323_1
     have hw323_0 := hx323_0
     obtain rfl : ad321 = ad323 := (by injection e323)
     replace hx323_0 := My.up HB hx323_0
     replace hx323_1 := My.up HB hx323_1
     replace hx323_2 := My.up HB hx323_2
     replace hx323_3 := My.up HB hx323_3
     replace hx323_4 := My.up HB hx323_4
     replace hx323_5 := My.up HB hx323_5
     replace hx323_6 := My.up HB hx323_6
     replace hx323_7 := My.up HB hx323_7
     replace hx323_8 := My.up HB hx323_8
     have HR323_6 := My.am hi323_6
     have HC323_6 := My.am hl323_6
     clear hi323_6 hl323_6
     replace p323 := eq_true p323
     replace q323 := eq_true q323
     have ea_ := Option.some.inj (hx321_6.symm.trans hx323_6)
     injection ea_ with ea_ en_ ec_
     subst ea_
     subst ec_
     clear en_
     have p324 : 0 ≤ (x5_1 : Int) := My.as_
     have q324 : x5_1 < (l0.length : Int) := My.as_
     obtain ⟨ad324, A324_6, c324_6, e324, hx324_0, hx324_1, hx324_2, hx324_3, hx324_4, hx324_5, hx324_6, hx324_7, hx324_8, hl324_6, hi324_6⟩ := at_T46 HR0.out x5_1 p324 q324
     have hw324_8 := hx324_8
     have hw324_7 := hx324_7
     have hw324_6 := hx324_6
     have hw324_5 := hx324_5
     have hw324_4 := hx324_4
     have hw324_3 := hx324_3
     have hw324_2 := hx324_2
     have hw324_1 := hx324_1
     have hw324_0 := hx324_0
     obtain rfl : ad320 = ad324 := (by injection e324)
     replace hx324_0 := My.up HB hx324_0
     replace hx324_1 := My.up HB hx324_1
     replace hx324_2 := My.up HB hx324_2
     replace hx324_3 := My.up HB hx324_3
     replace hx324_4 := My.up HB hx324_4
     replace hx324_5 := My.up HB hx324_5
     replace hx324_6 := My.up HB hx324_6
     replace hx324_7 := My.up HB hx324_7
     replace hx324_8 := My.up HB hx324_8
     have HR324_6 := My.am hi324_6
     have HC324_6 := My.am hl324_6
     clear hi324_6 hl324_6
     replace p324 := eq_true p324
     replace q324 := eq_true q324
     have ea_ := Option.some.inj (hx320_6.symm.trans hx324_6)
     injection ea_ with ea_ en_ ec_
     subst ea_
     subst ec_
     clear en_
     have p325 : 0 ≤ (x5_1 : Int) := My.as_
     have q325 : x5_1 < (l1.length : Int) := My.as_
     obtain ⟨ad325, A325_6, c325_6, e325, hx325_0, hx325_1, hx325_2, hx325_3, hx325_4, hx325_5, hx325_6, hx325_7, hx325_8, hl325_6, hi325_6⟩ := at_T46 HR1.out x5_1 p325 q325
     have hw325_8 := hx325_8
     have hw325_7 := hx325_7
     have hw325_6 := hx325_6
     have hw325_5 := hx325_5
     have hw325_4 := hx325_4
     have hw325_3 := hx325_3
     have hw325_2 := hx325_2
     have hw325_1 := hx325_1
     have hw325_0 := hx325_0
     obtain rfl : ad321 = ad325 := (by injection e325)
     replace hx325_0 := My.up HB hx325_0
     replace hx325_1 := My.up HB hx325_1
     replace hx325_2 := My.up HB hx325_2
     replace hx325_3 := My.up HB hx325_3
     replace hx325_4 := My.up HB hx325_4
     replace hx325_5 := My.up HB hx325_5
     replace hx325_6 := My.up HB hx325_6
     replace hx325_7 := My.up HB hx325_7
     replace hx325_8 := My.up HB hx325_8
     have HR325_6 := My.am hi325_6
     have HC325_6 := My.am hl325_6
     clear hi325_6 hl325_6
     replace p325 := eq_true p325
     replace q325 := eq_true q325
     have ea_ := Option.some.inj (hx321_6.symm.trans hx325_6)
     injection ea_ with ea_ en_ ec_
     subst ea_
     subst ec_
     clear en_
     refine start_ (n := 51) (S := fun w' => w'.cell? (ad320.add ((x5_1).toNat * 9)) = some (.int .i64 ((rd_T46 l0 x5_1).f0)) ∧ w'.cell? ⟨(ad320.add ((x5_1).toNat * 9)).block, (ad320.add ((x5_1).toNat * 9)).off + 1, none⟩ = some (.int .i64 ((rd_T46 l0 x5_1).f1)) ∧ w'.cell? ⟨(ad320.add ((x5_1).toNat * 9)).block, (ad320.add ((x5_1).toNat * 9)).off + 2, none⟩ = some (.int .i64 ((rd_T46 l0 x5_1).f2)) ∧ w'.cell? ⟨(ad320.add ((x5_1).toNat * 9)).block, (ad320.add ((x5_1).toNat * 9)).off + 3, none⟩ = some (.int .i64 ((rd_T46 l0 x5_1).f3.f0)) ∧ w'.cell? ⟨(ad320.add ((x5_1).toNat * 9)).block, (ad320.add ((x5_1).toNat * 9)).off + 4, none⟩ = some (.int .i64 ((rd_T46 l0 x5_1).f3.f1.f0)) ∧ w'.cell? ⟨(ad320.add ((x5_1).toNat * 9)).block, (ad320.add ((x5_1).toNat * 9)).off + 5, none⟩ = some (.int .i64 ((rd_T46 l0 x5_1).f3.f1.f1)) ∧ w'.cell? ⟨(ad320.add ((x5_1).toNat * 9)).block, (ad320.add ((x5_1).toNat * 9)).off + 6, none⟩ = some (.slice A320_6 ((rd_T46 l0 x5_1).f3.f1.f2).length c320_6) ∧ w'.cell? ⟨(ad320.add ((x5_1).toNat * 9)).block, (ad320.add ((x5_1).toNat * 9)).off + 7, none⟩ = some (.string ((rd_T46 l0 x5_1).f3.f2)) ∧ w'.cell? ⟨(ad320.add ((x5_1).toNat * 9)).block, (ad320.add ((x5_1).toNat * 9)).off + 8, none⟩ = some (.int .i64 ((rd_T46 l0 x5_1).f3.f3)) ∧ w'.cell? (ad321.add ((x5_1).toNat * 9)) = some (.int .i64 ((rd_T46 l1 x5_1).f0)) ∧ w'.cell? ⟨(ad321.add ((x5_1).toNat * 9)).block, (ad321.add ((x5_1).toNat * 9)).off + 1, none⟩ = some (.int .i64 ((rd_T46 l1 x5_1).f1)) ∧ w'.cell? ⟨(ad321.add ((x5_1).toNat * 9)).block, (ad321.add ((x5_1).toNat * 9)).off + 2, none⟩ = some (.int .i64 ((rd_T46 l1 x5_1).f2)) ∧ w'.cell? ⟨(ad321.add ((x5_1).toNat * 9)).block, (ad321.add ((x5_1).toNat * 9)).off + 3, none⟩ = some (.int .i64 ((rd_T46 l1 x5_1).f3.f0)) ∧ w'.cell? ⟨(ad321.add ((x5_1).toNat * 9)).block, (ad321.add ((x5_1).toNat * 9)).off + 4, none⟩ = some (.int .i64 ((rd_T46 l1 x5_1).f3.f1.f0)) ∧ w'.cell? ⟨(ad321.add ((x5_1).toNat * 9)).block, (ad321.add ((x5_1).toNat * 9)).off + 5, none⟩ = some (.int .i64 ((rd_T46 l1 x5_1).f3.f1.f1)) ∧ w'.cell? ⟨(ad321.add ((x5_1).toNat * 9)).block, (ad321.add ((x5_1).toNat * 9)).off + 6, none⟩ = some (.slice A321_6 ((rd_T46 l1 x5_1).f3.f1.f2).length c321_6) ∧ w'.cell? ⟨(ad321.add ((x5_1).toNat * 9)).block, (ad321.add ((x5_1).toNat * 9)).off + 7, none⟩ = some (.string ((rd_T46 l1 x5_1).f3.f2)) ∧ w'.cell? ⟨(ad321.add ((x5_1).toNat * 9)).block, (ad321.add ((x5_1).toNat * 9)).off + 8, none⟩ = some (.int .i64 ((rd_T46 l1 x5_1).f3.f3)) ∧ w'.cell? (ad320.add ((x5_1).toNat * 9)) = some (.int .i64 ((rd_T46 l0 x5_1).f0)) ∧ w'.cell? ⟨(ad320.add ((x5_1).toNat * 9)).block, (ad320.add ((x5_1).toNat * 9)).off + 1, none⟩ = some (.int .i64 ((rd_T46 l0 x5_1).f1)) ∧ w'.cell? ⟨(ad320.add ((x5_1).toNat * 9)).block, (ad320.add ((x5_1).toNat * 9)).off + 2, none⟩ = some (.int .i64 ((rd_T46 l0 x5_1).f2)) ∧ w'.cell? ⟨(ad320.add ((x5_1).toNat * 9)).block, (ad320.add ((x5_1).toNat * 9)).off + 3, none⟩ = some (.int .i64 ((rd_T46 l0 x5_1).f3.f0)) ∧ w'.cell? ⟨(ad320.add ((x5_1).toNat * 9)).block, (ad320.add ((x5_1).toNat * 9)).off + 4, none⟩ = some (.int .i64 ((rd_T46 l0 x5_1).f3.f1.f0)) ∧ w'.cell? ⟨(ad320.add ((x5_1).toNat * 9)).block, (ad320.add ((x5_1).toNat * 9)).off + 5, none⟩ = some (.int .i64 ((rd_T46 l0 x5_1).f3.f1.f1)) ∧ w'.cell? ⟨(ad320.add ((x5_1).toNat * 9)).block, (ad320.add ((x5_1).toNat * 9)).off + 6, none⟩ = some (.slice A320_6 ((rd_T46 l0 x5_1).f3.f1.f2).length c320_6) ∧ w'.cell? ⟨(ad320.add ((x5_1).toNat * 9)).block, (ad320.add ((x5_1).toNat * 9)).off + 7, none⟩ = some (.string ((rd_T46 l0 x5_1).f3.f2)) ∧ w'.cell? ⟨(ad320.add ((x5_1).toNat * 9)).block, (ad320.add ((x5_1).toNat * 9)).off + 8, none⟩ = some (.int .i64 ((rd_T46 l0 x5_1).f3.f3)) ∧ w'.cell? (ad321.add ((x5_1).toNat * 9)) = some (.int .i64 ((rd_T46 l1 x5_1).f0)) ∧ w'.cell? ⟨(ad321.add ((x5_1).toNat * 9)).block, (ad321.add ((x5_1).toNat * 9)).off + 1, none⟩ = some (.int .i64 ((rd_T46 l1 x5_1).f1)) ∧ w'.cell? ⟨(ad321.add ((x5_1).toNat * 9)).block, (ad321.add ((x5_1).toNat * 9)).off + 2, none⟩ = some (.int .i64 ((rd_T46 l1 x5_1).f2)) ∧ w'.cell? ⟨(ad321.add ((x5_1).toNat * 9)).block, (ad321.add ((x5_1).toNat * 9)).off + 3, none⟩ = some (.int .i64 ((rd_T46 l1 x5_1).f3.f0)) ∧ w'.cell? ⟨(ad321.add ((x5_1).toNat * 9)).block, (ad321.add ((x5_1).toNat * 9)).off + 4, none⟩ = some (.int .i64 ((rd_T46 l1 x5_1).f3.f1.f0)) ∧ w'.cell? ⟨(ad321.add ((x5_1).toNat * 9)).block, (ad321.add ((x5_1).toNat * 9)).off + 5, none⟩ = some (.int .i64 ((rd_T46 l1 x5_1).f3.f1.f1)) ∧ w'.cell? ⟨(ad321.add ((x5_1).toNat * 9)).block, (ad321.add ((x5_1).toNat * 9)).off + 6, none⟩ = some (.slice A321_6 ((rd_T46 l1 x5_1).f3.f1.f2).length c321_6) ∧ w'.cell? ⟨(ad321.add ((x5_1).toNat * 9)).block, (ad321.add ((x5_1).toNat * 9)).off + 7, none⟩ = some (.string ((rd_T46 l1 x5_1).f3.f2)) ∧ w'.cell? ⟨(ad321.add ((x5_1).toNat * 9)).block, (ad321.add ((x5_1).toNat * 9)).off + 8, none⟩ = some (.int .i64 ((rd_T46 l1 x5_1).f3.f3)) ∧ w'.cell? (ad320.add ((x5_1).toNat * 9)) = some (.int .i64 ((rd_T46 l0 x5_1).f0)) ∧ w'.cell? ⟨(ad320.add ((x5_1).toNat * 9)).block, (ad320.add ((x5_1).toNat * 9)).off + 1, none⟩ = some (.int .i64 ((rd_T46 l0 x5_1).f1)) ∧ w'.cell? ⟨(ad320.add ((x5_1).toNat * 9)).block, (ad320.add ((x5_1).toNat * 9)).off + 2, none⟩ = some (.int .i64 ((rd_T46 l0 x5_1).f2)) ∧ w'.cell? ⟨(ad320.add ((x5_1).toNat * 9)).block, (ad320.add ((x5_1).toNat * 9)).off + 3, none⟩ = some (.int .i64 ((rd_T46 l0 x5_1).f3.f0)) ∧ w'.cell? ⟨(ad320.add ((x5_1).toNat * 9)).block, (ad320.add ((x5_1).toNat * 9)).off + 4, none⟩ = some (.int .i64 ((rd_T46 l0 x5_1).f3.f1.f0)) ∧ w'.cell? ⟨(ad320.add ((x5_1).toNat * 9)).block, (ad320.add ((x5_1).toNat * 9)).off + 5, none⟩ = some (.int .i64 ((rd_T46 l0 x5_1).f3.f1.f1)) ∧ w'.cell? ⟨(ad320.add ((x5_1).toNat * 9)).block, (ad320.add ((x5_1).toNat * 9)).off + 6, none⟩ = some (.slice A320_6 ((rd_T46 l0 x5_1).f3.f1.f2).length c320_6) ∧ w'.cell? ⟨(ad320.add ((x5_1).toNat * 9)).block, (ad320.add ((x5_1).toNat * 9)).off + 7, none⟩ = some (.string ((rd_T46 l0 x5_1).f3.f2)) ∧ w'.cell? ⟨(ad320.add ((x5_1).toNat * 9)).block, (ad320.add ((x5_1).toNat * 9)).off + 8, none⟩ = some (.int .i64 ((rd_T46 l0 x5_1).f3.f3)) ∧ w'.cell? (ad321.add ((x5_1).toNat * 9)) = some (.int .i64 ((rd_T46 l1 x5_1).f0)) ∧ w'.cell? ⟨(ad321.add ((x5_1).toNat * 9)).block, (ad321.add ((x5_1).toNat * 9)).off + 1, none⟩ = some (.int .i64 ((rd_T46 l1 x5_1).f1)) ∧ w'.cell? ⟨(ad321.add ((x5_1).toNat * 9)).block, (ad321.add ((x5_1).toNat * 9)).off + 2, none⟩ = some (.int .i64 ((rd_T46 l1 x5_1).f2)) ∧ w'.cell? ⟨(ad321.add ((x5_1).toNat * 9)).block, (ad321.add ((x5_1).toNat * 9)).off + 3, none⟩ = some (.int .i64 ((rd_T46 l1 x5_1).f3.f0)) ∧ w'.cell? ⟨(ad321.add ((x5_1).toNat * 9)).block, (ad321.add ((x5_1).toNat * 9)).off + 4, none⟩ = some (.int .i64 ((rd_T46 l1 x5_1).f3.f1.f0)) ∧ w'.cell? ⟨(ad321.add ((x5_1).toNat * 9)).block, (ad321.add ((x5_1).toNat * 9)).off + 5, none⟩ = some (.int .i64 ((rd_T46 l1 x5_1).f3.f1.f1)) ∧ w'.cell? ⟨(ad321.add ((x5_1).toNat * 9)).block, (ad321.add ((x5_1).toNat * 9)).off + 6, none⟩ = some (.slice A321_6 ((rd_T46 l1 x5_1).f3.f1.f2).length c321_6) ∧ w'.cell? ⟨(ad321.add ((x5_1).toNat * 9)).block, (ad321.add ((x5_1).toNat * 9)).off + 7, none⟩ = some (.string ((rd_T46 l1 x5_1).f3.f2)) ∧ w'.cell? ⟨(ad321.add ((x5_1).toNat * 9)).block, (ad321.add ((x5_1).toNat * 9)).off + 8, none⟩ = some (.int .i64 ((rd_T46 l1 x5_1).f3.f3))) (ds := []) #[false, false, false, false, false, false, false, false, false, false, false, false, false, false, false, false, false, false, false, false, false, false, false, false, false, false, false, false, false, false, false, false, false, false, false, false, false, false, false, false, false, false, false, false, false, false, false, false, false, false, false] (by kernel_rfl) rfl rfl ⟨(My.up HB hw320_0), (My.up HB hw320_1), (My.up HB hw320_2), (My.up HB hw320_3), (My.up HB hw320_4), (My.up HB hw320_5), (My.up HB hw320_6), (My.up HB hw320_7), (My.up HB hw320_8), (My.up HB hw321_0), (My.up HB hw321_1), (My.up HB hw321_2), (My.up HB hw321_3), (My.up HB hw321_4), (My.up HB hw321_5), (My.up HB hw321_6), (My.up HB hw321_7), (My.up HB hw321_8), (My.up HB hw322_0), (My.up HB hw322_1), (My.up HB hw322_2), (My.up HB hw322_3), (My.up HB hw322_4), (My.up HB hw322_5), (My.up HB hw322_6), (My.up HB hw322_7), (My.up HB hw322_8), (My.up HB hw323_0), (My.up HB hw323_1), (My.up HB hw323_2), (My.up HB hw323_3), (My.up HB hw323_4), (My.up HB hw323_5), (My.up HB hw323_6), (My.up HB hw323_7), (My.up HB hw323_8), (My.up HB hw324_0), (My.up HB hw324_1), (My.up HB hw324_2), (My.up HB hw324_3), (My.up HB hw324_4), (My.up HB hw324_5), (My.up HB hw324_6), (My.up HB hw324_7), (My.up HB hw324_8), (My.up HB hw325_0), (My.up HB hw325_1), (My.up HB hw325_2), (My.up HB hw325_3), (My.up HB hw325_4), (My.up HB hw325_5), (My.up HB hw325_6), (My.up HB hw325_7), (My.up HB hw325_8)⟩ (fun hHeld => ?_); refine with_tabW ententeref19_Same.tab6 ententeref19_Same.bits6 (fun HT_ HW_ => ?_)
     generalize wr.drew = w16 at HB HR320_6 HR321_6 HR322_6 HR323_6 HR324_6 HR325_6 hx320_0 hx320_1 hx320_2 hx320_3 hx320_4 hx320_5 hx320_6 hx320_7 hx320_8 hx321_0 hx321_1 hx321_2 hx321_3 hx321_4 hx321_5 hx321_6 hx321_7 hx321_8 hx322_0 hx322_1 hx322_2 hx322_3 hx322_4 hx322_5 hx322_6 hx322_7 hx322_8 hx323_0 hx323_1 hx323_2 hx323_3 hx323_4 hx323_5 hx323_6 hx323_7 hx323_8 hx324_0 hx324_1 hx324_2 hx324_3 hx324_4 hx324_5 hx324_6 hx324_7 hx324_8 hx325_0 hx325_1 hx325_2 hx325_3 hx325_4 hx325_5 hx325_6 hx325_7 hx325_8 hHeld ⊢
     refine My.pu_ 0 17 51 HT_.out ?_
     refine My.pu_ 1 18 51 HT_.out ?_
     refine My.pu_ 2 19 51 HT_.out ?_
     refine My.pu_ 3 20 51 HT_.out ?_
     refine My.pv_ 5 22 51 47 HT_.out ?_
     refine My.pv_ 6 23 51 111 HT_.out ?_
     refine My.pv_ 7 24 51 239 HT_.out ?_
     refine My.pv_ 8 25 51 495 HT_.out ?_
     refine My.tv_ 4 21 51 511 HT_.out HW_.out hHeld rfl rfl (by rintro w' ⟨s0, s1, s2, s3, s4, s5, s6, s7, s8, s9, s10, s11, s12, s13, s14, s15, s16, s17, s18, s19, s20, s21, s22, s23, s24, s25, s26, s27, s28, s29, s30, s31, s32, s33, s34, s35, s36, s37, s38, s39, s40, s41, s42, s43, s44, s45, s46, s47, s48, s49, s50, s51, s52, s53⟩; go_simp; with_reducible rfl) ?_
     refine My.ta_ 9 26 51 HT_.out HW_.out hHeld rfl rfl (by rintro w' ⟨s0, s1, s2, s3, s4, s5, s6, s7, s8, s9, s10, s11, s12, s13, s14, s15, s16, s17, s18, s19, s20, s21, s22, s23, s24, s25, s26, s27, s28, s29, s30, s31, s32, s33, s34, s35, s36, s37, s38, s39, s40, s41, s42, s43, s44, s45, s46, s47, s48, s49, s50, s51, s52, s53⟩; go_simp; with_reducible rfl) ?_
     refine My.pu_ 10 27 51 HT_.out ?_
     refine My.pu_ 11 28 51 HT_.out ?_
     refine My.pu_ 12 29 51 HT_.out ?_
     refine My.pu_ 13 30 51 HT_.out ?_
     refine My.pu_ 14 31 51 HT_.out ?_
     refine My.pu_ 15 32 51 HT_.out ?_
     refine My.pv_ 17 34 51 196607 HT_.out ?_
     refine My.pv_ 18 35 51 458751 HT_.out ?_
     refine My.pv_ 19 36 51 983039 HT_.out ?_
     refine My.pv_ 20 37 51 2031615 HT_.out ?_
     refine My.tv_ 16 33 51 2097151 HT_.out HW_.out hHeld rfl rfl (by rintro w' ⟨s0, s1, s2, s3, s4, s5, s6, s7, s8, s9, s10, s11, s12, s13, s14, s15, s16, s17, s18, s19, s20, s21, s22, s23, s24, s25, s26, s27, s28, s29, s30, s31, s32, s33, s34, s35, s36, s37, s38, s39, s40, s41, s42, s43, s44, s45, s46, s47, s48, s49, s50, s51, s52, s53⟩; go_simp; with_reducible rfl) ?_
     refine My.ta_ 21 38 51 HT_.out HW_.out hHeld rfl rfl (by rintro w' ⟨s0, s1, s2, s3, s4, s5, s6, s7, s8, s9, s10, s11, s12, s13, s14, s15, s16, s17, s18, s19, s20, s21, s22, s23, s24, s25, s26, s27, s28, s29, s30, s31, s32, s33, s34, s35, s36, s37, s38, s39, s40, s41, s42, s43, s44, s45, s46, s47, s48, s49, s50, s51, s52, s53⟩; go_simp; with_reducible rfl) ?_
     refine My.pu_ 22 39 51 HT_.out ?_
     refine My.pu_ 23 40 51 HT_.out ?_
     refine My.pu_ 24 41 51 HT_.out ?_
     refine My.pu_ 25 42 51 HT_.out ?_
     refine My.pu_ 26 43 51 HT_.out ?_
     refine My.pu_ 27 44 51 HT_.out ?_
     refine My.pu_ 28 45 51 HT_.out ?_
     refine My.pv_ 30 47 51 1610612735 HT_.out ?_
     refine My.pv_ 31 48 51 3758096383 HT_.out ?_
     refine My.pv_ 32 49 51 8053063679 HT_.out ?_
     refine My.pv_ 33 50 51 16642998271 HT_.out ?_
     refine My.tv_ 29 46 51 17179869183 HT_.out HW_.out hHeld rfl rfl (by rintro w' ⟨s0, s1, s2, s3, s4, s5, s6, s7, s8, s9, s10, s11, s12, s13, s14, s15, s16, s17, s18, s19, s20, s21, s22, s23, s24, s25, s26, s27, s28, s29, s30, s31, s32, s33, s34, s35, s36, s37, s38, s39, s40, s41, s42, s43, s44, s45, s46, s47, s48, s49, s50, s51, s52, s53⟩; go_simp; with_reducible rfl) ?_
     refine My.ta_ 34 51 51 HT_.out HW_.out hHeld rfl rfl (by rintro w' ⟨s0, s1, s2, s3, s4, s5, s6, s7, s8, s9, s10, s11, s12, s13, s14, s15, s16, s17, s18, s19, s20, s21, s22, s23, s24, s25, s26, s27, s28, s29, s30, s31, s32, s33, s34, s35, s36, s37, s38, s39, s40, s41, s42, s43, s44, s45, s46, s47, s48, s49, s50, s51, s52, s53⟩; go_simp; with_reducible rfl) ?_
     refine My.pu_ 35 52 51 HT_.out ?_
     refine My.pu_ 36 53 51 HT_.out ?_
     refine My.pu_ 37 54 51 HT_.out ?_
     refine My.pn_ 38 55 51 HT_.out ?_
     refine My.pn_ 39 56 51 HT_.out ?_
     refine My.pn_ 40 57 51 HT_.out ?_
     refine My.pn_ 41 58 51 HT_.out ?_
     refine My.pn_ 42 59 51 HT_.out ?_
     refine My.pn_ 43 60 51 HT_.out ?_
     refine My.pn_ 44 61 51 HT_.out ?_
     refine My.pn_ 45 62 51 HT_.out ?_
     refine My.pn_ 46 63 51 HT_.out ?_
     refine My.pn_ 47 64 51 HT_.out ?_
     refine My.pn_ 48 65 51 HT_.out ?_
     refine My.pn_ 49 66 51 HT_.out ?_
     refine My.pu_ 50 67 51 HT_.out ?_
     refine done_ (done_of HT_.out (by kernel_rfl)) ?_
     try go_wp2
     go_ret
     exact ⟨My.r2, (My.bl_ HB)⟩
    rw [if_pos c9] at H
    have c9b0 : (((rd_T46 l0 x5_1).f2) == ((rd_T46 l1 x5_1).f2)) = true := beq_iff_eq.mpr c9
    have c9b1 : (((rd_T46 l0 x5_1).f2) != ((rd_T46 l1 x5_1).f2)) = false := bne_eq_false_iff_eq.mpr c9
    clear c9
    replace H := Option.bind_eq_some_iff.mp H
    obtain ⟨t328, A100, H⟩ := H
    try dsimp only at H
    have A10 := My.am A100
    clear A100
    by_cases c11 : t328 = true
    ·subst c11
     rw [if_pos rfl] at H
     have H' := My.am H
     clear H
     try go_wp2
     replace HB := My.am (below_drew1 HB.out)
     have p320 : 0 ≤ (x5_1 : Int) := My.as_
     have q320 : x5_1 < (l0.length : Int) := My.as_
     obtain ⟨ad320, A320_6, c320_6, e320, hx320_0, hx320_1, hx320_2, hx320_3, hx320_4, hx320_5, hx320_6, hx320_7, hx320_8, hl320_6, hi320_6⟩ := at_T46 HR0.out x5_1 p320 q320
     have hw320_8 := hx320_8
     have hw320_7 := hx320_7
     have hw320_6 := hx320_6
     have hw320_5 := hx320_5
     have hw320_4 := hx320_4
     have hw320_3 := hx320_3
     have hw320_2 := hx320_2
     have hw320_1 := hx320_1
     have hw320_0 := hx320_0
     cases e320
     replace hx320_0 := My.up HB hx320_0
     replace hx320_1 := My.up HB hx320_1
     replace hx320_2 := My.up HB hx320_2
     replace hx320_3 := My.up HB hx320_3
     replace hx320_4 := My.up HB hx320_4
     replace hx320_5 := My.up HB hx320_5
     replace hx320_6 := My.up HB hx320_6
     replace hx320_7 := My.up HB hx320_7
     replace hx320_8 := My.up HB hx320_8
     have HR320_6 := My.am hi320_6
     have HC320_6 := My.am hl320_6
     clear hi320_6 hl320_6
     replace p320 := eq_true p320
     replace q320 := eq_true q320
     have p321 : 0 ≤ (x5_1 : Int) := My.as_
     have q321 : x5_1 < (l1.length : Int) := My.as_
     obtain ⟨ad321, A321_6, c321_6, e321, hx321_0, hx321_1, hx321_2, hx321_3, hx321_4, hx321_5, hx321_6, hx321_7, hx321_8, hl321_6, hi321_6⟩ := at_T46 HR1.out x5_1 p321 q321
     have hw321_8 := hx321_8
     have hw321_7 := hx321_7
     have hw321_6 := hx321_6
     have hw321_5 := hx321_5
     have hw321_4 := hx321_4
     have hw321_3 := hx321_3
     have hw321_2 := hx321_2
     have hw321_1 := hx321_1
     have hw321_0 := hx321_0
     cases e321
     replace hx321_0 := My.up HB hx321_0
     replace hx321_1 := My.up HB hx321_1
     replace hx321_2 := My.up HB hx321_2
     replace hx321_3 := My.up HB hx321_3
     replace hx321_4 := My.up HB hx321_4
     replace hx321_5 := My.up HB hx321_5
     replace hx321_6 := My.up HB hx321_6
     replace hx321_7 := My.up HB hx321_7
     replace hx321_8 := My.up HB hx321_8
     have HR321_6 := My.am hi321_6
     have HC321_6 := My.am hl321_6
     clear hi321_6 hl321_6
     replace p321 := eq_true p321
     replace q321 := eq_true q321
     have p322 : 0 ≤ (x5_1 : Int) := My.as_
     have q322 : x5_1 < (l0.length : Int) := My.as_
     obtain ⟨ad322, A322_6, c322_6, e322, hx322_0, hx322_1, hx322_2, hx322_3, hx322_4, hx322_5, hx322_6, hx322_7, hx322_8, hl322_6, hi322_6⟩ := at_T46 HR0.out x5_1 p322 q322
     have hw322_8 := hx322_8
     have hw322_7 := hx322_7
     have hw322_6 := hx322_6
     have hw322_5 := hx322_5
     have hw322_4 := hx322_4
     have hw322_3 := hx322_3
     have hw322_2 := hx322_2
     have hw322_1 := hx322_1
     have hw322_0 := hx322_0
     obtain rfl : ad320 = ad322 := (by injection e322)
     replace hx322_0 := My.up HB hx322_0
     replace hx322_1 := My.up HB hx322_1
     replace hx322_2 := My.up HB hx322_2
     replace hx322_3 := My.up HB hx322_3
     replace hx322_4 := My.up HB hx322_4
     replace hx322_5 := My.up HB hx322_5
     replace hx322_6 := My.up HB hx322_6
     replace hx322_7 := My.up HB hx322_7
     replace hx322_8 := My.up HB hx322_8
     have HR322_6 := My.am hi322_6
     have HC322_6 := My.am hl322_6
     clear hi322_6 hl322_6
     replace p322 := eq_true p322
     replace q322 := eq_true q322
     have ea_ := Option.some.inj (hx320_6.symm.trans hx322_6)
     injection ea_ with ea_ en_ ec_
     subst ea_
     subst ec_
     clear en_
     have p323 : 0 ≤ (x5_1 : Int) := My.as_
     have q323 : x5_1 < (l1.length : Int) := My.as_
     obtain ⟨ad323, A323_6, c323_6, e323, hx323_0, hx323_1, hx323_2, hx323_3, hx323_4, hx323_5, hx323_6, hx323_7, hx323_8, hl323_6, hi323_6⟩ := at_T46 HR1.out x5_1 p323 q323
     have hw323_8 := hx323_8
     have hw323_7 := hx323_7
     have hw323_6 := hx323_6
     have hw323_5 := hx323_5
     have hw323_4 := hx323_4
     have hw323_3 := hx323_3
     have hw323_2 := hx323_2
     have hw323_1 := hx323_1
     have hw323_0 := hx323_0
     obtain rfl : ad321 = ad323 := (by injection e323)
     replace hx323_0 := My.up HB hx323_0
     replace hx323_1 := My.up HB hx323_1
     replace hx323_2 := My.up HB hx323_2
     replace hx323_3 := My.up HB hx323_3
     replace hx323_4 := My.up HB hx323_4
     replace hx323_5 := My.up HB hx323_5
     replace hx323_6 := My.up HB hx323_6
     replace hx323_7 := My.up HB hx323_7
     replace hx323_8 := My.up HB hx323_8
     have HR323_6 := My.am hi323_6
     have HC323_6 := My.am hl323_6
     clear hi323_6 hl323_6
     replace p323 := eq_true p323
     replace q323 := eq_true q323
     have ea_ := Option.some.inj (hx321_6.symm.trans hx323_6)
     injection ea_ with ea_ en_ ec_
     subst ea_
     subst ec_
     clear en_
     have p324 : 0 ≤ (x5_1 : Int) := My.as_
     have q324 : x5_1 < (l0.length : Int) := My.as_
     obtain ⟨ad324, A324_6, c324_6, e324, hx324_0, hx324_1, hx324_2, hx324_3, hx324_4, hx324_5, hx324_6, hx324_7, hx324_8, hl324_6, hi324_6⟩ := at_T46 HR0.out x5_1 p324 q324
     have hw324_8 := hx324_8
     have hw324_7 := hx324_7
     have hw324_6 := hx324_6
     have hw324_5 := hx324_5
     have hw324_4 := hx324_4
     have hw324_3 := hx324_3
     have hw324_2 := hx324_2
     have hw324_1 := hx324_1
     have hw324_0 := hx324_0
     obtain rfl : ad320 = ad324 := (by injection e324)
     replace hx324_0 := My.up HB hx324_0
     replace hx324_1 := My.up HB hx324_1
     replace hx324_2 := My.up HB hx324_2
     replace hx324_3 := My.up HB hx324_3
     replace hx324_4 := My.up HB hx324_4
     replace hx324_5 := My.up HB hx324_5
     replace hx324_6 := My.up HB hx324_6
     replace hx324_7 := My.up HB hx324_7
     replace hx324_8 := My.up HB hx324_8
     have HR324_6 := My.am hi324_6
     have HC324_6 := My.am hl324_6
     clear hi324_6 hl324_6
     replace p324 := eq_true p324
     replace q324 := eq_true q324
     have ea_ := Option.some.inj (hx320_6.symm.trans hx324_6)
     injection ea_ with ea_ en_ ec_
     subst ea_
     subst ec_
     clear en_
     have p325 : 0 ≤ (x5_1 : Int) := My.as_
     have q325 : x5_1 < (l1.length : Int) := My.as_
     obtain ⟨ad325, A325_6, c325_6, e325, hx325_0, hx325_1, hx325_2, hx325_3, hx325_4, hx325_5, hx325_6, hx325_7, hx325_8, hl325_6, hi325_6⟩ := at_T46 HR1.out x5_1 p325 q325
     have hw325_8 := hx325_8
     have hw325_7 := hx325_7
     have hw325_6 := hx325_6
     have hw325_5 := hx325_5
     have hw325_4 := hx325_4
     have hw325_3 := hx325_3
     have hw325_2 := hx325_2
     have hw325_1 := hx325_1
     have hw325_0 := hx325_0
     obtain rfl : ad321 = ad325 := (by injection e325)
     replace hx325_0 := My.up HB hx325_0
     replace hx325_1 := My.up HB hx325_1
     replace hx325_2 := My.up HB hx325_2
     replace hx325_3 := My.up HB hx325_3
     replace hx325_4 := My.up HB hx325_4
     replace hx325_5 := My.up HB hx325_5
     replace hx325_6 := My.up HB hx325_6
     replace hx325_7 := My.up HB hx325_7
     replace hx325_8 := My.up HB hx325_8
     have HR325_6 := My.am hi325_6
     have HC325_6 := My.am hl325_6
     clear hi325_6 hl325_6
     replace p325 := eq_true p325
     replace q325 := eq_true q325
     have ea_ := Option.some.inj (hx321_6.symm.trans hx325_6)
     injection ea_ with ea_ en_ ec_
     subst ea_
     subst ec_
     clear en_
     have p326 : 0 ≤ (x5_1 : Int) := My.as_
     have q326 : x5_1 < (l0.length : Int) := My.as_
     obtain ⟨ad326, A326_6, c326_6, e326, hx326_0, hx326_1, hx326_2, hx326_3, hx326_4, hx326_5, hx326_6, hx326_7, hx326_8, hl326_6, hi326_6⟩ := at_T46 HR0.out x5_1 p326 q326
     have hw326_8 := hx326_8
     have hw326_7 := hx326_7
     have hw326_6 := hx326_6
     have hw326_5 := hx326_5
     have hw326_4 := hx326_4
     have hw326_3 := hx326_3
     have hw326_2 := hx326_2
     have hw326_1 := hx326_1
     have hw326_0 := hx326_0
     obtain rfl : ad320 = ad326 := (by injection e326)
     replace hx326_0 := My.up HB hx326_0
     replace hx326_1 := My.up HB hx326_1
     replace hx326_2 := My.up HB hx326_2
     replace hx326_3 := My.up HB hx326_3
     replace hx326_4 := My.up HB hx326_4
     replace hx326_5 := My.up HB hx326_5
     replace hx326_6 := My.up HB hx326_6
     replace hx326_7 := My.up HB hx326_7
     replace hx326_8 := My.up HB hx326_8
     have HR326_6 := My.am hi326_6
     have HC326_6 := My.am hl326_6
     clear hi326_6 hl326_6
     replace p326 := eq_true p326
     replace q326 := eq_true q326
     have ea_ := Option.some.inj (hx320_6.symm.trans hx326_6)
     injection ea_ with ea_ en_ ec_
     subst ea_
     subst ec_
     clear en_
     have p327 : 0 ≤ (x5_1 : Int) := My.as_
     have q327 : x5_1 < (l1.length : Int) := My.as_
     obtain ⟨ad327, A327_6, c327_6, e327, hx327_0, hx327_1, hx327_2, hx327_3, hx327_4, hx327_5, hx327_6, hx327_7, hx327_8, hl327_6, hi327_6⟩ := at_T46 HR1.out x5_1 p327 q327
     have hw327_8 := hx327_8
     have hw327_7 := hx327_7
     have hw327_6 := hx327_6
     have hw327_5 := hx327_5
     have hw327_4 := hx327_4
     have hw327_3 := hx327_3
     have hw327_2 := hx327_2
     have hw327_1 := hx327_1
     have hw327_0 := hx327_0
     obtain rfl : ad321 = ad327 := (by injection e327)
     replace hx327_0 := My.up HB hx327_0
     replace hx327_1 := My.up HB hx327_1
     replace hx327_2 := My.up HB hx327_2
     replace hx327_3 := My.up HB hx327_3
     replace hx327_4 := My.up HB hx327_4
     replace hx327_5 := My.up HB hx327_5
     replace hx327_6 := My.up HB hx327_6
     replace hx327_7 := My.up HB hx327_7
     replace hx327_8 := My.up HB hx327_8
     have HR327_6 := My.am hi327_6
     have HC327_6 := My.am hl327_6
     clear hi327_6 hl327_6
     replace p327 := eq_true p327
     replace q327 := eq_true q327
     have ea_ := Option.some.inj (hx321_6.symm.trans hx327_6)
     injection ea_ with ea_ en_ ec_
     subst ea_
     subst ec_
     clear en_
     refine start_ (n := 51) (S := fun w' => w'.cell? (ad320.add ((x5_1).toNat * 9)) = some (.int .i64 ((rd_T46 l0 x5_1).f0)) ∧ w'.cell? ⟨(ad320.add ((x5_1).toNat * 9)).block, (ad320.add ((x5_1).toNat * 9)).off + 1, none⟩ = some (.int .i64 ((rd_T46 l0 x5_1).f1)) ∧ w'.cell? ⟨(ad320.add ((x5_1).toNat * 9)).block, (ad320.add ((x5_1).toNat * 9)).off + 2, none⟩ = some (.int .i64 ((rd_T46 l0 x5_1).f2)) ∧ w'.cell? ⟨(ad320.add ((x5_1).toNat * 9)).block, (ad320.add ((x5_1).toNat * 9)).off + 3, none⟩ = some (.int .i64 ((rd_T46 l0 x5_1).f3.f0)) ∧ w'.cell? ⟨(ad320.add ((x5_1).toNat * 9)).block, (ad320.add ((x5_1).toNat * 9)).off + 4, none⟩ = some (.int .i64 ((rd_T46 l0 x5_1).f3.f1.f0)) ∧ w'.cell? ⟨(ad320.add ((x5_1).toNat * 9)).block, (ad320.add ((x5_1).toNat * 9)).off + 5, none⟩ = some (.int .i64 ((rd_T46 l0 x5_1).f3.f1.f1)) ∧ w'.cell? ⟨(ad320.add ((x5_1).toNat * 9)).block, (ad320.add ((x5_1).toNat * 9)).off + 6, none⟩ = some (.slice A320_6 ((rd_T46 l0 x5_1).f3.f1.f2).length c320_6) ∧ w'.cell? ⟨(ad320.add ((x5_1).toNat * 9)).block, (ad320.add ((x5_1).toNat * 9)).off + 7, none⟩ = some (.string ((rd_T46 l0 x5_1).f3.f2)) ∧ w'.cell? ⟨(ad320.add ((x5_1).toNat * 9)).block, (ad320.add ((x5_1).toNat * 9)).off + 8, none⟩ = some (.int .i64 ((rd_T46 l0 x5_1).f3.f3)) ∧ w'.cell? (ad321.add ((x5_1).toNat * 9)) = some (.int .i64 ((rd_T46 l1 x5_1).f0)) ∧ w'.cell? ⟨(ad321.add ((x5_1).toNat * 9)).block, (ad321.add ((x5_1).toNat * 9)).off + 1, none⟩ = some (.int .i64 ((rd_T46 l1 x5_1).f1)) ∧ w'.cell? ⟨(ad321.add ((x5_1).toNat * 9)).block, (ad321.add ((x5_1).toNat * 9)).off + 2, none⟩ = some (.int .i64 ((rd_T46 l1 x5_1).f2)) ∧ w'.cell? ⟨(ad321.add ((x5_1).toNat * 9)).block, (ad321.add ((x5_1).toNat * 9)).off + 3, none⟩ = some (.int .i64 ((rd_T46 l1 x5_1).f3.f0)) ∧ w'.cell? ⟨(ad321.add ((x5_1).toNat * 9)).block, (ad321.add ((x5_1).toNat * 9)).off + 4, none⟩ = some (.int .i64 ((rd_T46 l1 x5_1).f3.f1.f0)) ∧ w'.cell? ⟨(ad321.add ((x5_1).toNat * 9)).block, (ad321.add ((x5_1).toNat * 9)).off + 5, none⟩ = some (.int .i64 ((rd_T46 l1 x5_1).f3.f1.f1)) ∧ w'.cell? ⟨(ad321.add ((x5_1).toNat * 9)).block, (ad321.add ((x5_1).toNat * 9)).off + 6, none⟩ = some (.slice A321_6 ((rd_T46 l1 x5_1).f3.f1.f2).length c321_6) ∧ w'.cell? ⟨(ad321.add ((x5_1).toNat * 9)).block, (ad321.add ((x5_1).toNat * 9)).off + 7, none⟩ = some (.string ((rd_T46 l1 x5_1).f3.f2)) ∧ w'.cell? ⟨(ad321.add ((x5_1).toNat * 9)).block, (ad321.add ((x5_1).toNat * 9)).off + 8, none⟩ = some (.int .i64 ((rd_T46 l1 x5_1).f3.f3)) ∧ w'.cell? (ad320.add ((x5_1).toNat * 9)) = some (.int .i64 ((rd_T46 l0 x5_1).f0)) ∧ w'.cell? ⟨(ad320.add ((x5_1).toNat * 9)).block, (ad320.add ((x5_1).toNat * 9)).off + 1, none⟩ = some (.int .i64 ((rd_T46 l0 x5_1).f1)) ∧ w'.cell? ⟨(ad320.add ((x5_1).toNat * 9)).block, (ad320.add ((x5_1).toNat * 9)).off + 2, none⟩ = some (.int .i64 ((rd_T46 l0 x5_1).f2)) ∧ w'.cell? ⟨(ad320.add ((x5_1).toNat * 9)).block, (ad320.add ((x5_1).toNat * 9)).off + 3, none⟩ = some (.int .i64 ((rd_T46 l0 x5_1).f3.f0)) ∧ w'.cell? ⟨(ad320.add ((x5_1).toNat * 9)).block, (ad320.add ((x5_1).toNat * 9)).off + 4, none⟩ = some (.int .i64 ((rd_T46 l0 x5_1).f3.f1.f0)) ∧ w'.cell? ⟨(ad320.add ((x5_1).toNat * 9)).block, (ad320.add ((x5_1).toNat * 9)).off + 5, none⟩ = some (.int .i64 ((rd_T46 l0 x5_1).f3.f1.f1)) ∧ w'.cell? ⟨(ad320.add ((x5_1).toNat * 9)).block, (ad320.add ((x5_1).toNat * 9)).off + 6, none⟩ = some (.slice A320_6 ((rd_T46 l0 x5_1).f3.f1.f2).length c320_6) ∧ w'.cell? ⟨(ad320.add ((x5_1).toNat * 9)).block, (ad320.add ((x5_1).toNat * 9)).off + 7, none⟩ = some (.string ((rd_T46 l0 x5_1).f3.f2)) ∧ w'.cell? ⟨(ad320.add ((x5_1).toNat * 9)).block, (ad320.add ((x5_1).toNat * 9)).off + 8, none⟩ = some (.int .i64 ((rd_T46 l0 x5_1).f3.f3)) ∧ w'.cell? (ad321.add ((x5_1).toNat * 9)) = some (.int .i64 ((rd_T46 l1 x5_1).f0)) ∧ w'.cell? ⟨(ad321.add ((x5_1).toNat * 9)).block, (ad321.add ((x5_1).toNat * 9)).off + 1, none⟩ = some (.int .i64 ((rd_T46 l1 x5_1).f1)) ∧ w'.cell? ⟨(ad321.add ((x5_1).toNat * 9)).block, (ad321.add ((x5_1).toNat * 9)).off + 2, none⟩ = some (.int .i64 ((rd_T46 l1 x5_1).f2)) ∧ w'.cell? ⟨(ad321.add ((x5_1).toNat * 9)).block, (ad321.add ((x5_1).toNat * 9)).off + 3, none⟩ = some (.int .i64 ((rd_T46 l1 x5_1).f3.f0)) ∧ w'.cell? ⟨(ad321.add ((x5_1).toNat * 9)).block, (ad321.add ((x5_1).toNat * 9)).off + 4, none⟩ = some (.int .i64 ((rd_T46 l1 x5_1).f3.f1.f0)) ∧ w'.cell? ⟨(ad321.add ((x5_1).toNat * 9)).block, (ad321.add ((x5_1).toNat * 9)).off + 5, none⟩ = some (.int .i64 ((rd_T46 l1 x5_1).f3.f1.f1)) ∧ w'.cell? ⟨(ad321.add ((x5_1).toNat * 9)).block, (ad321.add ((x5_1).toNat * 9)).off + 6, none⟩ = some (.slice A321_6 ((rd_T46 l1 x5_1).f3.f1.f2).length c321_6) ∧ w'.cell? ⟨(ad321.add ((x5_1).toNat * 9)).block, (ad321.add ((x5_1).toNat * 9)).off + 7, none⟩ = some (.string ((rd_T46 l1 x5_1).f3.f2)) ∧ w'.cell? ⟨(ad321.add ((x5_1).toNat * 9)).block, (ad321.add ((x5_1).toNat * 9)).off + 8, none⟩ = some (.int .i64 ((rd_T46 l1 x5_1).f3.f3)) ∧ w'.cell? (ad320.add ((x5_1).toNat * 9)) = some (.int .i64 ((rd_T46 l0 x5_1).f0)) ∧ w'.cell? ⟨(ad320.add ((x5_1).toNat * 9)).block, (ad320.add ((x5_1).toNat * 9)).off + 1, none⟩ = some (.int .i64 ((rd_T46 l0 x5_1).f1)) ∧ w'.cell? ⟨(ad320.add ((x5_1).toNat * 9)).block, (ad320.add ((x5_1).toNat * 9)).off + 2, none⟩ = some (.int .i64 ((rd_T46 l0 x5_1).f2)) ∧ w'.cell? ⟨(ad320.add ((x5_1).toNat * 9)).block, (ad320.add ((x5_1).toNat * 9)).off + 3, none⟩ = some (.int .i64 ((rd_T46 l0 x5_1).f3.f0)) ∧ w'.cell? ⟨(ad320.add ((x5_1).toNat * 9)).block, (ad320.add ((x5_1).toNat * 9)).off + 4, none⟩ = some (.int .i64 ((rd_T46 l0 x5_1).f3.f1.f0)) ∧ w'.cell? ⟨(ad320.add ((x5_1).toNat * 9)).block, (ad320.add ((x5_1).toNat * 9)).off + 5, none⟩ = some (.int .i64 ((rd_T46 l0 x5_1).f3.f1.f1)) ∧ w'.cell? ⟨(ad320.add ((x5_1).toNat * 9)).block, (ad320.add ((x5_1).toNat * 9)).off + 6, none⟩ = some (.slice A320_6 ((rd_T46 l0 x5_1).f3.f1.f2).length c320_6) ∧ w'.cell? ⟨(ad320.add ((x5_1).toNat * 9)).block, (ad320.add ((x5_1).toNat * 9)).off + 7, none⟩ = some (.string ((rd_T46 l0 x5_1).f3.f2)) ∧ w'.cell? ⟨(ad320.add ((x5_1).toNat * 9)).block, (ad320.add ((x5_1).toNat * 9)).off + 8, none⟩ = some (.int .i64 ((rd_T46 l0 x5_1).f3.f3)) ∧ w'.cell? (ad321.add ((x5_1).toNat * 9)) = some (.int .i64 ((rd_T46 l1 x5_1).f0)) ∧ w'.cell? ⟨(ad321.add ((x5_1).toNat * 9)).block, (ad321.add ((x5_1).toNat * 9)).off + 1, none⟩ = some (.int .i64 ((rd_T46 l1 x5_1).f1)) ∧ w'.cell? ⟨(ad321.add ((x5_1).toNat * 9)).block, (ad321.add ((x5_1).toNat * 9)).off + 2, none⟩ = some (.int .i64 ((rd_T46 l1 x5_1).f2)) ∧ w'.cell? ⟨(ad321.add ((x5_1).toNat * 9)).block, (ad321.add ((x5_1).toNat * 9)).off + 3, none⟩ = some (.int .i64 ((rd_T46 l1 x5_1).f3.f0)) ∧ w'.cell? ⟨(ad321.add ((x5_1).toNat * 9)).block, (ad321.add ((x5_1).toNat * 9)).off + 4, none⟩ = some (.int .i64 ((rd_T46 l1 x5_1).f3.f1.f0)) ∧ w'.cell? ⟨(ad321.add ((x5_1).toNat * 9)).block, (ad321.add ((x5_1).toNat * 9)).off + 5, none⟩ = some (.int .i64 ((rd_T46 l1 x5_1).f3.f1.f1)) ∧ w'.cell? ⟨(ad321.add ((x5_1).toNat * 9)).block, (ad321.add ((x5_1).toNat * 9)).off + 6, none⟩ = some (.slice A321_6 ((rd_T46 l1 x5_1).f3.f1.f2).length c321_6) ∧ w'.cell? ⟨(ad321.add ((x5_1).toNat * 9)).block, (ad321.add ((x5_1).toNat * 9)).off + 7, none⟩ = some (.string ((rd_T46 l1 x5_1).f3.f2)) ∧ w'.cell? ⟨(ad321.add ((x5_1).toNat * 9)).block, (ad321.add ((x5_1).toNat * 9)).off + 8, none⟩ = some (.int .i64 ((rd_T46 l1 x5_1).f3.f3)) ∧ w'.cell? (ad320.add ((x5_1).toNat * 9)) = some (.int .i64 ((rd_T46 l0 x5_1).f0)) ∧ w'.cell? ⟨(ad320.add ((x5_1).toNat * 9)).block, (ad320.add ((x5_1).toNat * 9)).off + 1, none⟩ = some (.int .i64 ((rd_T46 l0 x5_1).f1)) ∧ w'.cell? ⟨(ad320.add ((x5_1).toNat * 9)).block, (ad320.add ((x5_1).toNat * 9)).off + 2, none⟩ = some (.int .i64 ((rd_T46 l0 x5_1).f2)) ∧ w'.cell? ⟨(ad320.add ((x5_1).toNat * 9)).block, (ad320.add ((x5_1).toNat * 9)).off + 3, none⟩ = some (.int .i64 ((rd_T46 l0 x5_1).f3.f0)) ∧ w'.cell? ⟨(ad320.add ((x5_1).toNat * 9)).block, (ad320.add ((x5_1).toNat * 9)).off + 4, none⟩ = some (.int .i64 ((rd_T46 l0 x5_1).f3.f1.f0)) ∧ w'.cell? ⟨(ad320.add ((x5_1).toNat * 9)).block, (ad320.add ((x5_1).toNat * 9)).off + 5, none⟩ = some (.int .i64 ((rd_T46 l0 x5_1).f3.f1.f1)) ∧ w'.cell? ⟨(ad320.add ((x5_1).toNat * 9)).block, (ad320.add ((x5_1).toNat * 9)).off + 6, none⟩ = some (.slice A320_6 ((rd_T46 l0 x5_1).f3.f1.f2).length c320_6) ∧ w'.cell? ⟨(ad320.add ((x5_1).toNat * 9)).block, (ad320.add ((x5_1).toNat * 9)).off + 7, none⟩ = some (.string ((rd_T46 l0 x5_1).f3.f2)) ∧ w'.cell? ⟨(ad320.add ((x5_1).toNat * 9)).block, (ad320.add ((x5_1).toNat * 9)).off + 8, none⟩ = some (.int .i64 ((rd_T46 l0 x5_1).f3.f3)) ∧ w'.cell? (ad321.add ((x5_1).toNat * 9)) = some (.int .i64 ((rd_T46 l1 x5_1).f0)) ∧ w'.cell? ⟨(ad321.add ((x5_1).toNat * 9)).block, (ad321.add ((x5_1).toNat * 9)).off + 1, none⟩ = some (.int .i64 ((rd_T46 l1 x5_1).f1)) ∧ w'.cell? ⟨(ad321.add ((x5_1).toNat * 9)).block, (ad321.add ((x5_1).toNat * 9)).off + 2, none⟩ = some (.int .i64 ((rd_T46 l1 x5_1).f2)) ∧ w'.cell? ⟨(ad321.add ((x5_1).toNat * 9)).block, (ad321.add ((x5_1).toNat * 9)).off + 3, none⟩ = some (.int .i64 ((rd_T46 l1 x5_1).f3.f0)) ∧ w'.cell? ⟨(ad321.add ((x5_1).toNat * 9)).block, (ad321.add ((x5_1).toNat * 9)).off + 4, none⟩ = some (.int .i64 ((rd_T46 l1 x5_1).f3.f1.f0)) ∧ w'.cell? ⟨(ad321.add ((x5_1).toNat * 9)).block, (ad321.add ((x5_1).toNat * 9)).off + 5, none⟩ = some (.int .i64 ((rd_T46 l1 x5_1).f3.f1.f1)) ∧ w'.cell? ⟨(ad321.add ((x5_1).toNat * 9)).block, (ad321.add ((x5_1).toNat * 9)).off + 6, none⟩ = some (.slice A321_6 ((rd_T46 l1 x5_1).f3.f1.f2).length c321_6) ∧ w'.cell? ⟨(ad321.add ((x5_1).toNat * 9)).block, (ad321.add ((x5_1).toNat * 9)).off + 7, none⟩ = some (.string ((rd_T46 l1 x5_1).f3.f2)) ∧ w'.cell? ⟨(ad321.add ((x5_1).toNat * 9)).block, (ad321.add ((x5_1).toNat * 9)).off + 8, none⟩ = some (.int .i64 ((rd_T46 l1 x5_1).f3.f3))) (ds := []) #[false, false, false, false, false, false, false, false, false, false, false, false, false, false, false, false, false, false, false, false, false, false, false, false, false, false, false, false, false, false, false, false, false, false, false, false, false, false, false, false, false, false, false, false, false, false, false, false, false, false, false] (by kernel_rfl) rfl rfl ⟨(My.up HB hw320_0), (My.up HB hw320_1), (My.up HB hw320_2), (My.up HB hw320_3), (My.up HB hw320_4), (My.up HB hw320_5), (My.up HB hw320_6), (My.up HB hw320_7), (My.up HB hw320_8), (My.up HB hw321_0), (My.up HB hw321_1), (My.up HB hw321_2), (My.up HB hw321_3), (My.up HB hw321_4), (My.up HB hw321_5), (My.up HB hw321_6), (My.up HB hw321_7), (My.up HB hw321_8), (My.up HB hw322_0), (My.up HB hw322_1), (My.up HB hw322_2), (My.up HB hw322_3), (My.up HB hw322_4), (My.up HB hw322_5), (My.up HB hw322_6), (My.up HB hw322_7), (My.up HB hw322_8), (My.up HB hw323_0), (My.up HB hw323_1), (My.up HB hw323_2), (My.up HB hw323_3), (My.up HB hw323_4), (My.up HB hw323_5), (My.up HB hw323_6), (My.up HB hw323_7), (My.up HB hw323_8), (My.up HB hw324_0), (My.up HB hw324_1), (My.up HB hw324_2), (My.up HB hw324_3), (My.up HB hw324_4), (My.up HB hw324_5), (My.up HB hw324_6), (My.up HB hw324_7), (My.up HB hw324_8), (My.up HB hw325_0), (My.up HB hw325_1), (My.up HB hw325_2), (My.up HB hw325_3), (My.up HB hw325_4), (My.up HB hw325_5), (My.up HB hw325_6), (My.up HB hw325_7), (My.up HB hw325_8), (My.up HB hw326_0), (My.up HB hw326_1), (My.up HB hw326_2), (My.up HB hw326_3), (My.up HB hw326_4), (My.up HB hw326_5), (My.up HB hw326_6), (My.up HB hw326_7), (My.up HB hw326_8), (My.up HB hw327_0), (My.up HB hw327_1), (My.up HB hw327_2), (My.up HB hw327_3), (My.up HB hw327_4), (My.up HB hw327_5), (My.up HB hw327_6), (My.up HB hw327_7), (My.up HB hw327_8)⟩ (fun hHeld => ?_); refine with_tabW ententeref19_Same.tab6 ententeref19_Same.bits6 (fun HT_ HW_ => ?_)
     generalize wr.drew = w12 at HB HR320_6 HR321_6 HR322_6 HR323_6 HR324_6 HR325_6 HR326_6 HR327_6 hx320_0 hx320_1 hx320_2 hx320_3 hx320_4 hx320_5 hx320_6 hx320_7 hx320_8 hx321_0 hx321_1 hx321_2 hx321_3 hx321_4 hx321_5 hx321_6 hx321_7 hx321_8 hx322_0 hx322_1 hx322_2 hx322_3 hx322_4 hx322_5 hx322_6 hx322_7 hx322_8 hx323_0 hx323_1 hx323_2 hx323_3 hx323_4 hx323_5 hx323_6 hx323_7 hx323_8 hx324_0 hx324_1 hx324_2 hx324_3 hx324_4 hx324_5 hx324_6 hx324_7 hx324_8 hx325_0 hx325_1 hx325_2 hx325_3 hx325_4 hx325_5 hx325_6 hx325_7 hx325_8 hx326_0 hx326_1 hx326_2 hx326_3 hx326_4 hx326_5 hx326_6 hx326_7 hx326_8 hx327_0 hx327_1 hx327_2 hx327_3 hx327_4 hx327_5 hx327_6 hx327_7 hx327_8 hHeld ⊢
     refine My.pu_ 0 17 51 HT_.out ?_
     refine My.pu_ 1 18 51 HT_.out ?_
     refine My.pu_ 2 19 51 HT_.out ?_
     refine My.pu_ 3 20 51 HT_.out ?_
     refine My.pv_ 5 22 51 47 HT_.out ?_
     refine My.pv_ 6 23 51 111 HT_.out ?_
     refine My.pv_ 7 24 51 239 HT_.out ?_
     refine My.pv_ 8 25 51 495 HT_.out ?_
     refine My.tv_ 4 21 51 511 HT_.out HW_.out hHeld rfl rfl (by rintro w' ⟨s0, s1, s2, s3, s4, s5, s6, s7, s8, s9, s10, s11, s12, s13, s14, s15, s16, s17, s18, s19, s20, s21, s22, s23, s24, s25, s26, s27, s28, s29, s30, s31, s32, s33, s34, s35, s36, s37, s38, s39, s40, s41, s42, s43, s44, s45, s46, s47, s48, s49, s50, s51, s52, s53, s54, s55, s56, s57, s58, s59, s60, s61, s62, s63, s64, s65, s66, s67, s68, s69, s70, s71⟩; go_simp; with_reducible rfl) ?_
     refine My.ta_ 9 26 51 HT_.out HW_.out hHeld rfl rfl (by rintro w' ⟨s0, s1, s2, s3, s4, s5, s6, s7, s8, s9, s10, s11, s12, s13, s14, s15, s16, s17, s18, s19, s20, s21, s22, s23, s24, s25, s26, s27, s28, s29, s30, s31, s32, s33, s34, s35, s36, s37, s38, s39, s40, s41, s42, s43, s44, s45, s46, s47, s48, s49, s50, s51, s52, s53, s54, s55, s56, s57, s58, s59, s60, s61, s62, s63, s64, s65, s66, s67, s68, s69, s70, s71⟩; go_simp; with_reducible rfl) ?_
     refine My.pu_ 10 27 51 HT_.out ?_
     refine My.pu_ 11 28 51 HT_.out ?_
     refine My.pu_ 12 29 51 HT_.out ?_
     refine My.pu_ 13 30 51 HT_.out ?_
     refine My.pu_ 14 31 51 HT_.out ?_
     refine My.pu_ 15 32 51 HT_.out ?_
     refine My.pv_ 17 34 51 196607 HT_.out ?_
     refine My.pv_ 18 35 51 458751 HT_.out ?_
     refine My.pv_ 19 36 51 983039 HT_.out ?_
     refine My.pv_ 20 37 51 2031615 HT_.out ?_
     refine My.tv_ 16 33 51 2097151 HT_.out HW_.out hHeld rfl rfl (by rintro w' ⟨s0, s1, s2, s3, s4, s5, s6, s7, s8, s9, s10, s11, s12, s13, s14, s15, s16, s17, s18, s19, s20, s21, s22, s23, s24, s25, s26, s27, s28, s29, s30, s31, s32, s33, s34, s35, s36, s37, s38, s39, s40, s41, s42, s43, s44, s45, s46, s47, s48, s49, s50, s51, s52, s53, s54, s55, s56, s57, s58, s59, s60, s61, s62, s63, s64, s65, s66, s67, s68, s69, s70, s71⟩; go_simp; with_reducible rfl) ?_
     refine My.ta_ 21 38 51 HT_.out HW_.out hHeld rfl rfl (by rintro w' ⟨s0, s1, s2, s3, s4, s5, s6, s7, s8, s9, s10, s11, s12, s13, s14, s15, s16, s17, s18, s19, s20, s21, s22, s23, s24, s25, s26, s27, s28, s29, s30, s31, s32, s33, s34, s35, s36, s37, s38, s39, s40, s41, s42, s43, s44, s45, s46, s47, s48, s49, s50, s51, s52, s53, s54, s55, s56, s57, s58, s59, s60, s61, s62, s63, s64, s65, s66, s67, s68, s69, s70, s71⟩; go_simp; with_reducible rfl) ?_
     refine My.pu_ 22 39 51 HT_.out ?_
     refine My.pu_ 23 40 51 HT_.out ?_
     refine My.pu_ 24 41 51 HT_.out ?_
     refine My.pu_ 25 42 51 HT_.out ?_
     refine My.pu_ 26 43 51 HT_.out ?_
     refine My.pu_ 27 44 51 HT_.out ?_
     refine My.pu_ 28 45 51 HT_.out ?_
     refine My.pv_ 30 47 51 1610612735 HT_.out ?_
     refine My.pv_ 31 48 51 3758096383 HT_.out ?_
     refine My.pv_ 32 49 51 8053063679 HT_.out ?_
     refine My.pv_ 33 50 51 16642998271 HT_.out ?_
     refine My.tv_ 29 46 51 17179869183 HT_.out HW_.out hHeld rfl rfl (by rintro w' ⟨s0, s1, s2, s3, s4, s5, s6, s7, s8, s9, s10, s11, s12, s13, s14, s15, s16, s17, s18, s19, s20, s21, s22, s23, s24, s25, s26, s27, s28, s29, s30, s31, s32, s33, s34, s35, s36, s37, s38, s39, s40, s41, s42, s43, s44, s45, s46, s47, s48, s49, s50, s51, s52, s53, s54, s55, s56, s57, s58, s59, s60, s61, s62, s63, s64, s65, s66, s67, s68, s69, s70, s71⟩; go_simp; with_reducible rfl) ?_
     refine My.ta_ 34 51 51 HT_.out HW_.out hHeld rfl rfl (by rintro w' ⟨s0, s1, s2, s3, s4, s5, s6, s7, s8, s9, s10, s11, s12, s13, s14, s15, s16, s17, s18, s19, s20, s21, s22, s23, s24, s25, s26, s27, s28, s29, s30, s31, s32, s33, s34, s35, s36, s37, s38, s39, s40, s41, s42, s43, s44, s45, s46, s47, s48, s49, s50, s51, s52, s53, s54, s55, s56, s57, s58, s59, s60, s61, s62, s63, s64, s65, s66, s67, s68, s69, s70, s71⟩; go_simp; with_reducible rfl) ?_
     refine My.pu_ 35 52 51 HT_.out ?_
     refine My.pu_ 36 53 51 HT_.out ?_
     refine My.pu_ 37 54 51 HT_.out ?_
     refine My.pu_ 38 55 51 HT_.out ?_
     refine My.pu_ 39 56 51 HT_.out ?_
     refine My.pu_ 40 57 51 HT_.out ?_
     refine My.pu_ 41 58 51 HT_.out ?_
     refine My.pv_ 43 60 51 13194139533311 HT_.out ?_
     refine My.pv_ 44 61 51 30786325577727 HT_.out ?_
     refine My.pv_ 45 62 51 65970697666559 HT_.out ?_
     refine My.pv_ 46 63 51 136339441844223 HT_.out ?_
     refine My.tv_ 42 59 51 140737488355327 HT_.out HW_.out hHeld rfl rfl (by rintro w' ⟨s0, s1, s2, s3, s4, s5, s6, s7, s8, s9, s10, s11, s12, s13, s14, s15, s16, s17, s18, s19, s20, s21, s22, s23, s24, s25, s26, s27, s28, s29, s30, s31, s32, s33, s34, s35, s36, s37, s38, s39, s40, s41, s42, s43, s44, s45, s46, s47, s48, s49, s50, s51, s52, s53, s54, s55, s56, s57, s58, s59, s60, s61, s62, s63, s64, s65, s66, s67, s68, s69, s70, s71⟩; go_simp; with_reducible rfl) ?_
     refine My.ta_ 47 64 51 HT_.out HW_.out hHeld rfl rfl (by rintro w' ⟨s0, s1, s2, s3, s4, s5, s6, s7, s8, s9, s10, s11, s12, s13, s14, s15, s16, s17, s18, s19, s20, s21, s22, s23, s24, s25, s26, s27, s28, s29, s30, s31, s32, s33, s34, s35, s36, s37, s38, s39, s40, s41, s42, s43, s44, s45, s46, s47, s48, s49, s50, s51, s52, s53, s54, s55, s56, s57, s58, s59, s60, s61, s62, s63, s64, s65, s66, s67, s68, s69, s70, s71⟩; go_simp; with_reducible rfl) ?_
     refine one_ (i := 48) (N := some 65) (My.Mb 51 562949953421311) rfl rfl (one_of HT_.out (by kernel_rfl)) (by decide) (fun K hK => ?_)
     refine goes_ Try.func31 (by kernel_rfl) rfl #[.agg #[.int .i64 ((rd_T46 l0 x5_1).f3.f0), .int .i64 ((rd_T46 l0 x5_1).f3.f1.f0), .int .i64 ((rd_T46 l0 x5_1).f3.f1.f1), .slice A320_6 ((rd_T46 l0 x5_1).f3.f1.f2).length c320_6, .string ((rd_T46 l0 x5_1).f3.f2), .int .i64 ((rd_T46 l0 x5_1).f3.f3)], .agg #[.int .i64 ((rd_T46 l1 x5_1).f3.f0), .int .i64 ((rd_T46 l1 x5_1).f3.f1.f0), .int .i64 ((rd_T46 l1 x5_1).f3.f1.f1), .slice A321_6 ((rd_T46 l1 x5_1).f3.f1.f2).length c321_6, .string ((rd_T46 l1 x5_1).f3.f2), .int .i64 ((rd_T46 l1 x5_1).f3.f3)]] (by rfl) rfl rfl My.gx ?_
     with_reducible refine (ententeref13_SameNote.calls k1 ((rd_T46 l0 x5_1).f3.f0) ((rd_T46 l0 x5_1).f3.f1.f0) ((rd_T46 l0 x5_1).f3.f1.f1) _ _ ((rd_T46 l0 x5_1).f3.f1.f2) ((rd_T46 l0 x5_1).f3.f2) ((rd_T46 l0 x5_1).f3.f3) ((rd_T46 l1 x5_1).f3.f0) ((rd_T46 l1 x5_1).f3.f1.f0) ((rd_T46 l1 x5_1).f3.f1.f1) _ _ ((rd_T46 l1 x5_1).f3.f1.f2) ((rd_T46 l1 x5_1).f3.f2) ((rd_T46 l1 x5_1).f3.f3) true _ ?side1 ?side2 ?side3 ?side4 A10.out).mono ?_
     (case side1 => exact My.sd_ HR326_6 HB)
     (case side2 => exact HC326_6.out)
     (case side3 => exact My.sd_ HR327_6 HB)
     (case side4 => exact HC327_6.out)
     rintro e w13 ⟨rfl, hb⟩
     refine ⟨_, rfl, ?_⟩
     replace HB := My.st HB hb
     (try clear hb)
     (try clear hb2)
     (try clear hk)
     (try clear hi)
     refine hK.out _ _ ⟨(My.up HB hw320_0), (My.up HB hw320_1), (My.up HB hw320_2), (My.up HB hw320_3), (My.up HB hw320_4), (My.up HB hw320_5), (My.up HB hw320_6), (My.up HB hw320_7), (My.up HB hw320_8), (My.up HB hw321_0), (My.up HB hw321_1), (My.up HB hw321_2), (My.up HB hw321_3), (My.up HB hw321_4), (My.up HB hw321_5), (My.up HB hw321_6), (My.up HB hw321_7), (My.up HB hw321_8), (My.up HB hw322_0), (My.up HB hw322_1), (My.up HB hw322_2), (My.up HB hw322_3), (My.up HB hw322_4), (My.up HB hw322_5), (My.up HB hw322_6), (My.up HB hw322_7), (My.up HB hw322_8), (My.up HB hw323_0), (My.up HB hw323_1), (My.up HB hw323_2), (My.up HB hw323_3), (My.up HB hw323_4), (My.up HB hw323_5), (My.up HB hw323_6), (My.up HB hw323_7), (My.up HB hw323_8), (My.up HB hw324_0), (My.up HB hw324_1), (My.up HB hw324_2), (My.up HB hw324_3), (My.up HB hw324_4), (My.up HB hw324_5), (My.up HB hw324_6), (My.up HB hw324_7), (My.up HB hw324_8), (My.up HB hw325_0), (My.up HB hw325_1), (My.up HB hw325_2), (My.up HB hw325_3), (My.up HB hw325_4), (My.up HB hw325_5), (My.up HB hw325_6), (My.up HB hw325_7), (My.up HB hw325_8), (My.up HB hw326_0), (My.up HB hw326_1), (My.up HB hw326_2), (My.up HB hw326_3), (My.up HB hw326_4), (My.up HB hw326_5), (My.up HB hw326_6), (My.up HB hw326_7), (My.up HB hw326_8), (My.up HB hw327_0), (My.up HB hw327_1), (My.up HB hw327_2), (My.up HB hw327_3), (My.up HB hw327_4), (My.up HB hw327_5), (My.up HB hw327_6), (My.up HB hw327_7), (My.up HB hw327_8)⟩ (fun hHeld => ?_)
     clear hK K
     refine My.nm 65 ?_
     refine My.pu_ 49 66 51 HT_.out ?_
     refine My.pu_ 50 67 51 HT_.out ?_
     refine done_ (done_of HT_.out (by kernel_rfl)) ?_
     try go_wp2
     go_roundg k1
     case measure => have := HK1.out; omega
     case rel => exact ⟨(wrap64 (x5_1 + 1)), My.r1, H', ⟨by have := HK1.out; omega⟩, ⟨(My.bl_ HB)⟩⟩
    replace c11 := Bool.eq_false_iff.mpr c11
    subst c11
    rw [if_neg (show ¬ (false = true) by decide)] at H
    obtain rfl := Option.some.inj H
    try go_wp2
    replace HB := My.am (below_drew1 HB.out)
    have p320 : 0 ≤ (x5_1 : Int) := My.as_
    have q320 : x5_1 < (l0.length : Int) := My.as_
    obtain ⟨ad320, A320_6, c320_6, e320, hx320_0, hx320_1, hx320_2, hx320_3, hx320_4, hx320_5, hx320_6, hx320_7, hx320_8, hl320_6, hi320_6⟩ := at_T46 HR0.out x5_1 p320 q320
    have hw320_8 := hx320_8
    have hw320_7 := hx320_7
    have hw320_6 := hx320_6
    have hw320_5 := hx320_5
    have hw320_4 := hx320_4
    have hw320_3 := hx320_3
    have hw320_2 := hx320_2
    have hw320_1 := hx320_1
    have hw320_0 := hx320_0
    cases e320
    replace hx320_0 := My.up HB hx320_0
    replace hx320_1 := My.up HB hx320_1
    replace hx320_2 := My.up HB hx320_2
    replace hx320_3 := My.up HB hx320_3
    replace hx320_4 := My.up HB hx320_4
    replace hx320_5 := My.up HB hx320_5
    replace hx320_6 := My.up HB hx320_6
    replace hx320_7 := My.up HB hx320_7
    replace hx320_8 := My.up HB hx320_8
    have HR320_6 := My.am hi320_6
    have HC320_6 := My.am hl320_6
    clear hi320_6 hl320_6
    replace p320 := eq_true p320
    replace q320 := eq_true q320
    have p321 : 0 ≤ (x5_1 : Int) := My.as_
    have q321 : x5_1 < (l1.length : Int) := My.as_
    obtain ⟨ad321, A321_6, c321_6, e321, hx321_0, hx321_1, hx321_2, hx321_3, hx321_4, hx321_5, hx321_6, hx321_7, hx321_8, hl321_6, hi321_6⟩ := at_T46 HR1.out x5_1 p321 q321
    have hw321_8 := hx321_8
    have hw321_7 := hx321_7
    have hw321_6 := hx321_6
    have hw321_5 := hx321_5
    have hw321_4 := hx321_4
    have hw321_3 := hx321_3
    have hw321_2 := hx321_2
    have hw321_1 := hx321_1
    have hw321_0 := hx321_0
    cases e321
    replace hx321_0 := My.up HB hx321_0
    replace hx321_1 := My.up HB hx321_1
    replace hx321_2 := My.up HB hx321_2
    replace hx321_3 := My.up HB hx321_3
    replace hx321_4 := My.up HB hx321_4
    replace hx321_5 := My.up HB hx321_5
    replace hx321_6 := My.up HB hx321_6
    replace hx321_7 := My.up HB hx321_7
    replace hx321_8 := My.up HB hx321_8
    have HR321_6 := My.am hi321_6
    have HC321_6 := My.am hl321_6
    clear hi321_6 hl321_6
    replace p321 := eq_true p321
    replace q321 := eq_true q321
    have p322 : 0 ≤ (x5_1 : Int) := My.as_
    have q322 : x5_1 < (l0.length : Int) := My.as_
    obtain ⟨ad322, A322_6, c322_6, e322, hx322_0, hx322_1, hx322_2, hx322_3, hx322_4, hx322_5, hx322_6, hx322_7, hx322_8, hl322_6, hi322_6⟩ := at_T46 HR0.out x5_1 p322 q322
    have hw322_8 := hx322_8
    have hw322_7 := hx322_7
    have hw322_6 := hx322_6
    have hw322_5 := hx322_5
    have hw322_4 := hx322_4
    have hw322_3 := hx322_3
    have hw322_2 := hx322_2
    have hw322_1 := hx322_1
    have hw322_0 := hx322_0
    obtain rfl : ad320 = ad322 := (by injection e322)
    replace hx322_0 := My.up HB hx322_0
    replace hx322_1 := My.up HB hx322_1
    replace hx322_2 := My.up HB hx322_2
    replace hx322_3 := My.up HB hx322_3
    replace hx322_4 := My.up HB hx322_4
    replace hx322_5 := My.up HB hx322_5
    replace hx322_6 := My.up HB hx322_6
    replace hx322_7 := My.up HB hx322_7
    replace hx322_8 := My.up HB hx322_8
    have HR322_6 := My.am hi322_6
    have HC322_6 := My.am hl322_6
    clear hi322_6 hl322_6
    replace p322 := eq_true p322
    replace q322 := eq_true q322
    have ea_ := Option.some.inj (hx320_6.symm.trans hx322_6)
    injection ea_ with ea_ en_ ec_
    subst ea_
    subst ec_
    clear en_
    have p323 : 0 ≤ (x5_1 : Int) := My.as_
    have q323 : x5_1 < (l1.length : Int) := My.as_
    obtain ⟨ad323, A323_6, c323_6, e323, hx323_0, hx323_1, hx323_2, hx323_3, hx323_4, hx323_5, hx323_6, hx323_7, hx323_8, hl323_6, hi323_6⟩ := at_T46 HR1.out x5_1 p323 q323
    have hw323_8 := hx323_8
    have hw323_7 := hx323_7
    have hw323_6 := hx323_6
    have hw323_5 := hx323_5
    have hw323_4 := hx323_4
    have hw323_3 := hx323_3
    have hw323_2 := hx323_2
    have hw323_1 := hx323_1
    have hw323_0 := hx323_0
    obtain rfl : ad321 = ad323 := (by injection e323)
    replace hx323_0 := My.up HB hx323_0
    replace hx323_1 := My.up HB hx323_1
    replace hx323_2 := My.up HB hx323_2
    replace hx323_3 := My.up HB hx323_3
    replace hx323_4 := My.up HB hx323_4
    replace hx323_5 := My.up HB hx323_5
    replace hx323_6 := My.up HB hx323_6
    replace hx323_7 := My.up HB hx323_7
    replace hx323_8 := My.up HB hx323_8
    have HR323_6 := My.am hi323_6
    have HC323_6 := My.am hl323_6
    clear hi323_6 hl323_6
    replace p323 := eq_true p323
    replace q323 := eq_true q323
    have ea_ := Option.some.inj (hx321_6.symm.trans hx323_6)
    injection ea_ with ea_ en_ ec_
    subst ea_
    subst ec_
    clear en_
    have p324 : 0 ≤ (x5_1 : Int) := My.as_
    have q324 : x5_1 < (l0.length : Int) := My.as_
    obtain ⟨ad324, A324_6, c324_6, e324, hx324_0, hx324_1, hx324_2, hx324_3, hx324_4, hx324_5, hx324_6, hx324_7, hx324_8, hl324_6, hi324_6⟩ := at_T46 HR0.out x5_1 p324 q324
    have hw324_8 := hx324_8
    have hw324_7 := hx324_7
    have hw324_6 := hx324_6
    have hw324_5 := hx324_5
    have hw324_4 := hx324_4
    have hw324_3 := hx324_3
    have hw324_2 := hx324_2
    have hw324_1 := hx324_1
    have hw324_0 := hx324_0
    obtain rfl : ad320 = ad324 := (by injection e324)
    replace hx324_0 := My.up HB hx324_0
    replace hx324_1 := My.up HB hx324_1
    replace hx324_2 := My.up HB hx324_2
    replace hx324_3 := My.up HB hx324_3
    replace hx324_4 := My.up HB hx324_4
    replace hx324_5 := My.up HB hx324_5
    replace hx324_6 := My.up HB hx324_6
    replace hx324_7 := My.up HB hx324_7
    replace hx324_8 := My.up HB hx324_8
    have HR324_6 := My.am hi324_6
    have HC324_6 := My.am hl324_6
    clear hi324_6 hl324_6
    replace p324 := eq_true p324
    replace q324 := eq_true q324
    have ea_ := Option.some.inj (hx320_6.symm.trans hx324_6)
    injection ea_ with ea_ en_ ec_
    subst ea_
    subst ec_
    clear en_
    have p325 : 0 ≤ (x5_1 : Int) := My.as_
    have q325 : x5_1 < (l1.length : Int) := My.as_
    obtain ⟨ad325, A325_6, c325_6, e325, hx325_0, hx325_1, hx325_2, hx325_3, hx325_4, hx325_5, hx325_6, hx325_7, hx325_8, hl325_6, hi325_6⟩ := at_T46 HR1.out x5_1 p325 q325
    have hw325_8 := hx325_8
    have hw325_7 := hx325_7
    have hw325_6 := hx325_6
    have hw325_5 := hx325_5
    have hw325_4 := hx325_4
    have hw325_3 := hx325_3
    have hw325_2 := hx325_2
    have hw325_1 := hx325_1
    have hw325_0 := hx325_0
    obtain rfl : ad321 = ad325 := (by injection e325)
    replace hx325_0 := My.up HB hx325_0
    replace hx325_1 := My.up HB hx325_1
    replace hx325_2 := My.up HB hx325_2
    replace hx325_3 := My.up HB hx325_3
    replace hx325_4 := My.up HB hx325_4
    replace hx325_5 := My.up HB hx325_5
    replace hx325_6 := My.up HB hx325_6
    replace hx325_7 := My.up HB hx325_7
    replace hx325_8 := My.up HB hx325_8
    have HR325_6 := My.am hi325_6
    have HC325_6 := My.am hl325_6
    clear hi325_6 hl325_6
    replace p325 := eq_true p325
    replace q325 := eq_true q325
    have ea_ := Option.some.inj (hx321_6.symm.trans hx325_6)
    injection ea_ with ea_ en_ ec_
    subst ea_
    subst ec_
    clear en_
    have p326 : 0 ≤ (x5_1 : Int) := My.as_
    have q326 : x5_1 < (l0.length : Int) := My.as_
    obtain ⟨ad326, A326_6, c326_6, e326, hx326_0, hx326_1, hx326_2, hx326_3, hx326_4, hx326_5, hx326_6, hx326_7, hx326_8, hl326_6, hi326_6⟩ := at_T46 HR0.out x5_1 p326 q326
    have hw326_8 := hx326_8
    have hw326_7 := hx326_7
    have hw326_6 := hx326_6
    have hw326_5 := hx326_5
    have hw326_4 := hx326_4
    have hw326_3 := hx326_3
    have hw326_2 := hx326_2
    have hw326_1 := hx326_1
    have hw326_0 := hx326_0
    obtain rfl : ad320 = ad326 := (by injection e326)
    replace hx326_0 := My.up HB hx326_0
    replace hx326_1 := My.up HB hx326_1
    replace hx326_2 := My.up HB hx326_2
    replace hx326_3 := My.up HB hx326_3
    replace hx326_4 := My.up HB hx326_4
    replace hx326_5 := My.up HB hx326_5
    replace hx326_6 := My.up HB hx326_6
    replace hx326_7 := My.up HB hx326_7
    replace hx326_8 := My.up HB hx326_8
    have HR326_6 := My.am hi326_6
    have HC326_6 := My.am hl326_6
    clear hi326_6 hl326_6
    replace p326 := eq_true p326
    replace q326 := eq_true q326
    have ea_ := Option.some.inj (hx320_6.symm.trans hx326_6)
    injection ea_ with ea_ en_ ec_
    subst ea_
    subst ec_
    clear en_
    have p327 : 0 ≤ (x5_1 : Int) := My.as_
    have q327 : x5_1 < (l1.length : Int) := My.as_
    obtain ⟨ad327, A327_6, c327_6, e327, hx327_0, hx327_1, hx327_2, hx327_3, hx327_4, hx327_5, hx327_6, hx327_7, hx327_8, hl327_6, hi327_6⟩ := at_T46 HR1.out x5_1 p327 q327
    have hw327_8 := hx327_8
    have hw327_7 := hx327_7
    have hw327_6 := hx327_6
    have hw327_5 := hx327_5
    have hw327_4 := hx327_4
    have hw327_3 := hx327_3
    have hw327_2 := hx327_2
    have hw327_1 := hx327_1
    have hw327_0 := hx327_0
    obtain rfl : ad321 = ad327 := (by injection e327)
    replace hx327_0 := My.up HB hx327_0
    replace hx327_1 := My.up HB hx327_1
    replace hx327_2 := My.up HB hx327_2
    replace hx327_3 := My.up HB hx327_3
    replace hx327_4 := My.up HB hx327_4
    replace hx327_5 := My.up HB hx327_5
    replace hx327_6 := My.up HB hx327_6
    replace hx327_7 := My.up HB hx327_7
    replace hx327_8 := My.up HB hx327_8
    have HR327_6 := My.am hi327_6
    have HC327_6 := My.am hl327_6
    clear hi327_6 hl327_6
    replace p327 := eq_true p327
    replace q327 := eq_true q327
    have ea_ := Option.some.inj (hx321_6.symm.trans hx327_6)
    injection ea_ with ea_ en_ ec_
    subst ea_
    subst ec_
    clear en_
    refine start_ (n := 51) (S := fun w' => w'.cell? (ad320.add ((x5_1).toNat * 9)) = some (.int .i64 ((rd_T46 l0 x5_1).f0)) ∧ w'.cell? ⟨(ad320.add ((x5_1).toNat * 9)).block, (ad320.add ((x5_1).toNat * 9)).off + 1, none⟩ = some (.int .i64 ((rd_T46 l0 x5_1).f1)) ∧ w'.cell? ⟨(ad320.add ((x5_1).toNat * 9)).block, (ad320.add ((x5_1).toNat * 9)).off + 2, none⟩ = some (.int .i64 ((rd_T46 l0 x5_1).f2)) ∧ w'.cell? ⟨(ad320.add ((x5_1).toNat * 9)).block, (ad320.add ((x5_1).toNat * 9)).off + 3, none⟩ = some (.int .i64 ((rd_T46 l0 x5_1).f3.f0)) ∧ w'.cell? ⟨(ad320.add ((x5_1).toNat * 9)).block, (ad320.add ((x5_1).toNat * 9)).off + 4, none⟩ = some (.int .i64 ((rd_T46 l0 x5_1).f3.f1.f0)) ∧ w'.cell? ⟨(ad320.add ((x5_1).toNat * 9)).block, (ad320.add ((x5_1).toNat * 9)).off + 5, none⟩ = some (.int .i64 ((rd_T46 l0 x5_1).f3.f1.f1)) ∧ w'.cell? ⟨(ad320.add ((x5_1).toNat * 9)).block, (ad320.add ((x5_1).toNat * 9)).off + 6, none⟩ = some (.slice A320_6 ((rd_T46 l0 x5_1).f3.f1.f2).length c320_6) ∧ w'.cell? ⟨(ad320.add ((x5_1).toNat * 9)).block, (ad320.add ((x5_1).toNat * 9)).off + 7, none⟩ = some (.string ((rd_T46 l0 x5_1).f3.f2)) ∧ w'.cell? ⟨(ad320.add ((x5_1).toNat * 9)).block, (ad320.add ((x5_1).toNat * 9)).off + 8, none⟩ = some (.int .i64 ((rd_T46 l0 x5_1).f3.f3)) ∧ w'.cell? (ad321.add ((x5_1).toNat * 9)) = some (.int .i64 ((rd_T46 l1 x5_1).f0)) ∧ w'.cell? ⟨(ad321.add ((x5_1).toNat * 9)).block, (ad321.add ((x5_1).toNat * 9)).off + 1, none⟩ = some (.int .i64 ((rd_T46 l1 x5_1).f1)) ∧ w'.cell? ⟨(ad321.add ((x5_1).toNat * 9)).block, (ad321.add ((x5_1).toNat * 9)).off + 2, none⟩ = some (.int .i64 ((rd_T46 l1 x5_1).f2)) ∧ w'.cell? ⟨(ad321.add ((x5_1).toNat * 9)).block, (ad321.add ((x5_1).toNat * 9)).off + 3, none⟩ = some (.int .i64 ((rd_T46 l1 x5_1).f3.f0)) ∧ w'.cell? ⟨(ad321.add ((x5_1).toNat * 9)).block, (ad321.add ((x5_1).toNat * 9)).off + 4, none⟩ = some (.int .i64 ((rd_T46 l1 x5_1).f3.f1.f0)) ∧ w'.cell? ⟨(ad321.add ((x5_1).toNat * 9)).block, (ad321.add ((x5_1).toNat * 9)).off + 5, none⟩ = some (.int .i64 ((rd_T46 l1 x5_1).f3.f1.f1)) ∧ w'.cell? ⟨(ad321.add ((x5_1).toNat * 9)).block, (ad321.add ((x5_1).toNat * 9)).off + 6, none⟩ = some (.slice A321_6 ((rd_T46 l1 x5_1).f3.f1.f2).length c321_6) ∧ w'.cell? ⟨(ad321.add ((x5_1).toNat * 9)).block, (ad321.add ((x5_1).toNat * 9)).off + 7, none⟩ = some (.string ((rd_T46 l1 x5_1).f3.f2)) ∧ w'.cell? ⟨(ad321.add ((x5_1).toNat * 9)).block, (ad321.add ((x5_1).toNat * 9)).off + 8, none⟩ = some (.int .i64 ((rd_T46 l1 x5_1).f3.f3)) ∧ w'.cell? (ad320.add ((x5_1).toNat * 9)) = some (.int .i64 ((rd_T46 l0 x5_1).f0)) ∧ w'.cell? ⟨(ad320.add ((x5_1).toNat * 9)).block, (ad320.add ((x5_1).toNat * 9)).off + 1, none⟩ = some (.int .i64 ((rd_T46 l0 x5_1).f1)) ∧ w'.cell? ⟨(ad320.add ((x5_1).toNat * 9)).block, (ad320.add ((x5_1).toNat * 9)).off + 2, none⟩ = some (.int .i64 ((rd_T46 l0 x5_1).f2)) ∧ w'.cell? ⟨(ad320.add ((x5_1).toNat * 9)).block, (ad320.add ((x5_1).toNat * 9)).off + 3, none⟩ = some (.int .i64 ((rd_T46 l0 x5_1).f3.f0)) ∧ w'.cell? ⟨(ad320.add ((x5_1).toNat * 9)).block, (ad320.add ((x5_1).toNat * 9)).off + 4, none⟩ = some (.int .i64 ((rd_T46 l0 x5_1).f3.f1.f0)) ∧ w'.cell? ⟨(ad320.add ((x5_1).toNat * 9)).block, (ad320.add ((x5_1).toNat * 9)).off + 5, none⟩ = some (.int .i64 ((rd_T46 l0 x5_1).f3.f1.f1)) ∧ w'.cell? ⟨(ad320.add ((x5_1).toNat * 9)).block, (ad320.add ((x5_1).toNat * 9)).off + 6, none⟩ = some (.slice A320_6 ((rd_T46 l0 x5_1).f3.f1.f2).length c320_6) ∧ w'.cell? ⟨(ad320.add ((x5_1).toNat * 9)).block, (ad320.add ((x5_1).toNat * 9)).off + 7, none⟩ = some (.string ((rd_T46 l0 x5_1).f3.f2)) ∧ w'.cell? ⟨(ad320.add ((x5_1).toNat * 9)).block, (ad320.add ((x5_1).toNat * 9)).off + 8, none⟩ = some (.int .i64 ((rd_T46 l0 x5_1).f3.f3)) ∧ w'.cell? (ad321.add ((x5_1).toNat * 9)) = some (.int .i64 ((rd_T46 l1 x5_1).f0)) ∧ w'.cell? ⟨(ad321.add ((x5_1).toNat * 9)).block, (ad321.add ((x5_1).toNat * 9)).off + 1, none⟩ = some (.int .i64 ((rd_T46 l1 x5_1).f1)) ∧ w'.cell? ⟨(ad321.add ((x5_1).toNat * 9)).block, (ad321.add ((x5_1).toNat * 9)).off + 2, none⟩ = some (.int .i64 ((rd_T46 l1 x5_1).f2)) ∧ w'.cell? ⟨(ad321.add ((x5_1).toNat * 9)).block, (ad321.add ((x5_1).toNat * 9)).off + 3, none⟩ = some (.int .i64 ((rd_T46 l1 x5_1).f3.f0)) ∧ w'.cell? ⟨(ad321.add ((x5_1).toNat * 9)).block, (ad321.add ((x5_1).toNat * 9)).off + 4, none⟩ = some (.int .i64 ((rd_T46 l1 x5_1).f3.f1.f0)) ∧ w'.cell? ⟨(ad321.add ((x5_1).toNat * 9)).block, (ad321.add ((x5_1).toNat * 9)).off + 5, none⟩ = some (.int .i64 ((rd_T46 l1 x5_1).f3.f1.f1)) ∧ w'.cell? ⟨(ad321.add ((x5_1).toNat * 9)).block, (ad321.add ((x5_1).toNat * 9)).off + 6, none⟩ = some (.slice A321_6 ((rd_T46 l1 x5_1).f3.f1.f2).length c321_6) ∧ w'.cell? ⟨(ad321.add ((x5_1).toNat * 9)).block, (ad321.add ((x5_1).toNat * 9)).off + 7, none⟩ = some (.string ((rd_T46 l1 x5_1).f3.f2)) ∧ w'.cell? ⟨(ad321.add ((x5_1).toNat * 9)).block, (ad321.add ((x5_1).toNat * 9)).off + 8, none⟩ = some (.int .i64 ((rd_T46 l1 x5_1).f3.f3)) ∧ w'.cell? (ad320.add ((x5_1).toNat * 9)) = some (.int .i64 ((rd_T46 l0 x5_1).f0)) ∧ w'.cell? ⟨(ad320.add ((x5_1).toNat * 9)).block, (ad320.add ((x5_1).toNat * 9)).off + 1, none⟩ = some (.int .i64 ((rd_T46 l0 x5_1).f1)) ∧ w'.cell? ⟨(ad320.add ((x5_1).toNat * 9)).block, (ad320.add ((x5_1).toNat * 9)).off + 2, none⟩ = some (.int .i64 ((rd_T46 l0 x5_1).f2)) ∧ w'.cell? ⟨(ad320.add ((x5_1).toNat * 9)).block, (ad320.add ((x5_1).toNat * 9)).off + 3, none⟩ = some (.int .i64 ((rd_T46 l0 x5_1).f3.f0)) ∧ w'.cell? ⟨(ad320.add ((x5_1).toNat * 9)).block, (ad320.add ((x5_1).toNat * 9)).off + 4, none⟩ = some (.int .i64 ((rd_T46 l0 x5_1).f3.f1.f0)) ∧ w'.cell? ⟨(ad320.add ((x5_1).toNat * 9)).block, (ad320.add ((x5_1).toNat * 9)).off + 5, none⟩ = some (.int .i64 ((rd_T46 l0 x5_1).f3.f1.f1)) ∧ w'.cell? ⟨(ad320.add ((x5_1).toNat * 9)).block, (ad320.add ((x5_1).toNat * 9)).off + 6, none⟩ = some (.slice A320_6 ((rd_T46 l0 x5_1).f3.f1.f2).length c320_6) ∧ w'.cell? ⟨(ad320.add ((x5_1).toNat * 9)).block, (ad320.add ((x5_1).toNat * 9)).off + 7, none⟩ = some (.string ((rd_T46 l0 x5_1).f3.f2)) ∧ w'.cell? ⟨(ad320.add ((x5_1).toNat * 9)).block, (ad320.add ((x5_1).toNat * 9)).off + 8, none⟩ = some (.int .i64 ((rd_T46 l0 x5_1).f3.f3)) ∧ w'.cell? (ad321.add ((x5_1).toNat * 9)) = some (.int .i64 ((rd_T46 l1 x5_1).f0)) ∧ w'.cell? ⟨(ad321.add ((x5_1).toNat * 9)).block, (ad321.add ((x5_1).toNat * 9)).off + 1, none⟩ = some (.int .i64 ((rd_T46 l1 x5_1).f1)) ∧ w'.cell? ⟨(ad321.add ((x5_1).toNat * 9)).block, (ad321.add ((x5_1).toNat * 9)).off + 2, none⟩ = some (.int .i64 ((rd_T46 l1 x5_1).f2)) ∧ w'.cell? ⟨(ad321.add ((x5_1).toNat * 9)).block, (ad321.add ((x5_1).toNat * 9)).off + 3, none⟩ = some (.int .i64 ((rd_T46 l1 x5_1).f3.f0)) ∧ w'.cell? ⟨(ad321.add ((x5_1).toNat * 9)).block, (ad321.add ((x5_1).toNat * 9)).off + 4, none⟩ = some (.int .i64 ((rd_T46 l1 x5_1).f3.f1.f0)) ∧ w'.cell? ⟨(ad321.add ((x5_1).toNat * 9)).block, (ad321.add ((x5_1).toNat * 9)).off + 5, none⟩ = some (.int .i64 ((rd_T46 l1 x5_1).f3.f1.f1)) ∧ w'.cell? ⟨(ad321.add ((x5_1).toNat * 9)).block, (ad321.add ((x5_1).toNat * 9)).off + 6, none⟩ = some (.slice A321_6 ((rd_T46 l1 x5_1).f3.f1.f2).length c321_6) ∧ w'.cell? ⟨(ad321.add ((x5_1).toNat * 9)).block, (ad321.add ((x5_1).toNat * 9)).off + 7, none⟩ = some (.string ((rd_T46 l1 x5_1).f3.f2)) ∧ w'.cell? ⟨(ad321.add ((x5_1).toNat * 9)).block, (ad321.add ((x5_1).toNat * 9)).off + 8, none⟩ = some (.int .i64 ((rd_T46 l1 x5_1).f3.f3)) ∧ w'.cell? (ad320.add ((x5_1).toNat * 9)) = some (.int .i64 ((rd_T46 l0 x5_1).f0)) ∧ w'.cell? ⟨(ad320.add ((x5_1).toNat * 9)).block, (ad320.add ((x5_1).toNat * 9)).off + 1, none⟩ = some (.int .i64 ((rd_T46 l0 x5_1).f1)) ∧ w'.cell? ⟨(ad320.add ((x5_1).toNat * 9)).block, (ad320.add ((x5_1).toNat * 9)).off + 2, none⟩ = some (.int .i64 ((rd_T46 l0 x5_1).f2)) ∧ w'.cell? ⟨(ad320.add ((x5_1).toNat * 9)).block, (ad320.add ((x5_1).toNat * 9)).off + 3, none⟩ = some (.int .i64 ((rd_T46 l0 x5_1).f3.f0)) ∧ w'.cell? ⟨(ad320.add ((x5_1).toNat * 9)).block, (ad320.add ((x5_1).toNat * 9)).off + 4, none⟩ = some (.int .i64 ((rd_T46 l0 x5_1).f3.f1.f0)) ∧ w'.cell? ⟨(ad320.add ((x5_1).toNat * 9)).block, (ad320.add ((x5_1).toNat * 9)).off + 5, none⟩ = some (.int .i64 ((rd_T46 l0 x5_1).f3.f1.f1)) ∧ w'.cell? ⟨(ad320.add ((x5_1).toNat * 9)).block, (ad320.add ((x5_1).toNat * 9)).off + 6, none⟩ = some (.slice A320_6 ((rd_T46 l0 x5_1).f3.f1.f2).length c320_6) ∧ w'.cell? ⟨(ad320.add ((x5_1).toNat * 9)).block, (ad320.add ((x5_1).toNat * 9)).off + 7, none⟩ = some (.string ((rd_T46 l0 x5_1).f3.f2)) ∧ w'.cell? ⟨(ad320.add ((x5_1).toNat * 9)).block, (ad320.add ((x5_1).toNat * 9)).off + 8, none⟩ = some (.int .i64 ((rd_T46 l0 x5_1).f3.f3)) ∧ w'.cell? (ad321.add ((x5_1).toNat * 9)) = some (.int .i64 ((rd_T46 l1 x5_1).f0)) ∧ w'.cell? ⟨(ad321.add ((x5_1).toNat * 9)).block, (ad321.add ((x5_1).toNat * 9)).off + 1, none⟩ = some (.int .i64 ((rd_T46 l1 x5_1).f1)) ∧ w'.cell? ⟨(ad321.add ((x5_1).toNat * 9)).block, (ad321.add ((x5_1).toNat * 9)).off + 2, none⟩ = some (.int .i64 ((rd_T46 l1 x5_1).f2)) ∧ w'.cell? ⟨(ad321.add ((x5_1).toNat * 9)).block, (ad321.add ((x5_1).toNat * 9)).off + 3, none⟩ = some (.int .i64 ((rd_T46 l1 x5_1).f3.f0)) ∧ w'.cell? ⟨(ad321.add ((x5_1).toNat * 9)).block, (ad321.add ((x5_1).toNat * 9)).off + 4, none⟩ = some (.int .i64 ((rd_T46 l1 x5_1).f3.f1.f0)) ∧ w'.cell? ⟨(ad321.add ((x5_1).toNat * 9)).block, (ad321.add ((x5_1).toNat * 9)).off + 5, none⟩ = some (.int .i64 ((rd_T46 l1 x5_1).f3.f1.f1)) ∧ w'.cell? ⟨(ad321.add ((x5_1).toNat * 9)).block, (ad321.add ((x5_1).toNat * 9)).off + 6, none⟩ = some (.slice A321_6 ((rd_T46 l1 x5_1).f3.f1.f2).length c321_6) ∧ w'.cell? ⟨(ad321.add ((x5_1).toNat * 9)).block, (ad321.add ((x5_1).toNat * 9)).off + 7, none⟩ = some (.string ((rd_T46 l1 x5_1).f3.f2)) ∧ w'.cell? ⟨(ad321.add ((x5_1).toNat * 9)).block, (ad321.add ((x5_1).toNat * 9)).off + 8, none⟩ = some (.int .i64 ((rd_T46 l1 x5_1).f3.f3))) (ds := []) #[false, false, false, false, false, false, false, false, false, false, false, false, false, false, false, false, false, false, false, false, false, false, false, false, false, false, false, false, false, false, false, false, false, false, false, false, false, false, false, false, false, false, false, false, false, false, false, false, false, false, false] (by kernel_rfl) rfl rfl ⟨(My.up HB hw320_0), (My.up HB hw320_1), (My.up HB hw320_2), (My.up HB hw320_3), (My.up HB hw320_4), (My.up HB hw320_5), (My.up HB hw320_6), (My.up HB hw320_7), (My.up HB hw320_8), (My.up HB hw321_0), (My.up HB hw321_1), (My.up HB hw321_2), (My.up HB hw321_3), (My.up HB hw321_4), (My.up HB hw321_5), (My.up HB hw321_6), (My.up HB hw321_7), (My.up HB hw321_8), (My.up HB hw322_0), (My.up HB hw322_1), (My.up HB hw322_2), (My.up HB hw322_3), (My.up HB hw322_4), (My.up HB hw322_5), (My.up HB hw322_6), (My.up HB hw322_7), (My.up HB hw322_8), (My.up HB hw323_0), (My.up HB hw323_1), (My.up HB hw323_2), (My.up HB hw323_3), (My.up HB hw323_4), (My.up HB hw323_5), (My.up HB hw323_6), (My.up HB hw323_7), (My.up HB hw323_8), (My.up HB hw324_0), (My.up HB hw324_1), (My.up HB hw324_2), (My.up HB hw324_3), (My.up HB hw324_4), (My.up HB hw324_5), (My.up HB hw324_6), (My.up HB hw324_7), (My.up HB hw324_8), (My.up HB hw325_0), (My.up HB hw325_1), (My.up HB hw325_2), (My.up HB hw325_3), (My.up HB hw325_4), (My.up HB hw325_5), (My.up HB hw325_6), (My.up HB hw325_7), (My.up HB hw325_8), (My.up HB hw326_0), (My.up HB hw326_1), (My.up HB hw326_2), (My.up HB hw326_3), (My.up HB hw326_4), (My.up HB hw326_5), (My.up HB hw326_6), (My.up HB hw326_7), (My.up HB hw326_8), (My.up HB hw327_0), (My.up HB hw327_1), (My.up HB hw327_2), (My.up HB hw327_3), (My.up HB hw327_4), (My.up HB hw327_5), (My.up HB hw327_6), (My.up HB hw327_7), (My.up HB hw327_8)⟩ (fun hHeld => ?_); refine with_tabW ententeref19_Same.tab6 ententeref19_Same.bits6 (fun HT_ HW_ => ?_)
    generalize wr.drew = w14 at HB HR320_6 HR321_6 HR322_6 HR323_6 HR324_6 HR325_6 HR326_6 HR327_6 hx320_0 hx320_1 hx320_2 hx320_3 hx320_4 hx320_5 hx320_6 hx320_7 hx320_8 hx321_0 hx321_1 hx321_2 hx321_3 hx321_4 hx321_5 hx321_6 hx321_7 hx321_8 hx322_0 hx322_1 hx322_2 hx322_3 hx322_4 hx322_5 hx322_6 hx322_7 hx322_8 hx323_0 hx323_1 hx323_2 hx323_3 hx323_4 hx323_5 hx323_6 hx323_7 hx323_8 hx324_0 hx324_1 hx324_2 hx324_3 hx324_4 hx324_5 hx324_6 hx324_7 hx324_8 hx325_0 hx325_1 hx325_2 hx325_3 hx325_4 hx325_5 hx325_6 hx325_7 hx325_8 hx326_0 hx326_1 hx326_2 hx326_3 hx326_4 hx326_5 hx326_6 hx326_7 hx326_8 hx327_0 hx327_1 hx327_2 hx327_3 hx327_4 hx327_5 hx327_6 hx327_7 hx327_8 hHeld ⊢
    refine My.pu_ 0 17 51 HT_.out ?_
    refine My.pu_ 1 18 51 HT_.out ?_
    refine My.pu_ 2 19 51 HT_.out ?_
    refine My.pu_ 3 20 51 HT_.out ?_
    refine My.pv_ 5 22 51 47 HT_.out ?_
    refine My.pv_ 6 23 51 111 HT_.out ?_
    refine My.pv_ 7 24 51 239 HT_.out ?_
    refine My.pv_ 8 25 51 495 HT_.out ?_
    refine My.tv_ 4 21 51 511 HT_.out HW_.out hHeld rfl rfl (by rintro w' ⟨s0, s1, s2, s3, s4, s5, s6, s7, s8, s9, s10, s11, s12, s13, s14, s15, s16, s17, s18, s19, s20, s21, s22, s23, s24, s25, s26, s27, s28, s29, s30, s31, s32, s33, s34, s35, s36, s37, s38, s39, s40, s41, s42, s43, s44, s45, s46, s47, s48, s49, s50, s51, s52, s53, s54, s55, s56, s57, s58, s59, s60, s61, s62, s63, s64, s65, s66, s67, s68, s69, s70, s71⟩; go_simp; with_reducible rfl) ?_
    refine My.ta_ 9 26 51 HT_.out HW_.out hHeld rfl rfl (by rintro w' ⟨s0, s1, s2, s3, s4, s5, s6, s7, s8, s9, s10, s11, s12, s13, s14, s15, s16, s17, s18, s19, s20, s21, s22, s23, s24, s25, s26, s27, s28, s29, s30, s31, s32, s33, s34, s35, s36, s37, s38, s39, s40, s41, s42, s43, s44, s45, s46, s47, s48, s49, s50, s51, s52, s53, s54, s55, s56, s57, s58, s59, s60, s61, s62, s63, s64, s65, s66, s67, s68, s69, s70, s71⟩; go_simp; with_reducible rfl) ?_
    refine My.pu_ 10 27 51 HT_.out ?_
    refine My.pu_ 11 28 51 HT_.out ?_
    refine My.pu_ 12 29 51 HT_.out ?_
    refine My.pu_ 13 30 51 HT_.out ?_
    refine My.pu_ 14 31 51 HT_.out ?_
    refine My.pu_ 15 32 51 HT_.out ?_
    refine My.pv_ 17 34 51 196607 HT_.out ?_
    refine My.pv_ 18 35 51 458751 HT_.out ?_
    refine My.pv_ 19 36 51 983039 HT_.out ?_
    refine My.pv_ 20 37 51 2031615 HT_.out ?_
    refine My.tv_ 16 33 51 2097151 HT_.out HW_.out hHeld rfl rfl (by rintro w' ⟨s0, s1, s2, s3, s4, s5, s6, s7, s8, s9, s10, s11, s12, s13, s14, s15, s16, s17, s18, s19, s20, s21, s22, s23, s24, s25, s26, s27, s28, s29, s30, s31, s32, s33, s34, s35, s36, s37, s38, s39, s40, s41, s42, s43, s44, s45, s46, s47, s48, s49, s50, s51, s52, s53, s54, s55, s56, s57, s58, s59, s60, s61, s62, s63, s64, s65, s66, s67, s68, s69, s70, s71⟩; go_simp; with_reducible rfl) ?_
    refine My.ta_ 21 38 51 HT_.out HW_.out hHeld rfl rfl (by rintro w' ⟨s0, s1, s2, s3, s4, s5, s6, s7, s8, s9, s10, s11, s12, s13, s14, s15, s16, s17, s18, s19, s20, s21, s22, s23, s24, s25, s26, s27, s28, s29, s30, s31, s32, s33, s34, s35, s36, s37, s38, s39, s40, s41, s42, s43, s44, s45, s46, s47, s48, s49, s50, s51, s52, s53, s54, s55, s56, s57, s58, s59, s60, s61, s62, s63, s64, s65, s66, s67, s68, s69, s70, s71⟩; go_simp; with_reducible rfl) ?_
    refine My.pu_ 22 39 51 HT_.out ?_
    refine My.pu_ 23 40 51 HT_.out ?_
    refine My.pu_ 24 41 51 HT_.out ?_
    refine My.pu_ 25 42 51 HT_.out ?_
    refine My.pu_ 26 43 51 HT_.out ?_
    refine My.pu_ 27 44 51 HT_.out ?_
    refine My.pu_ 28 45 51 HT_.out ?_
    refine My.pv_ 30 47 51 1610612735 HT_.out ?_
    refine My.pv_ 31 48 51 3758096383 HT_.out ?_
    refine My.pv_ 32 49 51 8053063679 HT_.out ?_
    refine My.pv_ 33 50 51 16642998271 HT_.out ?_
    refine My.tv_ 29 46 51 17179869183 HT_.out HW_.out hHeld rfl rfl (by rintro w' ⟨s0, s1, s2, s3, s4, s5, s6, s7, s8, s9, s10, s11, s12, s13, s14, s15, s16, s17, s18, s19, s20, s21, s22, s23, s24, s25, s26, s27, s28, s29, s30, s31, s32, s33, s34, s35, s36, s37, s38, s39, s40, s41, s42, s43, s44, s45, s46, s47, s48, s49, s50, s51, s52, s53, s54, s55, s56, s57, s58, s59, s60, s61, s62, s63, s64, s65, s66, s67, s68, s69, s70, s71⟩; go_simp; with_reducible rfl) ?_
    refine My.ta_ 34 51 51 HT_.out HW_.out hHeld rfl rfl (by rintro w' ⟨s0, s1, s2, s3, s4, s5, s6, s7, s8, s9, s10, s11, s12, s13, s14, s15, s16, s17, s18, s19, s20, s21, s22, s23, s24, s25, s26, s27, s28, s29, s30, s31, s32, s33, s34, s35, s36, s37, s38, s39, s40, s41, s42, s43, s44, s45, s46, s47, s48, s49, s50, s51, s52, s53, s54, s55, s56, s57, s58, s59, s60, s61, s62, s63, s64, s65, s66, s67, s68, s69, s70, s71⟩; go_simp; with_reducible rfl) ?_
    refine My.pu_ 35 52 51 HT_.out ?_
    refine My.pu_ 36 53 51 HT_.out ?_
    refine My.pu_ 37 54 51 HT_.out ?_
    refine My.pu_ 38 55 51 HT_.out ?_
    refine My.pu_ 39 56 51 HT_.out ?_
    refine My.pu_ 40 57 51 HT_.out ?_
    refine My.pu_ 41 58 51 HT_.out ?_
    refine My.pv_ 43 60 51 13194139533311 HT_.out ?_
    refine My.pv_ 44 61 51 30786325577727 HT_.out ?_
    refine My.pv_ 45 62 51 65970697666559 HT_.out ?_
    refine My.pv_ 46 63 51 136339441844223 HT_.out ?_
    refine My.tv_ 42 59 51 140737488355327 HT_.out HW_.out hHeld rfl rfl (by rintro w' ⟨s0, s1, s2, s3, s4, s5, s6, s7, s8, s9, s10, s11, s12, s13, s14, s15, s16, s17, s18, s19, s20, s21, s22, s23, s24, s25, s26, s27, s28, s29, s30, s31, s32, s33, s34, s35, s36, s37, s38, s39, s40, s41, s42, s43, s44, s45, s46, s47, s48, s49, s50, s51, s52, s53, s54, s55, s56, s57, s58, s59, s60, s61, s62, s63, s64, s65, s66, s67, s68, s69, s70, s71⟩; go_simp; with_reducible rfl) ?_
    refine My.ta_ 47 64 51 HT_.out HW_.out hHeld rfl rfl (by rintro w' ⟨s0, s1, s2, s3, s4, s5, s6, s7, s8, s9, s10, s11, s12, s13, s14, s15, s16, s17, s18, s19, s20, s21, s22, s23, s24, s25, s26, s27, s28, s29, s30, s31, s32, s33, s34, s35, s36, s37, s38, s39, s40, s41, s42, s43, s44, s45, s46, s47, s48, s49, s50, s51, s52, s53, s54, s55, s56, s57, s58, s59, s60, s61, s62, s63, s64, s65, s66, s67, s68, s69, s70, s71⟩; go_simp; with_reducible rfl) ?_
    refine one_ (i := 48) (N := some 65) (My.Mb 51 562949953421311) rfl rfl (one_of HT_.out (by kernel_rfl)) (by decide) (fun K hK => ?_)
    refine goes_ Try.func31 (by kernel_rfl) rfl #[.agg #[.int .i64 ((rd_T46 l0 x5_1).f3.f0), .int .i64 ((rd_T46 l0 x5_1).f3.f1.f0), .int .i64 ((rd_T46 l0 x5_1).f3.f1.f1), .slice A320_6 ((rd_T46 l0 x5_1).f3.f1.f2).length c320_6, .string ((rd_T46 l0 x5_1).f3.f2), .int .i64 ((rd_T46 l0 x5_1).f3.f3)], .agg #[.int .i64 ((rd_T46 l1 x5_1).f3.f0), .int .i64 ((rd_T46 l1 x5_1).f3.f1.f0), .int .i64 ((rd_T46 l1 x5_1).f3.f1.f1), .slice A321_6 ((rd_T46 l1 x5_1).f3.f1.f2).length c321_6, .string ((rd_T46 l1 x5_1).f3.f2), .int .i64 ((rd_T46 l1 x5_1).f3.f3)]] (by rfl) rfl rfl My.gx ?_
    with_reducible refine (ententeref13_SameNote.calls k1 ((rd_T46 l0 x5_1).f3.f0) ((rd_T46 l0 x5_1).f3.f1.f0) ((rd_T46 l0 x5_1).f3.f1.f1) _ _ ((rd_T46 l0 x5_1).f3.f1.f2) ((rd_T46 l0 x5_1).f3.f2) ((rd_T46 l0 x5_1).f3.f3) ((rd_T46 l1 x5_1).f3.f0) ((rd_T46 l1 x5_1).f3.f1.f0) ((rd_T46 l1 x5_1).f3.f1.f1) _ _ ((rd_T46 l1 x5_1).f3.f1.f2) ((rd_T46 l1 x5_1).f3.f2) ((rd_T46 l1 x5_1).f3.f3) false _ ?side1 ?side2 ?side3 ?side4 A10.out).mono ?_
    (case side1 => exact My.sd_ HR326_6 HB)
    (case side2 => exact HC326_6.out)
    (case side3 => exact My.sd_ HR327_6 HB)
    (case side4 => exact HC327_6.out)
    rintro e w15 ⟨rfl, hb⟩
    refine ⟨_, rfl, ?_⟩
    replace HB := My.st HB hb
    (try clear hb)
    (try clear hb2)
    (try clear hk)
    (try clear hi)
    refine hK.out _ _ ⟨(My.up HB hw320_0), (My.up HB hw320_1), (My.up HB hw320_2), (My.up HB hw320_3), (My.up HB hw320_4), (My.up HB hw320_5), (My.up HB hw320_6), (My.up HB hw320_7), (My.up HB hw320_8), (My.up HB hw321_0), (My.up HB hw321_1), (My.up HB hw321_2), (My.up HB hw321_3), (My.up HB hw321_4), (My.up HB hw321_5), (My.up HB hw321_6), (My.up HB hw321_7), (My.up HB hw321_8), (My.up HB hw322_0), (My.up HB hw322_1), (My.up HB hw322_2), (My.up HB hw322_3), (My.up HB hw322_4), (My.up HB hw322_5), (My.up HB hw322_6), (My.up HB hw322_7), (My.up HB hw322_8), (My.up HB hw323_0), (My.up HB hw323_1), (My.up HB hw323_2), (My.up HB hw323_3), (My.up HB hw323_4), (My.up HB hw323_5), (My.up HB hw323_6), (My.up HB hw323_7), (My.up HB hw323_8), (My.up HB hw324_0), (My.up HB hw324_1), (My.up HB hw324_2), (My.up HB hw324_3), (My.up HB hw324_4), (My.up HB hw324_5), (My.up HB hw324_6), (My.up HB hw324_7), (My.up HB hw324_8), (My.up HB hw325_0), (My.up HB hw325_1), (My.up HB hw325_2), (My.up HB hw325_3), (My.up HB hw325_4), (My.up HB hw325_5), (My.up HB hw325_6), (My.up HB hw325_7), (My.up HB hw325_8), (My.up HB hw326_0), (My.up HB hw326_1), (My.up HB hw326_2), (My.up HB hw326_3), (My.up HB hw326_4), (My.up HB hw326_5), (My.up HB hw326_6), (My.up HB hw326_7), (My.up HB hw326_8), (My.up HB hw327_0), (My.up HB hw327_1), (My.up HB hw327_2), (My.up HB hw327_3), (My.up HB hw327_4), (My.up HB hw327_5), (My.up HB hw327_6), (My.up HB hw327_7), (My.up HB hw327_8)⟩ (fun hHeld => ?_)
    clear hK K
    refine My.nm 65 ?_
    refine My.pu_ 49 66 51 HT_.out ?_
    refine My.pu_ 50 67 51 HT_.out ?_
    refine done_ (done_of HT_.out (by kernel_rfl)) ?_
    try go_wp2
    go_ret
    exact ⟨My.r2, (My.bl_ HB)⟩
 ·rw [if_neg c3] at H
  have c3b0 : ((l0.length : Int) == (l1.length : Int)) = false := beq_eq_false_iff_ne.mpr c3
  have c3b1 : ((l0.length : Int) != (l1.length : Int)) = true := bne_iff_ne.mpr c3
  have c3b2 : (l0.length == l1.length) = false := by first | simpa using c3 | (simp at c3 ⊢; omega)
  obtain rfl := Option.some.inj H
  go_enter Try.func15, Try.ntmps15
  go_wp2
  go_ret
  exact ⟨My.r2, (My.bl_ HB)⟩

end Go.Proofs.Ytcgmoeiknkdljaa.PA
