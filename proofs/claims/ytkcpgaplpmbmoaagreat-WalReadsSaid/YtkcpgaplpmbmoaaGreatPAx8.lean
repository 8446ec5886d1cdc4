-- Written by a program of this session (wip/tools/mp.py over the kit's printer); Lean checks it.
import Derived.Test.YtkcpgaplpmbmoaaGreatPAx0
import Derived.Test.YtkcpgaplpmbmoaaGreatPAx6
import Derived.Test.YtkcpgaplpmbmoaaGreatPAx7
namespace Go.Proofs.YtkcpgaplpmbmoaaGreat.PA
open Go.RowKit Go.Proofs.YtkcpgaplpmbmoaaGreatW.PrintWords Go.Proofs.YtkcpgaplpmbmoaaGreatW.PrintLast Go.Proofs.YtkcpgaplpmbmoaaGreatW.PrintMore
attribute [local go_sem] max2_int min2_int max_two min_two max_three min_three max_four min_four   -- for this text's walks alone
set_option linter.unusedVariables false
set_option maxHeartbeats 8000000
set_option maxRecDepth 100000
set_option linter.unusedSimpArgs false

/-! ### ententeref01_TakeNumber: function 69 -/
mutual
def ententeref01_TakeNumber.j0 : Nat → ByteArray → Int → Bool → Option (Int × Int × Int)
 | 0, _, _, _ => none
 | k + 1, x0, x1, x17 => if x17 = true then (some (0, 0, 2)) else (ententeref01_TakeNumber.l0 k x0 x1 x1)
def ententeref01_TakeNumber.l0 : Nat → ByteArray → Int → Int → Option (Int × Int × Int)
 | 0, _, _, _ => none
 | k + 1, x0, x1, x7 => if x7 < (x0.size : Int) then (if 0 ≤ x7 then (ententeref01_TakeNumber.j2 k x0 x1 x7 (decide ((bt x0 x7) ≥ 128))) else (none)) else (ententeref01_TakeNumber.j2 k x0 x1 x7 false)
def ententeref01_TakeNumber.j2 : Nat → ByteArray → Int → Int → Bool → Option (Int × Int × Int)
 | 0, _, _, _, _ => none
 | k + 1, x0, x1, x7, x28 => if x28 = true then (if (wrap64 ((wrap64 (x7 + 1)) - x1)) = 10 then (some (0, 0, 11)) else (ententeref01_TakeNumber.l0 k x0 x1 (wrap64 (x7 + 1)))) else (if x7 = (x0.size : Int) then (some (0, 0, 10)) else (if 0 ≤ x1 then (if x1 ≤ (wrap64 (x7 + 1)) then (if (wrap64 (x7 + 1)) ≤ (x0.size : Int) then ((ententeref01_value.f k (x0.extract (x1 : Int).toNat ((wrap64 (x7 + 1)) : Int).toNat)).bind fun bt162 => (if bt162.2 = true then ((ententeref01_Number.f k bt162.1).bind fun t164 => (if t164.toList = (x0.extract (x1 : Int).toNat ((wrap64 (x7 + 1)) : Int).toNat).toList then (some (bt162.1, wrap64 (x7 + 1), 0)) else (some (0, 0, 11)))) else (some (0, 0, 11)))) else (none)) else (none)) else (none)))
end
def ententeref01_TakeNumber.f (k : Nat) (a0 : ByteArray) (a1 : Int) : Option (Int × Int × Int) := if a1 < 0 then (ententeref01_TakeNumber.j0 k a0 a1 true) else (ententeref01_TakeNumber.j0 k a0 a1 (decide (a1 > (a0.size : Int))))
theorem ententeref01_TakeNumber.mono_l : ∀ k, (∀ y0 y1 y2, LeO (ententeref01_TakeNumber.j0 k y0 y1 y2) (ententeref01_TakeNumber.j0 (k + 1) y0 y1 y2)) ∧ (∀ y0 y1 y2, LeO (ententeref01_TakeNumber.l0 k y0 y1 y2) (ententeref01_TakeNumber.l0 (k + 1) y0 y1 y2)) ∧ (∀ y0 y1 y2 y3, LeO (ententeref01_TakeNumber.j2 k y0 y1 y2 y3) (ententeref01_TakeNumber.j2 (k + 1) y0 y1 y2 y3))
 | 0 => ⟨fun _ _ _ r h => by simp [ententeref01_TakeNumber.j0] at h, fun _ _ _ r h => by simp [ententeref01_TakeNumber.l0] at h, fun _ _ _ _ r h => by simp [ententeref01_TakeNumber.j2] at h⟩
 | k + 1 => by
  obtain ⟨ih0, ih1, ih2⟩ := ententeref01_TakeNumber.mono_l k
  refine ⟨?_, ?_, ?_⟩
  ·intro y0 y1 y2
   unfold ententeref01_TakeNumber.j0
   repeat' (with_reducible first | exact ih0 _ _ _ | exact ih1 _ _ _ | exact ih2 _ _ _ _ | exact ententeref01_Number.mono _ _ | exact ententeref01_value.mono _ _ | exact LeO.refl _ | exact LeO.none _ | apply LeO.ite | refine LeO.bind ?_ (fun _ => ?_))
  ·intro y0 y1 y2
   unfold ententeref01_TakeNumber.l0
   repeat' (with_reducible first | exact ih0 _ _ _ | exact ih1 _ _ _ | exact ih2 _ _ _ _ | exact ententeref01_Number.mono _ _ | exact ententeref01_value.mono _ _ | exact LeO.refl _ | exact LeO.none _ | apply LeO.ite | refine LeO.bind ?_ (fun _ => ?_))
  intro y0 y1 y2 y3
  unfold ententeref01_TakeNumber.j2
  repeat' (with_reducible first | exact ih0 _ _ _ | exact ih1 _ _ _ | exact ih2 _ _ _ _ | exact ententeref01_Number.mono _ _ | exact ententeref01_value.mono _ _ | exact LeO.refl _ | exact LeO.none _ | apply LeO.ite | refine LeO.bind ?_ (fun _ => ?_))
theorem ententeref01_TakeNumber.mono : ∀ a0 a1 k, LeO (ententeref01_TakeNumber.f k a0 a1) (ententeref01_TakeNumber.f (k + 1) a0 a1) := by
 intro a0 a1 k
 obtain ⟨ih0, ih1, ih2⟩ := ententeref01_TakeNumber.mono_l k
 unfold ententeref01_TakeNumber.f
 repeat' (with_reducible first | exact ih0 _ _ _ | exact ih1 _ _ _ | exact ih2 _ _ _ _ | exact ententeref01_Number.mono _ _ | exact ententeref01_value.mono _ _ | exact LeO.refl _ | exact LeO.none _ | apply LeO.ite | refine LeO.bind ?_ (fun _ => ?_))
def ententeref01_TakeNumber.T11 : Bool × List (List Nat × List Nat) := (true, [([], []), ([0], [0]), ([1], [1]), ([2], [2]), ([3, 2, 2], [2, 3]), ([2], [2]), ([2], [2]), ([2], [2]), ([7, 2], [2, 7]), ([5, 6, 8, 2], [2, 5, 6, 8]), ([4, 9, 2], [2, 4, 9]), ([2, 10], [2, 10])])
def ententeref01_TakeNumber.B11 : List Nat := [0, 1, 3, 7, 15, 7, 7, 7, 135, 487, 1023, 2047]
theorem ententeref01_TakeNumber.tab11 : rtab .any (opsOf Tryz.f69 11) = ententeref01_TakeNumber.T11 := by kernel_rfl
theorem ententeref01_TakeNumber.bits11 : waitsOk ententeref01_TakeNumber.T11.2 ententeref01_TakeNumber.B11 = true := by kernel_rfl
theorem ententeref01_TakeNumber.calls (k : Nat) (a0 : ByteArray) (a1 : Int) (r1 : Int) (r2 : Int) (r3 : Int) (w : World) (h : ententeref01_TakeNumber.f k a0 a1 = some (r1, r2, r3)) :
  Calls Tryz.prog 69 #[.string a0, .int .i64 a1] w fun e w' => e = .returned (.tuple #[.int .u64 r1, .int .i64 r2, .int .i64 r3]) ∧ Below w.heap.size w w' := by
 have HB := My.am (Below.refl w.heap.size w)
 unfold ententeref01_TakeNumber.f at h
 have H := h
 clear h
 have HC3 := My.am H
 clear H
 go_enter Tryz.func69, Tryz.ntmps69
 go_upto_region 1 with (fail)
 go_cut [17] (fun v17 wc => ∃ (kq : Nat) (x17_2 : Bool), v17 = .bool x17_2 ∧ Aside0 (ententeref01_TakeNumber.j0 kq a0 a1 x17_2 = some (r1, r2, r3)) ∧ Aside0 (kq ≤ k) ∧ Aside0 (Below w.heap.size w wc))
 case first =>
  have H := HC3.out
  clear HC3
  by_cases c4 : a1 < 0
  ·rw [if_pos c4] at H
   have c4b0 := decide_eq_true c4
   clear c4
   (first | rw [c4b0] | (simp only [i64_w, i32_w]; rw [c4b0]) | skip)
   have H' := My.am H
   clear H
   go_wp2
   go_meet
   case rel => exact ⟨_, (true), My.r1, H', ⟨My.r4⟩, ⟨(My.bl_ HB)⟩⟩
  ·rw [if_neg c4] at H
   have c4b0 := decide_eq_false c4
   clear c4
   (first | rw [c4b0] | (simp only [i64_w, i32_w]; rw [c4b0]) | skip)
   have H' := My.am H
   clear H
   go_wp2
   go_meet
   case rel => exact ⟨_, (decide (a1 > (a0.size : Int))), My.r1, H', ⟨My.r4⟩, ⟨(My.bl_ HB)⟩⟩
 case rest =>
  clear HC3
  obtain ⟨kq, x17_2, rfl, HA, HJ2, HB⟩ := hcut
  cases kq with
  | zero => exact absurd HA.out (by simp [ententeref01_TakeNumber.j0])
  | succ kj2 =>
   have H := HA.out
   clear HA
   simp only [ententeref01_TakeNumber.j0] at H
   by_cases c5 : x17_2 = true
   ·subst c5
    rw [if_pos rfl] at H
    simp only [Option.some.injEq, Prod.mk.injEq] at H
    obtain ⟨rfl, rfl, rfl⟩ := H
    go_wp2
    go_ret3
    exact ⟨My.r2, (My.bl_ HB)⟩
   replace c5 := Bool.eq_false_iff.mpr c5
   subst c5
   rw [if_neg (show ¬ (false = true) by decide)] at H
   have H' := My.am H
   clear H
   go_wp2
   go_loopg [7] kj2 (fun kq v7 w' => ∃ (x7_2 : Int), v7 = .int .i64 x7_2 ∧ Aside0 (ententeref01_TakeNumber.l0 kq a0 a1 x7_2 = some (r1, r2, r3)) ∧ Aside0 (kq ≤ kj2) ∧ Aside0 (Below w.heap.size w w'))
   case atStart => exact ⟨(a1), My.r1, H', ⟨Nat.le_refl _⟩, ⟨(My.bl_ HB)⟩⟩
   case round =>
    clear H'
    try clear c5
    obtain ⟨x7_2, rfl, HA, HK2, HB⟩ := hrel
    cases gk with
    | zero => exact absurd HA.out (by simp [ententeref01_TakeNumber.l0])
    | succ k2 =>
     have H := HA.out
     clear HA
     simp only [ententeref01_TakeNumber.l0] at H
     have HC6 := My.am H
     clear H
     go_upto_region 4 with (fail)
     go_cut [28] (fun v28 wc => ∃ (kq : Nat) (x28_5 : Bool), v28 = .bool x28_5 ∧ Aside0 (ententeref01_TakeNumber.j2 kq a0 a1 x7_2 x28_5 = some (r1, r2, r3)) ∧ Aside0 (kq ≤ k2) ∧ Aside0 (Below w.heap.size w wc))
     case first =>
      have H := HC6.out
      clear HC6
      by_cases c7 : x7_2 < (a0.size : Int)
      ·rw [if_pos c7] at H
       have c7b0 := decide_eq_true c7
       clear c7
       (first | rw [c7b0] | (simp only [i64_w, i32_w]; rw [c7b0]) | skip)
       by_cases c8 : 0 ≤ x7_2
       ·rw [if_pos c8] at H
        have c8b0 := decide_eq_true c8
        clear c8
        have H' := My.am H
        clear H
        have p9 : 0 ≤ (x7_2 : Int) := My.as_
        have q9 : x7_2 < (a0.size : Int) := My.as_
        have hx9 := bt_at a0 x7_2
        replace p9 := eq_true p9
        replace q9 := eq_true q9
        go_wp2
        go_meet
        case rel => exact ⟨_, (decide ((bt a0 x7_2) ≥ 128)), My.r1, H', ⟨by have := HJ2.out; have := HK2.out; first | omega | exact Nat.le_refl _⟩, ⟨(My.bl_ HB)⟩⟩
       rw [if_neg c8] at H
       exact absurd H (by simp)
      rw [if_neg c7] at H
      have c7b0 := decide_eq_false c7
      clear c7
      (first | rw [c7b0] | (simp only [i64_w, i32_w]; rw [c7b0]) | skip)
      have H' := My.am H
      clear H
      go_wp2
      go_meet
      case rel => exact ⟨_, (false), My.r1, H', ⟨by have := HJ2.out; have := HK2.out; first | omega | exact Nat.le_refl _⟩, ⟨(My.bl_ HB)⟩⟩
     case rest =>
      clear HC6
      try clear c5
      obtain ⟨kq, x28_5, rfl, HA, HJ5, HB⟩ := hcut
      cases kq with
      | zero => exact absurd HA.out (by simp [ententeref01_TakeNumber.j2])
      | succ kj5 =>
       have H := HA.out
       clear HA
       simp only [ententeref01_TakeNumber.j2] at H
       by_cases c10 : x28_5 = true
       ·subst c10
        rw [if_pos rfl] at H
        by_cases c11 : (wrap64 ((wrap64 (x7_2 + 1)) - a1)) = 10
        ·rw [if_pos c11] at H
         have c11b0 : ((wrap64 ((wrap64 (x7_2 + 1)) - a1)) == 10) = true := beq_iff_eq.mpr c11
         have c11b1 : ((wrap64 ((wrap64 (x7_2 + 1)) - a1)) != 10) = false := bne_eq_false_iff_eq.mpr c11
         clear c11
         simp only [Option.some.injEq, Prod.mk.injEq] at H
         obtain ⟨rfl, rfl, rfl⟩ := H
         go_wp2
         go_ret3
         exact ⟨My.r2, (My.bl_ HB)⟩
        rw [if_neg c11] at H
        have c11b0 : ((wrap64 ((wrap64 (x7_2 + 1)) - a1)) == 10) = false := beq_eq_false_iff_ne.mpr c11
        have c11b1 : ((wrap64 ((wrap64 (x7_2 + 1)) - a1)) != 10) = true := bne_iff_ne.mpr c11
        have H' := My.am H
        clear H
        go_wp2
        go_roundg kj5
        case measure => have := HJ2.out; have := HK2.out; have := HJ5.out; omega
        case rel => exact ⟨(wrap64 (x7_2 + 1)), My.r1, H', ⟨by have := HJ2.out; have := HK2.out; have := HJ5.out; omega⟩, ⟨(My.bl_ HB)⟩⟩
       replace c10 := Bool.eq_false_iff.mpr c10
       subst c10
       rw [if_neg (show ¬ (false = true) by decide)] at H
       by_cases c12 : x7_2 = (a0.size : Int)
       ·rw [if_pos c12] at H
        have c12b0 : (x7_2 == (a0.size : Int)) = true := beq_iff_eq.mpr c12
        have c12b1 : (x7_2 != (a0.size : Int)) = false := bne_eq_false_iff_eq.mpr c12
        clear c12
        simp only [Option.some.injEq, Prod.mk.injEq] at H
        obtain ⟨rfl, rfl, rfl⟩ := H
        go_wp2
        go_ret3
        exact ⟨My.r2, (My.bl_ HB)⟩
       rw [if_neg c12] at H
       have c12b0 : (x7_2 == (a0.size : Int)) = false := beq_eq_false_iff_ne.mpr c12
       have c12b1 : (x7_2 != (a0.size : Int)) = true := bne_iff_ne.mpr c12
       by_cases c13 : 0 ≤ a1
       rotate_left
       ·exact My.nn c13 H

       rw [if_pos c13] at H
       have c13b0 := eq_true c13
       have c13b1 := decide_eq_true c13
       clear c13
       by_cases c14 : a1 ≤ (wrap64 (x7_2 + 1))
       rotate_left
       ·exact My.nn c14 H
       rw [if_pos c14] at H
       have c14b0 := eq_true c14
       have c14b1 := decide_eq_true c14
       by_cases c15 : (wrap64 (x7_2 + 1)) ≤ (a0.size : Int)
       rotate_left
       ·exact My.nn c15 H
       rw [if_pos c15] at H
       have c15b0 := eq_true c15
       have c15b1 := decide_eq_true c15
       replace H := Option.bind_eq_some_iff.mp H
       obtain ⟨⟨t162, t163⟩, A160, H⟩ := H
       try dsimp only at H
       have A16 := My.am A160
       clear A160
       by_cases c17 : t163 = true
       rotate_left
       ·replace c17 := Bool.eq_false_iff.mpr c17
        subst c17
        rw [if_neg (show ¬ (false = true) by decide)] at H
        simp only [Option.some.injEq, Prod.mk.injEq] at H
        obtain ⟨rfl, rfl, rfl⟩ := H
        try go_wp2_with (first | ((with_reducible refine gate_callee (f := 82) rfl ?_); refine goesL_ (some 45) rfl rfl Tryz.func82 (by kernel_rfl) rfl #[.string (a0.extract (a1 : Int).toNat ((wrap64 (x7_2 + 1)) : Int).toNat)] rfl My.gx ?_; (with_reducible refine (ententeref01_value.calls kj5 (a0.extract (a1 : Int).toNat ((wrap64 (x7_2 + 1)) : Int).toNat) t162 false _ A16.out).mono ?_); rintro e w' ⟨rfl, ⟨nd, rfl⟩⟩; refine ⟨_, rfl, ?_⟩))
        (try (rw [drewN_self wc]; generalize hq_ : World.drewN wc _ = wc; have n0_ : Aside0 (Below w.heap.size w wc) := ⟨by rw [← hq_]; exact (My.bl_ HB)⟩; clear HB hq_; have HB := n0_; clear n0_))
        replace HB := My.am (below_drew1 HB.out)
        refine start_ (n := 12) (S := fun w' => True) (ds := []) #[false, false, false, false, false, false, false, false, false, false, false, false] (by kernel_rfl) rfl rfl trivial (fun hHeld => ?_); refine with_tabW ententeref01_TakeNumber.tab11 ententeref01_TakeNumber.bits11 (fun HT_ HW_ => ?_)
        generalize wc.drew = w27 at HB hHeld ⊢
        refine My.pu_ 0 48 12 HT_.out ?_
        refine My.pu_ 1 49 12 HT_.out ?_
        refine My.pu_ 2 50 12 HT_.out ?_
        refine My.pn_ 3 51 12 HT_.out ?_
        refine My.pn_ 4 52 12 HT_.out ?_
        refine My.pn_ 5 53 12 HT_.out ?_
        refine My.pn_ 6 54 12 HT_.out ?_
        refine My.pn_ 7 55 12 HT_.out ?_
        refine My.pn_ 8 56 12 HT_.out ?_
        refine My.pn_ 9 57 12 HT_.out ?_
        refine My.pn_ 10 58 12 HT_.out ?_
        refine My.pu_ 11 59 12 HT_.out ?_
        refine done_ (done_of HT_.out (by kernel_rfl)) ?_
        try go_wp2
        go_ret3
        exact ⟨My.r2, (My.bl_ HB)⟩
       subst c17
       rw [if_pos rfl] at H
       replace H := Option.bind_eq_some_iff.mp H
       obtain ⟨t164, A180, H⟩ := H
       try dsimp only at H
       have A18 := My.am A180
       clear A180
       have c19b0 := eq_true (My.as_ : 0 ≤ a1)
       have c20b0 := eq_true (My.as_ : a1 ≤ (wrap64 (x7_2 + 1)))
       have c21b0 := eq_true (My.as_ : (wrap64 (x7_2 + 1)) ≤ (a0.size : Int))
       by_cases c22 : t164.toList = (a0.extract (a1 : Int).toNat ((wrap64 (x7_2 + 1)) : Int).toNat).toList
       ·rw [if_pos c22] at H
        have c22b0 : (t164.toList == (a0.extract (a1 : Int).toNat ((wrap64 (x7_2 + 1)) : Int).toNat).toList) = true := beq_iff_eq.mpr c22
        have c22b1 : (t164.toList != (a0.extract (a1 : Int).toNat ((wrap64 (x7_2 + 1)) : Int).toNat).toList) = false := bne_eq_false_iff_eq.mpr c22
        clear c22
        simp only [Option.some.injEq, Prod.mk.injEq] at H
        obtain ⟨rfl, rfl, rfl⟩ := H
        try go_wp2_with (first | ((with_reducible refine gate_callee (f := 82) rfl ?_); refine goesL_ (some 45) rfl rfl Tryz.func82 (by kernel_rfl) rfl #[.string (a0.extract (a1 : Int).toNat ((wrap64 (x7_2 + 1)) : Int).toNat)] rfl My.gx ?_; (with_reducible refine (ententeref01_value.calls kj5 (a0.extract (a1 : Int).toNat ((wrap64 (x7_2 + 1)) : Int).toNat) t162 true _ A16.out).mono ?_); rintro e w' ⟨rfl, ⟨nd, rfl⟩⟩; refine ⟨_, rfl, ?_⟩))
        (try (rw [drewN_self wc]; generalize hq_ : World.drewN wc _ = wc; have n0_ : Aside0 (Below w.heap.size w wc) := ⟨by rw [← hq_]; exact (My.bl_ HB)⟩; clear HB hq_; have HB := n0_; clear n0_))
        replace HB := My.am (below_drew1 HB.out)
        refine start_ (n := 12) (S := fun w' => True) (ds := []) #[false, false, false, false, false, false, false, false, false, false, false, false] (by kernel_rfl) rfl rfl trivial (fun hHeld => ?_); refine with_tabW ententeref01_TakeNumber.tab11 ententeref01_TakeNumber.bits11 (fun HT_ HW_ => ?_)
        generalize wc.drew = w23 at HB hHeld ⊢
        refine My.pu_ 0 48 12 HT_.out ?_
        refine My.pu_ 1 49 12 HT_.out ?_
        refine My.pu_ 2 50 12 HT_.out ?_
        refine My.pu_ 3 51 12 HT_.out ?_
        refine My.pv_ 5 53 12 47 HT_.out ?_
        refine My.pv_ 6 54 12 111 HT_.out ?_
        refine My.pv_ 7 55 12 239 HT_.out ?_
        refine My.pv_ 8 56 12 495 HT_.out ?_
        refine My.pv_ 9 57 12 1007 HT_.out ?_
        refine one_ (i := 4) (N := some 52) (My.Mb 12 1023) rfl rfl (one_of HT_.out (by kernel_rfl)) (by decide) (fun K hK => ?_)
        refine goes_ Tryz.func83 (by kernel_rfl) rfl #[.int .u64 t162] (by rfl) rfl rfl My.gx ?_
        with_reducible refine (ententeref01_Number.calls kj5 t162 t164 _ A18.out).mono ?_
        rintro e w24 ⟨rfl, hb⟩
        refine ⟨_, rfl, ?_⟩
        replace HB := My.st HB hb
        (try clear hb)
        (try clear hb2)
        (try clear hk)
        (try clear hi)
        refine hK.out _ _ trivial (fun hHeld => ?_)
        clear hK K
        refine My.nm 52 ?_
        refine My.pu_ 10 58 12 HT_.out ?_
        refine My.pu_ 11 59 12 HT_.out ?_
        refine done_ (done_of HT_.out (by kernel_rfl)) ?_
        try go_wp2
        go_ret3
        exact ⟨My.r2, (My.bl_ HB)⟩
       rw [if_neg c22] at H
       have c22b0 : (t164.toList == (a0.extract (a1 : Int).toNat ((wrap64 (x7_2 + 1)) : Int).toNat).toList) = false := beq_eq_false_iff_ne.mpr c22
       have c22b1 : (t164.toList != (a0.extract (a1 : Int).toNat ((wrap64 (x7_2 + 1)) : Int).toNat).toList) = true := bne_iff_ne.mpr c22
       simp only [Option.some.injEq, Prod.mk.injEq] at H
       obtain ⟨rfl, rfl, rfl⟩ := H
       try go_wp2_with (first | ((with_reducible refine gate_callee (f := 82) rfl ?_); refine goesL_ (some 45) rfl rfl Tryz.func82 (by kernel_rfl) rfl #[.string (a0.extract (a1 : Int).toNat ((wrap64 (x7_2 + 1)) : Int).toNat)] rfl My.gx ?_; (with_reducible refine (ententeref01_value.calls kj5 (a0.extract (a1 : Int).toNat ((wrap64 (x7_2 + 1)) : Int).toNat) t162 true _ A16.out).mono ?_); rintro e w' ⟨rfl, ⟨nd, rfl⟩⟩; refine ⟨_, rfl, ?_⟩))
       (try (rw [drewN_self wc]; generalize hq_ : World.drewN wc _ = wc; have n0_ : Aside0 (Below w.heap.size w wc) := ⟨by rw [← hq_]; exact (My.bl_ HB)⟩; clear HB hq_; have HB := n0_; clear n0_))
       replace HB := My.am (below_drew1 HB.out)
       refine start_ (n := 12) (S := fun w' => True) (ds := []) #[false, false, false, false, false, false, false, false, false, false, false, false] (by kernel_rfl) rfl rfl trivial (fun hHeld => ?_); refine with_tabW ententeref01_TakeNumber.tab11 ententeref01_TakeNumber.bits11 (fun HT_ HW_ => ?_)
       generalize wc.drew = w25 at HB hHeld ⊢
       refine My.pu_ 0 48 12 HT_.out ?_
       refine My.pu_ 1 49 12 HT_.out ?_
       refine My.pu_ 2 50 12 HT_.out ?_
       refine My.pu_ 3 51 12 HT_.out ?_
       refine My.pv_ 5 53 12 47 HT_.out ?_
       refine My.pv_ 6 54 12 111 HT_.out ?_
       refine My.pv_ 7 55 12 239 HT_.out ?_
       refine My.pv_ 8 56 12 495 HT_.out ?_
       refine My.pv_ 9 57 12 1007 HT_.out ?_
       refine one_ (i := 4) (N := some 52) (My.Mb 12 1023) rfl rfl (one_of HT_.out (by kernel_rfl)) (by decide) (fun K hK => ?_)
       refine goes_ Tryz.func83 (by kernel_rfl) rfl #[.int .u64 t162] (by rfl) rfl rfl My.gx ?_
       with_reducible refine (ententeref01_Number.calls kj5 t162 t164 _ A18.out).mono ?_
       rintro e w26 ⟨rfl, hb⟩
       refine ⟨_, rfl, ?_⟩
       replace HB := My.st HB hb
       (try clear hb)
       (try clear hb2)
       (try clear hk)
       (try clear hi)
       refine hK.out _ _ trivial (fun hHeld => ?_)
       clear hK K
       refine My.nm 52 ?_
       refine My.pu_ 10 58 12 HT_.out ?_
       refine My.pu_ 11 59 12 HT_.out ?_
       refine done_ (done_of HT_.out (by kernel_rfl)) ?_
       try go_wp2
       go_ret3
       exact ⟨My.r2, (My.bl_ HB)⟩
end Go.Proofs.YtkcpgaplpmbmoaaGreat.PA
