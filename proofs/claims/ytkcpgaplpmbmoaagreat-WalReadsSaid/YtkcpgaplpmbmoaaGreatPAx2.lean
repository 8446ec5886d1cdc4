-- Written by a program of this session (wip/tools/mp.py over the kit's printer); Lean checks it.
import Derived.Test.YtkcpgaplpmbmoaaGreatPAx0
import Derived.Test.YtkcpgaplpmbmoaaGreatPAx1
namespace Go.Proofs.YtkcpgaplpmbmoaaGreat.PA
open Go.RowKit Go.Proofs.YtkcpgaplpmbmoaaGreatW.PrintWords Go.Proofs.YtkcpgaplpmbmoaaGreatW.PrintLast Go.Proofs.YtkcpgaplpmbmoaaGreatW.PrintMore
attribute [local go_sem] max2_int min2_int max_two min_two max_three min_three max_four min_four   -- for this text's walks alone
set_option linter.unusedVariables false
set_option maxHeartbeats 8000000
set_option maxRecDepth 100000
set_option linter.unusedSimpArgs false

/-! ### seal_Open: function 39 -/
def seal_Open.j0 : Nat → ByteArray → Int → Int → Bool → Option (ByteArray × Int × Int)
 | 0, _, _, _, _ => none
 | k + 1, x0, x1, x2, x13 => if x13 = true then (some ((⟨#[]⟩ : ByteArray), 0, 2)) else (if x1 = (x0.size : Int) then (some ((⟨#[]⟩ : ByteArray), 0, 10)) else (if 0 ≤ x1 then (if x1 < (x0.size : Int) then (if (bt x0 x1) = 231 then (if (wrap64 (x1 + 1)) = (x0.size : Int) then (some ((⟨#[]⟩ : ByteArray), 0, 10)) else (if 0 ≤ (wrap64 (x1 + 1)) then (if (wrap64 (x1 + 1)) < (x0.size : Int) then (if (wrap64 (bt x0 (wrap64 (x1 + 1)))) = x2 then ((pack_TakeNumber.f k x0 (wrap64 (x1 + 2))).bind fun bt103 => (if bt103.2.2 = 0 then (if bt103.1 > 30000 then (some ((⟨#[]⟩ : ByteArray), 0, 3)) else (if (wrap64 ((wrap64 (bt103.1)) + 8)) > (wrap64 ((x0.size : Int) - bt103.2.1)) then (some ((⟨#[]⟩ : ByteArray), 0, 10)) else (if x1 ≤ (wrap64 (bt103.2.1 + (wrap64 (bt103.1)))) then (if (wrap64 (bt103.2.1 + (wrap64 (bt103.1)))) ≤ (x0.size : Int) then ((seal_Sum.f k (([x0.extract (x1 : Int).toNat ((wrap64 (bt103.2.1 + (wrap64 (bt103.1)))) : Int).toNat] : List ByteArray))).bind fun t109 => ((seal_eight.f t109).bind fun t110 => (if 0 ≤ (wrap64 (bt103.2.1 + (wrap64 (bt103.1)))) then (if (wrap64 (bt103.2.1 + (wrap64 (bt103.1)))) ≤ (wrap64 ((wrap64 (bt103.2.1 + (wrap64 (bt103.1)))) + 8)) then (if (wrap64 ((wrap64 (bt103.2.1 + (wrap64 (bt103.1)))) + 8)) ≤ (x0.size : Int) then (if t110.toList = (x0.extract ((wrap64 (bt103.2.1 + (wrap64 (bt103.1)))) : Int).toNat ((wrap64 ((wrap64 (bt103.2.1 + (wrap64 (bt103.1)))) + 8)) : Int).toNat).toList then (if 0 ≤ bt103.2.1 then (if bt103.2.1 ≤ (wrap64 (bt103.2.1 + (wrap64 (bt103.1)))) then (some (x0.extract (bt103.2.1 : Int).toNat ((wrap64 (bt103.2.1 + (wrap64 (bt103.1)))) : Int).toNat, wrap64 ((wrap64 (bt103.2.1 + (wrap64 (bt103.1)))) + 8), 0)) else (none)) else (none)) else (some ((⟨#[]⟩ : ByteArray), 0, 22))) else (none)) else (none)) else (none)))) else (none)) else (none)))) else (some ((⟨#[]⟩ : ByteArray), 0, bt103.2.2)))) else (some ((⟨#[]⟩ : ByteArray), 0, 21))) else (none)) else (none))) else (some ((⟨#[]⟩ : ByteArray), 0, 20))) else (none)) else (none)))
def seal_Open.f (k : Nat) (a0 : ByteArray) (a1 : Int) (a2 : Int) : Option (ByteArray × Int × Int) := if a1 < 0 then (seal_Open.j0 k a0 a1 a2 true) else (if a1 > (a0.size : Int) then (seal_Open.j0 k a0 a1 a2 true) else (if a2 < 0 then (seal_Open.j0 k a0 a1 a2 true) else (seal_Open.j0 k a0 a1 a2 (decide (a2 > 255)))))
theorem seal_Open.mono_l : ∀ k, (∀ y0 y1 y2 y3, LeO (seal_Open.j0 k y0 y1 y2 y3) (seal_Open.j0 (k + 1) y0 y1 y2 y3))
 | 0 => fun _ _ _ _ r h => by simp [seal_Open.j0] at h
 | k + 1 => by
  have ih0 := seal_Open.mono_l k
  intro y0 y1 y2 y3
  unfold seal_Open.j0
  repeat' (with_reducible first | exact ih0 _ _ _ _ | exact pack_TakeNumber.mono _ _ _ | exact seal_Sum.mono _ _ | exact LeO.refl _ | exact LeO.none _ | apply LeO.ite | refine LeO.bind ?_ (fun _ => ?_))
theorem seal_Open.mono : ∀ a0 a1 a2 k, LeO (seal_Open.f k a0 a1 a2) (seal_Open.f (k + 1) a0 a1 a2) := by
 intro a0 a1 a2 k
 have ih0 := seal_Open.mono_l k
 unfold seal_Open.f
 repeat' (with_reducible first | exact ih0 _ _ _ _ | exact pack_TakeNumber.mono _ _ _ | exact seal_Sum.mono _ _ | exact LeO.refl _ | exact LeO.none _ | apply LeO.ite | refine LeO.bind ?_ (fun _ => ?_))
def seal_Open.T19 : Bool × List (List Nat × List Nat) := (true, [([], []), ([], []), ([], []), ([0, 1, 2], [0, 1, 2]), ([3], [3]), ([4], [4]), ([5, 5], [5]), ([], []), ([], []), ([], []), ([9], [9]), ([7, 8, 10], [7, 8, 10]), ([6, 11], [6, 11])])
def seal_Open.B19 : List Nat := [0, 0, 0, 7, 15, 31, 63, 0, 0, 0, 512, 1920, 4095]
theorem seal_Open.tab19 : rtab .any (opsOf Tryz.f39 19) = seal_Open.T19 := by kernel_rfl
theorem seal_Open.bits19 : waitsOk seal_Open.T19.2 seal_Open.B19 = true := by kernel_rfl
theorem seal_Open.calls (k : Nat) (a0 : ByteArray) (a1 : Int) (a2 : Int) (r1 : ByteArray) (r2 : Int) (r3 : Int) (w : World) (h : seal_Open.f k a0 a1 a2 = some (r1, r2, r3)) :
  Calls Tryz.prog 39 #[.string a0, .int .i64 a1, .int .i64 a2] w fun e w' => e = .returned (.tuple #[.string r1, .int .i64 r2, .int .i64 r3]) ∧ Below w.heap.size w w' := by
 have HB := My.am (Below.refl w.heap.size w)
 unfold seal_Open.f at h
 have H := h
 clear h
 have HC4 := My.am H
 clear H
 go_enter Tryz.func39, Tryz.ntmps39
 go_upto_region 1 with (fail)
 go_cut [13] (fun v13 wc => ∃ (kq : Nat) (x13_3 : Bool), v13 = .bool x13_3 ∧ Aside0 (seal_Open.j0 kq a0 a1 a2 x13_3 = some (r1, r2, r3)) ∧ Aside0 (kq ≤ k) ∧ Aside0 (Below w.heap.size w wc))
 case first =>
  have H := HC4.out
  clear HC4
  by_cases c5 : a1 < 0
  ·rw [if_pos c5] at H
   have c5b0 := decide_eq_true c5
   clear c5
   (first | rw [c5b0] | (simp only [i64_w, i32_w]; rw [c5b0]) | skip)
   have H' := My.am H
   clear H
   go_wp2
   go_meet
   case rel => exact ⟨_, (true), My.r1, H', ⟨My.r4⟩, ⟨(My.bl_ HB)⟩⟩
  ·rw [if_neg c5] at H
   have c5b0 := decide_eq_false c5
   clear c5
   (first | rw [c5b0] | (simp only [i64_w, i32_w]; rw [c5b0]) | skip)
   by_cases c6 : a1 > (a0.size : Int)
   ·rw [if_pos c6] at H
    have c6b0 : decide ((a0.size : Int) < a1) = true := decide_eq_true c6
    clear c6
    have H' := My.am H
    clear H
    go_wp2
    go_meet
    case rel => exact ⟨_, (true), My.r1, H', ⟨My.r4⟩, ⟨(My.bl_ HB)⟩⟩
   rw [if_neg c6] at H
   have c6b0 : decide ((a0.size : Int) < a1) = false := decide_eq_false c6
   clear c6
   by_cases c7 : a2 < 0
   ·rw [if_pos c7] at H
    have c7b0 := decide_eq_true c7
    clear c7
    have H' := My.am H
    clear H
    go_wp2
    go_meet
    case rel => exact ⟨_, (true), My.r1, H', ⟨My.r4⟩, ⟨(My.bl_ HB)⟩⟩
   rw [if_neg c7] at H
   have c7b0 := decide_eq_false c7
   clear c7
   have H' := My.am H
   clear H
   go_wp2
   go_meet
   case rel => exact ⟨_, (decide (a2 > 255)), My.r1, H', ⟨My.r4⟩, ⟨(My.bl_ HB)⟩⟩
 case rest =>
  clear HC4
  obtain ⟨kq, x13_3, rfl, HA, HJ3, HB⟩ := hcut
  cases kq with
  | zero => exact absurd HA.out (by simp [seal_Open.j0])
  | succ kj3 =>
   have H := HA.out
   clear HA
   simp only [seal_Open.j0] at H
   by_cases c8 : x13_3 = true
   ·subst c8
    rw [if_pos rfl] at H
    simp only [Option.some.injEq, Prod.mk.injEq] at H
    obtain ⟨rfl, rfl, rfl⟩ := H
    go_wp2
    go_ret3
    exact ⟨My.r2, (My.bl_ HB)⟩
   replace c8 := Bool.eq_false_iff.mpr c8
   subst c8
   rw [if_neg (show ¬ (false = true) by decide)] at H
   by_cases c9 : a1 = (a0.size : Int)
   ·rw [if_pos c9] at H
    have c9b0 : (a1 == (a0.size : Int)) = true := beq_iff_eq.mpr c9
    have c9b1 : (a1 != (a0.size : Int)) = false := bne_eq_false_iff_eq.mpr c9
    clear c9
    simp only [Option.some.injEq, Prod.mk.injEq] at H
    obtain ⟨rfl, rfl, rfl⟩ := H
    go_wp2
    go_ret3
    exact ⟨My.r2, (My.bl_ HB)⟩
   rw [if_neg c9] at H
   have c9b0 : (a1 == (a0.size : Int)) = false := beq_eq_false_iff_ne.mpr c9
   have c9b1 : (a1 != (a0.size : Int)) = true := bne_iff_ne.mpr c9
   by_cases c10 : 0 ≤ a1
   rotate_left
   ·exact My.nn c10 H

   rw [if_pos c10] at H
   have c10b0 := decide_eq_true c10
   clear c10
   replace H := My.ds H
   obtain ⟨c11b0, H⟩ := H
   by_cases c13 : (bt a0 a1) = 231
   rotate_left
   ·rw [if_neg c13] at H
    have c13b0 : ((bt a0 a1) == 231) = false := beq_eq_false_iff_ne.mpr c13
    have c13b1 : ((bt a0 a1) != 231) = true := bne_iff_ne.mpr c13
    simp only [Option.some.injEq, Prod.mk.injEq] at H
    obtain ⟨rfl, rfl, rfl⟩ := H
    have p12 : 0 ≤ (a1 : Int) := My.as_
    have q12 : a1 < (a0.size : Int) := My.as_
    have hx12 := bt_at a0 a1
    replace p12 := eq_true p12
    replace q12 := eq_true q12
    go_wp2
    go_ret3
    exact ⟨My.r2, (My.bl_ HB)⟩
   rw [if_pos c13] at H
   have c13b0 : ((bt a0 a1) == 231) = true := beq_iff_eq.mpr c13
   have c13b1 : ((bt a0 a1) != 231) = false := bne_eq_false_iff_eq.mpr c13
   clear c13
   by_cases c14 : (wrap64 (a1 + 1)) = (a0.size : Int)
   ·rw [if_pos c14] at H
    have c14b0 : ((wrap64 (a1 + 1)) == (a0.size : Int)) = true := beq_iff_eq.mpr c14
    have c14b1 : ((wrap64 (a1 + 1)) != (a0.size : Int)) = false := bne_eq_false_iff_eq.mpr c14
    clear c14
    simp only [Option.some.injEq, Prod.mk.injEq] at H
    obtain ⟨rfl, rfl, rfl⟩ := H
    have p12 : 0 ≤ (a1 : Int) := My.as_
    have q12 : a1 < (a0.size : Int) := My.as_
    have hx12 := bt_at a0 a1
    replace p12 := eq_true p12
    replace q12 := eq_true q12
    go_wp2
    go_ret3
    exact ⟨My.r2, (My.bl_ HB)⟩
   rw [if_neg c14] at H
   have c14b0 : ((wrap64 (a1 + 1)) == (a0.size : Int)) = false := beq_eq_false_iff_ne.mpr c14
   have c14b1 : ((wrap64 (a1 + 1)) != (a0.size : Int)) = true := bne_iff_ne.mpr c14
   obtain ⟨ji15, hji15⟩ : ∃ j_ : Int, (wrap64 (a1 + 1)) = j_ := ⟨_, rfl⟩
   replace H : (if 0 ≤ (ji15) then (if (ji15) < (a0.size : Int) then (if (wrap64 (bt a0 (ji15))) = a2 then ((pack_TakeNumber.f kj3 a0 (wrap64 (a1 + 2))).bind fun bt103 => (if bt103.2.2 = 0 then (if bt103.1 > 30000 then (some ((⟨#[]⟩ : ByteArray), 0, 3)) else (if (wrap64 ((wrap64 (bt103.1)) + 8)) > (wrap64 ((a0.size : Int) - bt103.2.1)) then (some ((⟨#[]⟩ : ByteArray), 0, 10)) else (if a1 ≤ (wrap64 (bt103.2.1 + (wrap64 (bt103.1)))) then (if (wrap64 (bt103.2.1 + (wrap64 (bt103.1)))) ≤ (a0.size : Int) then ((seal_Sum.f kj3 (([a0.extract (a1 : Int).toNat ((wrap64 (bt103.2.1 + (wrap64 (bt103.1)))) : Int).toNat] : List ByteArray))).bind fun t109 => ((seal_eight.f t109).bind fun t110 => (if 0 ≤ (wrap64 (bt103.2.1 + (wrap64 (bt103.1)))) then (if (wrap64 (bt103.2.1 + (wrap64 (bt103.1)))) ≤ (wrap64 ((wrap64 (bt103.2.1 + (wrap64 (bt103.1)))) + 8)) then (if (wrap64 ((wrap64 (bt103.2.1 + (wrap64 (bt103.1)))) + 8)) ≤ (a0.size : Int) then (if t110.toList = (a0.extract ((wrap64 (bt103.2.1 + (wrap64 (bt103.1)))) : Int).toNat ((wrap64 ((wrap64 (bt103.2.1 + (wrap64 (bt103.1)))) + 8)) : Int).toNat).toList then (if 0 ≤ bt103.2.1 then (if bt103.2.1 ≤ (wrap64 (bt103.2.1 + (wrap64 (bt103.1)))) then (some (a0.extract (bt103.2.1 : Int).toNat ((wrap64 (bt103.2.1 + (wrap64 (bt103.1)))) : Int).toNat, wrap64 ((wrap64 (bt103.2.1 + (wrap64 (bt103.1)))) + 8), 0)) else (none)) else (none)) else (some ((⟨#[]⟩ : ByteArray), 0, 22))) else (none)) else (none)) else (none)))) else (none)) else (none)))) else (some ((⟨#[]⟩ : ByteArray), 0, bt103.2.2)))) else (some ((⟨#[]⟩ : ByteArray), 0, 21))) else (none)) else (none)) = some (r1, r2, r3) := by first | (rw [hji15] at H; exact H) | (simp only [hji15] at H ⊢; exact H)
   (try rw [hji15] at c14b0)
   (try rw [hji15] at c14b1)
   have hji15w : (IntKind.i64.wrap (a1 + 1)) = ji15 := (i64_w _).trans hji15
   replace H := My.ds H
   obtain ⟨c16b0, H⟩ := H
   replace H := My.ds H
   obtain ⟨c17b0, H⟩ := H
   by_cases c19 : (wrap64 (bt a0 (ji15))) = a2
   rotate_left
   ·rw [if_neg c19] at H
    have c19b0 : ((wrap64 (bt a0 (ji15))) == a2) = false := beq_eq_false_iff_ne.mpr c19
    have c19b1 : ((wrap64 (bt a0 (ji15))) != a2) = true := bne_iff_ne.mpr c19
    simp only [Option.some.injEq, Prod.mk.injEq] at H
    obtain ⟨rfl, rfl, rfl⟩ := H
    have p12 : 0 ≤ (a1 : Int) := My.as_
    have q12 : a1 < (a0.size : Int) := My.as_
    have hx12 := bt_at a0 a1
    replace p12 := eq_true p12
    replace q12 := eq_true q12
    have p18 : 0 ≤ ((ji15) : Int) := My.as_
    have q18 : (ji15) < (a0.size : Int) := My.as_
    have hx18 := bt_at a0 (ji15)
    replace p18 := eq_true p18
    replace q18 := eq_true q18
    go_wp2
    go_ret3
    exact ⟨by first | rfl | (simp [errW_none, errW_some] <;> rfl) | (simp only [← hji15]; first | rfl | (simp [errW_none, errW_some] <;> rfl)) | (simp [*, errW_none, errW_some] <;> rfl), (My.bl_ HB)⟩
   rw [if_pos c19] at H
   have c19b0 : ((wrap64 (bt a0 (ji15))) == a2) = true := beq_iff_eq.mpr c19
   have c19b1 : ((wrap64 (bt a0 (ji15))) != a2) = false := bne_eq_false_iff_eq.mpr c19
   clear c19
   replace H := Option.bind_eq_some_iff.mp H
   obtain ⟨⟨t103, t104, t105⟩, A200, H⟩ := H
   try dsimp only at H
   have A20 := My.am A200
   clear A200
   by_cases c21 : t105 = 0
   rotate_left
   ·rw [if_neg c21] at H
    have c21b0 : (t105 == 0) = false := beq_eq_false_iff_ne.mpr c21
    have c21b1 : (t105 != 0) = true := bne_iff_ne.mpr c21
    simp only [Option.some.injEq, Prod.mk.injEq] at H
    obtain ⟨rfl, rfl, rfl⟩ := H
    have p12 : 0 ≤ (a1 : Int) := My.as_
    have q12 : a1 < (a0.size : Int) := My.as_
    have hx12 := bt_at a0 a1
    replace p12 := eq_true p12
    replace q12 := eq_true q12
    have p18 : 0 ≤ ((ji15) : Int) := My.as_
    have q18 : (ji15) < (a0.size : Int) := My.as_
    have hx18 := bt_at a0 (ji15)
    replace p18 := eq_true p18
    replace q18 := eq_true q18
    go_wp2_with (first | ((with_reducible refine gate_callee (f := 61) rfl ?_); refine goesL_ (some 58) rfl rfl Tryz.func61 (by kernel_rfl) rfl #[.string a0, .int .i64 (wrap64 (a1 + 2))] rfl My.gx ?_; (with_reducible refine (pack_TakeNumber.calls kj3 a0 (wrap64 (a1 + 2)) t103 t104 t105 _ A20.out).mono ?_); rintro e w' ⟨rfl, ⟨nd, rfl⟩⟩; refine ⟨_, rfl, ?_⟩))
    go_ret3
    exact ⟨by first | rfl | (simp [errW_none, errW_some] <;> rfl) | (simp only [← hji15]; first | rfl | (simp [errW_none, errW_some] <;> rfl)) | (simp [*, errW_none, errW_some] <;> rfl), (My.bl_ HB)⟩
   rw [if_pos c21] at H
   have c21b0 : (t105 == 0) = true := beq_iff_eq.mpr c21
   have c21b1 : (t105 != 0) = false := bne_eq_false_iff_eq.mpr c21
   clear c21
   by_cases c22 : t103 > 30000
   ·rw [if_pos c22] at H
    have c22b0 : decide (30000 < t103) = true := decide_eq_true c22
    clear c22
    simp only [Option.some.injEq, Prod.mk.injEq] at H
    obtain ⟨rfl, rfl, rfl⟩ := H
    have p12 : 0 ≤ (a1 : Int) := My.as_
    have q12 : a1 < (a0.size : Int) := My.as_
    have hx12 := bt_at a0 a1
    replace p12 := eq_true p12
    replace q12 := eq_true q12
    have p18 : 0 ≤ ((ji15) : Int) := My.as_
    have q18 : (ji15) < (a0.size : Int) := My.as_
    have hx18 := bt_at a0 (ji15)
    replace p18 := eq_true p18
    replace q18 := eq_true q18
    go_wp2_with (first | ((with_reducible refine gate_callee (f := 61) rfl ?_); refine goesL_ (some 58) rfl rfl Tryz.func61 (by kernel_rfl) rfl #[.string a0, .int .i64 (wrap64 (a1 + 2))] rfl My.gx ?_; (with_reducible refine (pack_TakeNumber.calls kj3 a0 (wrap64 (a1 + 2)) t103 t104 t105 _ A20.out).mono ?_); rintro e w' ⟨rfl, ⟨nd, rfl⟩⟩; refine ⟨_, rfl, ?_⟩))
    go_ret3
    exact ⟨by first | rfl | (simp [errW_none, errW_some] <;> rfl) | (simp only [← hji15]; first | rfl | (simp [errW_none, errW_some] <;> rfl)) | (simp [*, errW_none, errW_some] <;> rfl), (My.bl_ HB)⟩
   rw [if_neg c22] at H
   have c22b0 : decide (30000 < t103) = false := decide_eq_false c22
   clear c22
   by_cases c23 : (wrap64 ((wrap64 (t103)) + 8)) > (wrap64 ((a0.size : Int) - t104))
   ·rw [if_pos c23] at H
    have c23b0 : decide ((wrap64 ((a0.size : Int) - t104)) < (wrap64 ((wrap64 (t103)) + 8))) = true := decide_eq_true c23
    clear c23
    simp only [Option.some.injEq, Prod.mk.injEq] at H
    obtain ⟨rfl, rfl, rfl⟩ := H
    have p12 : 0 ≤ (a1 : Int) := My.as_
    have q12 : a1 < (a0.size : Int) := My.as_
    have hx12 := bt_at a0 a1
    replace p12 := eq_true p12
    replace q12 := eq_true q12
    have p18 : 0 ≤ ((ji15) : Int) := My.as_
    have q18 : (ji15) < (a0.size : Int) := My.as_
    have hx18 := bt_at a0 (ji15)
    replace p18 := eq_true p18
    replace q18 := eq_true q18
    go_wp2_with (first | ((with_reducible refine gate_callee (f := 61) rfl ?_); refine goesL_ (some 58) rfl rfl Tryz.func61 (by kernel_rfl) rfl #[.string a0, .int .i64 (wrap64 (a1 + 2))] rfl My.gx ?_; (with_reducible refine (pack_TakeNumber.calls kj3 a0 (wrap64 (a1 + 2)) t103 t104 t105 _ A20.out).mono ?_); rintro e w' ⟨rfl, ⟨nd, rfl⟩⟩; refine ⟨_, rfl, ?_⟩))
    go_ret3
    exact ⟨by first | rfl | (simp [errW_none, errW_some] <;> rfl) | (simp only [← hji15]; first | rfl | (simp [errW_none, errW_some] <;> rfl)) | (simp [*, errW_none, errW_some] <;> rfl), (My.bl_ HB)⟩
   rw [if_neg c23] at H
   have c23b0 : decide ((wrap64 ((a0.size : Int) - t104)) < (wrap64 ((wrap64 (t103)) + 8))) = false := decide_eq_false c23
   clear c23
   have c24b0 := eq_true (My.as_ : 0 ≤ a1)
   by_cases c25 : a1 ≤ (wrap64 (t104 + (wrap64 (t103))))
   rotate_left
   ·exact My.nn c25 H
   rw [if_pos c25] at H
   have c25b0 := eq_true c25
   have c25b1 := decide_eq_true c25
   by_cases c26 : (wrap64 (t104 + (wrap64 (t103)))) ≤ (a0.size : Int)
   rotate_left
   ·exact My.nn c26 H
   rw [if_pos c26] at H
   have c26b0 := eq_true c26
   have c26b1 := decide_eq_true c26
   obtain ⟨y106, hy106⟩ : ∃ y_ : List ByteArray, y_ = (([a0.extract (a1 : Int).toNat ((wrap64 (t104 + (wrap64 (t103)))) : Int).toNat] : List ByteArray)) := ⟨_, rfl⟩
   replace H : ((seal_Sum.f kj3 y106).bind fun t109 => ((seal_eight.f t109).bind fun t110 => (if 0 ≤ (wrap64 (t104 + (wrap64 (t103)))) then (if (wrap64 (t104 + (wrap64 (t103)))) ≤ (wrap64 ((wrap64 (t104 + (wrap64 (t103)))) + 8)) then (if (wrap64 ((wrap64 (t104 + (wrap64 (t103)))) + 8)) ≤ (a0.size : Int) then (if t110.toList = (a0.extract ((wrap64 (t104 + (wrap64 (t103)))) : Int).toNat ((wrap64 ((wrap64 (t104 + (wrap64 (t103)))) + 8)) : Int).toNat).toList then (if 0 ≤ t104 then (if t104 ≤ (wrap64 (t104 + (wrap64 (t103)))) then (some (a0.extract (t104 : Int).toNat ((wrap64 (t104 + (wrap64 (t103)))) : Int).toNat, wrap64 ((wrap64 (t104 + (wrap64 (t103)))) + 8), 0)) else (none)) else (none)) else (some ((⟨#[]⟩ : ByteArray), 0, 22))) else (none)) else (none)) else (none)))) = some (r1, r2, r3) := by first | (rw [hy106]; with_reducible exact H) | (have H2_ := (Option.bind_some _ _).symm.trans H; rw [hy106]; with_reducible exact H2_) | (have H2_ := (Option.bind_some _ _).symm.trans H; with_reducible exact H2_) | with_reducible exact H | (rw [hy106]; exact H) | exact H
   have Ny106 := My.am hy106
   clear hy106
   replace H := Option.bind_eq_some_iff.mp H
   obtain ⟨t109, A270, H⟩ := H
   try dsimp only at H
   have A27 := My.am A270
   clear A270
   replace H := Option.bind_eq_some_iff.mp H
   obtain ⟨t110, A280, H⟩ := H
   try dsimp only at H
   have A28 := My.am A280
   clear A280
   obtain ⟨ji29, hji29⟩ : ∃ j_ : Int, (wrap64 (t104 + (wrap64 (t103)))) = j_ := ⟨_, rfl⟩
   replace H : (if 0 ≤ (ji29) then (if (ji29) ≤ (wrap64 ((ji29) + 8)) then (if (wrap64 ((ji29) + 8)) ≤ (a0.size : Int) then (if t110.toList = (a0.extract ((ji29) : Int).toNat ((wrap64 ((ji29) + 8)) : Int).toNat).toList then (if 0 ≤ t104 then (if t104 ≤ (ji29) then (some (a0.extract (t104 : Int).toNat ((ji29) : Int).toNat, wrap64 ((ji29) + 8), 0)) else (none)) else (none)) else (some ((⟨#[]⟩ : ByteArray), 0, 22))) else (none)) else (none)) else (none)) = some (r1, r2, r3) := by first | (rw [hji29] at H; exact H) | (simp only [hji29] at H ⊢; exact H)
   (try rw [hji29] at c25b0)
   (try rw [hji29] at c25b1)
   (try rw [hji29] at c25)
   (try rw [hji29] at c26b0)
   (try rw [hji29] at c26b1)
   (try rw [hji29] at c26)
   (try rw [hji29] at A20)
   (try rw [hji29] at Ny106)
   (try rw [hji29] at A27)
   (try rw [hji29] at A28)
   have hji29w : (IntKind.i64.wrap (t104 + (wrap64 (t103)))) = ji29 := (i64_w _).trans hji29
   by_cases c30 : 0 ≤ (ji29)
   rotate_left
   ·exact My.nn c30 H
   rw [if_pos c30] at H
   have c30b0 := eq_true c30
   have c30b1 := decide_eq_true c30
   clear c30
   by_cases c31 : (ji29) ≤ (wrap64 ((ji29) + 8))
   rotate_left
   ·exact My.nn c31 H
   rw [if_pos c31] at H
   have c31b0 := eq_true c31
   have c31b1 := decide_eq_true c31
   by_cases c32 : (wrap64 ((ji29) + 8)) ≤ (a0.size : Int)
   rotate_left
   ·exact My.nn c32 H
   rw [if_pos c32] at H
   have c32b0 := eq_true c32
   have c32b1 := decide_eq_true c32
   by_cases c33 : t110.toList = (a0.extract ((ji29) : Int).toNat ((wrap64 ((ji29) + 8)) : Int).toNat).toList
   rotate_left
   ·rw [if_neg c33] at H
    have c33b0 : (t110.toList == (a0.extract ((ji29) : Int).toNat ((wrap64 ((ji29) + 8)) : Int).toNat).toList) = false := beq_eq_false_iff_ne.mpr c33
    have c33b1 : (t110.toList != (a0.extract ((ji29) : Int).toNat ((wrap64 ((ji29) + 8)) : Int).toNat).toList) = true := bne_iff_ne.mpr c33
    simp only [Option.some.injEq, Prod.mk.injEq] at H
    obtain ⟨rfl, rfl, rfl⟩ := H
    have p12 : 0 ≤ (a1 : Int) := My.as_
    have q12 : a1 < (a0.size : Int) := My.as_
    have hx12 := bt_at a0 a1
    replace p12 := eq_true p12
    replace q12 := eq_true q12
    have p18 : 0 ≤ ((ji15) : Int) := My.as_
    have q18 : (ji15) < (a0.size : Int) := My.as_
    have hx18 := bt_at a0 (ji15)
    replace p18 := eq_true p18
    replace q18 := eq_true q18
    try go_wp2_with (first | ((with_reducible refine gate_callee (f := 61) rfl ?_); refine goesL_ (some 58) rfl rfl Tryz.func61 (by kernel_rfl) rfl #[.string a0, .int .i64 (wrap64 (a1 + 2))] rfl My.gx ?_; (with_reducible refine (pack_TakeNumber.calls kj3 a0 (wrap64 (a1 + 2)) t103 t104 t105 _ A20.out).mono ?_); rintro e w' ⟨rfl, ⟨nd, rfl⟩⟩; refine ⟨_, rfl, ?_⟩))
    (try (rw [drewN_self wc]; generalize hq_ : World.drewN wc _ = wc; have n0_ : Aside0 (Below w.heap.size w wc) := ⟨by rw [← hq_]; exact (My.bl_ HB)⟩; clear HB hq_; have HB := n0_; clear n0_))
    replace HB := My.am (below_drew1 HB.out)
    refine start_ (n := 13) (S := fun w' => True) (ds := []) #[false, false, false, false, false, false, false, false, false, false, false, false, false] (by kernel_rfl) rfl rfl trivial (fun hHeld => ?_); refine with_tabW seal_Open.tab19 seal_Open.bits19 (fun HT_ HW_ => ?_)
    generalize wc.drew = w43 at HB hHeld ⊢
    refine My.pu_ 0 82 13 HT_.out ?_
    refine My.pu_ 1 83 13 HT_.out ?_
    refine My.pu_ 2 84 13 HT_.out ?_
    refine My.pu_ 3 85 13 HT_.out ?_
    refine My.pv_ 7 89 13 143 HT_.out ?_
    refine My.pv_ 8 90 13 399 HT_.out ?_
    refine My.pv_ 9 91 13 911 HT_.out ?_
    refine My.pv_ 10 92 13 1935 HT_.out ?_
    refine My.pv_ 11 93 13 3983 HT_.out ?_
    refine one_ (i := 4) (N := some 86) (My.Mb 13 3999) rfl rfl (one_of HT_.out (by kernel_rfl)) (by decide) (fun K hK => ?_)
    refine Kd.R_lit_step Kd.string _ 9 ?hg (N := 86) ?hd (xs := ([a0.extract (a1 : Int).toNat ((ji29) : Int).toNat] : List ByteArray)) (inner := [.string (a0.extract (a1 : Int).toNat ((ji29) : Int).toNat)]) (ok := fun _ => True) (okp := fun _ => True) ?hr ?hp (fun _ hk => hk) trivial (Below.refl _ _) (Nat.le_refl _) (by simp) ?_; (case hd => rfl); (case hg => rfl); (case hr => first | (go_simp; done) | (go_simp; rfl)); (case hp => exact (Reps.one (show Kd.M Kd.string _ _ _ (a0.extract (a1 : Int).toNat ((ji29) : Int).toNat) [.string (a0.extract (a1 : Int).toNat ((ji29) : Int).toNat)] from rfl) (Reps.none _ _)))
    intro v107 w44 ho45 hb hg_ hnew_
    clear hg_ hnew_
    (first | rw [← Ny106.out] at ho45 | (simp only [Int.reduceToNat] at ho45; rw [← Ny106.out] at ho45))
    have HO108 := My.am (Kd.R_lower ho45 (below_size (My.bl_ HB)))
    replace HB := My.st HB hb
    clear hb ho45
    obtain ⟨Ao46, co46, eo46⟩ := Kd.R_slice HO108.out
    (first | subst eo46 | (injection eo46 with f1_ f2_ f3_; have f4_ := f1_.symm; have f5_ := f3_.symm; clear f1_ f2_ f3_; subst f4_; subst f5_))
    refine hK.out _ _ trivial (fun hHeld => ?_)
    clear hK K
    refine My.nm 86 ?_
    refine one_ (i := 5) (N := some 87) (My.Mb 13 4031) rfl rfl (one_of HT_.out (by kernel_rfl)) (by decide) (fun K hK => ?_)
    refine goes_ Tryz.func63 (by kernel_rfl) rfl #[.slice Ao46 y106.length co46] (by rfl) rfl rfl My.gx ?_
    with_reducible refine (seal_Sum.calls kj3 _ _ y106 t109 _ ?side1 ?side2 A27.out).mono ?_
    (case side1 => repeat (first | exact (Kd.R_reads' HO108.out).2.2 | (with_reducible refine Kd.C_alloc ?_ _) | (with_reducible refine Kd.C_drewN ?_ _) | (with_reducible refine Kd.C_drew ?_)))
    (case side2 => exact (Kd.R_reads' HO108.out).2.1)
    rintro e w47 ⟨rfl, hb⟩
    refine ⟨_, rfl, ?_⟩
    replace HB := My.st HB hb
    (try clear hb)
    (try clear hb2)
    (try clear hk)
    (try clear hi)
    refine hK.out _ _ trivial (fun hHeld => ?_)
    clear hK K
    refine My.nm 87 ?_
    refine one_ (i := 6) (N := some 88) (My.Mb 13 4095) rfl rfl (one_of HT_.out (by kernel_rfl)) (by decide) (fun K hK => ?_)
    refine goes_ Tryz.func62 (by kernel_rfl) rfl #[.int .u64 t109] (by rfl) rfl rfl My.gx ?_
    with_reducible refine (seal_eight.calls t109 t110 _ A28.out).mono ?_
    rintro e w48 ⟨rfl, hb⟩
    refine ⟨_, rfl, ?_⟩
    replace HB := My.st HB hb
    (try clear hb)
    (try clear hb2)
    (try clear hk)
    (try clear hi)
    refine hK.out _ _ trivial (fun hHeld => ?_)
    clear hK K
    refine My.nm 88 ?_
    refine My.pu_ 12 94 13 HT_.out ?_
    refine done_ (done_of HT_.out (by kernel_rfl)) ?_
    try go_wp2
    go_ret3
    exact ⟨by first | rfl | (simp [errW_none, errW_some] <;> rfl) | (simp only [← hji15, ← hji29]; first | rfl | (simp [errW_none, errW_some] <;> rfl)) | (simp [*, errW_none, errW_some] <;> rfl), (My.bl_ HB)⟩
   rw [if_pos c33] at H
   have c33b0 : (t110.toList == (a0.extract ((ji29) : Int).toNat ((wrap64 ((ji29) + 8)) : Int).toNat).toList) = true := beq_iff_eq.mpr c33
   have c33b1 : (t110.toList != (a0.extract ((ji29) : Int).toNat ((wrap64 ((ji29) + 8)) : Int).toNat).toList) = false := bne_eq_false_iff_eq.mpr c33
   clear c33
   by_cases c34 : 0 ≤ t104
   rotate_left
   ·exact My.nn c34 H
   rw [if_pos c34] at H
   have c34b0 := eq_true c34
   have c34b1 := decide_eq_true c34
   clear c34
   by_cases c35 : t104 ≤ (ji29)
   rotate_left
   ·exact My.nn c35 H
   rw [if_pos c35] at H
   have c35b0 := eq_true c35
   have c35b1 := decide_eq_true c35
   clear c35
   have c36b0 := eq_true (My.as_ : (ji29) ≤ (a0.size : Int))
   simp only [Option.some.injEq, Prod.mk.injEq] at H
   obtain ⟨rfl, rfl, rfl⟩ := H
   have p12 : 0 ≤ (a1 : Int) := My.as_
   have q12 : a1 < (a0.size : Int) := My.as_
   have hx12 := bt_at a0 a1
   replace p12 := eq_true p12
   replace q12 := eq_true q12
   have p18 : 0 ≤ ((ji15) : Int) := My.as_
   have q18 : (ji15) < (a0.size : Int) := My.as_
   have hx18 := bt_at a0 (ji15)
   replace p18 := eq_true p18
   replace q18 := eq_true q18
   try go_wp2_with (first | ((with_reducible refine gate_callee (f := 61) rfl ?_); refine goesL_ (some 58) rfl rfl Tryz.func61 (by kernel_rfl) rfl #[.string a0, .int .i64 (wrap64 (a1 + 2))] rfl My.gx ?_; (with_reducible refine (pack_TakeNumber.calls kj3 a0 (wrap64 (a1 + 2)) t103 t104 t105 _ A20.out).mono ?_); rintro e w' ⟨rfl, ⟨nd, rfl⟩⟩; refine ⟨_, rfl, ?_⟩))
   (try (rw [drewN_self wc]; generalize hq_ : World.drewN wc _ = wc; have n0_ : Aside0 (Below w.heap.size w wc) := ⟨by rw [← hq_]; exact (My.bl_ HB)⟩; clear HB hq_; have HB := n0_; clear n0_))
   replace HB := My.am (below_drew1 HB.out)
   refine start_ (n := 13) (S := fun w' => True) (ds := []) #[false, false, false, false, false, false, false, false, false, false, false, false, false] (by kernel_rfl) rfl rfl trivial (fun hHeld => ?_); refine with_tabW seal_Open.tab19 seal_Open.bits19 (fun HT_ HW_ => ?_)
   generalize wc.drew = w37 at HB hHeld ⊢
   refine My.pu_ 0 82 13 HT_.out ?_
   refine My.pu_ 1 83 13 HT_.out ?_
   refine My.pu_ 2 84 13 HT_.out ?_
   refine My.pu_ 3 85 13 HT_.out ?_
   refine My.pv_ 7 89 13 143 HT_.out ?_
   refine My.pv_ 8 90 13 399 HT_.out ?_
   refine My.pv_ 9 91 13 911 HT_.out ?_
   refine My.pv_ 10 92 13 1935 HT_.out ?_
   refine My.pv_ 11 93 13 3983 HT_.out ?_
   refine one_ (i := 4) (N := some 86) (My.Mb 13 3999) rfl rfl (one_of HT_.out (by kernel_rfl)) (by decide) (fun K hK => ?_)
   refine Kd.R_lit_step Kd.string _ 9 ?hg (N := 86) ?hd (xs := ([a0.extract (a1 : Int).toNat ((ji29) : Int).toNat] : List ByteArray)) (inner := [.string (a0.extract (a1 : Int).toNat ((ji29) : Int).toNat)]) (ok := fun _ => True) (okp := fun _ => True) ?hr ?hp (fun _ hk => hk) trivial (Below.refl _ _) (Nat.le_refl _) (by simp) ?_; (case hd => rfl); (case hg => rfl); (case hr => first | (go_simp; done) | (go_simp; rfl)); (case hp => exact (Reps.one (show Kd.M Kd.string _ _ _ (a0.extract (a1 : Int).toNat ((ji29) : Int).toNat) [.string (a0.extract (a1 : Int).toNat ((ji29) : Int).toNat)] from rfl) (Reps.none _ _)))
   intro v107 w38 ho39 hb hg_ hnew_
   clear hg_ hnew_
   (first | rw [← Ny106.out] at ho39 | (simp only [Int.reduceToNat] at ho39; rw [← Ny106.out] at ho39))
   have HO108 := My.am (Kd.R_lower ho39 (below_size (My.bl_ HB)))
   replace HB := My.st HB hb
   clear hb ho39
   obtain ⟨Ao40, co40, eo40⟩ := Kd.R_slice HO108.out
   (first | subst eo40 | (injection eo40 with f1_ f2_ f3_; have f4_ := f1_.symm; have f5_ := f3_.symm; clear f1_ f2_ f3_; subst f4_; subst f5_))
   refine hK.out _ _ trivial (fun hHeld => ?_)
   clear hK K
   refine My.nm 86 ?_
   refine one_ (i := 5) (N := some 87) (My.Mb 13 4031) rfl rfl (one_of HT_.out (by kernel_rfl)) (by decide) (fun K hK => ?_)
   refine goes_ Tryz.func63 (by kernel_rfl) rfl #[.slice Ao40 y106.length co40] (by rfl) rfl rfl My.gx ?_
   with_reducible refine (seal_Sum.calls kj3 _ _ y106 t109 _ ?side1 ?side2 A27.out).mono ?_
   (case side1 => repeat (first | exact (Kd.R_reads' HO108.out).2.2 | (with_reducible refine Kd.C_alloc ?_ _) | (with_reducible refine Kd.C_drewN ?_ _) | (with_reducible refine Kd.C_drew ?_)))
   (case side2 => exact (Kd.R_reads' HO108.out).2.1)
   rintro e w41 ⟨rfl, hb⟩
   refine ⟨_, rfl, ?_⟩
   replace HO108 := My.am (Kd.R_below (My.dr HO108.out) hb)
   replace HB := My.st HB hb
   (try clear hb)
   (try clear hb2)
   (try clear hk)
   (try clear hi)
   refine hK.out _ _ trivial (fun hHeld => ?_)
   clear hK K
   refine My.nm 87 ?_
   refine one_ (i := 6) (N := some 88) (My.Mb 13 4095) rfl rfl (one_of HT_.out (by kernel_rfl)) (by decide) (fun K hK => ?_)
   refine goes_ Tryz.func62 (by kernel_rfl) rfl #[.int .u64 t109] (by rfl) rfl rfl My.gx ?_
   with_reducible refine (seal_eight.calls t109 t110 _ A28.out).mono ?_
   rintro e w42 ⟨rfl, hb⟩
   refine ⟨_, rfl, ?_⟩
   replace HO108 := My.am (Kd.R_below (My.dr HO108.out) hb)
   replace HB := My.st HB hb
   (try clear hb)
   (try clear hb2)
   (try clear hk)
   (try clear hi)
   refine hK.out _ _ trivial (fun hHeld => ?_)
   clear hK K
   refine My.nm 88 ?_
   refine My.pu_ 12 94 13 HT_.out ?_
   refine done_ (done_of HT_.out (by kernel_rfl)) ?_
   try go_wp2
   go_ret3
   exact ⟨by first | rfl | (simp [errW_none, errW_some] <;> rfl) | (simp only [← hji15, ← hji29]; first | rfl | (simp [errW_none, errW_some] <;> rfl)) | (simp [*, errW_none, errW_some] <;> rfl), (My.bl_ HB)⟩
-- NOT PRINTED: function 81 (seal_frames_1)

-- NOT PRINTED: function 64 (seal_frames)

end Go.Proofs.YtkcpgaplpmbmoaaGreat.PA
