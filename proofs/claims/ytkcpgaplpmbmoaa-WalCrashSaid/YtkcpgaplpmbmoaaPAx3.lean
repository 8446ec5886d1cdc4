-- Written by a program of this session (wip/tools/mp.py over the kit's printer); Lean checks it.
import Derived.Test.YtkcpgaplpmbmoaaPAx0
import Derived.Test.YtkcpgaplpmbmoaaPAx1
import Derived.Test.YtkcpgaplpmbmoaaPAx2
namespace Go.Proofs.Ytkcpgaplpmbmoaa.PA
open Go.RowKit Go.Proofs.YtkcpgaplpmbmoaaW.PrintWords Go.Proofs.YtkcpgaplpmbmoaaW.PrintLast Go.Proofs.YtkcpgaplpmbmoaaW.PrintMore
attribute [local go_sem] max2_int min2_int max_two min_two max_three min_three max_four min_four   -- for this text's walks alone
set_option linter.unusedVariables false
set_option linter.unusedSimpArgs false

/-! ### seal_Open: function 49 -/
def seal_Open.j0 : Nat → ByteArray → Int → Int → Bool → Option (ByteArray × Int × Int)
  | 0, _, _, _, _ => none
  | k + 1, x0, x1, x2, x13 => if x13 = true then (some ((⟨#[]⟩ : ByteArray), 0, 2)) else (if x1 = (x0.size : Int) then (some ((⟨#[]⟩ : ByteArray), 0, 10)) else (if 0 ≤ x1 then (if x1 < (x0.size : Int) then (if (bt x0 x1) = 231 then (if (wrap64 (x1 + 1)) = (x0.size : Int) then (some ((⟨#[]⟩ : ByteArray), 0, 10)) else (if 0 ≤ (wrap64 (x1 + 1)) then (if (wrap64 (x1 + 1)) < (x0.size : Int) then (if (wrap64 (bt x0 (wrap64 (x1 + 1)))) = x2 then ((pack_TakeNumber.f k x0 (wrap64 (x1 + 2))).bind fun bt127 => (if bt127.2.2 = 0 then (if bt127.1 > 30000 then (some ((⟨#[]⟩ : ByteArray), 0, 3)) else (if (wrap64 ((wrap64 (bt127.1)) + 8)) > (wrap64 ((x0.size : Int) - bt127.2.1)) then (some ((⟨#[]⟩ : ByteArray), 0, 10)) else (if x1 ≤ (wrap64 (bt127.2.1 + (wrap64 (bt127.1)))) then (if (wrap64 (bt127.2.1 + (wrap64 (bt127.1)))) ≤ (x0.size : Int) then ((seal_Sum.f k (([x0.extract (x1 : Int).toNat ((wrap64 (bt127.2.1 + (wrap64 (bt127.1)))) : Int).toNat] : List ByteArray))).bind fun t133 => ((seal_eight.f t133).bind fun t134 => (if 0 ≤ (wrap64 (bt127.2.1 + (wrap64 (bt127.1)))) then (if (wrap64 (bt127.2.1 + (wrap64 (bt127.1)))) ≤ (wrap64 ((wrap64 (bt127.2.1 + (wrap64 (bt127.1)))) + 8)) then (if (wrap64 ((wrap64 (bt127.2.1 + (wrap64 (bt127.1)))) + 8)) ≤ (x0.size : Int) then (if t134.toList = (x0.extract ((wrap64 (bt127.2.1 + (wrap64 (bt127.1)))) : Int).toNat ((wrap64 ((wrap64 (bt127.2.1 + (wrap64 (bt127.1)))) + 8)) : Int).toNat).toList then (if 0 ≤ bt127.2.1 then (if bt127.2.1 ≤ (wrap64 (bt127.2.1 + (wrap64 (bt127.1)))) then (some (x0.extract (bt127.2.1 : Int).toNat ((wrap64 (bt127.2.1 + (wrap64 (bt127.1)))) : Int).toNat, wrap64 ((wrap64 (bt127.2.1 + (wrap64 (bt127.1)))) + 8), 0)) else (none)) else (none)) else (some ((⟨#[]⟩ : ByteArray), 0, 22))) else (none)) else (none)) else (none)))) else (none)) else (none)))) else (some ((⟨#[]⟩ : ByteArray), 0, bt127.2.2)))) else (some ((⟨#[]⟩ : ByteArray), 0, 21))) else (none)) else (none))) else (some ((⟨#[]⟩ : ByteArray), 0, 20))) else (none)) else (none)))
def seal_Open.f (k : Nat) (a0 : ByteArray) (a1 : Int) (a2 : Int) : Option (ByteArray × Int × Int) := if a1 < 0 then (seal_Open.j0 k a0 a1 a2 true) else (if a1 > (a0.size : Int) then (seal_Open.j0 k a0 a1 a2 true) else (if a2 < 0 then (seal_Open.j0 k a0 a1 a2 true) else (seal_Open.j0 k a0 a1 a2 (decide (a2 > 255)))))
theorem seal_Open.mono_l : ∀ k, (∀ y0 y1 y2 y3, LeO (seal_Open.j0 k y0 y1 y2 y3) (seal_Open.j0 (k + 1) y0 y1 y2 y3))
  | 0 => fun _ _ _ _ r h => by simp [seal_Open.j0] at h
  | k + 1 => by
    have ih0 := seal_Open.mono_l k
    · intro y0 y1 y2 y3
      unfold seal_Open.j0
      repeat' first
      | (with_reducible exact ih0 _ _ _ _)
      | (with_reducible exact pack_TakeNumber.mono _ _ _)
      | (with_reducible exact seal_Sum.mono _ _)
      | (with_reducible exact LeO.refl _)
      | (with_reducible exact LeO.none _)
      | (with_reducible refine LeO.ite ?_ ?_)
      | (with_reducible refine LeO.bind ?_ (fun _ => ?_))
      | exact ih0 _ _ _ _
      | exact pack_TakeNumber.mono _ _ _
      | exact seal_Sum.mono _ _
      | exact LeO.none _
      | refine LeO.ite ?_ ?_
      | refine LeO.bind ?_ (fun _ => ?_)
theorem seal_Open.mono : ∀ a0 a1 a2 k, LeO (seal_Open.f k a0 a1 a2) (seal_Open.f (k + 1) a0 a1 a2) := by
  intro a0 a1 a2 k
  have ih0 := seal_Open.mono_l k
  unfold seal_Open.f
  repeat' first
      | (with_reducible exact ih0 _ _ _ _)
      | (with_reducible exact pack_TakeNumber.mono _ _ _)
      | (with_reducible exact seal_Sum.mono _ _)
      | (with_reducible exact LeO.refl _)
      | (with_reducible exact LeO.none _)
      | (with_reducible refine LeO.ite ?_ ?_)
      | (with_reducible refine LeO.bind ?_ (fun _ => ?_))
      | exact ih0 _ _ _ _
      | exact pack_TakeNumber.mono _ _ _
      | exact seal_Sum.mono _ _
      | exact LeO.none _
      | refine LeO.ite ?_ ?_
      | refine LeO.bind ?_ (fun _ => ?_)
def seal_Open.T19 : Bool × List (List Nat × List Nat) := (true, [([], []), ([], []), ([], []), ([0, 1, 2], [0, 1, 2]), ([3], [3]), ([4], [4]), ([5, 5], [5]), ([], []), ([], []), ([], []), ([9], [9]), ([7, 8, 10], [7, 8, 10]), ([6, 11], [6, 11])])
def seal_Open.B19 : List Nat := [0, 0, 0, 7, 15, 31, 63, 0, 0, 0, 512, 1920, 4095]
theorem seal_Open.tab19 : rtab .any (opsOf Try.f49 19) = seal_Open.T19 := by kernel_rfl
theorem seal_Open.bits19 : waitsOk seal_Open.T19.2 seal_Open.B19 = true := by kernel_rfl
set_option maxHeartbeats 8000000 in
set_option maxRecDepth 100000 in
theorem seal_Open.calls (k : Nat) (a0 : ByteArray) (a1 : Int) (a2 : Int) (r1 : ByteArray) (r2 : Int) (r3 : Int) (w : World) (h : seal_Open.f k a0 a1 a2 = some (r1, r2, r3)) :
    Calls Try.prog 49 #[.string a0, .int .i64 a1, .int .i64 a2] w fun e w' => e = .returned (.tuple #[.string r1, .int .i64 r2, .int .i64 r3]) ∧ Below w.heap.size w w' := by
  have HB := Aside0.mk (Below.refl w.heap.size w)
  have H : (if a1 < 0 then (seal_Open.j0 k a0 a1 a2 true) else (if a1 > (a0.size : Int) then (seal_Open.j0 k a0 a1 a2 true) else (if a2 < 0 then (seal_Open.j0 k a0 a1 a2 true) else (seal_Open.j0 k a0 a1 a2 (decide (a2 > 255)))))) = some (r1, r2, r3) := h
  clear h
  have HC4 := Aside0.mk H
  clear H
  go_enter Try.func49, Try.ntmps49
  go_upto_region 1 with (fail)
  go_cut [13] (fun v13 wc => ∃ (kq : Nat) (x13_3 : Bool), v13 = .bool x13_3 ∧ Aside0 (seal_Open.j0 kq a0 a1 a2 x13_3 = some (r1, r2, r3)) ∧ Aside0 (kq ≤ k) ∧ Aside0 (Below w.heap.size w wc))
  case first =>
    have H := HC4.out
    clear HC4
    by_cases c5 : a1 < 0
    · rw [if_pos c5] at H
      have c5b0 : decide (a1 < 0) = true := decide_eq_true c5
      clear c5
      (first | rw [c5b0] | (simp only [i64_w, i32_w]; rw [c5b0]) | skip)
      have H' := Aside0.mk H
      clear H
      go_wp2
      go_meet
      case rel => exact ⟨_, (true), (by first | rfl | (simp; done) | (simp [*]; done)), H', ⟨by first | omega | exact Nat.le_refl _⟩, ⟨by repeat (first | (with_reducible first | exact HB.out | apply below_alloc | apply pw_below_drewN | apply below_drew1) | exact HB.out)⟩⟩
    · rw [if_neg c5] at H
      have c5b0 : decide (a1 < 0) = false := decide_eq_false c5
      clear c5
      (first | rw [c5b0] | (simp only [i64_w, i32_w]; rw [c5b0]) | skip)
      by_cases c6 : a1 > (a0.size : Int)
      · rw [if_pos c6] at H
        have c6b0 : decide ((a0.size : Int) < a1) = true := decide_eq_true c6
        clear c6
        have H' := Aside0.mk H
        clear H
        go_wp2
        go_meet
        case rel => exact ⟨_, (true), (by first | rfl | (simp; done) | (simp [*]; done)), H', ⟨by first | omega | exact Nat.le_refl _⟩, ⟨by repeat (first | (with_reducible first | exact HB.out | apply below_alloc | apply pw_below_drewN | apply below_drew1) | exact HB.out)⟩⟩
      · rw [if_neg c6] at H
        have c6b0 : decide ((a0.size : Int) < a1) = false := decide_eq_false c6
        clear c6
        by_cases c7 : a2 < 0
        · rw [if_pos c7] at H
          have c7b0 : decide (a2 < 0) = true := decide_eq_true c7
          clear c7
          have H' := Aside0.mk H
          clear H
          go_wp2
          go_meet
          case rel => exact ⟨_, (true), (by first | rfl | (simp; done) | (simp [*]; done)), H', ⟨by first | omega | exact Nat.le_refl _⟩, ⟨by repeat (first | (with_reducible first | exact HB.out | apply below_alloc | apply pw_below_drewN | apply below_drew1) | exact HB.out)⟩⟩
        · rw [if_neg c7] at H
          have c7b0 : decide (a2 < 0) = false := decide_eq_false c7
          clear c7
          have H' := Aside0.mk H
          clear H
          go_wp2
          go_meet
          case rel => exact ⟨_, (decide (a2 > 255)), (by first | rfl | (simp; done) | (simp [*]; done)), H', ⟨by first | omega | exact Nat.le_refl _⟩, ⟨by repeat (first | (with_reducible first | exact HB.out | apply below_alloc | apply pw_below_drewN | apply below_drew1) | exact HB.out)⟩⟩
  case rest =>
    clear HC4
    try clear p2
    try clear c4
    try clear c5
    try clear c5b0
    try clear c6
    try clear c6b0
    try clear c7
    try clear c7b0
    obtain ⟨kq, x13_3, rfl, HA, HJ3, HB⟩ := hcut
    cases kq with
    | zero => exact absurd HA.out (by simp [seal_Open.j0])
    | succ kj3 =>
      have H := HA.out
      clear HA
      simp only [seal_Open.j0] at H
      by_cases c8 : x13_3 = true
      · subst c8
        have H1 : (some ((⟨#[]⟩ : ByteArray), 0, 2)) = some (r1, r2, r3) := by rw [if_pos rfl] at H; exact H
        clear H
        have H := H1
        clear H1
        simp only [Option.some.injEq, Prod.mk.injEq] at H
        obtain ⟨rfl, rfl, rfl⟩ := H
        go_wp2
        go_ret3
        exact ⟨by first | rfl | (simp [errW_none, errW_some] <;> rfl) | (simp [*, errW_none, errW_some] <;> rfl), by repeat (first | (with_reducible first | exact HB.out | apply below_alloc | apply pw_below_drewN | apply below_drew1) | exact HB.out)⟩
      · replace c8 := Bool.eq_false_iff.mpr c8
        subst c8
        have H1 : (if a1 = (a0.size : Int) then (some ((⟨#[]⟩ : ByteArray), 0, 10)) else (if 0 ≤ a1 then (if a1 < (a0.size : Int) then (if (bt a0 a1) = 231 then (if (wrap64 (a1 + 1)) = (a0.size : Int) then (some ((⟨#[]⟩ : ByteArray), 0, 10)) else (if 0 ≤ (wrap64 (a1 + 1)) then (if (wrap64 (a1 + 1)) < (a0.size : Int) then (if (wrap64 (bt a0 (wrap64 (a1 + 1)))) = a2 then ((pack_TakeNumber.f kj3 a0 (wrap64 (a1 + 2))).bind fun bt127 => (if bt127.2.2 = 0 then (if bt127.1 > 30000 then (some ((⟨#[]⟩ : ByteArray), 0, 3)) else (if (wrap64 ((wrap64 (bt127.1)) + 8)) > (wrap64 ((a0.size : Int) - bt127.2.1)) then (some ((⟨#[]⟩ : ByteArray), 0, 10)) else (if a1 ≤ (wrap64 (bt127.2.1 + (wrap64 (bt127.1)))) then (if (wrap64 (bt127.2.1 + (wrap64 (bt127.1)))) ≤ (a0.size : Int) then ((seal_Sum.f kj3 (([a0.extract (a1 : Int).toNat ((wrap64 (bt127.2.1 + (wrap64 (bt127.1)))) : Int).toNat] : List ByteArray))).bind fun t133 => ((seal_eight.f t133).bind fun t134 => (if 0 ≤ (wrap64 (bt127.2.1 + (wrap64 (bt127.1)))) then (if (wrap64 (bt127.2.1 + (wrap64 (bt127.1)))) ≤ (wrap64 ((wrap64 (bt127.2.1 + (wrap64 (bt127.1)))) + 8)) then (if (wrap64 ((wrap64 (bt127.2.1 + (wrap64 (bt127.1)))) + 8)) ≤ (a0.size : Int) then (if t134.toList = (a0.extract ((wrap64 (bt127.2.1 + (wrap64 (bt127.1)))) : Int).toNat ((wrap64 ((wrap64 (bt127.2.1 + (wrap64 (bt127.1)))) + 8)) : Int).toNat).toList then (if 0 ≤ bt127.2.1 then (if bt127.2.1 ≤ (wrap64 (bt127.2.1 + (wrap64 (bt127.1)))) then (some (a0.extract (bt127.2.1 : Int).toNat ((wrap64 (bt127.2.1 + (wrap64 (bt127.1)))) : Int).toNat, wrap64 ((wrap64 (bt127.2.1 + (wrap64 (bt127.1)))) + 8), 0)) else (none)) else (none)) else (some ((⟨#[]⟩ : ByteArray), 0, 22))) else (none)) else (none)) else (none)))) else (none)) else (none)))) else (some ((⟨#[]⟩ : ByteArray), 0, bt127.2.2)))) else (some ((⟨#[]⟩ : ByteArray), 0, 21))) else (none)) else (none))) else (some ((⟨#[]⟩ : ByteArray), 0, 20))) else (none)) else (none))) = some (r1, r2, r3) := by rw [if_neg (show ¬ (false = true) by decide)] at H; exact H
        clear H
        have H := H1
        clear H1
        by_cases c9 : a1 = (a0.size : Int)
        · rw [if_pos c9] at H
          have c9b0 : (a1 == (a0.size : Int)) = true := beq_iff_eq.mpr c9
          have c9b1 : (a1 != (a0.size : Int)) = false := bne_eq_false_iff_eq.mpr c9
          clear c9
          simp only [Option.some.injEq, Prod.mk.injEq] at H
          obtain ⟨rfl, rfl, rfl⟩ := H
          go_wp2
          go_ret3
          exact ⟨by first | rfl | (simp [errW_none, errW_some] <;> rfl) | (simp [*, errW_none, errW_some] <;> rfl), by repeat (first | (with_reducible first | exact HB.out | apply below_alloc | apply pw_below_drewN | apply below_drew1) | exact HB.out)⟩
        · rw [if_neg c9] at H
          have c9b0 : (a1 == (a0.size : Int)) = false := beq_eq_false_iff_ne.mpr c9
          have c9b1 : (a1 != (a0.size : Int)) = true := bne_iff_ne.mpr c9
          by_cases c10 : 0 ≤ a1
          · rw [if_pos c10] at H
            have c10b0 : decide (0 ≤ a1) = true := decide_eq_true c10
            clear c10
            by_cases c11 : a1 < (a0.size : Int)
            · rw [if_pos c11] at H
              have c11b0 : decide (a1 < (a0.size : Int)) = true := decide_eq_true c11
              clear c11
              by_cases c13 : (bt a0 a1) = 231
              · rw [if_pos c13] at H
                have c13b0 : ((bt a0 a1) == 231) = true := beq_iff_eq.mpr c13
                have c13b1 : ((bt a0 a1) != 231) = false := bne_eq_false_iff_eq.mpr c13
                clear c13
                by_cases c14 : (wrap64 (a1 + 1)) = (a0.size : Int)
                · rw [if_pos c14] at H
                  have c14b0 : ((wrap64 (a1 + 1)) == (a0.size : Int)) = true := beq_iff_eq.mpr c14
                  have c14b1 : ((wrap64 (a1 + 1)) != (a0.size : Int)) = false := bne_eq_false_iff_eq.mpr c14
                  clear c14
                  simp only [Option.some.injEq, Prod.mk.injEq] at H
                  obtain ⟨rfl, rfl, rfl⟩ := H
                  have p12 : 0 ≤ (a1 : Int) := of_decide_eq_true (by first | (with_reducible assumption) | assumption)
                  have q12 : a1 < (a0.size : Int) := of_decide_eq_true (by first | (with_reducible assumption) | assumption)
                  have hx12 := bt_at a0 a1
                  replace p12 := eq_true p12
                  replace q12 := eq_true q12
                  go_wp2
                  go_ret3
                  exact ⟨by first | rfl | (simp [errW_none, errW_some] <;> rfl) | (simp [*, errW_none, errW_some] <;> rfl), by repeat (first | (with_reducible first | exact HB.out | apply below_alloc | apply pw_below_drewN | apply below_drew1) | exact HB.out)⟩
                · rw [if_neg c14] at H
                  have c14b0 : ((wrap64 (a1 + 1)) == (a0.size : Int)) = false := beq_eq_false_iff_ne.mpr c14
                  have c14b1 : ((wrap64 (a1 + 1)) != (a0.size : Int)) = true := bne_iff_ne.mpr c14
                  obtain ⟨ji15, hji15⟩ : ∃ j_ : Int, (wrap64 (a1 + 1)) = j_ := ⟨_, rfl⟩
                  replace H : (if 0 ≤ (ji15) then (if (ji15) < (a0.size : Int) then (if (wrap64 (bt a0 (ji15))) = a2 then ((pack_TakeNumber.f kj3 a0 (wrap64 (a1 + 2))).bind fun bt127 => (if bt127.2.2 = 0 then (if bt127.1 > 30000 then (some ((⟨#[]⟩ : ByteArray), 0, 3)) else (if (wrap64 ((wrap64 (bt127.1)) + 8)) > (wrap64 ((a0.size : Int) - bt127.2.1)) then (some ((⟨#[]⟩ : ByteArray), 0, 10)) else (if a1 ≤ (wrap64 (bt127.2.1 + (wrap64 (bt127.1)))) then (if (wrap64 (bt127.2.1 + (wrap64 (bt127.1)))) ≤ (a0.size : Int) then ((seal_Sum.f kj3 (([a0.extract (a1 : Int).toNat ((wrap64 (bt127.2.1 + (wrap64 (bt127.1)))) : Int).toNat] : List ByteArray))).bind fun t133 => ((seal_eight.f t133).bind fun t134 => (if 0 ≤ (wrap64 (bt127.2.1 + (wrap64 (bt127.1)))) then (if (wrap64 (bt127.2.1 + (wrap64 (bt127.1)))) ≤ (wrap64 ((wrap64 (bt127.2.1 + (wrap64 (bt127.1)))) + 8)) then (if (wrap64 ((wrap64 (bt127.2.1 + (wrap64 (bt127.1)))) + 8)) ≤ (a0.size : Int) then (if t134.toList = (a0.extract ((wrap64 (bt127.2.1 + (wrap64 (bt127.1)))) : Int).toNat ((wrap64 ((wrap64 (bt127.2.1 + (wrap64 (bt127.1)))) + 8)) : Int).toNat).toList then (if 0 ≤ bt127.2.1 then (if bt127.2.1 ≤ (wrap64 (bt127.2.1 + (wrap64 (bt127.1)))) then (some (a0.extract (bt127.2.1 : Int).toNat ((wrap64 (bt127.2.1 + (wrap64 (bt127.1)))) : Int).toNat, wrap64 ((wrap64 (bt127.2.1 + (wrap64 (bt127.1)))) + 8), 0)) else (none)) else (none)) else (some ((⟨#[]⟩ : ByteArray), 0, 22))) else (none)) else (none)) else (none)))) else (none)) else (none)))) else (some ((⟨#[]⟩ : ByteArray), 0, bt127.2.2)))) else (some ((⟨#[]⟩ : ByteArray), 0, 21))) else (none)) else (none)) = some (r1, r2, r3) := by first | (rw [hji15] at H; exact H) | (simp only [hji15] at H ⊢; exact H)
                  (try rw [hji15] at c14b0)
                  (try rw [hji15] at c14b1)
                  have hji15w : (IntKind.i64.wrap (a1 + 1)) = ji15 := (i64_w _).trans hji15
                  by_cases c16 : 0 ≤ (ji15)
                  · rw [if_pos c16] at H
                    have c16b0 : decide (0 ≤ (ji15)) = true := decide_eq_true c16
                    clear c16
                    by_cases c17 : (ji15) < (a0.size : Int)
                    · rw [if_pos c17] at H
                      have c17b0 : decide ((ji15) < (a0.size : Int)) = true := decide_eq_true c17
                      clear c17
                      by_cases c19 : (wrap64 (bt a0 (ji15))) = a2
                      · rw [if_pos c19] at H
                        have c19b0 : ((wrap64 (bt a0 (ji15))) == a2) = true := beq_iff_eq.mpr c19
                        have c19b1 : ((wrap64 (bt a0 (ji15))) != a2) = false := bne_eq_false_iff_eq.mpr c19
                        clear c19
                        replace H := Option.bind_eq_some_iff.mp H
                        obtain ⟨⟨t127, t128, t129⟩, A200, H⟩ := H
                        replace H : (if t129 = 0 then (if t127 > 30000 then (some ((⟨#[]⟩ : ByteArray), 0, 3)) else (if (wrap64 ((wrap64 (t127)) + 8)) > (wrap64 ((a0.size : Int) - t128)) then (some ((⟨#[]⟩ : ByteArray), 0, 10)) else (if a1 ≤ (wrap64 (t128 + (wrap64 (t127)))) then (if (wrap64 (t128 + (wrap64 (t127)))) ≤ (a0.size : Int) then ((seal_Sum.f kj3 (([a0.extract (a1 : Int).toNat ((wrap64 (t128 + (wrap64 (t127)))) : Int).toNat] : List ByteArray))).bind fun t133 => ((seal_eight.f t133).bind fun t134 => (if 0 ≤ (wrap64 (t128 + (wrap64 (t127)))) then (if (wrap64 (t128 + (wrap64 (t127)))) ≤ (wrap64 ((wrap64 (t128 + (wrap64 (t127)))) + 8)) then (if (wrap64 ((wrap64 (t128 + (wrap64 (t127)))) + 8)) ≤ (a0.size : Int) then (if t134.toList = (a0.extract ((wrap64 (t128 + (wrap64 (t127)))) : Int).toNat ((wrap64 ((wrap64 (t128 + (wrap64 (t127)))) + 8)) : Int).toNat).toList then (if 0 ≤ t128 then (if t128 ≤ (wrap64 (t128 + (wrap64 (t127)))) then (some (a0.extract (t128 : Int).toNat ((wrap64 (t128 + (wrap64 (t127)))) : Int).toNat, wrap64 ((wrap64 (t128 + (wrap64 (t127)))) + 8), 0)) else (none)) else (none)) else (some ((⟨#[]⟩ : ByteArray), 0, 22))) else (none)) else (none)) else (none)))) else (none)) else (none)))) else (some ((⟨#[]⟩ : ByteArray), 0, t129))) = some (r1, r2, r3) := H
                        have A20 := Aside0.mk A200
                        clear A200
                        by_cases c21 : t129 = 0
                        · rw [if_pos c21] at H
                          have c21b0 : (t129 == 0) = true := beq_iff_eq.mpr c21
                          have c21b1 : (t129 != 0) = false := bne_eq_false_iff_eq.mpr c21
                          clear c21
                          by_cases c22 : t127 > 30000
                          · rw [if_pos c22] at H
                            have c22b0 : decide (30000 < t127) = true := decide_eq_true c22
                            clear c22
                            simp only [Option.some.injEq, Prod.mk.injEq] at H
                            obtain ⟨rfl, rfl, rfl⟩ := H
                            have p12 : 0 ≤ (a1 : Int) := of_decide_eq_true (by first | (with_reducible assumption) | assumption)
                            have q12 : a1 < (a0.size : Int) := of_decide_eq_true (by first | (with_reducible assumption) | assumption)
                            have hx12 := bt_at a0 a1
                            replace p12 := eq_true p12
                            replace q12 := eq_true q12
                            have p18 : 0 ≤ ((ji15) : Int) := of_decide_eq_true (by first | (with_reducible assumption) | assumption)
                            have q18 : (ji15) < (a0.size : Int) := of_decide_eq_true (by first | (with_reducible assumption) | assumption)
                            have hx18 := bt_at a0 (ji15)
                            replace p18 := eq_true p18
                            replace q18 := eq_true q18
                            go_wp2_with (first | ((with_reducible refine gate_callee (f := 65) rfl ?_); refine goesL_ (some 58) rfl rfl Try.func65 (by kernel_rfl) rfl #[.string a0, .int .i64 (wrap64 (a1 + 2))] rfl (by (try simp only [List.map_toArray, List.map_cons, List.map_nil]); first | done | rfl | (simp only [List.length_drop, List.length_take]; rfl)) ?_; (with_reducible refine (pack_TakeNumber.calls kj3 a0 (wrap64 (a1 + 2)) t127 t128 t129 _ A20.out).mono ?_); rintro e w' ⟨rfl, ⟨nd, rfl⟩⟩; refine ⟨_, rfl, ?_⟩))
                            go_ret3
                            exact ⟨by first | rfl | (simp [errW_none, errW_some] <;> rfl) | (simp only [← hji15]; first | rfl | (simp [errW_none, errW_some] <;> rfl)) | (simp [*, errW_none, errW_some] <;> rfl), by repeat (first | (with_reducible first | exact HB.out | apply below_alloc | apply pw_below_drewN | apply below_drew1) | exact HB.out)⟩
                          · rw [if_neg c22] at H
                            have c22b0 : decide (30000 < t127) = false := decide_eq_false c22
                            clear c22
                            by_cases c23 : (wrap64 ((wrap64 (t127)) + 8)) > (wrap64 ((a0.size : Int) - t128))
                            · rw [if_pos c23] at H
                              have c23b0 : decide ((wrap64 ((a0.size : Int) - t128)) < (wrap64 ((wrap64 (t127)) + 8))) = true := decide_eq_true c23
                              clear c23
                              simp only [Option.some.injEq, Prod.mk.injEq] at H
                              obtain ⟨rfl, rfl, rfl⟩ := H
                              have p12 : 0 ≤ (a1 : Int) := of_decide_eq_true (by first | (with_reducible assumption) | assumption)
                              have q12 : a1 < (a0.size : Int) := of_decide_eq_true (by first | (with_reducible assumption) | assumption)
                              have hx12 := bt_at a0 a1
                              replace p12 := eq_true p12
                              replace q12 := eq_true q12
                              have p18 : 0 ≤ ((ji15) : Int) := of_decide_eq_true (by first | (with_reducible assumption) | assumption)
                              have q18 : (ji15) < (a0.size : Int) := of_decide_eq_true (by first | (with_reducible assumption) | assumption)
                              have hx18 := bt_at a0 (ji15)
                              replace p18 := eq_true p18
                              replace q18 := eq_true q18
                              go_wp2_with (first | ((with_reducible refine gate_callee (f := 65) rfl ?_); refine goesL_ (some 58) rfl rfl Try.func65 (by kernel_rfl) rfl #[.string a0, .int .i64 (wrap64 (a1 + 2))] rfl (by (try simp only [List.map_toArray, List.map_cons, List.map_nil]); first | done | rfl | (simp only [List.length_drop, List.length_take]; rfl)) ?_; (with_reducible refine (pack_TakeNumber.calls kj3 a0 (wrap64 (a1 + 2)) t127 t128 t129 _ A20.out).mono ?_); rintro e w' ⟨rfl, ⟨nd, rfl⟩⟩; refine ⟨_, rfl, ?_⟩))
                              go_ret3
                              exact ⟨by first | rfl | (simp [errW_none, errW_some] <;> rfl) | (simp only [← hji15]; first | rfl | (simp [errW_none, errW_some] <;> rfl)) | (simp [*, errW_none, errW_some] <;> rfl), by repeat (first | (with_reducible first | exact HB.out | apply below_alloc | apply pw_below_drewN | apply below_drew1) | exact HB.out)⟩
                            · rw [if_neg c23] at H
                              have c23b0 : decide ((wrap64 ((a0.size : Int) - t128)) < (wrap64 ((wrap64 (t127)) + 8))) = false := decide_eq_false c23
                              clear c23
                              have c24b0 := eq_true (of_decide_eq_true (by first | (with_reducible assumption) | assumption) : 0 ≤ a1)
                              by_cases c25 : a1 ≤ (wrap64 (t128 + (wrap64 (t127))))
                              · rw [if_pos c25] at H
                                have c25b0 := eq_true c25
                                have c25b1 : decide (a1 ≤ (wrap64 (t128 + (wrap64 (t127))))) = true := decide_eq_true c25
                                by_cases c26 : (wrap64 (t128 + (wrap64 (t127)))) ≤ (a0.size : Int)
                                · rw [if_pos c26] at H
                                  have c26b0 := eq_true c26
                                  have c26b1 : decide ((wrap64 (t128 + (wrap64 (t127)))) ≤ (a0.size : Int)) = true := decide_eq_true c26
                                  obtain ⟨y130, hy130⟩ : ∃ y_ : List ByteArray, y_ = (([a0.extract (a1 : Int).toNat ((wrap64 (t128 + (wrap64 (t127)))) : Int).toNat] : List ByteArray)) := ⟨_, rfl⟩
                                  replace H : ((seal_Sum.f kj3 y130).bind fun t133 => ((seal_eight.f t133).bind fun t134 => (if 0 ≤ (wrap64 (t128 + (wrap64 (t127)))) then (if (wrap64 (t128 + (wrap64 (t127)))) ≤ (wrap64 ((wrap64 (t128 + (wrap64 (t127)))) + 8)) then (if (wrap64 ((wrap64 (t128 + (wrap64 (t127)))) + 8)) ≤ (a0.size : Int) then (if t134.toList = (a0.extract ((wrap64 (t128 + (wrap64 (t127)))) : Int).toNat ((wrap64 ((wrap64 (t128 + (wrap64 (t127)))) + 8)) : Int).toNat).toList then (if 0 ≤ t128 then (if t128 ≤ (wrap64 (t128 + (wrap64 (t127)))) then (some (a0.extract (t128 : Int).toNat ((wrap64 (t128 + (wrap64 (t127)))) : Int).toNat, wrap64 ((wrap64 (t128 + (wrap64 (t127)))) + 8), 0)) else (none)) else (none)) else (some ((⟨#[]⟩ : ByteArray), 0, 22))) else (none)) else (none)) else (none)))) = some (r1, r2, r3) := by first | (rw [hy130]; with_reducible exact H) | (have H2_ := (Option.bind_some _ _).symm.trans H; rw [hy130]; with_reducible exact H2_) | (have H2_ := (Option.bind_some _ _).symm.trans H; with_reducible exact H2_) | with_reducible exact H | (rw [hy130]; exact H) | exact H
                                  have Ny130 := Aside0.mk hy130
                                  clear hy130
                                  replace H := Option.bind_eq_some_iff.mp H
                                  obtain ⟨t133, A270, H⟩ := H
                                  replace H : ((seal_eight.f t133).bind fun t134 => (if 0 ≤ (wrap64 (t128 + (wrap64 (t127)))) then (if (wrap64 (t128 + (wrap64 (t127)))) ≤ (wrap64 ((wrap64 (t128 + (wrap64 (t127)))) + 8)) then (if (wrap64 ((wrap64 (t128 + (wrap64 (t127)))) + 8)) ≤ (a0.size : Int) then (if t134.toList = (a0.extract ((wrap64 (t128 + (wrap64 (t127)))) : Int).toNat ((wrap64 ((wrap64 (t128 + (wrap64 (t127)))) + 8)) : Int).toNat).toList then (if 0 ≤ t128 then (if t128 ≤ (wrap64 (t128 + (wrap64 (t127)))) then (some (a0.extract (t128 : Int).toNat ((wrap64 (t128 + (wrap64 (t127)))) : Int).toNat, wrap64 ((wrap64 (t128 + (wrap64 (t127)))) + 8), 0)) else (none)) else (none)) else (some ((⟨#[]⟩ : ByteArray), 0, 22))) else (none)) else (none)) else (none))) = some (r1, r2, r3) := H
                                  have A27 := Aside0.mk A270
                                  clear A270
                                  replace H := Option.bind_eq_some_iff.mp H
                                  obtain ⟨t134, A280, H⟩ := H
                                  replace H : (if 0 ≤ (wrap64 (t128 + (wrap64 (t127)))) then (if (wrap64 (t128 + (wrap64 (t127)))) ≤ (wrap64 ((wrap64 (t128 + (wrap64 (t127)))) + 8)) then (if (wrap64 ((wrap64 (t128 + (wrap64 (t127)))) + 8)) ≤ (a0.size : Int) then (if t134.toList = (a0.extract ((wrap64 (t128 + (wrap64 (t127)))) : Int).toNat ((wrap64 ((wrap64 (t128 + (wrap64 (t127)))) + 8)) : Int).toNat).toList then (if 0 ≤ t128 then (if t128 ≤ (wrap64 (t128 + (wrap64 (t127)))) then (some (a0.extract (t128 : Int).toNat ((wrap64 (t128 + (wrap64 (t127)))) : Int).toNat, wrap64 ((wrap64 (t128 + (wrap64 (t127)))) + 8), 0)) else (none)) else (none)) else (some ((⟨#[]⟩ : ByteArray), 0, 22))) else (none)) else (none)) else (none)) = some (r1, r2, r3) := H
                                  have A28 := Aside0.mk A280
                                  clear A280
                                  obtain ⟨ji29, hji29⟩ : ∃ j_ : Int, (wrap64 (t128 + (wrap64 (t127)))) = j_ := ⟨_, rfl⟩
                                  replace H : (if 0 ≤ (ji29) then (if (ji29) ≤ (wrap64 ((ji29) + 8)) then (if (wrap64 ((ji29) + 8)) ≤ (a0.size : Int) then (if t134.toList = (a0.extract ((ji29) : Int).toNat ((wrap64 ((ji29) + 8)) : Int).toNat).toList then (if 0 ≤ t128 then (if t128 ≤ (ji29) then (some (a0.extract (t128 : Int).toNat ((ji29) : Int).toNat, wrap64 ((ji29) + 8), 0)) else (none)) else (none)) else (some ((⟨#[]⟩ : ByteArray), 0, 22))) else (none)) else (none)) else (none)) = some (r1, r2, r3) := by first | (rw [hji29] at H; exact H) | (simp only [hji29] at H ⊢; exact H)
                                  (try rw [hji29] at c25b0)
                                  (try rw [hji29] at c25b1)
                                  (try rw [hji29] at c25)
                                  (try rw [hji29] at c26b0)
                                  (try rw [hji29] at c26b1)
                                  (try rw [hji29] at c26)
                                  (try rw [hji29] at A20)
                                  (try rw [hji29] at Ny130)
                                  (try rw [hji29] at A27)
                                  (try rw [hji29] at A28)
                                  have hji29w : (IntKind.i64.wrap (t128 + (wrap64 (t127)))) = ji29 := (i64_w _).trans hji29
                                  by_cases c30 : 0 ≤ (ji29)
                                  · rw [if_pos c30] at H
                                    have c30b0 := eq_true c30
                                    have c30b1 : decide (0 ≤ (ji29)) = true := decide_eq_true c30
                                    clear c30
                                    by_cases c31 : (ji29) ≤ (wrap64 ((ji29) + 8))
                                    · rw [if_pos c31] at H
                                      have c31b0 := eq_true c31
                                      have c31b1 : decide ((ji29) ≤ (wrap64 ((ji29) + 8))) = true := decide_eq_true c31
                                      by_cases c32 : (wrap64 ((ji29) + 8)) ≤ (a0.size : Int)
                                      · rw [if_pos c32] at H
                                        have c32b0 := eq_true c32
                                        have c32b1 : decide ((wrap64 ((ji29) + 8)) ≤ (a0.size : Int)) = true := decide_eq_true c32
                                        by_cases c33 : t134.toList = (a0.extract ((ji29) : Int).toNat ((wrap64 ((ji29) + 8)) : Int).toNat).toList
                                        · rw [if_pos c33] at H
                                          have c33b0 : (t134.toList == (a0.extract ((ji29) : Int).toNat ((wrap64 ((ji29) + 8)) : Int).toNat).toList) = true := beq_iff_eq.mpr c33
                                          have c33b1 : (t134.toList != (a0.extract ((ji29) : Int).toNat ((wrap64 ((ji29) + 8)) : Int).toNat).toList) = false := bne_eq_false_iff_eq.mpr c33
                                          clear c33
                                          by_cases c34 : 0 ≤ t128
                                          · rw [if_pos c34] at H
                                            have c34b0 := eq_true c34
                                            have c34b1 : decide (0 ≤ t128) = true := decide_eq_true c34
                                            clear c34
                                            by_cases c35 : t128 ≤ (ji29)
                                            · rw [if_pos c35] at H
                                              have c35b0 := eq_true c35
                                              have c35b1 : decide (t128 ≤ (ji29)) = true := decide_eq_true c35
                                              clear c35
                                              have c36b0 := eq_true (of_decide_eq_true (by first | (with_reducible assumption) | assumption) : (ji29) ≤ (a0.size : Int))
                                              simp only [Option.some.injEq, Prod.mk.injEq] at H
                                              obtain ⟨rfl, rfl, rfl⟩ := H
                                              have p12 : 0 ≤ (a1 : Int) := of_decide_eq_true (by first | (with_reducible assumption) | assumption)
                                              have q12 : a1 < (a0.size : Int) := of_decide_eq_true (by first | (with_reducible assumption) | assumption)
                                              have hx12 := bt_at a0 a1
                                              replace p12 := eq_true p12
                                              replace q12 := eq_true q12
                                              have p18 : 0 ≤ ((ji15) : Int) := of_decide_eq_true (by first | (with_reducible assumption) | assumption)
                                              have q18 : (ji15) < (a0.size : Int) := of_decide_eq_true (by first | (with_reducible assumption) | assumption)
                                              have hx18 := bt_at a0 (ji15)
                                              replace p18 := eq_true p18
                                              replace q18 := eq_true q18
                                              try go_wp2_with (first | ((with_reducible refine gate_callee (f := 65) rfl ?_); refine goesL_ (some 58) rfl rfl Try.func65 (by kernel_rfl) rfl #[.string a0, .int .i64 (wrap64 (a1 + 2))] rfl (by (try simp only [List.map_toArray, List.map_cons, List.map_nil]); first | done | rfl | (simp only [List.length_drop, List.length_take]; rfl)) ?_; (with_reducible refine (pack_TakeNumber.calls kj3 a0 (wrap64 (a1 + 2)) t127 t128 t129 _ A20.out).mono ?_); rintro e w' ⟨rfl, ⟨nd, rfl⟩⟩; refine ⟨_, rfl, ?_⟩))
                                              (try (rw [drewN_self wc]; generalize hq_ : World.drewN wc _ = wc; have n0_ : Aside0 (Below w.heap.size w wc) := ⟨by rw [← hq_]; exact (by repeat (first | (with_reducible first | exact HB.out | apply below_alloc | apply pw_below_drewN | apply below_drew1) | exact HB.out))⟩; clear HB hq_; have HB := n0_; clear n0_))
                                              have n0_ := Aside0.mk (below_drew1 HB.out)
                                              clear HB
                                              have HB := n0_
                                              clear n0_
                                              refine start_ (n := 13) (S := fun w' => True) (ds := []) #[false, false, false, false, false, false, false, false, false, false, false, false, false] (by kernel_rfl) rfl rfl trivial (fun hHeld => ?_); refine with_tabW seal_Open.tab19 seal_Open.bits19 (fun HT_ HW_ => ?_)
                                              generalize wc.drew = w37 at HB hHeld ⊢
                                              refine pure_ (i := 0) (N := some 82) (v := ?_) (a' := ?_) #[true, false, false, false, false, false, false, false, false, false, false, false, false] rfl rfl (any_of HT_.out (by kernel_rfl)) (fun _ _ _ h => h) (Or.inl ⟨by rfl, ?_⟩) ?_ ?_
                                              rotate_left
                                              · intro w'
                                                go_simp
                                                with_reducible rfl
                                              rotate_left
                                              · simp only [Act.put, List.setIfInBounds_toArray, List.set_cons_zero, List.set_cons_succ, i64_w, i32_w]
                                                rfl
                                              refine pure_ (i := 1) (N := some 83) (v := ?_) (a' := ?_) #[true, true, false, false, false, false, false, false, false, false, false, false, false] rfl rfl (any_of HT_.out (by kernel_rfl)) (fun _ _ _ h => h) (Or.inl ⟨by rfl, ?_⟩) ?_ ?_
                                              rotate_left
                                              · intro w'
                                                go_simp
                                                with_reducible rfl
                                              rotate_left
                                              · simp only [Act.put, List.setIfInBounds_toArray, List.set_cons_zero, List.set_cons_succ, i64_w, i32_w]
                                                rfl
                                              refine pure_ (i := 2) (N := some 84) (v := ?_) (a' := ?_) #[true, true, true, false, false, false, false, false, false, false, false, false, false] rfl rfl (any_of HT_.out (by kernel_rfl)) (fun _ _ _ h => h) (Or.inl ⟨by rfl, ?_⟩) ?_ ?_
                                              rotate_left
                                              · intro w'
                                                go_simp
                                                with_reducible rfl
                                              rotate_left
                                              · simp only [Act.put, List.setIfInBounds_toArray, List.set_cons_zero, List.set_cons_succ, i64_w, i32_w]
                                                rfl
                                              refine pure_ (i := 3) (N := some 85) (v := ?_) (a' := ?_) #[true, true, true, true, false, false, false, false, false, false, false, false, false] rfl rfl (any_of HT_.out (by kernel_rfl)) (fun _ _ _ h => h) (Or.inl ⟨by rfl, ?_⟩) ?_ ?_
                                              rotate_left
                                              · intro w'
                                                go_simp
                                                with_reducible rfl
                                              rotate_left
                                              · simp only [Act.put, List.setIfInBounds_toArray, List.set_cons_zero, List.set_cons_succ, i64_w, i32_w]
                                                rfl
                                              refine pure_ (i := 7) (N := some 89) (v := ?_) (a' := ?_) #[true, true, true, true, false, false, false, true, false, false, false, false, false] rfl rfl (any_of HT_.out (by kernel_rfl)) (fun _ _ _ h => h) (Or.inl ⟨by rfl, ?_⟩) ?_ ?_
                                              rotate_left
                                              · intro w'
                                                go_simp
                                                with_reducible rfl
                                              rotate_left
                                              · simp only [Act.put, List.setIfInBounds_toArray, List.set_cons_zero, List.set_cons_succ, i64_w, i32_w]
                                                rfl
                                              refine pure_ (i := 8) (N := some 90) (v := ?_) (a' := ?_) #[true, true, true, true, false, false, false, true, true, false, false, false, false] rfl rfl (any_of HT_.out (by kernel_rfl)) (fun _ _ _ h => h) (Or.inl ⟨by rfl, ?_⟩) ?_ ?_
                                              rotate_left
                                              · intro w'
                                                go_simp
                                                with_reducible rfl
                                              rotate_left
                                              · simp only [Act.put, List.setIfInBounds_toArray, List.set_cons_zero, List.set_cons_succ, i64_w, i32_w]
                                                rfl
                                              refine pure_ (i := 9) (N := some 91) (v := ?_) (a' := ?_) #[true, true, true, true, false, false, false, true, true, true, false, false, false] rfl rfl (any_of HT_.out (by kernel_rfl)) (fun _ _ _ h => h) (Or.inl ⟨by rfl, ?_⟩) ?_ ?_
                                              rotate_left
                                              · intro w'
                                                go_simp
                                                with_reducible rfl
                                              rotate_left
                                              · simp only [Act.put, List.setIfInBounds_toArray, List.set_cons_zero, List.set_cons_succ, i64_w, i32_w]
                                                rfl
                                              refine pure_ (i := 10) (N := some 92) (v := ?_) (a' := ?_) #[true, true, true, true, false, false, false, true, true, true, true, false, false] rfl rfl (any_of HT_.out (by kernel_rfl)) (fun _ _ _ h => h) (Or.inl ⟨by rfl, ?_⟩) ?_ ?_
                                              rotate_left
                                              · intro w'
                                                go_simp
                                                with_reducible rfl
                                              rotate_left
                                              · simp only [Act.put, List.setIfInBounds_toArray, List.set_cons_zero, List.set_cons_succ, i64_w, i32_w]
                                                rfl
                                              refine pure_ (i := 11) (N := some 93) (v := ?_) (a' := ?_) #[true, true, true, true, false, false, false, true, true, true, true, true, false] rfl rfl (any_of HT_.out (by kernel_rfl)) (fun _ _ _ h => h) (Or.inl ⟨by rfl, ?_⟩) ?_ ?_
                                              rotate_left
                                              · intro w'
                                                go_simp
                                                with_reducible rfl
                                              rotate_left
                                              · simp only [Act.put, List.setIfInBounds_toArray, List.set_cons_zero, List.set_cons_succ, i64_w, i32_w]
                                                rfl
                                              refine one_ (i := 4) (N := some 86) #[true, true, true, true, true, false, false, true, true, true, true, true, false] rfl rfl (one_of HT_.out (by kernel_rfl)) (by decide) (fun K hK => ?_)
                                              refine Kd.R_lit_step Kd.string _ 9 ?hg (N := 86) ?hd (xs := ([a0.extract (a1 : Int).toNat ((ji29) : Int).toNat] : List ByteArray)) (inner := [.string (a0.extract (a1 : Int).toNat ((ji29) : Int).toNat)]) (ok := fun _ => True) (okp := fun _ => True) ?hr ?hp (fun _ hk => hk) trivial (Below.refl _ _) (Nat.le_refl _) (by simp) ?_; (case hd => rfl); (case hg => rfl); (case hr => first | (go_simp; done) | (go_simp; rfl)); (case hp => exact (Reps.one (show Kd.M Kd.string _ _ _ (a0.extract (a1 : Int).toNat ((ji29) : Int).toNat) [.string (a0.extract (a1 : Int).toNat ((ji29) : Int).toNat)] from rfl) (Reps.none _ _)))
                                              intro v131 w38 ho39 hb hg_ hnew_
                                              clear hg_ hnew_
                                              (first | rw [← Ny130.out] at ho39 | (simp only [Int.reduceToNat] at ho39; rw [← Ny130.out] at ho39))
                                              have n0_ := Aside0.mk (Kd.R_lower ho39 (below_size (by repeat (first | (with_reducible first | exact HB.out | apply below_alloc | apply pw_below_drewN | apply below_drew1) | exact HB.out))))
                                              have n1_ := Aside0.mk (below_step (by repeat (first | (with_reducible first | exact HB.out | apply below_alloc | apply pw_below_drewN | apply below_drew1) | exact HB.out)) hb)
                                              clear HB
                                              have HO132 := n0_
                                              have HB := n1_
                                              clear n0_ n1_
                                              clear hb ho39
                                              obtain ⟨Ao40, co40, eo40⟩ := Kd.R_slice HO132.out
                                              (first | subst eo40 | (injection eo40 with f1_ f2_ f3_; have f4_ := f1_.symm; have f5_ := f3_.symm; clear f1_ f2_ f3_; subst f4_; subst f5_))
                                              refine hK.out _ _ trivial (fun hHeld => ?_)
                                              clear hK K
                                              refine norm_ (a' := ?_) ?_ ?_
                                              rotate_left
                                              · show Act.put _ (some 86) _ = _
                                                simp only [Act.put, List.setIfInBounds_toArray, List.set_cons_zero, List.set_cons_succ, i64_w, i32_w]
                                                rfl
                                              refine one_ (i := 5) (N := some 87) #[true, true, true, true, true, true, false, true, true, true, true, true, false] rfl rfl (one_of HT_.out (by kernel_rfl)) (by decide) (fun K hK => ?_)
                                              refine goes_ Try.func59 (by kernel_rfl) rfl #[.slice Ao40 y130.length co40] (by rfl) rfl rfl (by (try simp only [List.map_toArray, List.map_cons, List.map_nil]); first | done | rfl | (simp only [List.length_drop, List.length_take]; rfl)) ?_
                                              with_reducible refine (seal_Sum.calls kj3 _ _ y130 t133 _ ?side1 ?side2 A27.out).mono ?_
                                              (case side1 => repeat (first | exact (Kd.R_reads' HO132.out).2.2 | (with_reducible refine Kd.C_alloc ?_ _) | (with_reducible refine Kd.C_drewN ?_ _) | (with_reducible refine Kd.C_drew ?_)))
                                              (case side2 => exact (Kd.R_reads' HO132.out).2.1)
                                              rintro e w41 ⟨rfl, hb⟩
                                              refine ⟨_, rfl, ?_⟩
                                              have n0_ := Aside0.mk (Kd.R_below (by (with_reducible repeat (first | apply Kd.R_alloc | apply Kd.R_drewN | apply Kd.R_drew)); exact HO132.out) hb)
                                              have n1_ := Aside0.mk (below_step (by repeat (first | (with_reducible first | exact HB.out | apply below_alloc | apply pw_below_drewN | apply below_drew1) | exact HB.out)) hb)
                                              clear HO132
                                              clear HB
                                              have HO132 := n0_
                                              have HB := n1_
                                              clear n0_ n1_
                                              (try clear hb)
                                              (try clear hb2)
                                              (try clear hk)
                                              (try clear hi)
                                              refine hK.out _ _ trivial (fun hHeld => ?_)
                                              clear hK K
                                              refine norm_ (a' := ?_) ?_ ?_
                                              rotate_left
                                              · show Act.put _ (some 87) _ = _
                                                simp only [Act.put, List.setIfInBounds_toArray, List.set_cons_zero, List.set_cons_succ, i64_w, i32_w]
                                                rfl
                                              refine one_ (i := 6) (N := some 88) #[true, true, true, true, true, true, true, true, true, true, true, true, false] rfl rfl (one_of HT_.out (by kernel_rfl)) (by decide) (fun K hK => ?_)
                                              refine goes_ Try.func58 (by kernel_rfl) rfl #[.int .u64 t133] (by rfl) rfl rfl (by (try simp only [List.map_toArray, List.map_cons, List.map_nil]); first | done | rfl | (simp only [List.length_drop, List.length_take]; rfl)) ?_
                                              with_reducible refine (seal_eight.calls t133 t134 _ A28.out).mono ?_
                                              rintro e w42 ⟨rfl, hb⟩
                                              refine ⟨_, rfl, ?_⟩
                                              have n0_ := Aside0.mk (Kd.R_below (by (with_reducible repeat (first | apply Kd.R_alloc | apply Kd.R_drewN | apply Kd.R_drew)); exact HO132.out) hb)
                                              have n1_ := Aside0.mk (below_step (by repeat (first | (with_reducible first | exact HB.out | apply below_alloc | apply pw_below_drewN | apply below_drew1) | exact HB.out)) hb)
                                              clear HO132
                                              clear HB
                                              have HO132 := n0_
                                              have HB := n1_
                                              clear n0_ n1_
                                              (try clear hb)
                                              (try clear hb2)
                                              (try clear hk)
                                              (try clear hi)
                                              refine hK.out _ _ trivial (fun hHeld => ?_)
                                              clear hK K
                                              refine norm_ (a' := ?_) ?_ ?_
                                              rotate_left
                                              · show Act.put _ (some 88) _ = _
                                                simp only [Act.put, List.setIfInBounds_toArray, List.set_cons_zero, List.set_cons_succ, i64_w, i32_w]
                                                rfl
                                              refine pure_ (i := 12) (N := some 94) (v := ?_) (a' := ?_) #[true, true, true, true, true, true, true, true, true, true, true, true, true] rfl rfl (any_of HT_.out (by kernel_rfl)) (fun _ _ _ h => h) (Or.inl ⟨by rfl, ?_⟩) ?_ ?_
                                              rotate_left
                                              · intro w'
                                                go_simp
                                                with_reducible rfl
                                              rotate_left
                                              · simp only [Act.put, List.setIfInBounds_toArray, List.set_cons_zero, List.set_cons_succ, i64_w, i32_w]
                                                rfl
                                              refine done_ (done_of HT_.out (by kernel_rfl)) ?_
                                              try go_wp2
                                              go_ret3
                                              exact ⟨by first | rfl | (simp [errW_none, errW_some] <;> rfl) | (simp only [← hji15, ← hji29]; first | rfl | (simp [errW_none, errW_some] <;> rfl)) | (simp [*, errW_none, errW_some] <;> rfl), by repeat (first | (with_reducible first | exact HB.out | apply below_alloc | apply pw_below_drewN | apply below_drew1) | exact HB.out)⟩
                                            · rw [if_neg c35] at H
                                              exact absurd H (by simp)
                                          · rw [if_neg c34] at H
                                            exact absurd H (by simp)
                                        · rw [if_neg c33] at H
                                          have c33b0 : (t134.toList == (a0.extract ((ji29) : Int).toNat ((wrap64 ((ji29) + 8)) : Int).toNat).toList) = false := beq_eq_false_iff_ne.mpr c33
                                          have c33b1 : (t134.toList != (a0.extract ((ji29) : Int).toNat ((wrap64 ((ji29) + 8)) : Int).toNat).toList) = true := bne_iff_ne.mpr c33
                                          simp only [Option.some.injEq, Prod.mk.injEq] at H
                                          obtain ⟨rfl, rfl, rfl⟩ := H
                                          have p12 : 0 ≤ (a1 : Int) := of_decide_eq_true (by first | (with_reducible assumption) | assumption)
                                          have q12 : a1 < (a0.size : Int) := of_decide_eq_true (by first | (with_reducible assumption) | assumption)
                                          have hx12 := bt_at a0 a1
                                          replace p12 := eq_true p12
                                          replace q12 := eq_true q12
                                          have p18 : 0 ≤ ((ji15) : Int) := of_decide_eq_true (by first | (with_reducible assumption) | assumption)
                                          have q18 : (ji15) < (a0.size : Int) := of_decide_eq_true (by first | (with_reducible assumption) | assumption)
                                          have hx18 := bt_at a0 (ji15)
                                          replace p18 := eq_true p18
                                          replace q18 := eq_true q18
                                          try go_wp2_with (first | ((with_reducible refine gate_callee (f := 65) rfl ?_); refine goesL_ (some 58) rfl rfl Try.func65 (by kernel_rfl) rfl #[.string a0, .int .i64 (wrap64 (a1 + 2))] rfl (by (try simp only [List.map_toArray, List.map_cons, List.map_nil]); first | done | rfl | (simp only [List.length_drop, List.length_take]; rfl)) ?_; (with_reducible refine (pack_TakeNumber.calls kj3 a0 (wrap64 (a1 + 2)) t127 t128 t129 _ A20.out).mono ?_); rintro e w' ⟨rfl, ⟨nd, rfl⟩⟩; refine ⟨_, rfl, ?_⟩))
                                          (try (rw [drewN_self wc]; generalize hq_ : World.drewN wc _ = wc; have n0_ : Aside0 (Below w.heap.size w wc) := ⟨by rw [← hq_]; exact (by repeat (first | (with_reducible first | exact HB.out | apply below_alloc | apply pw_below_drewN | apply below_drew1) | exact HB.out))⟩; clear HB hq_; have HB := n0_; clear n0_))
                                          have n0_ := Aside0.mk (below_drew1 HB.out)
                                          clear HB
                                          have HB := n0_
                                          clear n0_
                                          refine start_ (n := 13) (S := fun w' => True) (ds := []) #[false, false, false, false, false, false, false, false, false, false, false, false, false] (by kernel_rfl) rfl rfl trivial (fun hHeld => ?_); refine with_tabW seal_Open.tab19 seal_Open.bits19 (fun HT_ HW_ => ?_)
                                          generalize wc.drew = w43 at HB hHeld ⊢
                                          refine pure_ (i := 0) (N := some 82) (v := ?_) (a' := ?_) #[true, false, false, false, false, false, false, false, false, false, false, false, false] rfl rfl (any_of HT_.out (by kernel_rfl)) (fun _ _ _ h => h) (Or.inl ⟨by rfl, ?_⟩) ?_ ?_
                                          rotate_left
                                          · intro w'
                                            go_simp
                                            with_reducible rfl
                                          rotate_left
                                          · simp only [Act.put, List.setIfInBounds_toArray, List.set_cons_zero, List.set_cons_succ, i64_w, i32_w]
                                            rfl
                                          refine pure_ (i := 1) (N := some 83) (v := ?_) (a' := ?_) #[true, true, false, false, false, false, false, false, false, false, false, false, false] rfl rfl (any_of HT_.out (by kernel_rfl)) (fun _ _ _ h => h) (Or.inl ⟨by rfl, ?_⟩) ?_ ?_
                                          rotate_left
                                          · intro w'
                                            go_simp
                                            with_reducible rfl
                                          rotate_left
                                          · simp only [Act.put, List.setIfInBounds_toArray, List.set_cons_zero, List.set_cons_succ, i64_w, i32_w]
                                            rfl
                                          refine pure_ (i := 2) (N := some 84) (v := ?_) (a' := ?_) #[true, true, true, false, false, false, false, false, false, false, false, false, false] rfl rfl (any_of HT_.out (by kernel_rfl)) (fun _ _ _ h => h) (Or.inl ⟨by rfl, ?_⟩) ?_ ?_
                                          rotate_left
                                          · intro w'
                                            go_simp
                                            with_reducible rfl
                                          rotate_left
                                          · simp only [Act.put, List.setIfInBounds_toArray, List.set_cons_zero, List.set_cons_succ, i64_w, i32_w]
                                            rfl
                                          refine pure_ (i := 3) (N := some 85) (v := ?_) (a' := ?_) #[true, true, true, true, false, false, false, false, false, false, false, false, false] rfl rfl (any_of HT_.out (by kernel_rfl)) (fun _ _ _ h => h) (Or.inl ⟨by rfl, ?_⟩) ?_ ?_
                                          rotate_left
                                          · intro w'
                                            go_simp
                                            with_reducible rfl
                                          rotate_left
                                          · simp only [Act.put, List.setIfInBounds_toArray, List.set_cons_zero, List.set_cons_succ, i64_w, i32_w]
                                            rfl
                                          refine pure_ (i := 7) (N := some 89) (v := ?_) (a' := ?_) #[true, true, true, true, false, false, false, true, false, false, false, false, false] rfl rfl (any_of HT_.out (by kernel_rfl)) (fun _ _ _ h => h) (Or.inl ⟨by rfl, ?_⟩) ?_ ?_
                                          rotate_left
                                          · intro w'
                                            go_simp
                                            with_reducible rfl
                                          rotate_left
                                          · simp only [Act.put, List.setIfInBounds_toArray, List.set_cons_zero, List.set_cons_succ, i64_w, i32_w]
                                            rfl
                                          refine pure_ (i := 8) (N := some 90) (v := ?_) (a' := ?_) #[true, true, true, true, false, false, false, true, true, false, false, false, false] rfl rfl (any_of HT_.out (by kernel_rfl)) (fun _ _ _ h => h) (Or.inl ⟨by rfl, ?_⟩) ?_ ?_
                                          rotate_left
                                          · intro w'
                                            go_simp
                                            with_reducible rfl
                                          rotate_left
                                          · simp only [Act.put, List.setIfInBounds_toArray, List.set_cons_zero, List.set_cons_succ, i64_w, i32_w]
                                            rfl
                                          refine pure_ (i := 9) (N := some 91) (v := ?_) (a' := ?_) #[true, true, true, true, false, false, false, true, true, true, false, false, false] rfl rfl (any_of HT_.out (by kernel_rfl)) (fun _ _ _ h => h) (Or.inl ⟨by rfl, ?_⟩) ?_ ?_
                                          rotate_left
                                          · intro w'
                                            go_simp
                                            with_reducible rfl
                                          rotate_left
                                          · simp only [Act.put, List.setIfInBounds_toArray, List.set_cons_zero, List.set_cons_succ, i64_w, i32_w]
                                            rfl
                                          refine pure_ (i := 10) (N := some 92) (v := ?_) (a' := ?_) #[true, true, true, true, false, false, false, true, true, true, true, false, false] rfl rfl (any_of HT_.out (by kernel_rfl)) (fun _ _ _ h => h) (Or.inl ⟨by rfl, ?_⟩) ?_ ?_
                                          rotate_left
                                          · intro w'
                                            go_simp
                                            with_reducible rfl
                                          rotate_left
                                          · simp only [Act.put, List.setIfInBounds_toArray, List.set_cons_zero, List.set_cons_succ, i64_w, i32_w]
                                            rfl
                                          refine pure_ (i := 11) (N := some 93) (v := ?_) (a' := ?_) #[true, true, true, true, false, false, false, true, true, true, true, true, false] rfl rfl (any_of HT_.out (by kernel_rfl)) (fun _ _ _ h => h) (Or.inl ⟨by rfl, ?_⟩) ?_ ?_
                                          rotate_left
                                          · intro w'
                                            go_simp
                                            with_reducible rfl
                                          rotate_left
                                          · simp only [Act.put, List.setIfInBounds_toArray, List.set_cons_zero, List.set_cons_succ, i64_w, i32_w]
                                            rfl
                                          refine one_ (i := 4) (N := some 86) #[true, true, true, true, true, false, false, true, true, true, true, true, false] rfl rfl (one_of HT_.out (by kernel_rfl)) (by decide) (fun K hK => ?_)
                                          refine Kd.R_lit_step Kd.string _ 9 ?hg (N := 86) ?hd (xs := ([a0.extract (a1 : Int).toNat ((ji29) : Int).toNat] : List ByteArray)) (inner := [.string (a0.extract (a1 : Int).toNat ((ji29) : Int).toNat)]) (ok := fun _ => True) (okp := fun _ => True) ?hr ?hp (fun _ hk => hk) trivial (Below.refl _ _) (Nat.le_refl _) (by simp) ?_; (case hd => rfl); (case hg => rfl); (case hr => first | (go_simp; done) | (go_simp; rfl)); (case hp => exact (Reps.one (show Kd.M Kd.string _ _ _ (a0.extract (a1 : Int).toNat ((ji29) : Int).toNat) [.string (a0.extract (a1 : Int).toNat ((ji29) : Int).toNat)] from rfl) (Reps.none _ _)))
                                          intro v131 w44 ho45 hb hg_ hnew_
                                          clear hg_ hnew_
                                          (first | rw [← Ny130.out] at ho45 | (simp only [Int.reduceToNat] at ho45; rw [← Ny130.out] at ho45))
                                          have n0_ := Aside0.mk (Kd.R_lower ho45 (below_size (by repeat (first | (with_reducible first | exact HB.out | apply below_alloc | apply pw_below_drewN | apply below_drew1) | exact HB.out))))
                                          have n1_ := Aside0.mk (below_step (by repeat (first | (with_reducible first | exact HB.out | apply below_alloc | apply pw_below_drewN | apply below_drew1) | exact HB.out)) hb)
                                          clear HB
                                          have HO132 := n0_
                                          have HB := n1_
                                          clear n0_ n1_
                                          clear hb ho45
                                          obtain ⟨Ao46, co46, eo46⟩ := Kd.R_slice HO132.out
                                          (first | subst eo46 | (injection eo46 with f1_ f2_ f3_; have f4_ := f1_.symm; have f5_ := f3_.symm; clear f1_ f2_ f3_; subst f4_; subst f5_))
                                          refine hK.out _ _ trivial (fun hHeld => ?_)
                                          clear hK K
                                          refine norm_ (a' := ?_) ?_ ?_
                                          rotate_left
                                          · show Act.put _ (some 86) _ = _
                                            simp only [Act.put, List.setIfInBounds_toArray, List.set_cons_zero, List.set_cons_succ, i64_w, i32_w]
                                            rfl
                                          refine one_ (i := 5) (N := some 87) #[true, true, true, true, true, true, false, true, true, true, true, true, false] rfl rfl (one_of HT_.out (by kernel_rfl)) (by decide) (fun K hK => ?_)
                                          refine goes_ Try.func59 (by kernel_rfl) rfl #[.slice Ao46 y130.length co46] (by rfl) rfl rfl (by (try simp only [List.map_toArray, List.map_cons, List.map_nil]); first | done | rfl | (simp only [List.length_drop, List.length_take]; rfl)) ?_
                                          with_reducible refine (seal_Sum.calls kj3 _ _ y130 t133 _ ?side1 ?side2 A27.out).mono ?_
                                          (case side1 => repeat (first | exact (Kd.R_reads' HO132.out).2.2 | (with_reducible refine Kd.C_alloc ?_ _) | (with_reducible refine Kd.C_drewN ?_ _) | (with_reducible refine Kd.C_drew ?_)))
                                          (case side2 => exact (Kd.R_reads' HO132.out).2.1)
                                          rintro e w47 ⟨rfl, hb⟩
                                          refine ⟨_, rfl, ?_⟩
                                          have n0_ := Aside0.mk (Kd.R_below (by (with_reducible repeat (first | apply Kd.R_alloc | apply Kd.R_drewN | apply Kd.R_drew)); exact HO132.out) hb)
                                          have n1_ := Aside0.mk (below_step (by repeat (first | (with_reducible first | exact HB.out | apply below_alloc | apply pw_below_drewN | apply below_drew1) | exact HB.out)) hb)
                                          clear HO132
                                          clear HB
                                          have HO132 := n0_
                                          have HB := n1_
                                          clear n0_ n1_
                                          (try clear hb)
                                          (try clear hb2)
                                          (try clear hk)
                                          (try clear hi)
                                          refine hK.out _ _ trivial (fun hHeld => ?_)
                                          clear hK K
                                          refine norm_ (a' := ?_) ?_ ?_
                                          rotate_left
                                          · show Act.put _ (some 87) _ = _
                                            simp only [Act.put, List.setIfInBounds_toArray, List.set_cons_zero, List.set_cons_succ, i64_w, i32_w]
                                            rfl
                                          refine one_ (i := 6) (N := some 88) #[true, true, true, true, true, true, true, true, true, true, true, true, false] rfl rfl (one_of HT_.out (by kernel_rfl)) (by decide) (fun K hK => ?_)
                                          refine goes_ Try.func58 (by kernel_rfl) rfl #[.int .u64 t133] (by rfl) rfl rfl (by (try simp only [List.map_toArray, List.map_cons, List.map_nil]); first | done | rfl | (simp only [List.length_drop, List.length_take]; rfl)) ?_
                                          with_reducible refine (seal_eight.calls t133 t134 _ A28.out).mono ?_
                                          rintro e w48 ⟨rfl, hb⟩
                                          refine ⟨_, rfl, ?_⟩
                                          have n0_ := Aside0.mk (Kd.R_below (by (with_reducible repeat (first | apply Kd.R_alloc | apply Kd.R_drewN | apply Kd.R_drew)); exact HO132.out) hb)
                                          have n1_ := Aside0.mk (below_step (by repeat (first | (with_reducible first | exact HB.out | apply below_alloc | apply pw_below_drewN | apply below_drew1) | exact HB.out)) hb)
                                          clear HO132
                                          clear HB
                                          have HO132 := n0_
                                          have HB := n1_
                                          clear n0_ n1_
                                          (try clear hb)
                                          (try clear hb2)
                                          (try clear hk)
                                          (try clear hi)
                                          refine hK.out _ _ trivial (fun hHeld => ?_)
                                          clear hK K
                                          refine norm_ (a' := ?_) ?_ ?_
                                          rotate_left
                                          · show Act.put _ (some 88) _ = _
                                            simp only [Act.put, List.setIfInBounds_toArray, List.set_cons_zero, List.set_cons_succ, i64_w, i32_w]
                                            rfl
                                          refine pure_ (i := 12) (N := some 94) (v := ?_) (a' := ?_) #[true, true, true, true, true, true, true, true, true, true, true, true, true] rfl rfl (any_of HT_.out (by kernel_rfl)) (fun _ _ _ h => h) (Or.inl ⟨by rfl, ?_⟩) ?_ ?_
                                          rotate_left
                                          · intro w'
                                            go_simp
                                            with_reducible rfl
                                          rotate_left
                                          · simp only [Act.put, List.setIfInBounds_toArray, List.set_cons_zero, List.set_cons_succ, i64_w, i32_w]
                                            rfl
                                          refine done_ (done_of HT_.out (by kernel_rfl)) ?_
                                          try go_wp2
                                          go_ret3
                                          exact ⟨by first | rfl | (simp [errW_none, errW_some] <;> rfl) | (simp only [← hji15, ← hji29]; first | rfl | (simp [errW_none, errW_some] <;> rfl)) | (simp [*, errW_none, errW_some] <;> rfl), by repeat (first | (with_reducible first | exact HB.out | apply below_alloc | apply pw_below_drewN | apply below_drew1) | exact HB.out)⟩
                                      · rw [if_neg c32] at H
                                        exact absurd H (by simp)
                                    · rw [if_neg c31] at H
                                      exact absurd H (by simp)
                                  · rw [if_neg c30] at H
                                    exact absurd H (by simp)
                                · rw [if_neg c26] at H
                                  exact absurd H (by simp)
                              · rw [if_neg c25] at H
                                exact absurd H (by simp)
                        · rw [if_neg c21] at H
                          have c21b0 : (t129 == 0) = false := beq_eq_false_iff_ne.mpr c21
                          have c21b1 : (t129 != 0) = true := bne_iff_ne.mpr c21
                          simp only [Option.some.injEq, Prod.mk.injEq] at H
                          obtain ⟨rfl, rfl, rfl⟩ := H
                          have p12 : 0 ≤ (a1 : Int) := of_decide_eq_true (by first | (with_reducible assumption) | assumption)
                          have q12 : a1 < (a0.size : Int) := of_decide_eq_true (by first | (with_reducible assumption) | assumption)
                          have hx12 := bt_at a0 a1
                          replace p12 := eq_true p12
                          replace q12 := eq_true q12
                          have p18 : 0 ≤ ((ji15) : Int) := of_decide_eq_true (by first | (with_reducible assumption) | assumption)
                          have q18 : (ji15) < (a0.size : Int) := of_decide_eq_true (by first | (with_reducible assumption) | assumption)
                          have hx18 := bt_at a0 (ji15)
                          replace p18 := eq_true p18
                          replace q18 := eq_true q18
                          go_wp2_with (first | ((with_reducible refine gate_callee (f := 65) rfl ?_); refine goesL_ (some 58) rfl rfl Try.func65 (by kernel_rfl) rfl #[.string a0, .int .i64 (wrap64 (a1 + 2))] rfl (by (try simp only [List.map_toArray, List.map_cons, List.map_nil]); first | done | rfl | (simp only [List.length_drop, List.length_take]; rfl)) ?_; (with_reducible refine (pack_TakeNumber.calls kj3 a0 (wrap64 (a1 + 2)) t127 t128 t129 _ A20.out).mono ?_); rintro e w' ⟨rfl, ⟨nd, rfl⟩⟩; refine ⟨_, rfl, ?_⟩))
                          go_ret3
                          exact ⟨by first | rfl | (simp [errW_none, errW_some] <;> rfl) | (simp only [← hji15]; first | rfl | (simp [errW_none, errW_some] <;> rfl)) | (simp [*, errW_none, errW_some] <;> rfl), by repeat (first | (with_reducible first | exact HB.out | apply below_alloc | apply pw_below_drewN | apply below_drew1) | exact HB.out)⟩
                      · rw [if_neg c19] at H
                        have c19b0 : ((wrap64 (bt a0 (ji15))) == a2) = false := beq_eq_false_iff_ne.mpr c19
                        have c19b1 : ((wrap64 (bt a0 (ji15))) != a2) = true := bne_iff_ne.mpr c19
                        simp only [Option.some.injEq, Prod.mk.injEq] at H
                        obtain ⟨rfl, rfl, rfl⟩ := H
                        have p12 : 0 ≤ (a1 : Int) := of_decide_eq_true (by first | (with_reducible assumption) | assumption)
                        have q12 : a1 < (a0.size : Int) := of_decide_eq_true (by first | (with_reducible assumption) | assumption)
                        have hx12 := bt_at a0 a1
                        replace p12 := eq_true p12
                        replace q12 := eq_true q12
                        have p18 : 0 ≤ ((ji15) : Int) := of_decide_eq_true (by first | (with_reducible assumption) | assumption)
                        have q18 : (ji15) < (a0.size : Int) := of_decide_eq_true (by first | (with_reducible assumption) | assumption)
                        have hx18 := bt_at a0 (ji15)
                        replace p18 := eq_true p18
                        replace q18 := eq_true q18
                        go_wp2
                        go_ret3
                        exact ⟨by first | rfl | (simp [errW_none, errW_some] <;> rfl) | (simp only [← hji15]; first | rfl | (simp [errW_none, errW_some] <;> rfl)) | (simp [*, errW_none, errW_some] <;> rfl), by repeat (first | (with_reducible first | exact HB.out | apply below_alloc | apply pw_below_drewN | apply below_drew1) | exact HB.out)⟩
                    · rw [if_neg c17] at H
                      exact absurd H (by simp)
                  · rw [if_neg c16] at H
                    exact absurd H (by simp)
              · rw [if_neg c13] at H
                have c13b0 : ((bt a0 a1) == 231) = false := beq_eq_false_iff_ne.mpr c13
                have c13b1 : ((bt a0 a1) != 231) = true := bne_iff_ne.mpr c13
                simp only [Option.some.injEq, Prod.mk.injEq] at H
                obtain ⟨rfl, rfl, rfl⟩ := H
                have p12 : 0 ≤ (a1 : Int) := of_decide_eq_true (by first | (with_reducible assumption) | assumption)
                have q12 : a1 < (a0.size : Int) := of_decide_eq_true (by first | (with_reducible assumption) | assumption)
                have hx12 := bt_at a0 a1
                replace p12 := eq_true p12
                replace q12 := eq_true q12
                go_wp2
                go_ret3
                exact ⟨by first | rfl | (simp [errW_none, errW_some] <;> rfl) | (simp [*, errW_none, errW_some] <;> rfl), by repeat (first | (with_reducible first | exact HB.out | apply below_alloc | apply pw_below_drewN | apply below_drew1) | exact HB.out)⟩
            · rw [if_neg c11] at H
              exact absurd H (by simp)
          · rw [if_neg c10] at H
            exact absurd H (by simp)

-- NOT PRINTED: function 73 (seal_frames_1)

-- NOT PRINTED: function 66 (seal_frames)

end Go.Proofs.Ytkcpgaplpmbmoaa.PA
