-- Written by a program of this session (wip/tools/mp.py over the kit's printer); Lean checks it.
import Derived.Test.YtikanbdhpafbiaaPZx0
namespace Go.Proofs.Ytikanbdhpafbiaa.PZ
open Go.RowKit Go.Proofs.YtikanbdhpafbiaaW.PrintWords Go.Proofs.YtikanbdhpafbiaaW.PrintLast Go.Proofs.YtikanbdhpafbiaaW.PrintMore
attribute [local go_sem] max2_int min2_int max_two min_two max_three min_three max_four min_four   -- for this text's walks alone
set_option linter.unusedVariables false
set_option maxHeartbeats 8000000
set_option maxRecDepth 100000
set_option linter.unusedSimpArgs false

/-! ### ententeref06_Name: function 35 -/
mutual
def ententeref06_Name.j0 : Nat → ByteArray → Bool → Option (Bool)
 | 0, _, _ => none
 | k + 1, x0, x13 => if x13 = true then (some false) else (ententeref06_Name.l0 k x0 0)
def ententeref06_Name.l0 : Nat → ByteArray → Int → Option (Bool)
 | 0, _, _ => none
 | k + 1, x0, x3 => if x3 < (x0.size : Int) then (if 0 ≤ x3 then (if (bt x0 x3) ≥ 97 then (if (bt x0 x3) ≥ 48 then (if (bt x0 x3) ≤ 122 then (if x3 = 0 then (if (bt x0 x3) ≤ 57 then (some false) else (ententeref06_Name.l0 k x0 (wrap64 (x3 + 1)))) else (ententeref06_Name.l0 k x0 (wrap64 (x3 + 1)))) else (if (bt x0 x3) ≤ 57 then (if x3 = 0 then (some false) else (ententeref06_Name.l0 k x0 (wrap64 (x3 + 1)))) else (some false))) else (if (bt x0 x3) ≤ 122 then (if x3 = 0 then (ententeref06_Name.l0 k x0 (wrap64 (x3 + 1))) else (ententeref06_Name.l0 k x0 (wrap64 (x3 + 1)))) else (some false))) else (if (bt x0 x3) ≥ 48 then (if (bt x0 x3) ≤ 57 then (if x3 = 0 then (some false) else (ententeref06_Name.l0 k x0 (wrap64 (x3 + 1)))) else (some false)) else (some false))) else (none)) else (some true)
end
def ententeref06_Name.f (k : Nat) (a0 : ByteArray) : Option (Bool) := if (a0.size : Int) < 1 then (ententeref06_Name.j0 k a0 true) else (ententeref06_Name.j0 k a0 (decide ((a0.size : Int) > 16)))
theorem ententeref06_Name.mono_l : ∀ k, (∀ y0 y1, LeO (ententeref06_Name.j0 k y0 y1) (ententeref06_Name.j0 (k + 1) y0 y1)) ∧ (∀ y0 y1, LeO (ententeref06_Name.l0 k y0 y1) (ententeref06_Name.l0 (k + 1) y0 y1))
 | 0 => ⟨fun _ _ r h => by simp [ententeref06_Name.j0] at h, fun _ _ r h => by simp [ententeref06_Name.l0] at h⟩
 | k + 1 => by
  obtain ⟨ih0, ih1⟩ := ententeref06_Name.mono_l k
  refine ⟨?_, ?_⟩
  ·intro y0 y1
   unfold ententeref06_Name.j0
   repeat' (with_reducible first | exact ih0 _ _ | exact ih1 _ _ | exact LeO.refl _ | exact LeO.none _ | apply LeO.ite | refine LeO.bind ?_ (fun _ => ?_))
  intro y0 y1
  unfold ententeref06_Name.l0
  repeat' (with_reducible first | exact ih0 _ _ | exact ih1 _ _ | exact LeO.refl _ | exact LeO.none _ | apply LeO.ite | refine LeO.bind ?_ (fun _ => ?_))
theorem ententeref06_Name.mono : ∀ a0 k, LeO (ententeref06_Name.f k a0) (ententeref06_Name.f (k + 1) a0) := by
 intro a0 k
 obtain ⟨ih0, ih1⟩ := ententeref06_Name.mono_l k
 unfold ententeref06_Name.f
 repeat' (with_reducible first | exact ih0 _ _ | exact ih1 _ _ | exact LeO.refl _ | exact LeO.none _ | apply LeO.ite | refine LeO.bind ?_ (fun _ => ?_))
theorem ententeref06_Name.calls (k : Nat) (a0 : ByteArray) (r : Bool) (w : World) (h : ententeref06_Name.f k a0 = some r) :
  Calls Try.prog 35 #[.string a0] w fun e w' => e = .returned (.bool r) ∧ Drawn0 w w' := by
 unfold ententeref06_Name.f at h
 have H := h
 clear h
 have HC2 := My.am H
 clear H
 go_enter Try.func35, Try.ntmps35
 go_upto_region 1 with (fail)
 go_cut [13] (fun v13 wc => ∃ (kq : Nat) (x13_1 : Bool), v13 = .bool x13_1 ∧ Aside0 (ententeref06_Name.j0 kq a0 x13_1 = some r) ∧ Aside0 (kq ≤ k) ∧ Drawn0 w wc)
 case first =>
  have H := HC2.out
  clear HC2
  by_cases c3 : (a0.size : Int) < 1
  ·rw [if_pos c3] at H
   have c3b0 := decide_eq_true c3
   have c3b1 : decide (a0.size < 1) = true := decide_eq_true (by omega)
   clear c3
   (first | rw [c3b0] | (simp only [i64_w, i32_w]; rw [c3b0]) | skip)
   have H' := My.am H
   clear H
   go_wp2
   go_meet
   case rel => exact ⟨_, (true), My.r1, H', ⟨My.r4⟩, by repeat (first | exact Drawn0.refl _ | apply Drawn0.step)⟩
  ·rw [if_neg c3] at H
   have c3b0 := decide_eq_false c3
   have c3b1 : decide (a0.size < 1) = false := decide_eq_false (by omega)
   clear c3
   (first | rw [c3b0] | (simp only [i64_w, i32_w]; rw [c3b0]) | skip)
   have H' := My.am H
   clear H
   go_wp2
   go_meet
   case rel => exact ⟨_, (decide ((a0.size : Int) > 16)), My.r1, H', ⟨My.r4⟩, by repeat (first | exact Drawn0.refl _ | apply Drawn0.step)⟩
 case rest =>
  clear HC2
  obtain ⟨kq, x13_1, rfl, HA, HJ1, ⟨mc1, rfl⟩⟩ := hcut
  cases kq with
  | zero => exact absurd HA.out (by simp [ententeref06_Name.j0])
  | succ kj1 =>
   have H := HA.out
   clear HA
   simp only [ententeref06_Name.j0] at H
   by_cases c4 : x13_1 = true
   ·subst c4
    rw [if_pos rfl] at H
    obtain rfl := Option.some.inj H
    go_wp2
    go_ret
    exact ⟨by first | rfl | (simp; done) | (simp [*]; done), by repeat (first | exact Drawn0.refl _ | apply Drawn0.step)⟩
   replace c4 := Bool.eq_false_iff.mpr c4
   subst c4
   rw [if_neg (show ¬ (false = true) by decide)] at H
   have H' := My.am H
   clear H
   go_wp2
   go_loopg [3] kj1 (fun kq v3 w' => ∃ (x3_2 : Int), v3 = .int .i64 x3_2 ∧ Aside0 (ententeref06_Name.l0 kq a0 x3_2 = some r) ∧ Aside0 (kq ≤ kj1) ∧ Drawn0 w w')
   case atStart => exact ⟨(0), My.r1, H', ⟨Nat.le_refl _⟩, by repeat (first | exact Drawn0.refl _ | apply Drawn0.step)⟩
   case round =>
    clear H'
    try clear c4
    obtain ⟨x3_2, rfl, HA, HK2, ⟨m2, rfl⟩⟩ := hrel
    cases gk with
    | zero => exact absurd HA.out (by simp [ententeref06_Name.l0])
    | succ k2 =>
     have H := HA.out
     clear HA
     simp only [ententeref06_Name.l0] at H
     by_cases c5 : x3_2 < (a0.size : Int)
     rotate_left
     ·rw [if_neg c5] at H
      have c5b0 := decide_eq_false c5
      clear c5
      obtain rfl := Option.some.inj H
      go_wp2
      go_ret
      exact ⟨by first | rfl | (simp; done) | (simp [*]; done), by repeat (first | exact Drawn0.refl _ | apply Drawn0.step)⟩

     rw [if_pos c5] at H
     have c5b0 := decide_eq_true c5
     clear c5
     replace H := My.ds H
     obtain ⟨c6b0, H⟩ := H
     by_cases c8 : (bt a0 x3_2) ≥ 97
     rotate_left
     ·rw [if_neg c8] at H
      have c8b0 : decide (97 ≤ (bt a0 x3_2)) = false := decide_eq_false c8
      clear c8
      by_cases c21 : (bt a0 x3_2) ≥ 48
      rotate_left
      ·rw [if_neg c21] at H
       have c21b0 : decide (48 ≤ (bt a0 x3_2)) = false := decide_eq_false c21
       clear c21
       obtain rfl := Option.some.inj H
       have p7 : 0 ≤ (x3_2 : Int) := My.as_
       have q7 : x3_2 < (a0.size : Int) := My.as_
       have hx7 := bt_at a0 x3_2
       replace p7 := eq_true p7
       replace q7 := eq_true q7
       have p20 : 0 ≤ (x3_2 : Int) := My.as_
       have q20 : x3_2 < (a0.size : Int) := My.as_
       have hx20 := bt_at a0 x3_2
       replace p20 := eq_true p20
       replace q20 := eq_true q20
       go_wp2
       go_ret
       exact ⟨by first | rfl | (simp; done) | (simp [*]; done), by repeat (first | exact Drawn0.refl _ | apply Drawn0.step)⟩
      rw [if_pos c21] at H
      have c21b0 : decide (48 ≤ (bt a0 x3_2)) = true := decide_eq_true c21
      clear c21
      by_cases c23 : (bt a0 x3_2) ≤ 57
      rotate_left
      ·rw [if_neg c23] at H
       have c23b0 := decide_eq_false c23
       clear c23
       obtain rfl := Option.some.inj H
       have p7 : 0 ≤ (x3_2 : Int) := My.as_
       have q7 : x3_2 < (a0.size : Int) := My.as_
       have hx7 := bt_at a0 x3_2
       replace p7 := eq_true p7
       replace q7 := eq_true q7
       have p20 : 0 ≤ (x3_2 : Int) := My.as_
       have q20 : x3_2 < (a0.size : Int) := My.as_
       have hx20 := bt_at a0 x3_2
       replace p20 := eq_true p20
       replace q20 := eq_true q20
       have p22 : 0 ≤ (x3_2 : Int) := My.as_
       have q22 : x3_2 < (a0.size : Int) := My.as_
       have hx22 := bt_at a0 x3_2
       replace p22 := eq_true p22
       replace q22 := eq_true q22
       go_wp2
       go_ret
       exact ⟨by first | rfl | (simp; done) | (simp [*]; done), by repeat (first | exact Drawn0.refl _ | apply Drawn0.step)⟩
      rw [if_pos c23] at H
      have c23b0 := decide_eq_true c23
      clear c23
      by_cases c24 : x3_2 = 0
      ·rw [if_pos c24] at H
       have c24b0 : (x3_2 == 0) = true := beq_iff_eq.mpr c24
       have c24b1 : (x3_2 != 0) = false := bne_eq_false_iff_eq.mpr c24
       clear c24
       obtain rfl := Option.some.inj H
       have p7 : 0 ≤ (x3_2 : Int) := My.as_
       have q7 : x3_2 < (a0.size : Int) := My.as_
       have hx7 := bt_at a0 x3_2
       replace p7 := eq_true p7
       replace q7 := eq_true q7
       have p20 : 0 ≤ (x3_2 : Int) := My.as_
       have q20 : x3_2 < (a0.size : Int) := My.as_
       have hx20 := bt_at a0 x3_2
       replace p20 := eq_true p20
       replace q20 := eq_true q20
       have p22 : 0 ≤ (x3_2 : Int) := My.as_
       have q22 : x3_2 < (a0.size : Int) := My.as_
       have hx22 := bt_at a0 x3_2
       replace p22 := eq_true p22
       replace q22 := eq_true q22
       go_wp2
       go_ret
       exact ⟨by first | rfl | (simp; done) | (simp [*]; done), by repeat (first | exact Drawn0.refl _ | apply Drawn0.step)⟩
      rw [if_neg c24] at H
      have c24b0 : (x3_2 == 0) = false := beq_eq_false_iff_ne.mpr c24
      have c24b1 : (x3_2 != 0) = true := bne_iff_ne.mpr c24
      have H' := My.am H
      clear H
      have p7 : 0 ≤ (x3_2 : Int) := My.as_
      have q7 : x3_2 < (a0.size : Int) := My.as_
      have hx7 := bt_at a0 x3_2
      replace p7 := eq_true p7
      replace q7 := eq_true q7
      have p20 : 0 ≤ (x3_2 : Int) := My.as_
      have q20 : x3_2 < (a0.size : Int) := My.as_
      have hx20 := bt_at a0 x3_2
      replace p20 := eq_true p20
      replace q20 := eq_true q20
      have p22 : 0 ≤ (x3_2 : Int) := My.as_
      have q22 : x3_2 < (a0.size : Int) := My.as_
      have hx22 := bt_at a0 x3_2
      replace p22 := eq_true p22
      replace q22 := eq_true q22
      go_wp2
      go_roundg k2
      case measure => have := HJ1.out; have := HK2.out; omega
      case rel => exact ⟨(wrap64 (x3_2 + 1)), My.r1, H', ⟨by have := HJ1.out; have := HK2.out; omega⟩, by repeat (first | exact Drawn0.refl _ | apply Drawn0.step)⟩
     rw [if_pos c8] at H
     have c8b0 : decide (97 ≤ (bt a0 x3_2)) = true := decide_eq_true c8
     clear c8
     by_cases c11 : (bt a0 x3_2) ≥ 48
     rotate_left
     ·rw [if_neg c11] at H
      have c11b0 : decide (48 ≤ (bt a0 x3_2)) = false := decide_eq_false c11
      clear c11
      by_cases c18 : (bt a0 x3_2) ≤ 122
      rotate_left
      ·rw [if_neg c18] at H
       have c18b0 := decide_eq_false c18
       clear c18
       obtain rfl := Option.some.inj H
       have p7 : 0 ≤ (x3_2 : Int) := My.as_
       have q7 : x3_2 < (a0.size : Int) := My.as_
       have hx7 := bt_at a0 x3_2
       replace p7 := eq_true p7
       replace q7 := eq_true q7
       have p9 : 0 ≤ (x3_2 : Int) := My.as_
       have q9 : x3_2 < (a0.size : Int) := My.as_
       have hx9 := bt_at a0 x3_2
       replace p9 := eq_true p9
       replace q9 := eq_true q9
       have p10 : 0 ≤ (x3_2 : Int) := My.as_
       have q10 : x3_2 < (a0.size : Int) := My.as_
       have hx10 := bt_at a0 x3_2
       replace p10 := eq_true p10
       replace q10 := eq_true q10
       go_wp2
       go_ret
       exact ⟨by first | rfl | (simp; done) | (simp [*]; done), by repeat (first | exact Drawn0.refl _ | apply Drawn0.step)⟩
      rw [if_pos c18] at H
      have c18b0 := decide_eq_true c18
      clear c18
      by_cases c19 : x3_2 = 0
      ·rw [if_pos c19] at H
       have c19b0 : (x3_2 == 0) = true := beq_iff_eq.mpr c19
       have c19b1 : (x3_2 != 0) = false := bne_eq_false_iff_eq.mpr c19
       clear c19
       have H' := My.am H
       clear H
       have p7 : 0 ≤ (x3_2 : Int) := My.as_
       have q7 : x3_2 < (a0.size : Int) := My.as_
       have hx7 := bt_at a0 x3_2
       replace p7 := eq_true p7
       replace q7 := eq_true q7
       have p9 : 0 ≤ (x3_2 : Int) := My.as_
       have q9 : x3_2 < (a0.size : Int) := My.as_
       have hx9 := bt_at a0 x3_2
       replace p9 := eq_true p9
       replace q9 := eq_true q9
       have p10 : 0 ≤ (x3_2 : Int) := My.as_
       have q10 : x3_2 < (a0.size : Int) := My.as_
       have hx10 := bt_at a0 x3_2
       replace p10 := eq_true p10
       replace q10 := eq_true q10
       go_wp2
       go_roundg k2
       case measure => have := HJ1.out; have := HK2.out; omega
       case rel => exact ⟨(wrap64 (x3_2 + 1)), My.r1, H', ⟨by have := HJ1.out; have := HK2.out; omega⟩, by repeat (first | exact Drawn0.refl _ | apply Drawn0.step)⟩
      rw [if_neg c19] at H
      have c19b0 : (x3_2 == 0) = false := beq_eq_false_iff_ne.mpr c19
      have c19b1 : (x3_2 != 0) = true := bne_iff_ne.mpr c19
      have H' := My.am H
      clear H
      have p7 : 0 ≤ (x3_2 : Int) := My.as_
      have q7 : x3_2 < (a0.size : Int) := My.as_
      have hx7 := bt_at a0 x3_2
      replace p7 := eq_true p7
      replace q7 := eq_true q7
      have p9 : 0 ≤ (x3_2 : Int) := My.as_
      have q9 : x3_2 < (a0.size : Int) := My.as_
      have hx9 := bt_at a0 x3_2
      replace p9 := eq_true p9
      replace q9 := eq_true q9
      have p10 : 0 ≤ (x3_2 : Int) := My.as_
      have q10 : x3_2 < (a0.size : Int) := My.as_
      have hx10 := bt_at a0 x3_2
      replace p10 := eq_true p10
      replace q10 := eq_true q10
      go_wp2
      go_roundg k2
      case measure => have := HJ1.out; have := HK2.out; omega
      case rel => exact ⟨(wrap64 (x3_2 + 1)), My.r1, H', ⟨by have := HJ1.out; have := HK2.out; omega⟩, by repeat (first | exact Drawn0.refl _ | apply Drawn0.step)⟩
     rw [if_pos c11] at H
     have c11b0 : decide (48 ≤ (bt a0 x3_2)) = true := decide_eq_true c11
     clear c11
     by_cases c13 : (bt a0 x3_2) ≤ 122
     ·rw [if_pos c13] at H
      have c13b0 := decide_eq_true c13
      clear c13
      by_cases c14 : x3_2 = 0
      rotate_left
      ·rw [if_neg c14] at H
       have c14b0 : (x3_2 == 0) = false := beq_eq_false_iff_ne.mpr c14
       have c14b1 : (x3_2 != 0) = true := bne_iff_ne.mpr c14
       have H' := My.am H
       clear H
       have p7 : 0 ≤ (x3_2 : Int) := My.as_
       have q7 : x3_2 < (a0.size : Int) := My.as_
       have hx7 := bt_at a0 x3_2
       replace p7 := eq_true p7
       replace q7 := eq_true q7
       have p9 : 0 ≤ (x3_2 : Int) := My.as_
       have q9 : x3_2 < (a0.size : Int) := My.as_
       have hx9 := bt_at a0 x3_2
       replace p9 := eq_true p9
       replace q9 := eq_true q9
       have p10 : 0 ≤ (x3_2 : Int) := My.as_
       have q10 : x3_2 < (a0.size : Int) := My.as_
       have hx10 := bt_at a0 x3_2
       replace p10 := eq_true p10
       replace q10 := eq_true q10
       have p12 : 0 ≤ (x3_2 : Int) := My.as_
       have q12 : x3_2 < (a0.size : Int) := My.as_
       have hx12 := bt_at a0 x3_2
       replace p12 := eq_true p12
       replace q12 := eq_true q12
       go_wp2
       go_roundg k2
       case measure => have := HJ1.out; have := HK2.out; omega
       case rel => exact ⟨(wrap64 (x3_2 + 1)), My.r1, H', ⟨by have := HJ1.out; have := HK2.out; omega⟩, by repeat (first | exact Drawn0.refl _ | apply Drawn0.step)⟩
      rw [if_pos c14] at H
      have c14b0 : (x3_2 == 0) = true := beq_iff_eq.mpr c14
      have c14b1 : (x3_2 != 0) = false := bne_eq_false_iff_eq.mpr c14
      clear c14
      by_cases c15 : (bt a0 x3_2) ≤ 57
      ·rw [if_pos c15] at H
       have c15b0 := decide_eq_true c15
       clear c15
       obtain rfl := Option.some.inj H
       have p7 : 0 ≤ (x3_2 : Int) := My.as_
       have q7 : x3_2 < (a0.size : Int) := My.as_
       have hx7 := bt_at a0 x3_2
       replace p7 := eq_true p7
       replace q7 := eq_true q7
       have p9 : 0 ≤ (x3_2 : Int) := My.as_
       have q9 : x3_2 < (a0.size : Int) := My.as_
       have hx9 := bt_at a0 x3_2
       replace p9 := eq_true p9
       replace q9 := eq_true q9
       have p10 : 0 ≤ (x3_2 : Int) := My.as_
       have q10 : x3_2 < (a0.size : Int) := My.as_
       have hx10 := bt_at a0 x3_2
       replace p10 := eq_true p10
       replace q10 := eq_true q10
       have p12 : 0 ≤ (x3_2 : Int) := My.as_
       have q12 : x3_2 < (a0.size : Int) := My.as_
       have hx12 := bt_at a0 x3_2
       replace p12 := eq_true p12
       replace q12 := eq_true q12
       go_wp2
       go_ret
       exact ⟨by first | rfl | (simp; done) | (simp [*]; done), by repeat (first | exact Drawn0.refl _ | apply Drawn0.step)⟩
      rw [if_neg c15] at H
      have c15b0 := decide_eq_false c15
      clear c15
      have H' := My.am H
      clear H
      have p7 : 0 ≤ (x3_2 : Int) := My.as_
      have q7 : x3_2 < (a0.size : Int) := My.as_
      have hx7 := bt_at a0 x3_2
      replace p7 := eq_true p7
      replace q7 := eq_true q7
      have p9 : 0 ≤ (x3_2 : Int) := My.as_
      have q9 : x3_2 < (a0.size : Int) := My.as_
      have hx9 := bt_at a0 x3_2
      replace p9 := eq_true p9
      replace q9 := eq_true q9
      have p10 : 0 ≤ (x3_2 : Int) := My.as_
      have q10 : x3_2 < (a0.size : Int) := My.as_
      have hx10 := bt_at a0 x3_2
      replace p10 := eq_true p10
      replace q10 := eq_true q10
      have p12 : 0 ≤ (x3_2 : Int) := My.as_
      have q12 : x3_2 < (a0.size : Int) := My.as_
      have hx12 := bt_at a0 x3_2
      replace p12 := eq_true p12
      replace q12 := eq_true q12
      go_wp2
      go_roundg k2
      case measure => have := HJ1.out; have := HK2.out; omega
      case rel => exact ⟨(wrap64 (x3_2 + 1)), My.r1, H', ⟨by have := HJ1.out; have := HK2.out; omega⟩, by repeat (first | exact Drawn0.refl _ | apply Drawn0.step)⟩
     rw [if_neg c13] at H
     have c13b0 := decide_eq_false c13
     clear c13
     by_cases c16 : (bt a0 x3_2) ≤ 57
     rotate_left
     ·rw [if_neg c16] at H
      have c16b0 := decide_eq_false c16
      clear c16
      obtain rfl := Option.some.inj H
      have p7 : 0 ≤ (x3_2 : Int) := My.as_
      have q7 : x3_2 < (a0.size : Int) := My.as_
      have hx7 := bt_at a0 x3_2
      replace p7 := eq_true p7
      replace q7 := eq_true q7
      have p9 : 0 ≤ (x3_2 : Int) := My.as_
      have q9 : x3_2 < (a0.size : Int) := My.as_
      have hx9 := bt_at a0 x3_2
      replace p9 := eq_true p9
      replace q9 := eq_true q9
      have p10 : 0 ≤ (x3_2 : Int) := My.as_
      have q10 : x3_2 < (a0.size : Int) := My.as_
      have hx10 := bt_at a0 x3_2
      replace p10 := eq_true p10
      replace q10 := eq_true q10
      have p12 : 0 ≤ (x3_2 : Int) := My.as_
      have q12 : x3_2 < (a0.size : Int) := My.as_
      have hx12 := bt_at a0 x3_2
      replace p12 := eq_true p12
      replace q12 := eq_true q12
      go_wp2
      go_ret
      exact ⟨by first | rfl | (simp; done) | (simp [*]; done), by repeat (first | exact Drawn0.refl _ | apply Drawn0.step)⟩
     rw [if_pos c16] at H
     have c16b0 := decide_eq_true c16
     clear c16
     by_cases c17 : x3_2 = 0
     ·rw [if_pos c17] at H
      have c17b0 : (x3_2 == 0) = true := beq_iff_eq.mpr c17
      have c17b1 : (x3_2 != 0) = false := bne_eq_false_iff_eq.mpr c17
      clear c17
      obtain rfl := Option.some.inj H
      have p7 : 0 ≤ (x3_2 : Int) := My.as_
      have q7 : x3_2 < (a0.size : Int) := My.as_
      have hx7 := bt_at a0 x3_2
      replace p7 := eq_true p7
      replace q7 := eq_true q7
      have p9 : 0 ≤ (x3_2 : Int) := My.as_
      have q9 : x3_2 < (a0.size : Int) := My.as_
      have hx9 := bt_at a0 x3_2
      replace p9 := eq_true p9
      replace q9 := eq_true q9
      have p10 : 0 ≤ (x3_2 : Int) := My.as_
      have q10 : x3_2 < (a0.size : Int) := My.as_
      have hx10 := bt_at a0 x3_2
      replace p10 := eq_true p10
      replace q10 := eq_true q10
      have p12 : 0 ≤ (x3_2 : Int) := My.as_
      have q12 : x3_2 < (a0.size : Int) := My.as_
      have hx12 := bt_at a0 x3_2
      replace p12 := eq_true p12
      replace q12 := eq_true q12
      go_wp2
      go_ret
      exact ⟨by first | rfl | (simp; done) | (simp [*]; done), by repeat (first | exact Drawn0.refl _ | apply Drawn0.step)⟩
     rw [if_neg c17] at H
     have c17b0 : (x3_2 == 0) = false := beq_eq_false_iff_ne.mpr c17
     have c17b1 : (x3_2 != 0) = true := bne_iff_ne.mpr c17
     have H' := My.am H
     clear H
     have p7 : 0 ≤ (x3_2 : Int) := My.as_
     have q7 : x3_2 < (a0.size : Int) := My.as_
     have hx7 := bt_at a0 x3_2
     replace p7 := eq_true p7
     replace q7 := eq_true q7
     have p9 : 0 ≤ (x3_2 : Int) := My.as_
     have q9 : x3_2 < (a0.size : Int) := My.as_
     have hx9 := bt_at a0 x3_2
     replace p9 := eq_true p9
     replace q9 := eq_true q9
     have p10 : 0 ≤ (x3_2 : Int) := My.as_
     have q10 : x3_2 < (a0.size : Int) := My.as_
     have hx10 := bt_at a0 x3_2
     replace p10 := eq_true p10
     replace q10 := eq_true q10
     have p12 : 0 ≤ (x3_2 : Int) := My.as_
     have q12 : x3_2 < (a0.size : Int) := My.as_
     have hx12 := bt_at a0 x3_2
     replace p12 := eq_true p12
     replace q12 := eq_true q12
     go_wp2
     go_roundg k2
     case measure => have := HJ1.out; have := HK2.out; omega
     case rel => exact ⟨(wrap64 (x3_2 + 1)), My.r1, H', ⟨by have := HJ1.out; have := HK2.out; omega⟩, by repeat (first | exact Drawn0.refl _ | apply Drawn0.step)⟩
/-! ### ententeref06_Check: function 44 -/
def ententeref06_Check.f (k : Nat) (a0_0 : Int) (a0_1 : ByteArray) (a0_2 : Int) : Option (Int) := if a0_0 < 1 then (some 60) else (if a0_0 > 4 then (some 60) else ((ententeref06_Name.f k a0_1).bind fun t440 => (if t440 = true then (if a0_2 < 1 then (some 60) else (if a0_2 > 1000000000000000 then (some 60) else (some 0))) else (some 60))))
theorem ententeref06_Check.mono : ∀ a0 a1 a2 k, LeO (ententeref06_Check.f k a0 a1 a2) (ententeref06_Check.f (k + 1) a0 a1 a2) := by
 intro a0 a1 a2 k
 unfold ententeref06_Check.f
 repeat' (with_reducible first | exact ententeref06_Name.mono _ _ | exact LeO.refl _ | exact LeO.none _ | apply LeO.ite | refine LeO.bind ?_ (fun _ => ?_))
theorem ententeref06_Check.calls (k : Nat) (a0_0 : Int) (a0_1 : ByteArray) (a0_2 : Int) (r : Int) (w : World) (h : ententeref06_Check.f k a0_0 a0_1 a0_2 = some r) :
  Calls Try.prog 44 #[.agg #[.int .i64 a0_0, .string a0_1, .int .i64 a0_2]] w fun e w' => e = .returned (.int .i64 r) ∧ Below w.heap.size w w' := by
 have hu27 := Try.underlying27
 have HB := My.am (Below.refl w.heap.size w)
 unfold ententeref06_Check.f at h
 have H := h
 clear h
 by_cases c2 : a0_0 < 1
 ·rw [if_pos c2] at H
  have c2b0 := decide_eq_true c2
  clear c2
  obtain rfl := Option.some.inj H
  go_enter Try.func44, Try.ntmps44
  go_wp2_with (first | ((with_reducible refine gate_dst (N := 1) rfl ?_); refine My.bx 1 #[.int .i64 a0_0, .string a0_1, .int .i64 a0_2] 27 ?_; intro gb439 hg w3 hbox hb; have BK439 := My.am (hbox); have GE439 := My.nge hg (My.bl_ HB); replace HB := My.st HB hb; clear hb hbox hg; have hq4 := My.cz3 BK439))
  go_ret
  exact ⟨My.r2, (My.bl_ HB)⟩
 ·rw [if_neg c2] at H
  have c2b0 := decide_eq_false c2
  clear c2
  by_cases c5 : a0_0 > 4
  ·rw [if_pos c5] at H
   have c5b0 : decide (4 < a0_0) = true := decide_eq_true c5
   clear c5
   obtain rfl := Option.some.inj H
   go_enter Try.func44, Try.ntmps44
   go_wp2_with (first | ((with_reducible refine gate_dst (N := 1) rfl ?_); refine My.bx 1 #[.int .i64 a0_0, .string a0_1, .int .i64 a0_2] 27 ?_; intro gb439 hg w6 hbox hb; have BK439 := My.am (hbox); have GE439 := My.nge hg (My.bl_ HB); replace HB := My.st HB hb; clear hb hbox hg; have hq7 := My.cz3 BK439))
   go_ret
   exact ⟨My.r2, (My.bl_ HB)⟩
  rw [if_neg c5] at H
  have c5b0 : decide (4 < a0_0) = false := decide_eq_false c5
  clear c5
  replace H := Option.bind_eq_some_iff.mp H
  obtain ⟨t440, A80, H⟩ := H
  try dsimp only at H
  have A8 := My.am A80
  clear A80
  by_cases c9 : t440 = true
  rotate_left
  ·replace c9 := Bool.eq_false_iff.mpr c9
   subst c9
   rw [if_neg (show ¬ (false = true) by decide)] at H
   obtain rfl := Option.some.inj H
   go_enter Try.func44, Try.ntmps44
   go_wp2_with (first | ((with_reducible refine gate_dst (N := 1) rfl ?_); refine My.bx 1 #[.int .i64 a0_0, .string a0_1, .int .i64 a0_2] 27 ?_; intro gb439 hg w18 hbox hb; have BK439 := My.am (hbox); have GE439 := My.nge hg (My.bl_ HB); replace HB := My.st HB hb; clear hb hbox hg; have hq19 := My.cz3 BK439) | (go_at_call 35; (with_reducible refine (ententeref06_Name.calls k a0_1 false _ A8.out).mono ?_); rintro e w' ⟨rfl, ⟨nd, rfl⟩⟩))
   go_ret
   exact ⟨My.r2, (My.bl_ HB)⟩

  subst c9
  rw [if_pos rfl] at H
  by_cases c10 : a0_2 < 1
  ·rw [if_pos c10] at H
   have c10b0 := decide_eq_true c10
   clear c10
   obtain rfl := Option.some.inj H
   go_enter Try.func44, Try.ntmps44
   go_wp2_with (first | ((with_reducible refine gate_dst (N := 1) rfl ?_); refine My.bx 1 #[.int .i64 a0_0, .string a0_1, .int .i64 a0_2] 27 ?_; intro gb439 hg w11 hbox hb; have BK439 := My.am (hbox); have GE439 := My.nge hg (My.bl_ HB); replace HB := My.st HB hb; clear hb hbox hg; have hq12 := My.cz3 BK439) | (go_at_call 35; (with_reducible refine (ententeref06_Name.calls k a0_1 true _ A8.out).mono ?_); rintro e w' ⟨rfl, ⟨nd, rfl⟩⟩))
   go_ret
   exact ⟨My.r2, (My.bl_ HB)⟩
  rw [if_neg c10] at H
  have c10b0 := decide_eq_false c10
  clear c10
  by_cases c13 : a0_2 > 1000000000000000
  ·rw [if_pos c13] at H
   have c13b0 : decide (1000000000000000 < a0_2) = true := decide_eq_true c13
   clear c13
   obtain rfl := Option.some.inj H
   go_enter Try.func44, Try.ntmps44
   go_wp2_with (first | ((with_reducible refine gate_dst (N := 1) rfl ?_); refine My.bx 1 #[.int .i64 a0_0, .string a0_1, .int .i64 a0_2] 27 ?_; intro gb439 hg w14 hbox hb; have BK439 := My.am (hbox); have GE439 := My.nge hg (My.bl_ HB); replace HB := My.st HB hb; clear hb hbox hg; have hq15 := My.cz3 BK439) | (go_at_call 35; (with_reducible refine (ententeref06_Name.calls k a0_1 true _ A8.out).mono ?_); rintro e w' ⟨rfl, ⟨nd, rfl⟩⟩))
   go_ret
   exact ⟨My.r2, (My.bl_ HB)⟩
  rw [if_neg c13] at H
  have c13b0 : decide (1000000000000000 < a0_2) = false := decide_eq_false c13
  clear c13
  obtain rfl := Option.some.inj H
  go_enter Try.func44, Try.ntmps44
  go_wp2_with (first | ((with_reducible refine gate_dst (N := 1) rfl ?_); refine My.bx 1 #[.int .i64 a0_0, .string a0_1, .int .i64 a0_2] 27 ?_; intro gb439 hg w16 hbox hb; have BK439 := My.am (hbox); have GE439 := My.nge hg (My.bl_ HB); replace HB := My.st HB hb; clear hb hbox hg; have hq17 := My.cz3 BK439) | (go_at_call 35; (with_reducible refine (ententeref06_Name.calls k a0_1 true _ A8.out).mono ?_); rintro e w' ⟨rfl, ⟨nd, rfl⟩⟩))
  go_ret
  exact ⟨My.r2, (My.bl_ HB)⟩
/-! ### ententeref05_Check: function 80 -/
def ententeref05_Check.f (a0_0 : Int) (a0_1 : Int) (a0_2 : Int) : Option (Int) := if a0_1 < 0 then (some 2) else (if a0_0 < a0_1 then (some 2) else (if a0_2 < 0 then (some 2) else (if a0_0 > 1000000000000000 then (some 2) else (if a0_2 > 1000000000000000 then (some 2) else (if (wrap64 (a0_0 + a0_2)) > 1000000000000000 then (some 2) else (some 0))))))
theorem ententeref05_Check.calls (a0_0 : Int) (a0_1 : Int) (a0_2 : Int) (r : Int) (w : World) (h : ententeref05_Check.f a0_0 a0_1 a0_2 = some r) :
  Calls Try.prog 80 #[.agg #[.int .i64 a0_0, .int .i64 a0_1, .int .i64 a0_2]] w fun e w' => e = .returned (.int .i64 r) ∧ Below w.heap.size w w' := by
 have hu49 := Try.underlying49
 have HB := My.am (Below.refl w.heap.size w)
 unfold ententeref05_Check.f at h
 have H := h
 clear h
 by_cases c2 : a0_1 < 0
 ·rw [if_pos c2] at H
  have c2b0 := decide_eq_true c2
  clear c2
  obtain rfl := Option.some.inj H
  go_enter Try.func80, Try.ntmps80
  go_wp2_with (first | ((with_reducible refine gate_dst (N := 1) rfl ?_); refine My.bx 1 #[.int .i64 a0_0, .int .i64 a0_1, .int .i64 a0_2] 49 ?_; intro gb441 hg w3 hbox hb; have BK441 := My.am (hbox); have GE441 := My.nge hg (My.bl_ HB); replace HB := My.st HB hb; clear hb hbox hg; have hq4 := My.cz3 BK441))
  go_ret
  exact ⟨My.r2, (My.bl_ HB)⟩
 ·rw [if_neg c2] at H
  have c2b0 := decide_eq_false c2
  clear c2
  by_cases c5 : a0_0 < a0_1
  ·rw [if_pos c5] at H
   have c5b0 := decide_eq_true c5
   clear c5
   obtain rfl := Option.some.inj H
   go_enter Try.func80, Try.ntmps80
   go_wp2_with (first | ((with_reducible refine gate_dst (N := 1) rfl ?_); refine My.bx 1 #[.int .i64 a0_0, .int .i64 a0_1, .int .i64 a0_2] 49 ?_; intro gb441 hg w6 hbox hb; have BK441 := My.am (hbox); have GE441 := My.nge hg (My.bl_ HB); replace HB := My.st HB hb; clear hb hbox hg; have hq7 := My.cz3 BK441))
   go_ret
   exact ⟨My.r2, (My.bl_ HB)⟩
  rw [if_neg c5] at H
  have c5b0 := decide_eq_false c5
  clear c5
  by_cases c8 : a0_2 < 0
  ·rw [if_pos c8] at H
   have c8b0 := decide_eq_true c8
   clear c8
   obtain rfl := Option.some.inj H
   go_enter Try.func80, Try.ntmps80
   go_wp2_with (first | ((with_reducible refine gate_dst (N := 1) rfl ?_); refine My.bx 1 #[.int .i64 a0_0, .int .i64 a0_1, .int .i64 a0_2] 49 ?_; intro gb441 hg w9 hbox hb; have BK441 := My.am (hbox); have GE441 := My.nge hg (My.bl_ HB); replace HB := My.st HB hb; clear hb hbox hg; have hq10 := My.cz3 BK441))
   go_ret
   exact ⟨My.r2, (My.bl_ HB)⟩
  rw [if_neg c8] at H
  have c8b0 := decide_eq_false c8
  clear c8
  by_cases c11 : a0_0 > 1000000000000000
  ·rw [if_pos c11] at H
   have c11b0 : decide (1000000000000000 < a0_0) = true := decide_eq_true c11
   clear c11
   obtain rfl := Option.some.inj H
   go_enter Try.func80, Try.ntmps80
   go_wp2_with (first | ((with_reducible refine gate_dst (N := 1) rfl ?_); refine My.bx 1 #[.int .i64 a0_0, .int .i64 a0_1, .int .i64 a0_2] 49 ?_; intro gb441 hg w12 hbox hb; have BK441 := My.am (hbox); have GE441 := My.nge hg (My.bl_ HB); replace HB := My.st HB hb; clear hb hbox hg; have hq13 := My.cz3 BK441))
   go_ret
   exact ⟨My.r2, (My.bl_ HB)⟩
  rw [if_neg c11] at H
  have c11b0 : decide (1000000000000000 < a0_0) = false := decide_eq_false c11
  clear c11
  by_cases c14 : a0_2 > 1000000000000000
  ·rw [if_pos c14] at H
   have c14b0 : decide (1000000000000000 < a0_2) = true := decide_eq_true c14
   clear c14
   obtain rfl := Option.some.inj H
   go_enter Try.func80, Try.ntmps80
   go_wp2_with (first | ((with_reducible refine gate_dst (N := 1) rfl ?_); refine My.bx 1 #[.int .i64 a0_0, .int .i64 a0_1, .int .i64 a0_2] 49 ?_; intro gb441 hg w15 hbox hb; have BK441 := My.am (hbox); have GE441 := My.nge hg (My.bl_ HB); replace HB := My.st HB hb; clear hb hbox hg; have hq16 := My.cz3 BK441))
   go_ret
   exact ⟨My.r2, (My.bl_ HB)⟩
  rw [if_neg c14] at H
  have c14b0 : decide (1000000000000000 < a0_2) = false := decide_eq_false c14
  clear c14
  by_cases c17 : (wrap64 (a0_0 + a0_2)) > 1000000000000000
  ·rw [if_pos c17] at H
   have c17b0 : decide (1000000000000000 < (wrap64 (a0_0 + a0_2))) = true := decide_eq_true c17
   clear c17
   obtain rfl := Option.some.inj H
   go_enter Try.func80, Try.ntmps80
   go_wp2_with (first | ((with_reducible refine gate_dst (N := 1) rfl ?_); refine My.bx 1 #[.int .i64 a0_0, .int .i64 a0_1, .int .i64 a0_2] 49 ?_; intro gb441 hg w18 hbox hb; have BK441 := My.am (hbox); have GE441 := My.nge hg (My.bl_ HB); replace HB := My.st HB hb; clear hb hbox hg; have hq19 := My.cz3 BK441))
   go_ret
   exact ⟨My.r2, (My.bl_ HB)⟩
  rw [if_neg c17] at H
  have c17b0 : decide (1000000000000000 < (wrap64 (a0_0 + a0_2))) = false := decide_eq_false c17
  clear c17
  obtain rfl := Option.some.inj H
  go_enter Try.func80, Try.ntmps80
  go_wp2_with (first | ((with_reducible refine gate_dst (N := 1) rfl ?_); refine My.bx 1 #[.int .i64 a0_0, .int .i64 a0_1, .int .i64 a0_2] 49 ?_; intro gb441 hg w20 hbox hb; have BK441 := My.am (hbox); have GE441 := My.nge hg (My.bl_ HB); replace HB := My.st HB hb; clear hb hbox hg; have hq21 := My.cz3 BK441))
  go_ret
  exact ⟨My.r2, (My.bl_ HB)⟩

/-! ### ententeref06_May: function 58 -/
def ententeref06_May.f (k : Nat) (a0_0 : ByteArray) (a0_1 : Int) (a0_2 : Int) (a0_3 : Int) (a0_4 : Int) (a0_5 : Int) (a0_6 : Int) : Option (Int) := (ententeref06_Name.f k a0_0).bind fun t443 => (if t443 = true then ((ententeref05_Check.f a0_1 a0_2 a0_3).bind fun t444 => (if t444 = 0 then ((ententeref05_Check.f a0_4 a0_5 a0_6).bind fun t445 => (if t445 = 0 then (some 0) else (some 2))) else (some 2))) else (some 2))
theorem ententeref06_May.mono : ∀ a0 a1 a2 a3 a4 a5 a6 k, LeO (ententeref06_May.f k a0 a1 a2 a3 a4 a5 a6) (ententeref06_May.f (k + 1) a0 a1 a2 a3 a4 a5 a6) := by
 intro a0 a1 a2 a3 a4 a5 a6 k
 unfold ententeref06_May.f
 repeat' (with_reducible first | exact ententeref06_Name.mono _ _ | exact LeO.refl _ | exact LeO.none _ | apply LeO.ite | refine LeO.bind ?_ (fun _ => ?_))
theorem ententeref06_May.calls (k : Nat) (a0_0 : ByteArray) (a0_1 : Int) (a0_2 : Int) (a0_3 : Int) (a0_4 : Int) (a0_5 : Int) (a0_6 : Int) (r : Int) (w : World) (h : ententeref06_May.f k a0_0 a0_1 a0_2 a0_3 a0_4 a0_5 a0_6 = some r) :
  Calls Try.prog 58 #[.agg #[.string a0_0, .int .i64 a0_1, .int .i64 a0_2, .int .i64 a0_3, .int .i64 a0_4, .int .i64 a0_5, .int .i64 a0_6]] w fun e w' => e = .returned (.int .i64 r) ∧ Below w.heap.size w w' := by
 have hu51 := Try.underlying51
 have hu49 := Try.underlying49
 have HB := My.am (Below.refl w.heap.size w)
 unfold ententeref06_May.f at h
 have H := h
 clear h
 replace H := Option.bind_eq_some_iff.mp H
 obtain ⟨t443, A20, H⟩ := H
 try dsimp only at H
 have A2 := My.am A20
 clear A20
 by_cases c3 : t443 = true
 ·subst c3
  rw [if_pos rfl] at H
  replace H := Option.bind_eq_some_iff.mp H
  obtain ⟨t444, A40, H⟩ := H
  try dsimp only at H
  have A4 := My.am A40
  clear A40
  by_cases c5 : t444 = 0
  ·rw [if_pos c5] at H
   have c5b0 : (t444 == 0) = true := beq_iff_eq.mpr c5
   have c5b1 : (t444 != 0) = false := bne_eq_false_iff_eq.mpr c5
   clear c5
   replace H := Option.bind_eq_some_iff.mp H
   obtain ⟨t445, A60, H⟩ := H
   try dsimp only at H
   have A6 := My.am A60
   clear A60
   by_cases c7 : t445 = 0
   ·rw [if_pos c7] at H
    have c7b0 : (t445 == 0) = true := beq_iff_eq.mpr c7
    have c7b1 : (t445 != 0) = false := bne_eq_false_iff_eq.mpr c7
    clear c7
    obtain rfl := Option.some.inj H
    go_enter Try.func58, Try.ntmps58
    go_wp2_with (first | ((with_reducible refine gate_dst (N := 1) rfl ?_); refine My.bx 1 #[.string a0_0, .int .i64 a0_1, .int .i64 a0_2, .int .i64 a0_3, .int .i64 a0_4, .int .i64 a0_5, .int .i64 a0_6] 51 ?_; intro gb442 hg w8 hbox hb; have BK442 := My.am (hbox); have GE442 := My.nge hg (My.bl_ HB); replace HB := My.st HB hb; clear hb hbox hg; have hq9 := My.cz7 BK442) | ((with_reducible refine gate_callee (f := 35) rfl ?_); refine goesL_ (some 5) rfl rfl Try.func35 (by kernel_rfl) rfl #[.string a0_0] rfl My.gx ?_; (with_reducible refine (ententeref06_Name.calls k a0_0 true _ A2.out).mono ?_); rintro e w' ⟨rfl, ⟨nd, rfl⟩⟩; refine ⟨_, rfl, ?_⟩) | (go_at_call 80; (with_reducible refine (ententeref05_Check.calls a0_1 a0_2 a0_3 t444 _ A4.out).mono ?_); rintro e w10 ⟨rfl, hb⟩; replace BK442 := My.ab BK442 hb; replace HB := My.st HB hb; (try clear hb); have hq11 := My.cz7 BK442) | (go_at_call 80; (with_reducible refine (ententeref05_Check.calls a0_4 a0_5 a0_6 t445 _ A6.out).mono ?_); rintro e w12 ⟨rfl, hb⟩; replace BK442 := My.ab BK442 hb; replace HB := My.st HB hb; (try clear hb)))
    go_ret
    exact ⟨My.r2, (My.bl_ HB)⟩
   rw [if_neg c7] at H
   have c7b0 : (t445 == 0) = false := beq_eq_false_iff_ne.mpr c7
   have c7b1 : (t445 != 0) = true := bne_iff_ne.mpr c7
   obtain rfl := Option.some.inj H
   go_enter Try.func58, Try.ntmps58
   go_wp2_with (first | ((with_reducible refine gate_dst (N := 1) rfl ?_); refine My.bx 1 #[.string a0_0, .int .i64 a0_1, .int .i64 a0_2, .int .i64 a0_3, .int .i64 a0_4, .int .i64 a0_5, .int .i64 a0_6] 51 ?_; intro gb442 hg w13 hbox hb; have BK442 := My.am (hbox); have GE442 := My.nge hg (My.bl_ HB); replace HB := My.st HB hb; clear hb hbox hg; have hq14 := My.cz7 BK442) | ((with_reducible refine gate_callee (f := 35) rfl ?_); refine goesL_ (some 5) rfl rfl Try.func35 (by kernel_rfl) rfl #[.string a0_0] rfl My.gx ?_; (with_reducible refine (ententeref06_Name.calls k a0_0 true _ A2.out).mono ?_); rintro e w' ⟨rfl, ⟨nd, rfl⟩⟩; refine ⟨_, rfl, ?_⟩) | (go_at_call 80; (with_reducible refine (ententeref05_Check.calls a0_1 a0_2 a0_3 t444 _ A4.out).mono ?_); rintro e w15 ⟨rfl, hb⟩; replace BK442 := My.ab BK442 hb; replace HB := My.st HB hb; (try clear hb); have hq16 := My.cz7 BK442) | (go_at_call 80; (with_reducible refine (ententeref05_Check.calls a0_4 a0_5 a0_6 t445 _ A6.out).mono ?_); rintro e w17 ⟨rfl, hb⟩; replace BK442 := My.ab BK442 hb; replace HB := My.st HB hb; (try clear hb)))
   go_ret
   exact ⟨My.r2, (My.bl_ HB)⟩
  ·rw [if_neg c5] at H
   have c5b0 : (t444 == 0) = false := beq_eq_false_iff_ne.mpr c5
   have c5b1 : (t444 != 0) = true := bne_iff_ne.mpr c5
   obtain rfl := Option.some.inj H
   go_enter Try.func58, Try.ntmps58
   go_wp2_with (first | ((with_reducible refine gate_dst (N := 1) rfl ?_); refine My.bx 1 #[.string a0_0, .int .i64 a0_1, .int .i64 a0_2, .int .i64 a0_3, .int .i64 a0_4, .int .i64 a0_5, .int .i64 a0_6] 51 ?_; intro gb442 hg w18 hbox hb; have BK442 := My.am (hbox); have GE442 := My.nge hg (My.bl_ HB); replace HB := My.st HB hb; clear hb hbox hg; have hq19 := My.cz7 BK442) | ((with_reducible refine gate_callee (f := 35) rfl ?_); refine goesL_ (some 5) rfl rfl Try.func35 (by kernel_rfl) rfl #[.string a0_0] rfl My.gx ?_; (with_reducible refine (ententeref06_Name.calls k a0_0 true _ A2.out).mono ?_); rintro e w' ⟨rfl, ⟨nd, rfl⟩⟩; refine ⟨_, rfl, ?_⟩) | (go_at_call 80; (with_reducible refine (ententeref05_Check.calls a0_1 a0_2 a0_3 t444 _ A4.out).mono ?_); rintro e w20 ⟨rfl, hb⟩; replace BK442 := My.ab BK442 hb; replace HB := My.st HB hb; (try clear hb)))
   go_ret
   exact ⟨My.r2, (My.bl_ HB)⟩
 ·replace c3 := Bool.eq_false_iff.mpr c3
  subst c3
  rw [if_neg (show ¬ (false = true) by decide)] at H
  obtain rfl := Option.some.inj H
  go_enter Try.func58, Try.ntmps58
  go_wp2_with (first | ((with_reducible refine gate_dst (N := 1) rfl ?_); refine My.bx 1 #[.string a0_0, .int .i64 a0_1, .int .i64 a0_2, .int .i64 a0_3, .int .i64 a0_4, .int .i64 a0_5, .int .i64 a0_6] 51 ?_; intro gb442 hg w21 hbox hb; have BK442 := My.am (hbox); have GE442 := My.nge hg (My.bl_ HB); replace HB := My.st HB hb; clear hb hbox hg; have hq22 := My.cz7 BK442) | ((with_reducible refine gate_callee (f := 35) rfl ?_); refine goesL_ (some 5) rfl rfl Try.func35 (by kernel_rfl) rfl #[.string a0_0] rfl My.gx ?_; (with_reducible refine (ententeref06_Name.calls k a0_0 false _ A2.out).mono ?_); rintro e w' ⟨rfl, ⟨nd, rfl⟩⟩; refine ⟨_, rfl, ?_⟩))
  go_ret
  exact ⟨My.r2, (My.bl_ HB)⟩

end Go.Proofs.Ytikanbdhpafbiaa.PZ
