-- Written by a program of this session (wip/tools/mp.py over the kit's printer); Lean checks it.
import Derived.Test.YtcgmoeiknkdljaaPAx0
namespace Go.Proofs.Ytcgmoeiknkdljaa.PA
open Go.RowKit Go.Proofs.YtcgmoeiknkdljaaW.PrintWords Go.Proofs.YtcgmoeiknkdljaaW.PrintLast Go.Proofs.YtcgmoeiknkdljaaW.PrintMore
attribute [local go_sem] max2_int min2_int max_two min_two max_three min_three max_four min_four   -- for this text's walks alone
set_option linter.unusedVariables false
set_option maxHeartbeats 8000000
set_option maxRecDepth 100000
set_option linter.unusedSimpArgs false

/-! ### ententeref06_Name: function 43 -/
mutual
def ententeref06_Name.j0 : Nat → ByteArray → Bool → Option (Bool)
 | 0, _, _ => none
 | k + 1, x0, x13 => if x13 = true then (some false) else (ententeref06_Name.l0 k x0 0)
def ententeref06_Name.l0 : Nat → ByteArray → Int → Option (Bool)
 | 0, _, _ => none
 | k + 1, x0, x3 => if x3 < (x0.size : Int) then (if 0 ≤ x3 then (if (bt x0 x3) ≥ 97 then (if (bt x0 x3) ≥ 48 then (if (bt x0 x3) ≤ 122 then (if x3 = 0 then (if (bt x0 x3) ≤ 57 then (some false) else (ententeref06_Name.l0 k x0 (wrap64 (x3 + 1)))) else (ententeref06_Name.l0 k x0 (wrap64 (x3 + 1)))) else (if (bt x0 x3) ≤ 57 then (if x3 = 0 then (some false) else (ententeref06_Name.l0 k x0 (wrap64 (x3 + 1)))) else (some false))) else (if (bt x0 x3) ≤ 122 then (if x3 = 0 then (ententeref06_Name.l0 k x0 (wrap64 (x3 + 1))) else (ententeref06_Name.l0 k x0 (wrap64 (x3 + 1)))) else (some false))) else (if (bt x0 x3) ≥ 48 then (if (bt x0 x3) ≤ 57 then (if x3 = 0 then (some false) else (ententeref06_Name.l0 k x0 (wrap64 (x3 + 1)))) else (some false)) else (some false))) else (none)) else (some true)
end
def ententeref06_Name.f (k : Nat) (a0 : ByteArray) : Option (Bool) := if (a0.size : Int) < 1 then (ententeref06_Name.j0 k a0 true) else (ententeref06_Name.j0 k a0 (decide ((a0.size : Int) > 16)))
theorem ententeref06_Name.mono_l : ∀ k, (∀ y0 y1, LeO (ententeref06_Name.j0 k y0 y1) (ententeref06_Name.j0 (k + 1) y0 y1)) ∧ (∀ y0 y1, LeO (ententeref06_Name.l0 k y0 y1) (ententeref06_Name.l0 (k + 1) y0 y1))
 | 0 => ⟨fun _ _ r h => by simp [ententeref06_Name.j0] at h, fun _ _ r h => by simp [ententeref06_Name.l0] at h⟩
 | k + 1 => by
  obtain ⟨ih0, ih1⟩ := ententeref06_Name.mono_l k
  refine ⟨?_, ?_⟩
  ·intro y0 y1
   unfold ententeref06_Name.j0
   repeat' (with_reducible first | exact ih0 _ _ | exact ih1 _ _ | exact LeO.refl _ | exact LeO.none _ | apply LeO.ite | refine LeO.bind ?_ (fun _ => ?_))
  intro y0 y1
  unfold ententeref06_Name.l0
  repeat' (with_reducible first | exact ih0 _ _ | exact ih1 _ _ | exact LeO.refl _ | exact LeO.none _ | apply LeO.ite | refine LeO.bind ?_ (fun _ => ?_))
theorem ententeref06_Name.mono : ∀ a0 k, LeO (ententeref06_Name.f k a0) (ententeref06_Name.f (k + 1) a0) := by
 intro a0 k
 obtain ⟨ih0, ih1⟩ := ententeref06_Name.mono_l k
 unfold ententeref06_Name.f
 repeat' (with_reducible first | exact ih0 _ _ | exact ih1 _ _ | exact LeO.refl _ | exact LeO.none _ | apply LeO.ite | refine LeO.bind ?_ (fun _ => ?_))
theorem ententeref06_Name.calls (k : Nat) (a0 : ByteArray) (r : Bool) (w : World) (h : ententeref06_Name.f k a0 = some r) :
  Calls Try.prog 43 #[.string a0] w fun e w' => e = .returned (.bool r) ∧ Drawn0 w w' := by
 unfold ententeref06_Name.f at h
 have H := h
 clear h
 have HC2 := My.am H
 clear H
 go_enter Try.func43, Try.ntmps43
 go_upto_region 1 with (fail)
 go_cut [13] (fun v13 wc => ∃ (kq : Nat) (x13_1 : Bool), v13 = .bool x13_1 ∧ Aside0 (ententeref06_Name.j0 kq a0 x13_1 = some r) ∧ Aside0 (kq ≤ k) ∧ Drawn0 w wc)
 case first =>
  have H := HC2.out
  clear HC2
  by_cases c3 : (a0.size : Int) < 1
  ·rw [if_pos c3] at H
   have c3b0 := decide_eq_true c3
   have c3b1 : decide (a0.size < 1) = true := decide_eq_true (by omega)
   clear c3
   (first | rw [c3b0] | (simp only [i64_w, i32_w]; rw [c3b0]) | skip)
   have H' := My.am H
   clear H
   go_wp2
   go_meet
   case rel => exact ⟨_, (true), My.r1, H', ⟨My.r4⟩, by repeat (first | exact Drawn0.refl _ | apply Drawn0.step)⟩
  ·rw [if_neg c3] at H
   have c3b0 := decide_eq_false c3
   have c3b1 : decide (a0.size < 1) = false := decide_eq_false (by omega)
   clear c3
   (first | rw [c3b0] | (simp only [i64_w, i32_w]; rw [c3b0]) | skip)
   have H' := My.am H
   clear H
   go_wp2
   go_meet
   case rel => exact ⟨_, (decide ((a0.size : Int) > 16)), My.r1, H', ⟨My.r4⟩, by repeat (first | exact Drawn0.refl _ | apply Drawn0.step)⟩
 case rest =>
  clear HC2
  obtain ⟨kq, x13_1, rfl, HA, HJ1, ⟨mc1, rfl⟩⟩ := hcut
  cases kq with
  | zero => exact absurd HA.out (by simp [ententeref06_Name.j0])
  | succ kj1 =>
   have H := HA.out
   clear HA
   simp only [ententeref06_Name.j0] at H
   by_cases c4 : x13_1 = true
   ·subst c4
    rw [if_pos rfl] at H
    obtain rfl := Option.some.inj H
    go_wp2
    go_ret
    exact ⟨by first | rfl | (simp; done) | (simp [*]; done), by repeat (first | exact Drawn0.refl _ | apply Drawn0.step)⟩
   replace c4 := Bool.eq_false_iff.mpr c4
   subst c4
   rw [if_neg (show ¬ (false = true) by decide)] at H
   have H' := My.am H
   clear H
   go_wp2
   go_loopg [3] kj1 (fun kq v3 w' => ∃ (x3_2 : Int), v3 = .int .i64 x3_2 ∧ Aside0 (ententeref06_Name.l0 kq a0 x3_2 = some r) ∧ Aside0 (kq ≤ kj1) ∧ Drawn0 w w')
   case atStart => exact ⟨(0), My.r1, H', ⟨Nat.le_refl _⟩, by repeat (first | exact Drawn0.refl _ | apply Drawn0.step)⟩
   case round =>
    clear H'
    try clear c4
    obtain ⟨x3_2, rfl, HA, HK2, ⟨m2, rfl⟩⟩ := hrel
    cases gk with
    | zero => exact absurd HA.out (by simp [ententeref06_Name.l0])
    | succ k2 =>
     have H := HA.out
     clear HA
     simp only [ententeref06_Name.l0] at H
     by_cases c5 : x3_2 < (a0.size : Int)
     rotate_left
     ·rw [if_neg c5] at H
      have c5b0 := decide_eq_false c5
      clear c5
      obtain rfl := Option.some.inj H
      go_wp2
      go_ret
      exact ⟨by first | rfl | (simp; done) | (simp [*]; done), by repeat (first | exact Drawn0.refl _ | apply Drawn0.step)⟩

     rw [if_pos c5] at H
     have c5b0 := decide_eq_true c5
     clear c5
     replace H := My.ds H
     obtain ⟨c6b0, H⟩ := H
     by_cases c8 : (bt a0 x3_2) ≥ 97
     rotate_left
     ·rw [if_neg c8] at H
      have c8b0 : decide (97 ≤ (bt a0 x3_2)) = false := decide_eq_false c8
      clear c8
      by_cases c21 : (bt a0 x3_2) ≥ 48
      rotate_left
      ·rw [if_neg c21] at H
       have c21b0 : decide (48 ≤ (bt a0 x3_2)) = false := decide_eq_false c21
       clear c21
       obtain rfl := Option.some.inj H
       have p7 : 0 ≤ (x3_2 : Int) := My.as_
       have q7 : x3_2 < (a0.size : Int) := My.as_
       have hx7 := bt_at a0 x3_2
       replace p7 := eq_true p7
       replace q7 := eq_true q7
       have p20 : 0 ≤ (x3_2 : Int) := My.as_
       have q20 : x3_2 < (a0.size : Int) := My.as_
       have hx20 := bt_at a0 x3_2
       replace p20 := eq_true p20
       replace q20 := eq_true q20
       go_wp2
       go_ret
       exact ⟨by first | rfl | (simp; done) | (simp [*]; done), by repeat (first | exact Drawn0.refl _ | apply Drawn0.step)⟩
      rw [if_pos c21] at H
      have c21b0 : decide (48 ≤ (bt a0 x3_2)) = true := decide_eq_true c21
      clear c21
      by_cases c23 : (bt a0 x3_2) ≤ 57
      rotate_left
      ·rw [if_neg c23] at H
       have c23b0 := decide_eq_false c23
       clear c23
       obtain rfl := Option.some.inj H
       have p7 : 0 ≤ (x3_2 : Int) := My.as_
       have q7 : x3_2 < (a0.size : Int) := My.as_
       have hx7 := bt_at a0 x3_2
       replace p7 := eq_true p7
       replace q7 := eq_true q7
       have p20 : 0 ≤ (x3_2 : Int) := My.as_
       have q20 : x3_2 < (a0.size : Int) := My.as_
       have hx20 := bt_at a0 x3_2
       replace p20 := eq_true p20
       replace q20 := eq_true q20
       have p22 : 0 ≤ (x3_2 : Int) := My.as_
       have q22 : x3_2 < (a0.size : Int) := My.as_
       have hx22 := bt_at a0 x3_2
       replace p22 := eq_true p22
       replace q22 := eq_true q22
       go_wp2
       go_ret
       exact ⟨by first | rfl | (simp; done) | (simp [*]; done), by repeat (first | exact Drawn0.refl _ | apply Drawn0.step)⟩
      rw [if_pos c23] at H
      have c23b0 := decide_eq_true c23
      clear c23
      by_cases c24 : x3_2 = 0
      ·rw [if_pos c24] at H
       have c24b0 : (x3_2 == 0) = true := beq_iff_eq.mpr c24
       have c24b1 : (x3_2 != 0) = false := bne_eq_false_iff_eq.mpr c24
       clear c24
       obtain rfl := Option.some.inj H
       have p7 : 0 ≤ (x3_2 : Int) := My.as_
       have q7 : x3_2 < (a0.size : Int) := My.as_
       have hx7 := bt_at a0 x3_2
       replace p7 := eq_true p7
       replace q7 := eq_true q7
       have p20 : 0 ≤ (x3_2 : Int) := My.as_
       have q20 : x3_2 < (a0.size : Int) := My.as_
       have hx20 := bt_at a0 x3_2
       replace p20 := eq_true p20
       replace q20 := eq_true q20
       have p22 : 0 ≤ (x3_2 : Int) := My.as_
       have q22 : x3_2 < (a0.size : Int) := My.as_
       have hx22 := bt_at a0 x3_2
       replace p22 := eq_true p22
       replace q22 := eq_true q22
       go_wp2
       go_ret
       exact ⟨by first | rfl | (simp; done) | (simp [*]; done), by repeat (first | exact Drawn0.refl _ | apply Drawn0.step)⟩
      rw [if_neg c24] at H
      have c24b0 : (x3_2 == 0) = false := beq_eq_false_iff_ne.mpr c24
      have c24b1 : (x3_2 != 0) = true := bne_iff_ne.mpr c24
      have H' := My.am H
      clear H
      have p7 : 0 ≤ (x3_2 : Int) := My.as_
      have q7 : x3_2 < (a0.size : Int) := My.as_
      have hx7 := bt_at a0 x3_2
      replace p7 := eq_true p7
      replace q7 := eq_true q7
      have p20 : 0 ≤ (x3_2 : Int) := My.as_
      have q20 : x3_2 < (a0.size : Int) := My.as_
      have hx20 := bt_at a0 x3_2
      replace p20 := eq_true p20
      replace q20 := eq_true q20
      have p22 : 0 ≤ (x3_2 : Int) := My.as_
      have q22 : x3_2 < (a0.size : Int) := My.as_
      have hx22 := bt_at a0 x3_2
      replace p22 := eq_true p22
      replace q22 := eq_true q22
      go_wp2
      go_roundg k2
      case measure => have := HJ1.out; have := HK2.out; omega
      case rel => exact ⟨(wrap64 (x3_2 + 1)), My.r1, H', ⟨by have := HJ1.out; have := HK2.out; omega⟩, by repeat (first | exact Drawn0.refl _ | apply Drawn0.step)⟩
     rw [if_pos c8] at H
     have c8b0 : decide (97 ≤ (bt a0 x3_2)) = true := decide_eq_true c8
     clear c8
     by_cases c11 : (bt a0 x3_2) ≥ 48
     rotate_left
     ·rw [if_neg c11] at H
      have c11b0 : decide (48 ≤ (bt a0 x3_2)) = false := decide_eq_false c11
      clear c11
      by_cases c18 : (bt a0 x3_2) ≤ 122
      rotate_left
      ·rw [if_neg c18] at H
       have c18b0 := decide_eq_false c18
       clear c18
       obtain rfl := Option.some.inj H
       have p7 : 0 ≤ (x3_2 : Int) := My.as_
       have q7 : x3_2 < (a0.size : Int) := My.as_
       have hx7 := bt_at a0 x3_2
       replace p7 := eq_true p7
       replace q7 := eq_true q7
       have p9 : 0 ≤ (x3_2 : Int) := My.as_
       have q9 : x3_2 < (a0.size : Int) := My.as_
       have hx9 := bt_at a0 x3_2
       replace p9 := eq_true p9
       replace q9 := eq_true q9
       have p10 : 0 ≤ (x3_2 : Int) := My.as_
       have q10 : x3_2 < (a0.size : Int) := My.as_
       have hx10 := bt_at a0 x3_2
       replace p10 := eq_true p10
       replace q10 := eq_true q10
       go_wp2
       go_ret
       exact ⟨by first | rfl | (simp; done) | (simp [*]; done), by repeat (first | exact Drawn0.refl _ | apply Drawn0.step)⟩
      rw [if_pos c18] at H
      have c18b0 := decide_eq_true c18
      clear c18
      by_cases c19 : x3_2 = 0
      ·rw [if_pos c19] at H
       have c19b0 : (x3_2 == 0) = true := beq_iff_eq.mpr c19
       have c19b1 : (x3_2 != 0) = false := bne_eq_false_iff_eq.mpr c19
       clear c19
       have H' := My.am H
       clear H
       have p7 : 0 ≤ (x3_2 : Int) := My.as_
       have q7 : x3_2 < (a0.size : Int) := My.as_
       have hx7 := bt_at a0 x3_2
       replace p7 := eq_true p7
       replace q7 := eq_true q7
       have p9 : 0 ≤ (x3_2 : Int) := My.as_
       have q9 : x3_2 < (a0.size : Int) := My.as_
       have hx9 := bt_at a0 x3_2
       replace p9 := eq_true p9
       replace q9 := eq_true q9
       have p10 : 0 ≤ (x3_2 : Int) := My.as_
       have q10 : x3_2 < (a0.size : Int) := My.as_
       have hx10 := bt_at a0 x3_2
       replace p10 := eq_true p10
       replace q10 := eq_true q10
       go_wp2
       go_roundg k2
       case measure => have := HJ1.out; have := HK2.out; omega
       case rel => exact ⟨(wrap64 (x3_2 + 1)), My.r1, H', ⟨by have := HJ1.out; have := HK2.out; omega⟩, by repeat (first | exact Drawn0.refl _ | apply Drawn0.step)⟩
      rw [if_neg c19] at H
      have c19b0 : (x3_2 == 0) = false := beq_eq_false_iff_ne.mpr c19
      have c19b1 : (x3_2 != 0) = true := bne_iff_ne.mpr c19
      have H' := My.am H
      clear H
      have p7 : 0 ≤ (x3_2 : Int) := My.as_
      have q7 : x3_2 < (a0.size : Int) := My.as_
      have hx7 := bt_at a0 x3_2
      replace p7 := eq_true p7
      replace q7 := eq_true q7
      have p9 : 0 ≤ (x3_2 : Int) := My.as_
      have q9 : x3_2 < (a0.size : Int) := My.as_
      have hx9 := bt_at a0 x3_2
      replace p9 := eq_true p9
      replace q9 := eq_true q9
      have p10 : 0 ≤ (x3_2 : Int) := My.as_
      have q10 : x3_2 < (a0.size : Int) := My.as_
      have hx10 := bt_at a0 x3_2
      replace p10 := eq_true p10
      replace q10 := eq_true q10
      go_wp2
      go_roundg k2
      case measure => have := HJ1.out; have := HK2.out; omega
      case rel => exact ⟨(wrap64 (x3_2 + 1)), My.r1, H', ⟨by have := HJ1.out; have := HK2.out; omega⟩, by repeat (first | exact Drawn0.refl _ | apply Drawn0.step)⟩
     rw [if_pos c11] at H
     have c11b0 : decide (48 ≤ (bt a0 x3_2)) = true := decide_eq_true c11
     clear c11
     by_cases c13 : (bt a0 x3_2) ≤ 122
     ·rw [if_pos c13] at H
      have c13b0 := decide_eq_true c13
      clear c13
      by_cases c14 : x3_2 = 0
      rotate_left
      ·rw [if_neg c14] at H
       have c14b0 : (x3_2 == 0) = false := beq_eq_false_iff_ne.mpr c14
       have c14b1 : (x3_2 != 0) = true := bne_iff_ne.mpr c14
       have H' := My.am H
       clear H
       have p7 : 0 ≤ (x3_2 : Int) := My.as_
       have q7 : x3_2 < (a0.size : Int) := My.as_
       have hx7 := bt_at a0 x3_2
       replace p7 := eq_true p7
       replace q7 := eq_true q7
       have p9 : 0 ≤ (x3_2 : Int) := My.as_
       have q9 : x3_2 < (a0.size : Int) := My.as_
       have hx9 := bt_at a0 x3_2
       replace p9 := eq_true p9
       replace q9 := eq_true q9
       have p10 : 0 ≤ (x3_2 : Int) := My.as_
       have q10 : x3_2 < (a0.size : Int) := My.as_
       have hx10 := bt_at a0 x3_2
       replace p10 := eq_true p10
       replace q10 := eq_true q10
       have p12 : 0 ≤ (x3_2 : Int) := My.as_
       have q12 : x3_2 < (a0.size : Int) := My.as_
       have hx12 := bt_at a0 x3_2
       replace p12 := eq_true p12
       replace q12 := eq_true q12
       go_wp2
       go_roundg k2
       case measure => have := HJ1.out; have := HK2.out; omega
       case rel => exact ⟨(wrap64 (x3_2 + 1)), My.r1, H', ⟨by have := HJ1.out; have := HK2.out; omega⟩, by repeat (first | exact Drawn0.refl _ | apply Drawn0.step)⟩
      rw [if_pos c14] at H
      have c14b0 : (x3_2 == 0) = true := beq_iff_eq.mpr c14
      have c14b1 : (x3_2 != 0) = false := bne_eq_false_iff_eq.mpr c14
      clear c14
      by_cases c15 : (bt a0 x3_2) ≤ 57
      ·rw [if_pos c15] at H
       have c15b0 := decide_eq_true c15
       clear c15
       obtain rfl := Option.some.inj H
       have p7 : 0 ≤ (x3_2 : Int) := My.as_
       have q7 : x3_2 < (a0.size : Int) := My.as_
       have hx7 := bt_at a0 x3_2
       replace p7 := eq_true p7
       replace q7 := eq_true q7
       have p9 : 0 ≤ (x3_2 : Int) := My.as_
       have q9 : x3_2 < (a0.size : Int) := My.as_
       have hx9 := bt_at a0 x3_2
       replace p9 := eq_true p9
       replace q9 := eq_true q9
       have p10 : 0 ≤ (x3_2 : Int) := My.as_
       have q10 : x3_2 < (a0.size : Int) := My.as_
       have hx10 := bt_at a0 x3_2
       replace p10 := eq_true p10
       replace q10 := eq_true q10
       have p12 : 0 ≤ (x3_2 : Int) := My.as_
       have q12 : x3_2 < (a0.size : Int) := My.as_
       have hx12 := bt_at a0 x3_2
       replace p12 := eq_true p12
       replace q12 := eq_true q12
       go_wp2
       go_ret
       exact ⟨by first | rfl | (simp; done) | (simp [*]; done), by repeat (first | exact Drawn0.refl _ | apply Drawn0.step)⟩
      rw [if_neg c15] at H
      have c15b0 := decide_eq_false c15
      clear c15
      have H' := My.am H
      clear H
      have p7 : 0 ≤ (x3_2 : Int) := My.as_
      have q7 : x3_2 < (a0.size : Int) := My.as_
      have hx7 := bt_at a0 x3_2
      replace p7 := eq_true p7
      replace q7 := eq_true q7
      have p9 : 0 ≤ (x3_2 : Int) := My.as_
      have q9 : x3_2 < (a0.size : Int) := My.as_
      have hx9 := bt_at a0 x3_2
      replace p9 := eq_true p9
      replace q9 := eq_true q9
      have p10 : 0 ≤ (x3_2 : Int) := My.as_
      have q10 : x3_2 < (a0.size : Int) := My.as_
      have hx10 := bt_at a0 x3_2
      replace p10 := eq_true p10
      replace q10 := eq_true q10
      have p12 : 0 ≤ (x3_2 : Int) := My.as_
      have q12 : x3_2 < (a0.size : Int) := My.as_
      have hx12 := bt_at a0 x3_2
      replace p12 := eq_true p12
      replace q12 := eq_true q12
      go_wp2
      go_roundg k2
      case measure => have := HJ1.out; have := HK2.out; omega
      case rel => exact ⟨(wrap64 (x3_2 + 1)), My.r1, H', ⟨by have := HJ1.out; have := HK2.out; omega⟩, by repeat (first | exact Drawn0.refl _ | apply Drawn0.step)⟩
     rw [if_neg c13] at H
     have c13b0 := decide_eq_false c13
     clear c13
     by_cases c16 : (bt a0 x3_2) ≤ 57
     rotate_left
     ·rw [if_neg c16] at H
      have c16b0 := decide_eq_false c16
      clear c16
      obtain rfl := Option.some.inj H
      have p7 : 0 ≤ (x3_2 : Int) := My.as_
      have q7 : x3_2 < (a0.size : Int) := My.as_
      have hx7 := bt_at a0 x3_2
      replace p7 := eq_true p7
      replace q7 := eq_true q7
      have p9 : 0 ≤ (x3_2 : Int) := My.as_
      have q9 : x3_2 < (a0.size : Int) := My.as_
      have hx9 := bt_at a0 x3_2
      replace p9 := eq_true p9
      replace q9 := eq_true q9
      have p10 : 0 ≤ (x3_2 : Int) := My.as_
      have q10 : x3_2 < (a0.size : Int) := My.as_
      have hx10 := bt_at a0 x3_2
      replace p10 := eq_true p10
      replace q10 := eq_true q10
      have p12 : 0 ≤ (x3_2 : Int) := My.as_
      have q12 : x3_2 < (a0.size : Int) := My.as_
      have hx12 := bt_at a0 x3_2
      replace p12 := eq_true p12
      replace q12 := eq_true q12
      go_wp2
      go_ret
      exact ⟨by first | rfl | (simp; done) | (simp [*]; done), by repeat (first | exact Drawn0.refl _ | apply Drawn0.step)⟩
     rw [if_pos c16] at H
     have c16b0 := decide_eq_true c16
     clear c16
     by_cases c17 : x3_2 = 0
     ·rw [if_pos c17] at H
      have c17b0 : (x3_2 == 0) = true := beq_iff_eq.mpr c17
      have c17b1 : (x3_2 != 0) = false := bne_eq_false_iff_eq.mpr c17
      clear c17
      obtain rfl := Option.some.inj H
      have p7 : 0 ≤ (x3_2 : Int) := My.as_
      have q7 : x3_2 < (a0.size : Int) := My.as_
      have hx7 := bt_at a0 x3_2
      replace p7 := eq_true p7
      replace q7 := eq_true q7
      have p9 : 0 ≤ (x3_2 : Int) := My.as_
      have q9 : x3_2 < (a0.size : Int) := My.as_
      have hx9 := bt_at a0 x3_2
      replace p9 := eq_true p9
      replace q9 := eq_true q9
      have p10 : 0 ≤ (x3_2 : Int) := My.as_
      have q10 : x3_2 < (a0.size : Int) := My.as_
      have hx10 := bt_at a0 x3_2
      replace p10 := eq_true p10
      replace q10 := eq_true q10
      have p12 : 0 ≤ (x3_2 : Int) := My.as_
      have q12 : x3_2 < (a0.size : Int) := My.as_
      have hx12 := bt_at a0 x3_2
      replace p12 := eq_true p12
      replace q12 := eq_true q12
      go_wp2
      go_ret
      exact ⟨by first | rfl | (simp; done) | (simp [*]; done), by repeat (first | exact Drawn0.refl _ | apply Drawn0.step)⟩
     rw [if_neg c17] at H
     have c17b0 : (x3_2 == 0) = false := beq_eq_false_iff_ne.mpr c17
     have c17b1 : (x3_2 != 0) = true := bne_iff_ne.mpr c17
     have H' := My.am H
     clear H
     have p7 : 0 ≤ (x3_2 : Int) := My.as_
     have q7 : x3_2 < (a0.size : Int) := My.as_
     have hx7 := bt_at a0 x3_2
     replace p7 := eq_true p7
     replace q7 := eq_true q7
     have p9 : 0 ≤ (x3_2 : Int) := My.as_
     have q9 : x3_2 < (a0.size : Int) := My.as_
     have hx9 := bt_at a0 x3_2
     replace p9 := eq_true p9
     replace q9 := eq_true q9
     have p10 : 0 ≤ (x3_2 : Int) := My.as_
     have q10 : x3_2 < (a0.size : Int) := My.as_
     have hx10 := bt_at a0 x3_2
     replace p10 := eq_true p10
     replace q10 := eq_true q10
     have p12 : 0 ≤ (x3_2 : Int) := My.as_
     have q12 : x3_2 < (a0.size : Int) := My.as_
     have hx12 := bt_at a0 x3_2
     replace p12 := eq_true p12
     replace q12 := eq_true q12
     go_wp2
     go_roundg k2
     case measure => have := HJ1.out; have := HK2.out; omega
     case rel => exact ⟨(wrap64 (x3_2 + 1)), My.r1, H', ⟨by have := HJ1.out; have := HK2.out; omega⟩, by repeat (first | exact Drawn0.refl _ | apply Drawn0.step)⟩
end Go.Proofs.Ytcgmoeiknkdljaa.PA
