-- Written by a program of this session (wip/tools/mp.py over the kit's printer); Lean checks it.
import Derived.Test.YtikanbdhpafbiaaPZx0
namespace Go.Proofs.Ytikanbdhpafbiaa.PZ
open Go.RowKit Go.Proofs.YtikanbdhpafbiaaW.PrintWords Go.Proofs.YtikanbdhpafbiaaW.PrintLast Go.Proofs.YtikanbdhpafbiaaW.PrintMore
attribute [local go_sem] max2_int min2_int max_two min_two max_three min_three max_four min_four   -- for this text's walks alone
set_option linter.unusedVariables false
set_option maxHeartbeats 8000000
set_option maxRecDepth 100000
set_option linter.unusedSimpArgs false

/-! ### act_Name: function 30 -/
mutual
def act_Name.j0 : Nat → ByteArray → Bool → Option (Bool)
 | 0, _, _ => none
 | k + 1, x0, x21 => if x21 = true then (some false) else (act_Name.l0 k x0 (x0.size : Int) 0)
def act_Name.l0 : Nat → ByteArray → Int → Int → Option (Bool)
 | 0, _, _, _ => none
 | k + 1, x0, x23, x24 => if x24 < x23 then (if 0 ≤ x24 then (if x24 < (x0.size : Int) then (if (bt x0 x24) < 97 then (if (bt x0 x24) < 48 then (some false) else (if (bt x0 x24) > 57 then (some false) else (act_Name.l0 k x0 x23 (wrap64 (x24 + 1))))) else (if (bt x0 x24) > 122 then (if (bt x0 x24) < 48 then (some false) else (if (bt x0 x24) > 57 then (some false) else (act_Name.l0 k x0 x23 (wrap64 (x24 + 1))))) else (act_Name.l0 k x0 x23 (wrap64 (x24 + 1))))) else (none)) else (none)) else (some true)
end
def act_Name.f (k : Nat) (a0 : ByteArray) : Option (Bool) := if a0.toList = ([] : List UInt8) then (act_Name.j0 k a0 true) else (if (a0.size : Int) > 16 then (act_Name.j0 k a0 true) else (if 0 < (a0.size : Int) then (if (bt a0 0) < 97 then (act_Name.j0 k a0 true) else (act_Name.j0 k a0 (decide ((bt a0 0) > 122)))) else (none)))
theorem act_Name.mono_l : ∀ k, (∀ y0 y1, LeO (act_Name.j0 k y0 y1) (act_Name.j0 (k + 1) y0 y1)) ∧ (∀ y0 y1 y2, LeO (act_Name.l0 k y0 y1 y2) (act_Name.l0 (k + 1) y0 y1 y2))
 | 0 => ⟨fun _ _ r h => by simp [act_Name.j0] at h, fun _ _ _ r h => by simp [act_Name.l0] at h⟩
 | k + 1 => by
  obtain ⟨ih0, ih1⟩ := act_Name.mono_l k
  refine ⟨?_, ?_⟩
  ·intro y0 y1
   unfold act_Name.j0
   repeat' (with_reducible first | exact ih0 _ _ | exact ih1 _ _ _ | exact LeO.refl _ | exact LeO.none _ | apply LeO.ite | refine LeO.bind ?_ (fun _ => ?_))
  intro y0 y1 y2
  unfold act_Name.l0
  repeat' (with_reducible first | exact ih0 _ _ | exact ih1 _ _ _ | exact LeO.refl _ | exact LeO.none _ | apply LeO.ite | refine LeO.bind ?_ (fun _ => ?_))
theorem act_Name.mono : ∀ a0 k, LeO (act_Name.f k a0) (act_Name.f (k + 1) a0) := by
 intro a0 k
 obtain ⟨ih0, ih1⟩ := act_Name.mono_l k
 unfold act_Name.f
 repeat' (with_reducible first | exact ih0 _ _ | exact ih1 _ _ _ | exact LeO.refl _ | exact LeO.none _ | apply LeO.ite | refine LeO.bind ?_ (fun _ => ?_))
theorem act_Name.calls (k : Nat) (a0 : ByteArray) (r : Bool) (w : World) (h : act_Name.f k a0 = some r) :
  Calls Try.prog 30 #[.string a0] w fun e w' => e = .returned (.bool r) ∧ Drawn0 w w' := by
 unfold act_Name.f at h
 have H := h
 clear h
 have HC2 := My.am H
 clear H
 go_enter Try.func30, Try.ntmps30
 go_upto_region 1 with (fail)
 go_cut [21] (fun v21 wc => ∃ (kq : Nat) (x21_1 : Bool), v21 = .bool x21_1 ∧ Aside0 (act_Name.j0 kq a0 x21_1 = some r) ∧ Aside0 (kq ≤ k) ∧ Drawn0 w wc)
 case first =>
  have H := HC2.out
  clear HC2
  by_cases c3 : a0.toList = ([] : List UInt8)
  ·rw [if_pos c3] at H
   have c3b0 : (a0.toList == ([] : List UInt8)) = true := beq_iff_eq.mpr c3
   have c3b1 : (a0.toList != ([] : List UInt8)) = false := bne_eq_false_iff_eq.mpr c3
   clear c3
   (first | rw [c3b0] | (simp only [i64_w, i32_w]; rw [c3b0]) | skip)
   have H' := My.am H
   clear H
   go_wp2
   go_meet
   case rel => exact ⟨_, (true), My.r1, H', ⟨My.r4⟩, by repeat (first | exact Drawn0.refl _ | apply Drawn0.step)⟩
  ·rw [if_neg c3] at H
   have c3b0 : (a0.toList == ([] : List UInt8)) = false := beq_eq_false_iff_ne.mpr c3
   have c3b1 : (a0.toList != ([] : List UInt8)) = true := bne_iff_ne.mpr c3
   (first | rw [c3b0] | (simp only [i64_w, i32_w]; rw [c3b0]) | skip)
   by_cases c4 : (a0.size : Int) > 16
   ·rw [if_pos c4] at H
    have c4b0 : decide (16 < (a0.size : Int)) = true := decide_eq_true c4
    have c4b1 : decide (16 < a0.size) = true := decide_eq_true (by omega)
    clear c4
    have H' := My.am H
    clear H
    go_wp2
    go_meet
    case rel => exact ⟨_, (true), My.r1, H', ⟨My.r4⟩, by repeat (first | exact Drawn0.refl _ | apply Drawn0.step)⟩
   rw [if_neg c4] at H
   have c4b0 : decide (16 < (a0.size : Int)) = false := decide_eq_false c4
   have c4b1 : decide (16 < a0.size) = false := decide_eq_false (by omega)
   clear c4
   by_cases c5 : 0 < (a0.size : Int)
   rotate_left
   ·exact My.nn c5 H
   rw [if_pos c5] at H
   have c5b0 := decide_eq_true c5
   have c5b1 : decide (0 < a0.size) = true := decide_eq_true (by omega)
   clear c5
   by_cases c7 : (bt a0 0) < 97
   ·rw [if_pos c7] at H
    have c7b0 := decide_eq_true c7
    clear c7
    have H' := My.am H
    clear H
    have p6 : 0 ≤ (0 : Int) := (by omega)
    have q6 : 0 < a0.size := (by have : (0 : Int) < (a0.size : Int) := My.as_; omega)
    have hx6 : ∀ h : 0 < a0.size, ((a0[0]'h).toNat : Int) = bt a0 0 := bt_at a0 0
    clear p6
    have qi6 : (0 < (a0.size : Int)) = True := eq_true (My.as_)
    replace q6 := eq_true q6
    go_wp2
    go_meet
    case rel => exact ⟨_, (true), My.r1, H', ⟨My.r4⟩, by repeat (first | exact Drawn0.refl _ | apply Drawn0.step)⟩
   rw [if_neg c7] at H
   have c7b0 := decide_eq_false c7
   clear c7
   have H' := My.am H
   clear H
   have p6 : 0 ≤ (0 : Int) := (by omega)
   have q6 : 0 < a0.size := (by have : (0 : Int) < (a0.size : Int) := My.as_; omega)
   have hx6 : ∀ h : 0 < a0.size, ((a0[0]'h).toNat : Int) = bt a0 0 := bt_at a0 0
   clear p6
   have qi6 : (0 < (a0.size : Int)) = True := eq_true (My.as_)
   replace q6 := eq_true q6
   have p8 : 0 ≤ (0 : Int) := (by omega)
   have q8 : 0 < a0.size := (by have : (0 : Int) < (a0.size : Int) := My.as_; omega)
   have hx8 : ∀ h : 0 < a0.size, ((a0[0]'h).toNat : Int) = bt a0 0 := bt_at a0 0
   clear p8
   have qi8 : (0 < (a0.size : Int)) = True := eq_true (My.as_)
   replace q8 := eq_true q8
   go_wp2
   go_meet
   case rel => exact ⟨_, (decide ((bt a0 0) > 122)), My.r1, H', ⟨My.r4⟩, by repeat (first | exact Drawn0.refl _ | apply Drawn0.step)⟩
 case rest =>
  clear HC2
  obtain ⟨kq, x21_1, rfl, HA, HJ1, ⟨mc1, rfl⟩⟩ := hcut
  cases kq with
  | zero => exact absurd HA.out (by simp [act_Name.j0])
  | succ kj1 =>
   have H := HA.out
   clear HA
   simp only [act_Name.j0] at H
   by_cases c9 : x21_1 = true
   ·subst c9
    rw [if_pos rfl] at H
    obtain rfl := Option.some.inj H
    go_wp2
    go_ret
    exact ⟨by first | rfl | (simp; done) | (simp [*]; done), by repeat (first | exact Drawn0.refl _ | apply Drawn0.step)⟩
   replace c9 := Bool.eq_false_iff.mpr c9
   subst c9
   rw [if_neg (show ¬ (false = true) by decide)] at H
   have H' := My.am H
   clear H
   go_wp2
   go_loopg [24] kj1 (fun kq v24 w' => ∃ (x24_2 : Int), v24 = .int .i64 x24_2 ∧ Aside0 (act_Name.l0 kq a0 (a0.size : Int) x24_2 = some r) ∧ Aside0 (kq ≤ kj1) ∧ Drawn0 w w')
   case atStart => exact ⟨(0), My.r1, H', ⟨Nat.le_refl _⟩, by repeat (first | exact Drawn0.refl _ | apply Drawn0.step)⟩
   case round =>
    clear H'
    try clear c9
    obtain ⟨x24_2, rfl, HA, HK2, ⟨m2, rfl⟩⟩ := hrel
    cases gk with
    | zero => exact absurd HA.out (by simp [act_Name.l0])
    | succ k2 =>
     have H := HA.out
     clear HA
     simp only [act_Name.l0] at H
     by_cases c10 : x24_2 < (a0.size : Int)
     rotate_left
     ·rw [if_neg c10] at H
      have c10b0 := decide_eq_false c10
      clear c10
      obtain rfl := Option.some.inj H
      go_wp2
      go_ret
      exact ⟨by first | rfl | (simp; done) | (simp [*]; done), by repeat (first | exact Drawn0.refl _ | apply Drawn0.step)⟩

     rw [if_pos c10] at H
     have c10b0 := decide_eq_true c10
     clear c10
     replace H := My.ds H
     obtain ⟨c11b0, H⟩ := H
     replace H := My.ds H
     obtain ⟨c12b0, H⟩ := H
     by_cases c14 : (bt a0 x24_2) < 97
     ·rw [if_pos c14] at H
      have c14b0 := decide_eq_true c14
      clear c14
      by_cases c15 : (bt a0 x24_2) < 48
      ·rw [if_pos c15] at H
       have c15b0 := decide_eq_true c15
       clear c15
       obtain rfl := Option.some.inj H
       have p13 : 0 ≤ (x24_2 : Int) := My.as_
       have q13 : x24_2 < (a0.size : Int) := My.as_
       have hx13 := bt_at a0 x24_2
       replace p13 := eq_true p13
       replace q13 := eq_true q13
       go_wp2
       go_ret
       exact ⟨by first | rfl | (simp; done) | (simp [*]; done), by repeat (first | exact Drawn0.refl _ | apply Drawn0.step)⟩
      rw [if_neg c15] at H
      have c15b0 := decide_eq_false c15
      clear c15
      by_cases c16 : (bt a0 x24_2) > 57
      ·rw [if_pos c16] at H
       have c16b0 : decide (57 < (bt a0 x24_2)) = true := decide_eq_true c16
       clear c16
       obtain rfl := Option.some.inj H
       have p13 : 0 ≤ (x24_2 : Int) := My.as_
       have q13 : x24_2 < (a0.size : Int) := My.as_
       have hx13 := bt_at a0 x24_2
       replace p13 := eq_true p13
       replace q13 := eq_true q13
       go_wp2
       go_ret
       exact ⟨by first | rfl | (simp; done) | (simp [*]; done), by repeat (first | exact Drawn0.refl _ | apply Drawn0.step)⟩
      rw [if_neg c16] at H
      have c16b0 : decide (57 < (bt a0 x24_2)) = false := decide_eq_false c16
      clear c16
      have H' := My.am H
      clear H
      have p13 : 0 ≤ (x24_2 : Int) := My.as_
      have q13 : x24_2 < (a0.size : Int) := My.as_
      have hx13 := bt_at a0 x24_2
      replace p13 := eq_true p13
      replace q13 := eq_true q13
      go_wp2
      go_roundg k2
      case measure => have := HJ1.out; have := HK2.out; omega
      case rel => exact ⟨(wrap64 (x24_2 + 1)), My.r1, H', ⟨by have := HJ1.out; have := HK2.out; omega⟩, by repeat (first | exact Drawn0.refl _ | apply Drawn0.step)⟩
     rw [if_neg c14] at H
     have c14b0 := decide_eq_false c14
     clear c14
     by_cases c17 : (bt a0 x24_2) > 122
     rotate_left
     ·rw [if_neg c17] at H
      have c17b0 : decide (122 < (bt a0 x24_2)) = false := decide_eq_false c17
      clear c17
      have H' := My.am H
      clear H
      have p13 : 0 ≤ (x24_2 : Int) := My.as_
      have q13 : x24_2 < (a0.size : Int) := My.as_
      have hx13 := bt_at a0 x24_2
      replace p13 := eq_true p13
      replace q13 := eq_true q13
      go_wp2
      go_roundg k2
      case measure => have := HJ1.out; have := HK2.out; omega
      case rel => exact ⟨(wrap64 (x24_2 + 1)), My.r1, H', ⟨by have := HJ1.out; have := HK2.out; omega⟩, by repeat (first | exact Drawn0.refl _ | apply Drawn0.step)⟩
     rw [if_pos c17] at H
     have c17b0 : decide (122 < (bt a0 x24_2)) = true := decide_eq_true c17
     clear c17
     by_cases c18 : (bt a0 x24_2) < 48
     ·rw [if_pos c18] at H
      have c18b0 := decide_eq_true c18
      clear c18
      obtain rfl := Option.some.inj H
      have p13 : 0 ≤ (x24_2 : Int) := My.as_
      have q13 : x24_2 < (a0.size : Int) := My.as_
      have hx13 := bt_at a0 x24_2
      replace p13 := eq_true p13
      replace q13 := eq_true q13
      go_wp2
      go_ret
      exact ⟨by first | rfl | (simp; done) | (simp [*]; done), by repeat (first | exact Drawn0.refl _ | apply Drawn0.step)⟩
     rw [if_neg c18] at H
     have c18b0 := decide_eq_false c18
     clear c18
     by_cases c19 : (bt a0 x24_2) > 57
     ·rw [if_pos c19] at H
      have c19b0 : decide (57 < (bt a0 x24_2)) = true := decide_eq_true c19
      clear c19
      obtain rfl := Option.some.inj H
      have p13 : 0 ≤ (x24_2 : Int) := My.as_
      have q13 : x24_2 < (a0.size : Int) := My.as_
      have hx13 := bt_at a0 x24_2
      replace p13 := eq_true p13
      replace q13 := eq_true q13
      go_wp2
      go_ret
      exact ⟨by first | rfl | (simp; done) | (simp [*]; done), by repeat (first | exact Drawn0.refl _ | apply Drawn0.step)⟩
     rw [if_neg c19] at H
     have c19b0 : decide (57 < (bt a0 x24_2)) = false := decide_eq_false c19
     clear c19
     have H' := My.am H
     clear H
     have p13 : 0 ≤ (x24_2 : Int) := My.as_
     have q13 : x24_2 < (a0.size : Int) := My.as_
     have hx13 := bt_at a0 x24_2
     replace p13 := eq_true p13
     replace q13 := eq_true q13
     go_wp2
     go_roundg k2
     case measure => have := HJ1.out; have := HK2.out; omega
     case rel => exact ⟨(wrap64 (x24_2 + 1)), My.r1, H', ⟨by have := HJ1.out; have := HK2.out; omega⟩, by repeat (first | exact Drawn0.refl _ | apply Drawn0.step)⟩
/-! ### cash_Fits: function 31 -/
def cash_Fits.f (a0 : Int) : Option (Bool) := if a0 ≥ 0 then (some (decide (a0 ≤ 1000000000000000))) else (some false)
theorem cash_Fits.calls (a0 : Int) (r : Bool) (w : World) (h : cash_Fits.f a0 = some r) :
  Calls Try.prog 31 #[.int .i64 a0] w fun e w' => e = .returned (.bool r) ∧ Drawn0 w w' := by
 unfold cash_Fits.f at h
 have H := h
 clear h
 by_cases c2 : a0 ≥ 0
 ·rw [if_pos c2] at H
  have c2b0 : decide (0 ≤ a0) = true := decide_eq_true c2
  clear c2
  obtain rfl := Option.some.inj H
  go_enter Try.func31, Try.ntmps31
  go_wp2
  go_ret
  exact ⟨by first | rfl | (simp; done) | (simp [*]; done), by repeat (first | exact Drawn0.refl _ | apply Drawn0.step)⟩
 ·rw [if_neg c2] at H
  have c2b0 : decide (0 ≤ a0) = false := decide_eq_false c2
  clear c2
  obtain rfl := Option.some.inj H
  go_enter Try.func31, Try.ntmps31
  go_wp2
  go_ret
  exact ⟨by first | rfl | (simp; done) | (simp [*]; done), by repeat (first | exact Drawn0.refl _ | apply Drawn0.step)⟩

/-! ### act_Check: function 39 -/
def act_Check.f (k : Nat) (a0_0 : Int) (a0_1 : ByteArray) (a0_2 : Int) : Option (Int) := if a0_0 < 1 then (some 60) else (if a0_0 > 4 then (some 60) else ((act_Name.f k a0_1).bind fun t113 => (if t113 = true then (if a0_2 < 1 then (some 60) else ((cash_Fits.f a0_2).bind fun t114 => (if t114 = true then (some 0) else (some 60)))) else (some 60))))
theorem act_Check.mono : ∀ a0 a1 a2 k, LeO (act_Check.f k a0 a1 a2) (act_Check.f (k + 1) a0 a1 a2) := by
 intro a0 a1 a2 k
 unfold act_Check.f
 repeat' (with_reducible first | exact act_Name.mono _ _ | exact LeO.refl _ | exact LeO.none _ | apply LeO.ite | refine LeO.bind ?_ (fun _ => ?_))
theorem act_Check.calls (k : Nat) (a0_0 : Int) (a0_1 : ByteArray) (a0_2 : Int) (r : Int) (w : World) (h : act_Check.f k a0_0 a0_1 a0_2 = some r) :
  Calls Try.prog 39 #[.agg #[.int .i64 a0_0, .string a0_1, .int .i64 a0_2]] w fun e w' => e = .returned (.int .i64 r) ∧ Below w.heap.size w w' := by
 have hu27 := Try.underlying27
 have HB := My.am (Below.refl w.heap.size w)
 unfold act_Check.f at h
 have H := h
 clear h
 by_cases c2 : a0_0 < 1
 ·rw [if_pos c2] at H
  have c2b0 := decide_eq_true c2
  clear c2
  obtain rfl := Option.some.inj H
  go_enter Try.func39, Try.ntmps39
  go_wp2_with (first | ((with_reducible refine gate_dst (N := 1) rfl ?_); refine My.bx 1 #[.int .i64 a0_0, .string a0_1, .int .i64 a0_2] 27 ?_; intro gb112 hg w3 hbox hb; have BK112 := My.am (hbox); have GE112 := My.nge hg (My.bl_ HB); replace HB := My.st HB hb; clear hb hbox hg; have hq4 := My.cz3 BK112))
  go_ret
  exact ⟨My.r2, (My.bl_ HB)⟩
 ·rw [if_neg c2] at H
  have c2b0 := decide_eq_false c2
  clear c2
  by_cases c5 : a0_0 > 4
  ·rw [if_pos c5] at H
   have c5b0 : decide (4 < a0_0) = true := decide_eq_true c5
   clear c5
   obtain rfl := Option.some.inj H
   go_enter Try.func39, Try.ntmps39
   go_wp2_with (first | ((with_reducible refine gate_dst (N := 1) rfl ?_); refine My.bx 1 #[.int .i64 a0_0, .string a0_1, .int .i64 a0_2] 27 ?_; intro gb112 hg w6 hbox hb; have BK112 := My.am (hbox); have GE112 := My.nge hg (My.bl_ HB); replace HB := My.st HB hb; clear hb hbox hg; have hq7 := My.cz3 BK112))
   go_ret
   exact ⟨My.r2, (My.bl_ HB)⟩
  rw [if_neg c5] at H
  have c5b0 : decide (4 < a0_0) = false := decide_eq_false c5
  clear c5
  replace H := Option.bind_eq_some_iff.mp H
  obtain ⟨t113, A80, H⟩ := H
  try dsimp only at H
  have A8 := My.am A80
  clear A80
  by_cases c9 : t113 = true
  rotate_left
  ·replace c9 := Bool.eq_false_iff.mpr c9
   subst c9
   rw [if_neg (show ¬ (false = true) by decide)] at H
   obtain rfl := Option.some.inj H
   go_enter Try.func39, Try.ntmps39
   go_wp2_with (first | ((with_reducible refine gate_dst (N := 1) rfl ?_); refine My.bx 1 #[.int .i64 a0_0, .string a0_1, .int .i64 a0_2] 27 ?_; intro gb112 hg w19 hbox hb; have BK112 := My.am (hbox); have GE112 := My.nge hg (My.bl_ HB); replace HB := My.st HB hb; clear hb hbox hg; have hq20 := My.cz3 BK112) | (go_at_call 30; (with_reducible refine (act_Name.calls k a0_1 false _ A8.out).mono ?_); rintro e w' ⟨rfl, ⟨nd, rfl⟩⟩))
   go_ret
   exact ⟨My.r2, (My.bl_ HB)⟩

  subst c9
  rw [if_pos rfl] at H
  by_cases c10 : a0_2 < 1
  ·rw [if_pos c10] at H
   have c10b0 := decide_eq_true c10
   clear c10
   obtain rfl := Option.some.inj H
   go_enter Try.func39, Try.ntmps39
   go_wp2_with (first | ((with_reducible refine gate_dst (N := 1) rfl ?_); refine My.bx 1 #[.int .i64 a0_0, .string a0_1, .int .i64 a0_2] 27 ?_; intro gb112 hg w11 hbox hb; have BK112 := My.am (hbox); have GE112 := My.nge hg (My.bl_ HB); replace HB := My.st HB hb; clear hb hbox hg; have hq12 := My.cz3 BK112) | (go_at_call 30; (with_reducible refine (act_Name.calls k a0_1 true _ A8.out).mono ?_); rintro e w' ⟨rfl, ⟨nd, rfl⟩⟩))
   go_ret
   exact ⟨My.r2, (My.bl_ HB)⟩
  rw [if_neg c10] at H
  have c10b0 := decide_eq_false c10
  clear c10
  replace H := Option.bind_eq_some_iff.mp H
  obtain ⟨t114, A130, H⟩ := H
  try dsimp only at H
  have A13 := My.am A130
  clear A130
  by_cases c14 : t114 = true
  ·subst c14
   rw [if_pos rfl] at H
   obtain rfl := Option.some.inj H
   go_enter Try.func39, Try.ntmps39
   go_wp2_with (first | ((with_reducible refine gate_dst (N := 1) rfl ?_); refine My.bx 1 #[.int .i64 a0_0, .string a0_1, .int .i64 a0_2] 27 ?_; intro gb112 hg w15 hbox hb; have BK112 := My.am (hbox); have GE112 := My.nge hg (My.bl_ HB); replace HB := My.st HB hb; clear hb hbox hg; have hq16 := My.cz3 BK112) | (go_at_call 30; (with_reducible refine (act_Name.calls k a0_1 true _ A8.out).mono ?_); rintro e w' ⟨rfl, ⟨nd, rfl⟩⟩) | (go_at_call 31; (with_reducible refine (cash_Fits.calls a0_2 true _ A13.out).mono ?_); rintro e w' ⟨rfl, ⟨nd, rfl⟩⟩))
   go_ret
   exact ⟨My.r2, (My.bl_ HB)⟩
  replace c14 := Bool.eq_false_iff.mpr c14
  subst c14
  rw [if_neg (show ¬ (false = true) by decide)] at H
  obtain rfl := Option.some.inj H
  go_enter Try.func39, Try.ntmps39
  go_wp2_with (first | ((with_reducible refine gate_dst (N := 1) rfl ?_); refine My.bx 1 #[.int .i64 a0_0, .string a0_1, .int .i64 a0_2] 27 ?_; intro gb112 hg w17 hbox hb; have BK112 := My.am (hbox); have GE112 := My.nge hg (My.bl_ HB); replace HB := My.st HB hb; clear hb hbox hg; have hq18 := My.cz3 BK112) | (go_at_call 30; (with_reducible refine (act_Name.calls k a0_1 true _ A8.out).mono ?_); rintro e w' ⟨rfl, ⟨nd, rfl⟩⟩) | (go_at_call 31; (with_reducible refine (cash_Fits.calls a0_2 false _ A13.out).mono ?_); rintro e w' ⟨rfl, ⟨nd, rfl⟩⟩))
  go_ret
  exact ⟨My.r2, (My.bl_ HB)⟩
/-! ### pot_Check: function 76 -/
def pot_Check.f (a0_0 : Int) (a0_1 : Int) (a0_2 : Int) : Option (Int) := if a0_1 < 0 then (some 2) else (if a0_1 > a0_0 then (some 2) else (if a0_2 < 0 then (some 2) else (if a0_0 > 1000000000000000 then (some 2) else (if a0_2 > (wrap64 (1000000000000000 - a0_0)) then (some 2) else (some 0)))))
theorem pot_Check.calls (a0_0 : Int) (a0_1 : Int) (a0_2 : Int) (r : Int) (w : World) (h : pot_Check.f a0_0 a0_1 a0_2 = some r) :
  Calls Try.prog 76 #[.agg #[.int .i64 a0_0, .int .i64 a0_1, .int .i64 a0_2]] w fun e w' => e = .returned (.int .i64 r) ∧ Below w.heap.size w w' := by
 have hu49 := Try.underlying49
 have HB := My.am (Below.refl w.heap.size w)
 unfold pot_Check.f at h
 have H := h
 clear h
 by_cases c2 : a0_1 < 0
 ·rw [if_pos c2] at H
  have c2b0 := decide_eq_true c2
  clear c2
  obtain rfl := Option.some.inj H
  go_enter Try.func76, Try.ntmps76
  go_wp2_with (first | ((with_reducible refine gate_dst (N := 1) rfl ?_); refine My.bx 1 #[.int .i64 a0_0, .int .i64 a0_1, .int .i64 a0_2] 49 ?_; intro gb115 hg w3 hbox hb; have BK115 := My.am (hbox); have GE115 := My.nge hg (My.bl_ HB); replace HB := My.st HB hb; clear hb hbox hg; have hq4 := My.cz3 BK115))
  go_ret
  exact ⟨My.r2, (My.bl_ HB)⟩
 ·rw [if_neg c2] at H
  have c2b0 := decide_eq_false c2
  clear c2
  by_cases c5 : a0_1 > a0_0
  ·rw [if_pos c5] at H
   have c5b0 : decide (a0_0 < a0_1) = true := decide_eq_true c5
   clear c5
   obtain rfl := Option.some.inj H
   go_enter Try.func76, Try.ntmps76
   go_wp2_with (first | ((with_reducible refine gate_dst (N := 1) rfl ?_); refine My.bx 1 #[.int .i64 a0_0, .int .i64 a0_1, .int .i64 a0_2] 49 ?_; intro gb115 hg w6 hbox hb; have BK115 := My.am (hbox); have GE115 := My.nge hg (My.bl_ HB); replace HB := My.st HB hb; clear hb hbox hg; have hq7 := My.cz3 BK115))
   go_ret
   exact ⟨My.r2, (My.bl_ HB)⟩
  rw [if_neg c5] at H
  have c5b0 : decide (a0_0 < a0_1) = false := decide_eq_false c5
  clear c5
  by_cases c8 : a0_2 < 0
  ·rw [if_pos c8] at H
   have c8b0 := decide_eq_true c8
   clear c8
   obtain rfl := Option.some.inj H
   go_enter Try.func76, Try.ntmps76
   go_wp2_with (first | ((with_reducible refine gate_dst (N := 1) rfl ?_); refine My.bx 1 #[.int .i64 a0_0, .int .i64 a0_1, .int .i64 a0_2] 49 ?_; intro gb115 hg w9 hbox hb; have BK115 := My.am (hbox); have GE115 := My.nge hg (My.bl_ HB); replace HB := My.st HB hb; clear hb hbox hg; have hq10 := My.cz3 BK115))
   go_ret
   exact ⟨My.r2, (My.bl_ HB)⟩
  rw [if_neg c8] at H
  have c8b0 := decide_eq_false c8
  clear c8
  by_cases c11 : a0_0 > 1000000000000000
  ·rw [if_pos c11] at H
   have c11b0 : decide (1000000000000000 < a0_0) = true := decide_eq_true c11
   clear c11
   obtain rfl := Option.some.inj H
   go_enter Try.func76, Try.ntmps76
   go_wp2_with (first | ((with_reducible refine gate_dst (N := 1) rfl ?_); refine My.bx 1 #[.int .i64 a0_0, .int .i64 a0_1, .int .i64 a0_2] 49 ?_; intro gb115 hg w12 hbox hb; have BK115 := My.am (hbox); have GE115 := My.nge hg (My.bl_ HB); replace HB := My.st HB hb; clear hb hbox hg; have hq13 := My.cz3 BK115))
   go_ret
   exact ⟨My.r2, (My.bl_ HB)⟩
  rw [if_neg c11] at H
  have c11b0 : decide (1000000000000000 < a0_0) = false := decide_eq_false c11
  clear c11
  by_cases c14 : a0_2 > (wrap64 (1000000000000000 - a0_0))
  ·rw [if_pos c14] at H
   have c14b0 : decide ((wrap64 (1000000000000000 - a0_0)) < a0_2) = true := decide_eq_true c14
   clear c14
   obtain rfl := Option.some.inj H
   go_enter Try.func76, Try.ntmps76
   go_wp2_with (first | ((with_reducible refine gate_dst (N := 1) rfl ?_); refine My.bx 1 #[.int .i64 a0_0, .int .i64 a0_1, .int .i64 a0_2] 49 ?_; intro gb115 hg w15 hbox hb; have BK115 := My.am (hbox); have GE115 := My.nge hg (My.bl_ HB); replace HB := My.st HB hb; clear hb hbox hg; have hq16 := My.cz3 BK115))
   go_ret
   exact ⟨My.r2, (My.bl_ HB)⟩
  rw [if_neg c14] at H
  have c14b0 : decide ((wrap64 (1000000000000000 - a0_0)) < a0_2) = false := decide_eq_false c14
  clear c14
  obtain rfl := Option.some.inj H
  go_enter Try.func76, Try.ntmps76
  go_wp2_with (first | ((with_reducible refine gate_dst (N := 1) rfl ?_); refine My.bx 1 #[.int .i64 a0_0, .int .i64 a0_1, .int .i64 a0_2] 49 ?_; intro gb115 hg w17 hbox hb; have BK115 := My.am (hbox); have GE115 := My.nge hg (My.bl_ HB); replace HB := My.st HB hb; clear hb hbox hg; have hq18 := My.cz3 BK115))
  go_ret
  exact ⟨My.r2, (My.bl_ HB)⟩

/-! ### act_May: function 51 -/
def act_May.f (k : Nat) (a0_0 : ByteArray) (a0_1 : Int) (a0_2 : Int) (a0_3 : Int) (a0_4 : Int) (a0_5 : Int) (a0_6 : Int) : Option (Int) := (act_Name.f k a0_0).bind fun t117 => (if t117 = true then ((pot_Check.f a0_1 a0_2 a0_3).bind fun t118 => (if t118 = 0 then ((pot_Check.f a0_4 a0_5 a0_6).bind fun t119 => (if t119 = 0 then (some 0) else (some 2))) else (some 2))) else (some 2))
theorem act_May.mono : ∀ a0 a1 a2 a3 a4 a5 a6 k, LeO (act_May.f k a0 a1 a2 a3 a4 a5 a6) (act_May.f (k + 1) a0 a1 a2 a3 a4 a5 a6) := by
 intro a0 a1 a2 a3 a4 a5 a6 k
 unfold act_May.f
 repeat' (with_reducible first | exact act_Name.mono _ _ | exact LeO.refl _ | exact LeO.none _ | apply LeO.ite | refine LeO.bind ?_ (fun _ => ?_))
theorem act_May.calls (k : Nat) (a0_0 : ByteArray) (a0_1 : Int) (a0_2 : Int) (a0_3 : Int) (a0_4 : Int) (a0_5 : Int) (a0_6 : Int) (r : Int) (w : World) (h : act_May.f k a0_0 a0_1 a0_2 a0_3 a0_4 a0_5 a0_6 = some r) :
  Calls Try.prog 51 #[.agg #[.string a0_0, .int .i64 a0_1, .int .i64 a0_2, .int .i64 a0_3, .int .i64 a0_4, .int .i64 a0_5, .int .i64 a0_6]] w fun e w' => e = .returned (.int .i64 r) ∧ Below w.heap.size w w' := by
 have hu51 := Try.underlying51
 have hu49 := Try.underlying49
 have HB := My.am (Below.refl w.heap.size w)
 unfold act_May.f at h
 have H := h
 clear h
 replace H := Option.bind_eq_some_iff.mp H
 obtain ⟨t117, A20, H⟩ := H
 try dsimp only at H
 have A2 := My.am A20
 clear A20
 by_cases c3 : t117 = true
 ·subst c3
  rw [if_pos rfl] at H
  replace H := Option.bind_eq_some_iff.mp H
  obtain ⟨t118, A40, H⟩ := H
  try dsimp only at H
  have A4 := My.am A40
  clear A40
  by_cases c5 : t118 = 0
  ·rw [if_pos c5] at H
   have c5b0 : (t118 == 0) = true := beq_iff_eq.mpr c5
   have c5b1 : (t118 != 0) = false := bne_eq_false_iff_eq.mpr c5
   clear c5
   replace H := Option.bind_eq_some_iff.mp H
   obtain ⟨t119, A60, H⟩ := H
   try dsimp only at H
   have A6 := My.am A60
   clear A60
   by_cases c7 : t119 = 0
   ·rw [if_pos c7] at H
    have c7b0 : (t119 == 0) = true := beq_iff_eq.mpr c7
    have c7b1 : (t119 != 0) = false := bne_eq_false_iff_eq.mpr c7
    clear c7
    obtain rfl := Option.some.inj H
    go_enter Try.func51, Try.ntmps51
    go_wp2_with (first | ((with_reducible refine gate_dst (N := 1) rfl ?_); refine My.bx 1 #[.string a0_0, .int .i64 a0_1, .int .i64 a0_2, .int .i64 a0_3, .int .i64 a0_4, .int .i64 a0_5, .int .i64 a0_6] 51 ?_; intro gb116 hg w8 hbox hb; have BK116 := My.am (hbox); have GE116 := My.nge hg (My.bl_ HB); replace HB := My.st HB hb; clear hb hbox hg; have hq9 := My.cz7 BK116) | ((with_reducible refine gate_callee (f := 30) rfl ?_); refine goesL_ (some 5) rfl rfl Try.func30 (by kernel_rfl) rfl #[.string a0_0] rfl My.gx ?_; (with_reducible refine (act_Name.calls k a0_0 true _ A2.out).mono ?_); rintro e w' ⟨rfl, ⟨nd, rfl⟩⟩; refine ⟨_, rfl, ?_⟩) | (go_at_call 76; (with_reducible refine (pot_Check.calls a0_1 a0_2 a0_3 t118 _ A4.out).mono ?_); rintro e w10 ⟨rfl, hb⟩; replace BK116 := My.ab BK116 hb; replace HB := My.st HB hb; (try clear hb); have hq11 := My.cz7 BK116) | (go_at_call 76; (with_reducible refine (pot_Check.calls a0_4 a0_5 a0_6 t119 _ A6.out).mono ?_); rintro e w12 ⟨rfl, hb⟩; replace BK116 := My.ab BK116 hb; replace HB := My.st HB hb; (try clear hb)))
    go_ret
    exact ⟨My.r2, (My.bl_ HB)⟩
   rw [if_neg c7] at H
   have c7b0 : (t119 == 0) = false := beq_eq_false_iff_ne.mpr c7
   have c7b1 : (t119 != 0) = true := bne_iff_ne.mpr c7
   obtain rfl := Option.some.inj H
   go_enter Try.func51, Try.ntmps51
   go_wp2_with (first | ((with_reducible refine gate_dst (N := 1) rfl ?_); refine My.bx 1 #[.string a0_0, .int .i64 a0_1, .int .i64 a0_2, .int .i64 a0_3, .int .i64 a0_4, .int .i64 a0_5, .int .i64 a0_6] 51 ?_; intro gb116 hg w13 hbox hb; have BK116 := My.am (hbox); have GE116 := My.nge hg (My.bl_ HB); replace HB := My.st HB hb; clear hb hbox hg; have hq14 := My.cz7 BK116) | ((with_reducible refine gate_callee (f := 30) rfl ?_); refine goesL_ (some 5) rfl rfl Try.func30 (by kernel_rfl) rfl #[.string a0_0] rfl My.gx ?_; (with_reducible refine (act_Name.calls k a0_0 true _ A2.out).mono ?_); rintro e w' ⟨rfl, ⟨nd, rfl⟩⟩; refine ⟨_, rfl, ?_⟩) | (go_at_call 76; (with_reducible refine (pot_Check.calls a0_1 a0_2 a0_3 t118 _ A4.out).mono ?_); rintro e w15 ⟨rfl, hb⟩; replace BK116 := My.ab BK116 hb; replace HB := My.st HB hb; (try clear hb); have hq16 := My.cz7 BK116) | (go_at_call 76; (with_reducible refine (pot_Check.calls a0_4 a0_5 a0_6 t119 _ A6.out).mono ?_); rintro e w17 ⟨rfl, hb⟩; replace BK116 := My.ab BK116 hb; replace HB := My.st HB hb; (try clear hb)))
   go_ret
   exact ⟨My.r2, (My.bl_ HB)⟩
  ·rw [if_neg c5] at H
   have c5b0 : (t118 == 0) = false := beq_eq_false_iff_ne.mpr c5
   have c5b1 : (t118 != 0) = true := bne_iff_ne.mpr c5
   obtain rfl := Option.some.inj H
   go_enter Try.func51, Try.ntmps51
   go_wp2_with (first | ((with_reducible refine gate_dst (N := 1) rfl ?_); refine My.bx 1 #[.string a0_0, .int .i64 a0_1, .int .i64 a0_2, .int .i64 a0_3, .int .i64 a0_4, .int .i64 a0_5, .int .i64 a0_6] 51 ?_; intro gb116 hg w18 hbox hb; have BK116 := My.am (hbox); have GE116 := My.nge hg (My.bl_ HB); replace HB := My.st HB hb; clear hb hbox hg; have hq19 := My.cz7 BK116) | ((with_reducible refine gate_callee (f := 30) rfl ?_); refine goesL_ (some 5) rfl rfl Try.func30 (by kernel_rfl) rfl #[.string a0_0] rfl My.gx ?_; (with_reducible refine (act_Name.calls k a0_0 true _ A2.out).mono ?_); rintro e w' ⟨rfl, ⟨nd, rfl⟩⟩; refine ⟨_, rfl, ?_⟩) | (go_at_call 76; (with_reducible refine (pot_Check.calls a0_1 a0_2 a0_3 t118 _ A4.out).mono ?_); rintro e w20 ⟨rfl, hb⟩; replace BK116 := My.ab BK116 hb; replace HB := My.st HB hb; (try clear hb)))
   go_ret
   exact ⟨My.r2, (My.bl_ HB)⟩
 ·replace c3 := Bool.eq_false_iff.mpr c3
  subst c3
  rw [if_neg (show ¬ (false = true) by decide)] at H
  obtain rfl := Option.some.inj H
  go_enter Try.func51, Try.ntmps51
  go_wp2_with (first | ((with_reducible refine gate_dst (N := 1) rfl ?_); refine My.bx 1 #[.string a0_0, .int .i64 a0_1, .int .i64 a0_2, .int .i64 a0_3, .int .i64 a0_4, .int .i64 a0_5, .int .i64 a0_6] 51 ?_; intro gb116 hg w21 hbox hb; have BK116 := My.am (hbox); have GE116 := My.nge hg (My.bl_ HB); replace HB := My.st HB hb; clear hb hbox hg; have hq22 := My.cz7 BK116) | ((with_reducible refine gate_callee (f := 30) rfl ?_); refine goesL_ (some 5) rfl rfl Try.func30 (by kernel_rfl) rfl #[.string a0_0] rfl My.gx ?_; (with_reducible refine (act_Name.calls k a0_0 false _ A2.out).mono ?_); rintro e w' ⟨rfl, ⟨nd, rfl⟩⟩; refine ⟨_, rfl, ?_⟩))
  go_ret
  exact ⟨My.r2, (My.bl_ HB)⟩

/-! ### act_ways: function 60 -/
def act_ways.f (a0 : Int) : Option (Int × Int) := if a0 = 3 then (some ((-1), 1)) else (if a0 = 1 then (some ((-1), 0)) else (if a0 = 4 then (some (1, (-1))) else (if a0 = 2 then (some (1, 0)) else (some (0, 0)))))
theorem act_ways.calls (a0 : Int) (r1 : Int) (r2 : Int) (w : World) (h : act_ways.f a0 = some (r1, r2)) :
  Calls Try.prog 60 #[.int .i64 a0] w fun e w' => e = .returned (.agg #[.int .i64 r1, .int .i64 r2]) ∧ Below w.heap.size w w' := by
 have hu96 := Try.underlying96
 have HB := My.am (Below.refl w.heap.size w)
 unfold act_ways.f at h
 have H := h
 clear h
 by_cases c2 : a0 = 3
 ·rw [if_pos c2] at H
  have c2b0 : (a0 == 3) = true := beq_iff_eq.mpr c2
  have c2b1 : (a0 != 3) = false := bne_eq_false_iff_eq.mpr c2
  clear c2
  simp only [Option.some.injEq, Prod.mk.injEq] at H
  obtain ⟨rfl, rfl⟩ := H
  go_enter Try.func60, Try.ntmps60
  go_wp2_with (first | ((with_reducible refine gate_dst (N := 2) rfl ?_); refine My.bx 2 #[.int .i64 0, .int .i64 0] 96 ?_; intro gb120 hg w3 hbox hb; have BK120 := My.am (hbox); have GE120 := My.nge hg (My.bl_ HB); replace HB := My.st HB hb; clear hb hbox hg) | ((with_reducible refine gate_dst (N := 3) rfl ?_); refine My.bx 3 #[.int .i64 0, .int .i64 0] 96 ?_; intro gb121 hg w4 hbox hb; have BK121 := My.am (hbox); have GE121 := My.nge hg (My.bl_ HB); replace HB := My.st HB hb; obtain ⟨NB120_121, NB121_120, BK120⟩ := My.nb hg hb BK120; clear hb hbox hg; have hnb5 := NB121_120.out; have hnc5 := NB120_121.out; have hq6 := My.cz2 BK121; have hq7 := My.cz2 BK120))
  refine bodyPost_ret (results_cell_row rfl _ _ gb120 96 #[.int .i64 (-1), .int .i64 1] (0, 0) _ rfl ((My.sv_ BK120)) Try.underlying96 rfl (by kernel_rfl)) rfl ?_
  exact ⟨My.r2, (My.bl_ HB)⟩
 ·rw [if_neg c2] at H
  have c2b0 : (a0 == 3) = false := beq_eq_false_iff_ne.mpr c2
  have c2b1 : (a0 != 3) = true := bne_iff_ne.mpr c2
  by_cases c8 : a0 = 1
  ·rw [if_pos c8] at H
   have c8b0 : (a0 == 1) = true := beq_iff_eq.mpr c8
   have c8b1 : (a0 != 1) = false := bne_eq_false_iff_eq.mpr c8
   clear c8
   simp only [Option.some.injEq, Prod.mk.injEq] at H
   obtain ⟨rfl, rfl⟩ := H
   go_enter Try.func60, Try.ntmps60
   go_wp2_with (first | ((with_reducible refine gate_dst (N := 2) rfl ?_); refine My.bx 2 #[.int .i64 0, .int .i64 0] 96 ?_; intro gb120 hg w9 hbox hb; have BK120 := My.am (hbox); have GE120 := My.nge hg (My.bl_ HB); replace HB := My.st HB hb; clear hb hbox hg) | ((with_reducible refine gate_dst (N := 3) rfl ?_); refine My.bx 3 #[.int .i64 0, .int .i64 0] 96 ?_; intro gb121 hg w10 hbox hb; have BK121 := My.am (hbox); have GE121 := My.nge hg (My.bl_ HB); replace HB := My.st HB hb; obtain ⟨NB120_121, NB121_120, BK120⟩ := My.nb hg hb BK120; clear hb hbox hg; have hnb11 := NB121_120.out; have hnc11 := NB120_121.out; have hq12 := My.cz2 BK121; have hq13 := My.cz2 BK120))
   refine bodyPost_ret (results_cell_row rfl _ _ gb120 96 #[.int .i64 (-1), .int .i64 0] (0, 0) _ rfl ((My.sv_ BK120)) Try.underlying96 rfl (by kernel_rfl)) rfl ?_
   exact ⟨My.r2, (My.bl_ HB)⟩
  rw [if_neg c8] at H
  have c8b0 : (a0 == 1) = false := beq_eq_false_iff_ne.mpr c8
  have c8b1 : (a0 != 1) = true := bne_iff_ne.mpr c8
  by_cases c14 : a0 = 4
  ·rw [if_pos c14] at H
   have c14b0 : (a0 == 4) = true := beq_iff_eq.mpr c14
   have c14b1 : (a0 != 4) = false := bne_eq_false_iff_eq.mpr c14
   clear c14
   simp only [Option.some.injEq, Prod.mk.injEq] at H
   obtain ⟨rfl, rfl⟩ := H
   go_enter Try.func60, Try.ntmps60
   go_wp2_with (first | ((with_reducible refine gate_dst (N := 2) rfl ?_); refine My.bx 2 #[.int .i64 0, .int .i64 0] 96 ?_; intro gb120 hg w15 hbox hb; have BK120 := My.am (hbox); have GE120 := My.nge hg (My.bl_ HB); replace HB := My.st HB hb; clear hb hbox hg) | ((with_reducible refine gate_dst (N := 3) rfl ?_); refine My.bx 3 #[.int .i64 0, .int .i64 0] 96 ?_; intro gb121 hg w16 hbox hb; have BK121 := My.am (hbox); have GE121 := My.nge hg (My.bl_ HB); replace HB := My.st HB hb; obtain ⟨NB120_121, NB121_120, BK120⟩ := My.nb hg hb BK120; clear hb hbox hg; have hnb17 := NB121_120.out; have hnc17 := NB120_121.out; have hq18 := My.cz2 BK121; have hq19 := My.cz2 BK120))
   refine bodyPost_ret (results_cell_row rfl _ _ gb120 96 #[.int .i64 1, .int .i64 (-1)] (0, 0) _ rfl ((My.sv_ BK120)) Try.underlying96 rfl (by kernel_rfl)) rfl ?_
   exact ⟨My.r2, (My.bl_ HB)⟩
  rw [if_neg c14] at H
  have c14b0 : (a0 == 4) = false := beq_eq_false_iff_ne.mpr c14
  have c14b1 : (a0 != 4) = true := bne_iff_ne.mpr c14
  by_cases c20 : a0 = 2
  ·rw [if_pos c20] at H
   have c20b0 : (a0 == 2) = true := beq_iff_eq.mpr c20
   have c20b1 : (a0 != 2) = false := bne_eq_false_iff_eq.mpr c20
   clear c20
   simp only [Option.some.injEq, Prod.mk.injEq] at H
   obtain ⟨rfl, rfl⟩ := H
   go_enter Try.func60, Try.ntmps60
   go_wp2_with (first | ((with_reducible refine gate_dst (N := 2) rfl ?_); refine My.bx 2 #[.int .i64 0, .int .i64 0] 96 ?_; intro gb120 hg w21 hbox hb; have BK120 := My.am (hbox); have GE120 := My.nge hg (My.bl_ HB); replace HB := My.st HB hb; clear hb hbox hg) | ((with_reducible refine gate_dst (N := 3) rfl ?_); refine My.bx 3 #[.int .i64 0, .int .i64 0] 96 ?_; intro gb121 hg w22 hbox hb; have BK121 := My.am (hbox); have GE121 := My.nge hg (My.bl_ HB); replace HB := My.st HB hb; obtain ⟨NB120_121, NB121_120, BK120⟩ := My.nb hg hb BK120; clear hb hbox hg; have hnb23 := NB121_120.out; have hnc23 := NB120_121.out; have hq24 := My.cz2 BK121; have hq25 := My.cz2 BK120))
   refine bodyPost_ret (results_cell_row rfl _ _ gb120 96 #[.int .i64 1, .int .i64 0] (0, 0) _ rfl ((My.sv_ BK120)) Try.underlying96 rfl (by kernel_rfl)) rfl ?_
   exact ⟨My.r2, (My.bl_ HB)⟩
  rw [if_neg c20] at H
  have c20b0 : (a0 == 2) = false := beq_eq_false_iff_ne.mpr c20
  have c20b1 : (a0 != 2) = true := bne_iff_ne.mpr c20
  simp only [Option.some.injEq, Prod.mk.injEq] at H
  obtain ⟨rfl, rfl⟩ := H
  go_enter Try.func60, Try.ntmps60
  go_wp2_with (first | ((with_reducible refine gate_dst (N := 2) rfl ?_); refine My.bx 2 #[.int .i64 0, .int .i64 0] 96 ?_; intro gb120 hg w26 hbox hb; have BK120 := My.am (hbox); have GE120 := My.nge hg (My.bl_ HB); replace HB := My.st HB hb; clear hb hbox hg) | ((with_reducible refine gate_dst (N := 3) rfl ?_); refine My.bx 3 #[.int .i64 0, .int .i64 0] 96 ?_; intro gb121 hg w27 hbox hb; have BK121 := My.am (hbox); have GE121 := My.nge hg (My.bl_ HB); replace HB := My.st HB hb; obtain ⟨NB120_121, NB121_120, BK120⟩ := My.nb hg hb BK120; clear hb hbox hg; have hnb28 := NB121_120.out; have hnc28 := NB120_121.out; have hq29 := My.cz2 BK121; have hq30 := My.cz2 BK120))
  refine bodyPost_ret (results_cell_row rfl _ _ gb120 96 #[.int .i64 0, .int .i64 0] (0, 0) _ rfl ((My.sv_ BK120)) Try.underlying96 rfl (by kernel_rfl)) rfl ?_
  exact ⟨My.r2, (My.bl_ HB)⟩

/-! ### act_Delta: function 29 -/
def act_Delta.f (k : Nat) (a0_0 : Int) (a0_1 : ByteArray) (a0_2 : Int) : Option (Int × Int) := (act_Check.f k a0_0 a0_1 a0_2).bind fun t123 => (if t123 = 0 then ((act_ways.f a0_0).bind fun bt124 => (some (wrap64 (bt124.1 * a0_2), wrap64 (bt124.2 * a0_2)))) else (some (0, 0)))
theorem act_Delta.mono : ∀ a0 a1 a2 k, LeO (act_Delta.f k a0 a1 a2) (act_Delta.f (k + 1) a0 a1 a2) := by
 intro a0 a1 a2 k
 unfold act_Delta.f
 repeat' (with_reducible first | exact act_Check.mono _ _ _ _ | exact LeO.refl _ | exact LeO.none _ | apply LeO.ite | refine LeO.bind ?_ (fun _ => ?_))
theorem act_Delta.calls (k : Nat) (a0_0 : Int) (a0_1 : ByteArray) (a0_2 : Int) (r1 : Int) (r2 : Int) (w : World) (h : act_Delta.f k a0_0 a0_1 a0_2 = some (r1, r2)) :
  Calls Try.prog 29 #[.agg #[.int .i64 a0_0, .string a0_1, .int .i64 a0_2]] w fun e w' => e = .returned (.tuple #[.int .i64 r1, .int .i64 r2]) ∧ Below w.heap.size w w' := by
 have hu27 := Try.underlying27
 have hu96 := Try.underlying96
 have HB := My.am (Below.refl w.heap.size w)
 unfold act_Delta.f at h
 have H := h
 clear h
 replace H := Option.bind_eq_some_iff.mp H
 obtain ⟨t123, A20, H⟩ := H
 try dsimp only at H
 have A2 := My.am A20
 clear A20
 by_cases c3 : t123 = 0
 ·rw [if_pos c3] at H
  have c3b0 : (t123 == 0) = true := beq_iff_eq.mpr c3
  have c3b1 : (t123 != 0) = false := bne_eq_false_iff_eq.mpr c3
  clear c3
  replace H := Option.bind_eq_some_iff.mp H
  obtain ⟨⟨t124, t125⟩, A40, H⟩ := H
  try dsimp only at H
  have A4 := My.am A40
  clear A40
  simp only [Option.some.injEq, Prod.mk.injEq] at H
  obtain ⟨rfl, rfl⟩ := H
  go_enter Try.func29, Try.ntmps29
  go_wp2_with (first | ((with_reducible refine gate_dst (N := 1) rfl ?_); refine My.bx 1 #[.int .i64 a0_0, .string a0_1, .int .i64 a0_2] 27 ?_; intro gb122 hg w5 hbox hb; have BK122 := My.am (hbox); have GE122 := My.nge hg (My.bl_ HB); replace HB := My.st HB hb; clear hb hbox hg; have hq6 := My.cz3 BK122) | (go_at_call 39; (with_reducible refine (act_Check.calls k a0_0 a0_1 a0_2 t123 _ A2.out).mono ?_); rintro e w7 ⟨rfl, hb⟩; replace BK122 := My.ab BK122 hb; replace HB := My.st HB hb; (try clear hb); have hq8 := My.cz3 BK122) | (go_at_call 60; (with_reducible refine (act_ways.calls a0_0 t124 t125 _ A4.out).mono ?_); rintro e w9 ⟨rfl, hb⟩; replace BK122 := My.ab BK122 hb; replace HB := My.st HB hb; (try clear hb)) | ((with_reducible refine gate_dst (N := 4) rfl ?_); refine My.bx 4 #[.int .i64 0, .int .i64 0] 96 ?_; intro gb126 hg w10 hbox hb; have BK126 := My.am (hbox); have GE126 := My.nge hg (My.bl_ HB); replace HB := My.st HB hb; obtain ⟨NB122_126, NB126_122, BK122⟩ := My.nb hg hb BK122; clear hb hbox hg; have hnb11 := NB126_122.out; have hnc11 := NB122_126.out; have hq12 := My.cz2 BK126; have hq13 := My.cz3 BK122))
  repeat (go_quiet (first | ((with_reducible refine gate_dst (N := 1) rfl ?_); refine My.bx 1 #[.int .i64 a0_0, .string a0_1, .int .i64 a0_2] 27 ?_; intro gb122 hg w5 hbox hb; have BK122 := My.am (hbox); have GE122 := My.nge hg (My.bl_ HB); replace HB := My.st HB hb; clear hb hbox hg; have hq6 := My.cz3 BK122) | (go_at_call 39; (with_reducible refine (act_Check.calls k a0_0 a0_1 a0_2 t123 _ A2.out).mono ?_); rintro e w7 ⟨rfl, hb⟩; replace BK122 := My.ab BK122 hb; replace HB := My.st HB hb; (try clear hb); have hq8 := My.cz3 BK122) | (go_at_call 60; (with_reducible refine (act_ways.calls a0_0 t124 t125 _ A4.out).mono ?_); rintro e w9 ⟨rfl, hb⟩; replace BK122 := My.ab BK122 hb; replace HB := My.st HB hb; (try clear hb)) | ((with_reducible refine gate_dst (N := 4) rfl ?_); refine My.bx 4 #[.int .i64 0, .int .i64 0] 96 ?_; intro gb126 hg w10 hbox hb; have BK126 := My.am (hbox); have GE126 := My.nge hg (My.bl_ HB); replace HB := My.st HB hb; obtain ⟨NB122_126, NB126_122, BK122⟩ := My.nb hg hb BK122; clear hb hbox hg; have hnb11 := NB126_122.out; have hnc11 := NB122_126.out; have hq12 := My.cz2 BK126; have hq13 := My.cz3 BK122)); try go_wp2_with (first | ((with_reducible refine gate_dst (N := 1) rfl ?_); refine My.bx 1 #[.int .i64 a0_0, .string a0_1, .int .i64 a0_2] 27 ?_; intro gb122 hg w5 hbox hb; have BK122 := My.am (hbox); have GE122 := My.nge hg (My.bl_ HB); replace HB := My.st HB hb; clear hb hbox hg; have hq6 := My.cz3 BK122) | (go_at_call 39; (with_reducible refine (act_Check.calls k a0_0 a0_1 a0_2 t123 _ A2.out).mono ?_); rintro e w7 ⟨rfl, hb⟩; replace BK122 := My.ab BK122 hb; replace HB := My.st HB hb; (try clear hb); have hq8 := My.cz3 BK122) | (go_at_call 60; (with_reducible refine (act_ways.calls a0_0 t124 t125 _ A4.out).mono ?_); rintro e w9 ⟨rfl, hb⟩; replace BK122 := My.ab BK122 hb; replace HB := My.st HB hb; (try clear hb)) | ((with_reducible refine gate_dst (N := 4) rfl ?_); refine My.bx 4 #[.int .i64 0, .int .i64 0] 96 ?_; intro gb126 hg w10 hbox hb; have BK126 := My.am (hbox); have GE126 := My.nge hg (My.bl_ HB); replace HB := My.st HB hb; obtain ⟨NB122_126, NB126_122, BK122⟩ := My.nb hg hb BK122; clear hb hbox hg; have hnb11 := NB126_122.out; have hnc11 := NB122_126.out; have hq12 := My.cz2 BK126; have hq13 := My.cz3 BK122)))
  go_ret2
  exact ⟨My.r2, (My.bl_ HB)⟩
 ·rw [if_neg c3] at H
  have c3b0 : (t123 == 0) = false := beq_eq_false_iff_ne.mpr c3
  have c3b1 : (t123 != 0) = true := bne_iff_ne.mpr c3
  simp only [Option.some.injEq, Prod.mk.injEq] at H
  obtain ⟨rfl, rfl⟩ := H
  go_enter Try.func29, Try.ntmps29
  go_wp2_with (first | ((with_reducible refine gate_dst (N := 1) rfl ?_); refine My.bx 1 #[.int .i64 a0_0, .string a0_1, .int .i64 a0_2] 27 ?_; intro gb122 hg w14 hbox hb; have BK122 := My.am (hbox); have GE122 := My.nge hg (My.bl_ HB); replace HB := My.st HB hb; clear hb hbox hg; have hq15 := My.cz3 BK122) | (go_at_call 39; (with_reducible refine (act_Check.calls k a0_0 a0_1 a0_2 t123 _ A2.out).mono ?_); rintro e w16 ⟨rfl, hb⟩; replace BK122 := My.ab BK122 hb; replace HB := My.st HB hb; (try clear hb)))
  repeat (go_quiet (first | ((with_reducible refine gate_dst (N := 1) rfl ?_); refine My.bx 1 #[.int .i64 a0_0, .string a0_1, .int .i64 a0_2] 27 ?_; intro gb122 hg w14 hbox hb; have BK122 := My.am (hbox); have GE122 := My.nge hg (My.bl_ HB); replace HB := My.st HB hb; clear hb hbox hg; have hq15 := My.cz3 BK122) | (go_at_call 39; (with_reducible refine (act_Check.calls k a0_0 a0_1 a0_2 t123 _ A2.out).mono ?_); rintro e w16 ⟨rfl, hb⟩; replace BK122 := My.ab BK122 hb; replace HB := My.st HB hb; (try clear hb))); try go_wp2_with (first | ((with_reducible refine gate_dst (N := 1) rfl ?_); refine My.bx 1 #[.int .i64 a0_0, .string a0_1, .int .i64 a0_2] 27 ?_; intro gb122 hg w14 hbox hb; have BK122 := My.am (hbox); have GE122 := My.nge hg (My.bl_ HB); replace HB := My.st HB hb; clear hb hbox hg; have hq15 := My.cz3 BK122) | (go_at_call 39; (with_reducible refine (act_Check.calls k a0_0 a0_1 a0_2 t123 _ A2.out).mono ?_); rintro e w16 ⟨rfl, hb⟩; replace HB := My.st HB hb; (try clear hb))))
  go_ret2
  exact ⟨My.r2, (My.bl_ HB)⟩

end Go.Proofs.Ytikanbdhpafbiaa.PZ
