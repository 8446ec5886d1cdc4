-- Written by a program of this session (wip/tools/mp.py over the kit's printer); Lean checks it.
import Derived.Test.YtkcpgaplpmbmoaaGreatPAx0
import Derived.Test.YtkcpgaplpmbmoaaGreatPAx7
import Derived.Test.YtkcpgaplpmbmoaaGreatPAx8
namespace Go.Proofs.YtkcpgaplpmbmoaaGreat.PA
open Go.RowKit Go.Proofs.YtkcpgaplpmbmoaaGreatW.PrintWords Go.Proofs.YtkcpgaplpmbmoaaGreatW.PrintLast Go.Proofs.YtkcpgaplpmbmoaaGreatW.PrintMore
attribute [local go_sem] max2_int min2_int max_two min_two max_three min_three max_four min_four   -- for this text's walks alone
set_option linter.unusedVariables false
set_option maxHeartbeats 8000000
set_option maxRecDepth 100000
set_option linter.unusedSimpArgs false

/-! ### ententeref02_Open: function 47 -/
def ententeref02_Open.j0 : Nat → ByteArray → Int → Int → Bool → Option (ByteArray × Int × Int)
 | 0, _, _, _, _ => none
 | k + 1, x0, x1, x2, x31 => if x31 = true then (some ((⟨#[]⟩ : ByteArray), 0, 2)) else (if 0 ≤ x1 then (if x1 ≤ (x0.size : Int) then (if (x0.extract (x1 : Int).toNat x0.size).toList = ([] : List UInt8) then (some ((⟨#[]⟩ : ByteArray), 0, 10)) else (if 0 < ((x0.extract (x1 : Int).toNat x0.size).size : Int) then (if (bt (x0.extract (x1 : Int).toNat x0.size) 0) = 231 then (if ((x0.extract (x1 : Int).toNat x0.size).size : Int) = 1 then (some ((⟨#[]⟩ : ByteArray), 0, 10)) else (if 1 < ((x0.extract (x1 : Int).toNat x0.size).size : Int) then (if (wrap64 (bt (x0.extract (x1 : Int).toNat x0.size) 1)) = x2 then ((ententeref01_TakeNumber.f k (x0.extract (x1 : Int).toNat x0.size) 2).bind fun bt165 => (if bt165.2.2 = 0 then (if bt165.1 > 30000 then (some ((⟨#[]⟩ : ByteArray), 0, 3)) else (if (wrap64 (((x0.extract (x1 : Int).toNat x0.size).size : Int) - bt165.2.1)) < (wrap64 ((wrap64 (bt165.1)) + 8)) then (some ((⟨#[]⟩ : ByteArray), 0, 10)) else (if 0 ≤ bt165.2.1 then (if bt165.2.1 ≤ (wrap64 (bt165.2.1 + (wrap64 (bt165.1)))) then (if (wrap64 (bt165.2.1 + (wrap64 (bt165.1)))) ≤ ((x0.extract (x1 : Int).toNat x0.size).size : Int) then ((ententeref02_Seal.f k x2 ((x0.extract (x1 : Int).toNat x0.size).extract (bt165.2.1 : Int).toNat ((wrap64 (bt165.2.1 + (wrap64 (bt165.1)))) : Int).toNat)).bind fun bt168 => (if 0 ≤ (wrap64 ((wrap64 (bt165.2.1 + (wrap64 (bt165.1)))) + 8)) then (if (wrap64 ((wrap64 (bt165.2.1 + (wrap64 (bt165.1)))) + 8)) ≤ ((x0.extract (x1 : Int).toNat x0.size).size : Int) then (if bt168.1.toList = ((x0.extract (x1 : Int).toNat x0.size).extract 0 ((wrap64 ((wrap64 (bt165.2.1 + (wrap64 (bt165.1)))) + 8)) : Int).toNat).toList then (some ((x0.extract (x1 : Int).toNat x0.size).extract (bt165.2.1 : Int).toNat ((wrap64 (bt165.2.1 + (wrap64 (bt165.1)))) : Int).toNat, wrap64 (x1 + (bt168.1.size : Int)), 0)) else (some ((⟨#[]⟩ : ByteArray), 0, 22))) else (none)) else (none))) else (none)) else (none)) else (none)))) else (some ((⟨#[]⟩ : ByteArray), 0, bt165.2.2)))) else (some ((⟨#[]⟩ : ByteArray), 0, 21))) else (none))) else (some ((⟨#[]⟩ : ByteArray), 0, 20))) else (none))) else (none)) else (none))
def ententeref02_Open.f (k : Nat) (a0 : ByteArray) (a1 : Int) (a2 : Int) : Option (ByteArray × Int × Int) := if a1 < 0 then (ententeref02_Open.j0 k a0 a1 a2 true) else (if a1 > (a0.size : Int) then (ententeref02_Open.j0 k a0 a1 a2 true) else (if a2 < 0 then (ententeref02_Open.j0 k a0 a1 a2 true) else (ententeref02_Open.j0 k a0 a1 a2 (decide (a2 > 255)))))
theorem ententeref02_Open.mono_l : ∀ k, (∀ y0 y1 y2 y3, LeO (ententeref02_Open.j0 k y0 y1 y2 y3) (ententeref02_Open.j0 (k + 1) y0 y1 y2 y3))
 | 0 => fun _ _ _ _ r h => by simp [ententeref02_Open.j0] at h
 | k + 1 => by
  have ih0 := ententeref02_Open.mono_l k
  intro y0 y1 y2 y3
  unfold ententeref02_Open.j0
  repeat' (with_reducible first | exact ih0 _ _ _ _ | exact ententeref01_TakeNumber.mono _ _ _ | exact ententeref02_Seal.mono _ _ _ | exact LeO.refl _ | exact LeO.none _ | apply LeO.ite | refine LeO.bind ?_ (fun _ => ?_))
theorem ententeref02_Open.mono : ∀ a0 a1 a2 k, LeO (ententeref02_Open.f k a0 a1 a2) (ententeref02_Open.f (k + 1) a0 a1 a2) := by
 intro a0 a1 a2 k
 have ih0 := ententeref02_Open.mono_l k
 unfold ententeref02_Open.f
 repeat' (with_reducible first | exact ih0 _ _ _ _ | exact ententeref01_TakeNumber.mono _ _ _ | exact ententeref02_Seal.mono _ _ _ | exact LeO.refl _ | exact LeO.none _ | apply LeO.ite | refine LeO.bind ?_ (fun _ => ?_))
theorem ententeref02_Open.calls (k : Nat) (a0 : ByteArray) (a1 : Int) (a2 : Int) (r1 : ByteArray) (r2 : Int) (r3 : Int) (w : World) (h : ententeref02_Open.f k a0 a1 a2 = some (r1, r2, r3)) :
  Calls Tryz.prog 47 #[.string a0, .int .i64 a1, .int .i64 a2] w fun e w' => e = .returned (.tuple #[.string r1, .int .i64 r2, .int .i64 r3]) ∧ Below w.heap.size w w' := by
 have HB := My.am (Below.refl w.heap.size w)
 unfold ententeref02_Open.f at h
 have H := h
 clear h
 have HC4 := My.am H
 clear H
 go_enter Tryz.func47, Tryz.ntmps47
 go_upto_region 1 with (fail)
 go_cut [31] (fun v31 wc => ∃ (kq : Nat) (x31_3 : Bool), v31 = .bool x31_3 ∧ Aside0 (ententeref02_Open.j0 kq a0 a1 a2 x31_3 = some (r1, r2, r3)) ∧ Aside0 (kq ≤ k) ∧ Aside0 (Below w.heap.size w wc))
 case first =>
  have H := HC4.out
  clear HC4
  by_cases c5 : a1 < 0
  ·rw [if_pos c5] at H
   have c5b0 := decide_eq_true c5
   clear c5
   (first | rw [c5b0] | (simp only [i64_w, i32_w]; rw [c5b0]) | skip)
   have H' := My.am H
   clear H
   go_wp2
   go_meet
   case rel => exact ⟨_, (true), My.r1, H', ⟨My.r4⟩, ⟨(My.bl_ HB)⟩⟩
  ·rw [if_neg c5] at H
   have c5b0 := decide_eq_false c5
   clear c5
   (first | rw [c5b0] | (simp only [i64_w, i32_w]; rw [c5b0]) | skip)
   by_cases c6 : a1 > (a0.size : Int)
   ·rw [if_pos c6] at H
    have c6b0 : decide ((a0.size : Int) < a1) = true := decide_eq_true c6
    clear c6
    have H' := My.am H
    clear H
    go_wp2
    go_meet
    case rel => exact ⟨_, (true), My.r1, H', ⟨My.r4⟩, ⟨(My.bl_ HB)⟩⟩
   rw [if_neg c6] at H
   have c6b0 : decide ((a0.size : Int) < a1) = false := decide_eq_false c6
   clear c6
   by_cases c7 : a2 < 0
   ·rw [if_pos c7] at H
    have c7b0 := decide_eq_true c7
    clear c7
    have H' := My.am H
    clear H
    go_wp2
    go_meet
    case rel => exact ⟨_, (true), My.r1, H', ⟨My.r4⟩, ⟨(My.bl_ HB)⟩⟩
   rw [if_neg c7] at H
   have c7b0 := decide_eq_false c7
   clear c7
   have H' := My.am H
   clear H
   go_wp2
   go_meet
   case rel => exact ⟨_, (decide (a2 > 255)), My.r1, H', ⟨My.r4⟩, ⟨(My.bl_ HB)⟩⟩
 case rest =>
  clear HC4
  obtain ⟨kq, x31_3, rfl, HA, HJ3, HB⟩ := hcut
  cases kq with
  | zero => exact absurd HA.out (by simp [ententeref02_Open.j0])
  | succ kj3 =>
   have H := HA.out
   clear HA
   simp only [ententeref02_Open.j0] at H
   by_cases c8 : x31_3 = true
   ·subst c8
    rw [if_pos rfl] at H
    simp only [Option.some.injEq, Prod.mk.injEq] at H
    obtain ⟨rfl, rfl, rfl⟩ := H
    go_wp2
    go_ret3
    exact ⟨My.r2, (My.bl_ HB)⟩
   replace c8 := Bool.eq_false_iff.mpr c8
   subst c8
   rw [if_neg (show ¬ (false = true) by decide)] at H
   by_cases c9 : 0 ≤ a1
   rotate_left
   ·exact My.nn c9 H

   rw [if_pos c9] at H
   have c9b0 := eq_true c9
   have c9b1 := decide_eq_true c9
   clear c9
   by_cases c10 : a1 ≤ (a0.size : Int)
   rotate_left
   ·exact My.nn c10 H
   rw [if_pos c10] at H
   have c10b0 := eq_true c10
   have c10b1 := decide_eq_true c10
   clear c10
   obtain ⟨rs, hrs⟩ : ∃ y_ : ByteArray, y_ = (a0.extract (a1 : Int).toNat a0.size) := ⟨_, rfl⟩
   rw [← hrs] at H
   have Nrs := My.am hrs
   have hcrs := My.cut_str (P := Tryz.prog) 9 .i64 Tryz.underlying9 a0 a1 (My.as_) (My.as_)
   rw [← hrs] at hcrs
   clear hrs
   by_cases c11 : rs.toList = ([] : List UInt8)
   ·rw [if_pos c11] at H
    have c11b0 : (rs.toList == ([] : List UInt8)) = true := beq_iff_eq.mpr c11
    have c11b1 : (rs.toList != ([] : List UInt8)) = false := bne_eq_false_iff_eq.mpr c11
    clear c11
    simp only [Option.some.injEq, Prod.mk.injEq] at H
    obtain ⟨rfl, rfl, rfl⟩ := H
    go_wp2
    go_ret3
    exact ⟨My.r2, (My.bl_ HB)⟩
   rw [if_neg c11] at H
   have c11b0 : (rs.toList == ([] : List UInt8)) = false := beq_eq_false_iff_ne.mpr c11
   have c11b1 : (rs.toList != ([] : List UInt8)) = true := bne_iff_ne.mpr c11
   by_cases c12 : 0 < (rs.size : Int)
   rotate_left
   ·exact My.nn c12 H
   rw [if_pos c12] at H
   have c12b0 := decide_eq_true c12
   have c12b1 : decide (0 < rs.size) = true := decide_eq_true (by omega)
   clear c12
   by_cases c14 : (bt rs 0) = 231
   rotate_left
   ·rw [if_neg c14] at H
    have c14b0 : ((bt rs 0) == 231) = false := beq_eq_false_iff_ne.mpr c14
    have c14b1 : ((bt rs 0) != 231) = true := bne_iff_ne.mpr c14
    simp only [Option.some.injEq, Prod.mk.injEq] at H
    obtain ⟨rfl, rfl, rfl⟩ := H
    have p13 : 0 ≤ (0 : Int) := (by omega)
    have q13 : 0 < rs.size := (by have : (0 : Int) < (rs.size : Int) := My.as_; omega)
    have hx13 : ∀ h : 0 < rs.size, ((rs[0]'h).toNat : Int) = bt rs 0 := bt_at rs 0
    clear p13
    have qi13 : (0 < (rs.size : Int)) = True := eq_true (My.as_)
    replace q13 := eq_true q13
    go_wp2
    go_ret3
    exact ⟨My.r2, (My.bl_ HB)⟩
   rw [if_pos c14] at H
   have c14b0 : ((bt rs 0) == 231) = true := beq_iff_eq.mpr c14
   have c14b1 : ((bt rs 0) != 231) = false := bne_eq_false_iff_eq.mpr c14
   clear c14
   by_cases c15 : (rs.size : Int) = 1
   ·rw [if_pos c15] at H
    have c15b0 : ((rs.size : Int) == 1) = true := beq_iff_eq.mpr c15
    have c15b1 : ((rs.size : Int) != 1) = false := bne_eq_false_iff_eq.mpr c15
    clear c15
    simp only [Option.some.injEq, Prod.mk.injEq] at H
    obtain ⟨rfl, rfl, rfl⟩ := H
    have p13 : 0 ≤ (0 : Int) := (by omega)
    have q13 : 0 < rs.size := (by have : (0 : Int) < (rs.size : Int) := My.as_; omega)
    have hx13 : ∀ h : 0 < rs.size, ((rs[0]'h).toNat : Int) = bt rs 0 := bt_at rs 0
    clear p13
    have qi13 : (0 < (rs.size : Int)) = True := eq_true (My.as_)
    replace q13 := eq_true q13
    go_wp2
    go_ret3
    exact ⟨My.r2, (My.bl_ HB)⟩
   rw [if_neg c15] at H
   have c15b0 : ((rs.size : Int) == 1) = false := beq_eq_false_iff_ne.mpr c15
   have c15b1 : ((rs.size : Int) != 1) = true := bne_iff_ne.mpr c15
   by_cases c16 : 1 < (rs.size : Int)
   rotate_left
   ·exact My.nn c16 H
   rw [if_pos c16] at H
   have c16b0 := decide_eq_true c16
   have c16b1 : decide (1 < rs.size) = true := decide_eq_true (by omega)
   clear c16
   by_cases c18 : (wrap64 (bt rs 1)) = a2
   rotate_left
   ·rw [if_neg c18] at H
    have c18b0 : ((wrap64 (bt rs 1)) == a2) = false := beq_eq_false_iff_ne.mpr c18
    have c18b1 : ((wrap64 (bt rs 1)) != a2) = true := bne_iff_ne.mpr c18
    simp only [Option.some.injEq, Prod.mk.injEq] at H
    obtain ⟨rfl, rfl, rfl⟩ := H
    have p13 : 0 ≤ (0 : Int) := (by omega)
    have q13 : 0 < rs.size := (by have : (0 : Int) < (rs.size : Int) := My.as_; omega)
    have hx13 : ∀ h : 0 < rs.size, ((rs[0]'h).toNat : Int) = bt rs 0 := bt_at rs 0
    clear p13
    have qi13 : (0 < (rs.size : Int)) = True := eq_true (My.as_)
    replace q13 := eq_true q13
    have p17 : 0 ≤ (1 : Int) := (by omega)
    have q17 : 1 < rs.size := (by have : (1 : Int) < (rs.size : Int) := My.as_; omega)
    have hx17 : ∀ h : 1 < rs.size, ((rs[1]'h).toNat : Int) = bt rs 1 := bt_at rs 1
    clear p17
    have qi17 : (1 < (rs.size : Int)) = True := eq_true (My.as_)
    replace q17 := eq_true q17
    go_wp2
    go_ret3
    exact ⟨My.r2, (My.bl_ HB)⟩
   rw [if_pos c18] at H
   have c18b0 : ((wrap64 (bt rs 1)) == a2) = true := beq_iff_eq.mpr c18
   have c18b1 : ((wrap64 (bt rs 1)) != a2) = false := bne_eq_false_iff_eq.mpr c18
   clear c18
   replace H := Option.bind_eq_some_iff.mp H
   obtain ⟨⟨t165, t166, t167⟩, A190, H⟩ := H
   try dsimp only at H
   have A19 := My.am A190
   clear A190
   by_cases c20 : t167 = 0
   rotate_left
   ·rw [if_neg c20] at H
    have c20b0 : (t167 == 0) = false := beq_eq_false_iff_ne.mpr c20
    have c20b1 : (t167 != 0) = true := bne_iff_ne.mpr c20
    simp only [Option.some.injEq, Prod.mk.injEq] at H
    obtain ⟨rfl, rfl, rfl⟩ := H
    have p13 : 0 ≤ (0 : Int) := (by omega)
    have q13 : 0 < rs.size := (by have : (0 : Int) < (rs.size : Int) := My.as_; omega)
    have hx13 : ∀ h : 0 < rs.size, ((rs[0]'h).toNat : Int) = bt rs 0 := bt_at rs 0
    clear p13
    have qi13 : (0 < (rs.size : Int)) = True := eq_true (My.as_)
    replace q13 := eq_true q13
    have p17 : 0 ≤ (1 : Int) := (by omega)
    have q17 : 1 < rs.size := (by have : (1 : Int) < (rs.size : Int) := My.as_; omega)
    have hx17 : ∀ h : 1 < rs.size, ((rs[1]'h).toNat : Int) = bt rs 1 := bt_at rs 1
    clear p17
    have qi17 : (1 < (rs.size : Int)) = True := eq_true (My.as_)
    replace q17 := eq_true q17
    go_wp2_with (first | ((with_reducible refine gate_callee (f := 69) rfl ?_); refine goesL_ (some 50) rfl rfl Tryz.func69 (by kernel_rfl) rfl #[.string rs, .int .i64 2] rfl My.gx ?_; (with_reducible refine (ententeref01_TakeNumber.calls kj3 rs 2 t165 t166 t167 _ A19.out).mono ?_); rintro e w37 ⟨rfl, hb⟩; refine ⟨_, rfl, ?_⟩; replace HB := My.st HB hb; (try clear hb)))
    go_ret3
    exact ⟨My.r2, (My.bl_ HB)⟩
   rw [if_pos c20] at H
   have c20b0 : (t167 == 0) = true := beq_iff_eq.mpr c20
   have c20b1 : (t167 != 0) = false := bne_eq_false_iff_eq.mpr c20
   clear c20
   by_cases c21 : t165 > 30000
   ·rw [if_pos c21] at H
    have c21b0 : decide (30000 < t165) = true := decide_eq_true c21
    clear c21
    simp only [Option.some.injEq, Prod.mk.injEq] at H
    obtain ⟨rfl, rfl, rfl⟩ := H
    have p13 : 0 ≤ (0 : Int) := (by omega)
    have q13 : 0 < rs.size := (by have : (0 : Int) < (rs.size : Int) := My.as_; omega)
    have hx13 : ∀ h : 0 < rs.size, ((rs[0]'h).toNat : Int) = bt rs 0 := bt_at rs 0
    clear p13
    have qi13 : (0 < (rs.size : Int)) = True := eq_true (My.as_)
    replace q13 := eq_true q13
    have p17 : 0 ≤ (1 : Int) := (by omega)
    have q17 : 1 < rs.size := (by have : (1 : Int) < (rs.size : Int) := My.as_; omega)
    have hx17 : ∀ h : 1 < rs.size, ((rs[1]'h).toNat : Int) = bt rs 1 := bt_at rs 1
    clear p17
    have qi17 : (1 < (rs.size : Int)) = True := eq_true (My.as_)
    replace q17 := eq_true q17
    go_wp2_with (first | ((with_reducible refine gate_callee (f := 69) rfl ?_); refine goesL_ (some 50) rfl rfl Tryz.func69 (by kernel_rfl) rfl #[.string rs, .int .i64 2] rfl My.gx ?_; (with_reducible refine (ententeref01_TakeNumber.calls kj3 rs 2 t165 t166 t167 _ A19.out).mono ?_); rintro e w22 ⟨rfl, hb⟩; refine ⟨_, rfl, ?_⟩; replace HB := My.st HB hb; (try clear hb)))
    go_ret3
    exact ⟨My.r2, (My.bl_ HB)⟩
   rw [if_neg c21] at H
   have c21b0 : decide (30000 < t165) = false := decide_eq_false c21
   clear c21
   by_cases c23 : (wrap64 ((rs.size : Int) - t166)) < (wrap64 ((wrap64 (t165)) + 8))
   ·rw [if_pos c23] at H
    have c23b0 := decide_eq_true c23
    clear c23
    simp only [Option.some.injEq, Prod.mk.injEq] at H
    obtain ⟨rfl, rfl, rfl⟩ := H
    have p13 : 0 ≤ (0 : Int) := (by omega)
    have q13 : 0 < rs.size := (by have : (0 : Int) < (rs.size : Int) := My.as_; omega)
    have hx13 : ∀ h : 0 < rs.size, ((rs[0]'h).toNat : Int) = bt rs 0 := bt_at rs 0
    clear p13
    have qi13 : (0 < (rs.size : Int)) = True := eq_true (My.as_)
    replace q13 := eq_true q13
    have p17 : 0 ≤ (1 : Int) := (by omega)
    have q17 : 1 < rs.size := (by have : (1 : Int) < (rs.size : Int) := My.as_; omega)
    have hx17 : ∀ h : 1 < rs.size, ((rs[1]'h).toNat : Int) = bt rs 1 := bt_at rs 1
    clear p17
    have qi17 : (1 < (rs.size : Int)) = True := eq_true (My.as_)
    replace q17 := eq_true q17
    go_wp2_with (first | ((with_reducible refine gate_callee (f := 69) rfl ?_); refine goesL_ (some 50) rfl rfl Tryz.func69 (by kernel_rfl) rfl #[.string rs, .int .i64 2] rfl My.gx ?_; (with_reducible refine (ententeref01_TakeNumber.calls kj3 rs 2 t165 t166 t167 _ A19.out).mono ?_); rintro e w24 ⟨rfl, hb⟩; refine ⟨_, rfl, ?_⟩; replace HB := My.st HB hb; (try clear hb)))
    go_ret3
    exact ⟨My.r2, (My.bl_ HB)⟩
   rw [if_neg c23] at H
   have c23b0 := decide_eq_false c23
   clear c23
   by_cases c25 : 0 ≤ t166
   rotate_left
   ·exact My.nn c25 H
   rw [if_pos c25] at H
   have c25b0 := eq_true c25
   have c25b1 := decide_eq_true c25
   clear c25
   by_cases c26 : t166 ≤ (wrap64 (t166 + (wrap64 (t165))))
   rotate_left
   ·exact My.nn c26 H
   rw [if_pos c26] at H
   have c26b0 := eq_true c26
   have c26b1 := decide_eq_true c26
   by_cases c27 : (wrap64 (t166 + (wrap64 (t165)))) ≤ (rs.size : Int)
   rotate_left
   ·exact My.nn c27 H
   rw [if_pos c27] at H
   have c27b0 := eq_true c27
   have c27b1 := decide_eq_true c27
   replace H := Option.bind_eq_some_iff.mp H
   obtain ⟨⟨t168, t169⟩, A280, H⟩ := H
   try dsimp only at H
   have A28 := My.am A280
   clear A280
   obtain ⟨ji29, hji29⟩ : ∃ j_ : Int, (wrap64 ((wrap64 (t166 + (wrap64 (t165)))) + 8)) = j_ := ⟨_, rfl⟩
   replace H : (if 0 ≤ (ji29) then (if (ji29) ≤ (rs.size : Int) then (if t168.toList = (rs.extract 0 ((ji29) : Int).toNat).toList then (some (rs.extract (t166 : Int).toNat ((wrap64 (t166 + (wrap64 (t165)))) : Int).toNat, wrap64 (a1 + (t168.size : Int)), 0)) else (some ((⟨#[]⟩ : ByteArray), 0, 22))) else (none)) else (none)) = some (r1, r2, r3) := by first | (rw [hji29] at H; exact H) | (simp only [hji29] at H ⊢; exact H)
   (try rw [hji29] at A19)
   (try rw [hji29] at A28)
   have hji29w : (IntKind.i64.wrap ((wrap64 (t166 + (wrap64 (t165)))) + 8)) = ji29 := (i64_w _).trans hji29
   by_cases c30 : 0 ≤ (ji29)
   rotate_left
   ·exact My.nn c30 H
   rw [if_pos c30] at H
   have c30b0 := eq_true c30
   have c30b1 := decide_eq_true c30
   clear c30
   by_cases c31 : (ji29) ≤ (rs.size : Int)
   rotate_left
   ·exact My.nn c31 H
   rw [if_pos c31] at H
   have c31b0 := eq_true c31
   have c31b1 := decide_eq_true c31
   clear c31
   by_cases c32 : t168.toList = (rs.extract 0 ((ji29) : Int).toNat).toList
   ·rw [if_pos c32] at H
    have c32b0 : (t168.toList == (rs.extract 0 ((ji29) : Int).toNat).toList) = true := beq_iff_eq.mpr c32
    have c32b1 : (t168.toList != (rs.extract 0 ((ji29) : Int).toNat).toList) = false := bne_eq_false_iff_eq.mpr c32
    clear c32
    simp only [Option.some.injEq, Prod.mk.injEq] at H
    obtain ⟨rfl, rfl, rfl⟩ := H
    have p13 : 0 ≤ (0 : Int) := (by omega)
    have q13 : 0 < rs.size := (by have : (0 : Int) < (rs.size : Int) := My.as_; omega)
    have hx13 : ∀ h : 0 < rs.size, ((rs[0]'h).toNat : Int) = bt rs 0 := bt_at rs 0
    clear p13
    have qi13 : (0 < (rs.size : Int)) = True := eq_true (My.as_)
    replace q13 := eq_true q13
    have p17 : 0 ≤ (1 : Int) := (by omega)
    have q17 : 1 < rs.size := (by have : (1 : Int) < (rs.size : Int) := My.as_; omega)
    have hx17 : ∀ h : 1 < rs.size, ((rs[1]'h).toNat : Int) = bt rs 1 := bt_at rs 1
    clear p17
    have qi17 : (1 < (rs.size : Int)) = True := eq_true (My.as_)
    replace q17 := eq_true q17
    go_wp2_with (first | ((with_reducible refine gate_callee (f := 69) rfl ?_); refine goesL_ (some 50) rfl rfl Tryz.func69 (by kernel_rfl) rfl #[.string rs, .int .i64 2] rfl My.gx ?_; (with_reducible refine (ententeref01_TakeNumber.calls kj3 rs 2 t165 t166 t167 _ A19.out).mono ?_); rintro e w33 ⟨rfl, hb⟩; refine ⟨_, rfl, ?_⟩; replace HB := My.st HB hb; (try clear hb)) | ((with_reducible refine gate_callee (f := 49) rfl ?_); refine goesL_ (some 77) rfl rfl Tryz.func49 (by kernel_rfl) rfl #[.int .i64 a2, .string (rs.extract (t166 : Int).toNat ((wrap64 (t166 + (wrap64 (t165)))) : Int).toNat)] rfl My.gx ?_; (with_reducible refine (ententeref02_Seal.calls kj3 a2 (rs.extract (t166 : Int).toNat ((wrap64 (t166 + (wrap64 (t165)))) : Int).toNat) t168 t169 _ A28.out).mono ?_); rintro e w34 ⟨rfl, hb⟩; refine ⟨_, rfl, ?_⟩; replace HB := My.st HB hb; (try clear hb)))
    go_ret3
    exact ⟨by first | rfl | (simp [errW_none, errW_some] <;> rfl) | (simp only [← hji29]; first | rfl | (simp [errW_none, errW_some] <;> rfl)) | (simp [*, errW_none, errW_some] <;> rfl), (My.bl_ HB)⟩
   rw [if_neg c32] at H
   have c32b0 : (t168.toList == (rs.extract 0 ((ji29) : Int).toNat).toList) = false := beq_eq_false_iff_ne.mpr c32
   have c32b1 : (t168.toList != (rs.extract 0 ((ji29) : Int).toNat).toList) = true := bne_iff_ne.mpr c32
   simp only [Option.some.injEq, Prod.mk.injEq] at H
   obtain ⟨rfl, rfl, rfl⟩ := H
   have p13 : 0 ≤ (0 : Int) := (by omega)
   have q13 : 0 < rs.size := (by have : (0 : Int) < (rs.size : Int) := My.as_; omega)
   have hx13 : ∀ h : 0 < rs.size, ((rs[0]'h).toNat : Int) = bt rs 0 := bt_at rs 0
   clear p13
   have qi13 : (0 < (rs.size : Int)) = True := eq_true (My.as_)
   replace q13 := eq_true q13
   have p17 : 0 ≤ (1 : Int) := (by omega)
   have q17 : 1 < rs.size := (by have : (1 : Int) < (rs.size : Int) := My.as_; omega)
   have hx17 : ∀ h : 1 < rs.size, ((rs[1]'h).toNat : Int) = bt rs 1 := bt_at rs 1
   clear p17
   have qi17 : (1 < (rs.size : Int)) = True := eq_true (My.as_)
   replace q17 := eq_true q17
   go_wp2_with (first | ((with_reducible refine gate_callee (f := 69) rfl ?_); refine goesL_ (some 50) rfl rfl Tryz.func69 (by kernel_rfl) rfl #[.string rs, .int .i64 2] rfl My.gx ?_; (with_reducible refine (ententeref01_TakeNumber.calls kj3 rs 2 t165 t166 t167 _ A19.out).mono ?_); rintro e w35 ⟨rfl, hb⟩; refine ⟨_, rfl, ?_⟩; replace HB := My.st HB hb; (try clear hb)) | ((with_reducible refine gate_callee (f := 49) rfl ?_); refine goesL_ (some 77) rfl rfl Tryz.func49 (by kernel_rfl) rfl #[.int .i64 a2, .string (rs.extract (t166 : Int).toNat ((wrap64 (t166 + (wrap64 (t165)))) : Int).toNat)] rfl My.gx ?_; (with_reducible refine (ententeref02_Seal.calls kj3 a2 (rs.extract (t166 : Int).toNat ((wrap64 (t166 + (wrap64 (t165)))) : Int).toNat) t168 t169 _ A28.out).mono ?_); rintro e w36 ⟨rfl, hb⟩; refine ⟨_, rfl, ?_⟩; replace HB := My.st HB hb; (try clear hb)))
   go_ret3
   exact ⟨by first | rfl | (simp [errW_none, errW_some] <;> rfl) | (simp only [← hji29]; first | rfl | (simp [errW_none, errW_some] <;> rfl)) | (simp [*, errW_none, errW_some] <;> rfl), (My.bl_ HB)⟩
/-! ### ententeref02_Cut: function 48 -/
mutual
def ententeref02_Cut.j0 : Nat → ByteArray → Int → Bool → Option (List ByteArray × Int × Int)
 | 0, _, _, _ => none
 | k + 1, x0, x1, x17 => if x17 = true then (some (([] : List ByteArray), 0, 2)) else (ententeref02_Cut.l0 k x0 x1 ([] : List ByteArray) 0)
def ententeref02_Cut.l0 : Nat → ByteArray → Int → List ByteArray → Int → Option (List ByteArray × Int × Int)
 | 0, _, _, _, _ => none
 | k + 1, x0, x1, x7, x8 => if x8 < (x0.size : Int) then ((ententeref02_Open.f k x0 x8 x1).bind fun bt170 => (if bt170.2.2 = 0 then (if x7.length < 8796093022208 then (ententeref02_Cut.l0 k x0 x1 (x7 ++ [bt170.1]) bt170.2.1) else (none)) else (some (x7, x8, bt170.2.2)))) else (some (x7, x8, 0))
end
def ententeref02_Cut.f (k : Nat) (a0 : ByteArray) (a1 : Int) : Option (List ByteArray × Int × Int) := if a1 < 0 then (ententeref02_Cut.j0 k a0 a1 true) else (ententeref02_Cut.j0 k a0 a1 (decide (a1 > 255)))
theorem ententeref02_Cut.mono_l : ∀ k, (∀ y0 y1 y2, LeO (ententeref02_Cut.j0 k y0 y1 y2) (ententeref02_Cut.j0 (k + 1) y0 y1 y2)) ∧ (∀ y0 y1 y2 y3, LeO (ententeref02_Cut.l0 k y0 y1 y2 y3) (ententeref02_Cut.l0 (k + 1) y0 y1 y2 y3))
 | 0 => ⟨fun _ _ _ r h => by simp [ententeref02_Cut.j0] at h, fun _ _ _ _ r h => by simp [ententeref02_Cut.l0] at h⟩
 | k + 1 => by
  obtain ⟨ih0, ih1⟩ := ententeref02_Cut.mono_l k
  refine ⟨?_, ?_⟩
  ·intro y0 y1 y2
   unfold ententeref02_Cut.j0
   repeat' (with_reducible first | exact ih0 _ _ _ | exact ih1 _ _ _ _ | exact ententeref02_Open.mono _ _ _ _ | exact LeO.refl _ | exact LeO.none _ | apply LeO.ite | refine LeO.bind ?_ (fun _ => ?_))
  intro y0 y1 y2 y3
  unfold ententeref02_Cut.l0
  repeat' (with_reducible first | exact ih0 _ _ _ | exact ih1 _ _ _ _ | exact ententeref02_Open.mono _ _ _ _ | exact LeO.refl _ | exact LeO.none _ | apply LeO.ite | refine LeO.bind ?_ (fun _ => ?_))
theorem ententeref02_Cut.mono : ∀ a0 a1 k, LeO (ententeref02_Cut.f k a0 a1) (ententeref02_Cut.f (k + 1) a0 a1) := by
 intro a0 a1 k
 obtain ⟨ih0, ih1⟩ := ententeref02_Cut.mono_l k
 unfold ententeref02_Cut.f
 repeat' (with_reducible first | exact ih0 _ _ _ | exact ih1 _ _ _ _ | exact ententeref02_Open.mono _ _ _ _ | exact LeO.refl _ | exact LeO.none _ | apply LeO.ite | refine LeO.bind ?_ (fun _ => ?_))
theorem ententeref02_Cut.calls (k : Nat) (a0 : ByteArray) (a1 : Int) (r1 : List ByteArray) (r2 : Int) (r3 : Int) (w : World) (h : ententeref02_Cut.f k a0 a1 = some (r1, r2, r3)) :
  Calls Tryz.prog 48 #[.string a0, .int .i64 a1] w fun e w' => ∃ v0_ : Value, e = .returned (.tuple #[v0_, .int .i64 r2, .int .i64 r3]) ∧ Kd.R Kd.string 9 w' w.heap.size (fun _ => True) v0_ r1 ∧ Below w.heap.size w w' := by
 have HB := My.am (Below.refl w.heap.size w)
 unfold ententeref02_Cut.f at h
 have H := h
 clear h
 have HC3 := My.am H
 clear H
 go_enter Tryz.func48, Tryz.ntmps48
 go_upto_region 1 with (fail)
 go_cut [17] (fun v17 wc => ∃ (kq : Nat) (x17_2 : Bool), v17 = .bool x17_2 ∧ Aside0 (ententeref02_Cut.j0 kq a0 a1 x17_2 = some (r1, r2, r3)) ∧ Aside0 (kq ≤ k) ∧ Aside0 (Below w.heap.size w wc))
 case first =>
  have H := HC3.out
  clear HC3
  by_cases c4 : a1 < 0
  ·rw [if_pos c4] at H
   have c4b0 := decide_eq_true c4
   clear c4
   (first | rw [c4b0] | (simp only [i64_w, i32_w]; rw [c4b0]) | skip)
   have H' := My.am H
   clear H
   go_wp2
   go_meet
   case rel => exact ⟨_, (true), My.r1, H', ⟨My.r4⟩, ⟨(My.bl_ HB)⟩⟩
  ·rw [if_neg c4] at H
   have c4b0 := decide_eq_false c4
   clear c4
   (first | rw [c4b0] | (simp only [i64_w, i32_w]; rw [c4b0]) | skip)
   have H' := My.am H
   clear H
   go_wp2
   go_meet
   case rel => exact ⟨_, (decide (a1 > 255)), My.r1, H', ⟨My.r4⟩, ⟨(My.bl_ HB)⟩⟩
 case rest =>
  clear HC3
  obtain ⟨kq, x17_2, rfl, HA, HJ2, HB⟩ := hcut
  cases kq with
  | zero => exact absurd HA.out (by simp [ententeref02_Cut.j0])
  | succ kj2 =>
   have H := HA.out
   clear HA
   simp only [ententeref02_Cut.j0] at H
   by_cases c5 : x17_2 = true
   ·subst c5
    rw [if_pos rfl] at H
    simp only [Option.some.injEq, Prod.mk.injEq] at H
    obtain ⟨rfl, rfl, rfl⟩ := H
    go_wp2
    go_ret3
    exact ⟨_, My.r2, My.r3, (My.bl_ HB)⟩
   replace c5 := Bool.eq_false_iff.mpr c5
   subst c5
   rw [if_neg (show ¬ (false = true) by decide)] at H
   have H' := My.am H
   clear H
   go_wp2
   go_loopg [7, 8] kj2 (fun kq v7 v8 w' => ∃ (x7_2 : List ByteArray) (x8_2 : Int), v8 = .int .i64 x8_2 ∧ Aside0 (ententeref02_Cut.l0 kq a0 a1 x7_2 x8_2 = some (r1, r2, r3)) ∧ Aside0 (kq ≤ kj2) ∧ Aside0 (Kd.R Kd.string 9 w' w.heap.size (fun _ => True) v7 x7_2) ∧ Aside0 (Below w.heap.size w w'))
   case atStart => exact ⟨(([] : List ByteArray)), (0), My.r1, H', ⟨Nat.le_refl _⟩, ⟨My.r3⟩, ⟨(My.bl_ HB)⟩⟩
   case round =>
    clear H'
    try clear c5
    obtain ⟨x7_2, x8_2, rfl, HA, HK2, HO_7, HB⟩ := hrel
    cases gk with
    | zero => exact absurd HA.out (by simp [ententeref02_Cut.l0])
    | succ k2 =>
     have H := HA.out
     clear HA
     simp only [ententeref02_Cut.l0] at H
     by_cases c6 : x8_2 < (a0.size : Int)
     rotate_left
     ·rw [if_neg c6] at H
      have c6b0 := decide_eq_false c6
      clear c6
      simp only [Option.some.injEq, Prod.mk.injEq] at H
      obtain ⟨rfl, rfl, rfl⟩ := H
      go_wp2
      go_ret3
      exact ⟨_, My.r2, My.dR HO_7.out, (My.bl_ HB)⟩

     rw [if_pos c6] at H
     have c6b0 := decide_eq_true c6
     clear c6
     replace H := Option.bind_eq_some_iff.mp H
     obtain ⟨⟨t170, t171, t172⟩, A70, H⟩ := H
     try dsimp only at H
     have A7 := My.am A70
     clear A70
     by_cases c8 : t172 = 0
     ·rw [if_pos c8] at H
      have c8b0 : (t172 == 0) = true := beq_iff_eq.mpr c8
      have c8b1 : (t172 != 0) = false := bne_eq_false_iff_eq.mpr c8
      clear c8
      by_cases c9 : x7_2.length < 8796093022208
      ·rw [if_pos c9] at H
       have LMc9 := My.am c9
       clear c9
       obtain ⟨y173, hy173⟩ : ∃ y_ : List ByteArray, y_ = (x7_2 ++ [t170]) := ⟨_, rfl⟩
       replace H : (ententeref02_Cut.l0 k2 a0 a1 y173 t171) = some (r1, r2, r3) := by first | (rw [hy173]; with_reducible exact H) | (have H2_ := (Option.bind_some _ _).symm.trans H; rw [hy173]; with_reducible exact H2_) | (have H2_ := (Option.bind_some _ _).symm.trans H; with_reducible exact H2_) | with_reducible exact H | (rw [hy173]; exact H) | exact H
       have Ny173 := My.am hy173
       clear hy173
       have H' := My.am H
       clear H
       go_wp2_with (first | ((with_reducible refine gate_callee (f := 47) rfl ?_); refine goesL_ (some 26) rfl rfl Tryz.func47 (by kernel_rfl) rfl #[.string a0, .int .i64 x8_2, .int .i64 a1] rfl My.gx ?_; (with_reducible refine (ententeref02_Open.calls k2 a0 x8_2 a1 t170 t171 t172 _ A7.out).mono ?_); rintro e w10 ⟨rfl, hb⟩; refine ⟨_, rfl, ?_⟩; replace HO_7 := My.am (Kd.R_below (My.dr HO_7.out) hb); replace HB := My.st HB hb; (try clear hb)) | ((with_reducible refine gate_builtin (b := .append) (xs := #[.tmp 35, .tmp 37]) rfl ?_); at_builtin; refine Kd.R_append Kd.string (w0 := w) w.heap.size rfl (.tmp 35) (.tmp 37) 34 9 (.string ⟨#[]⟩) 16 rfl Tryz.underlying34 info9 rfl (by decide) (by omega) u7 x7_2 t170 [.string t170] (fun _ => True) (fun _ => False) rfl rfl ?aP (fun _ hk => hk.elim) ?aF ?aO ?aB ?aS ?aL ?_; (case aP => exact rfl); (case aB => exact (My.bl_ HB)); (case aF => exact (fun _ _ => trivial)); (case aO => exact (My.dr HO_7.out)); (case aS => exact (below_size (My.bl_ HB))); (case aL => have := LMc9.out; omega); intro v174 w11 ho hb hg hat; rw [← Ny173.out] at ho; replace HB := My.am (hb); have HO175 := My.am (ho); (try clear HO_7); clear ho hb hg hat))
       go_roundg k2
       case measure => have := HJ2.out; have := HK2.out; omega
       case rel => exact ⟨(y173), (t171), My.r1, H', ⟨by have := HJ2.out; have := HK2.out; omega⟩, ⟨My.dR HO175.out⟩, ⟨(My.bl_ HB)⟩⟩
      rw [if_neg c9] at H
      exact absurd H (by simp)
     rw [if_neg c8] at H
     have c8b0 : (t172 == 0) = false := beq_eq_false_iff_ne.mpr c8
     have c8b1 : (t172 != 0) = true := bne_iff_ne.mpr c8
     simp only [Option.some.injEq, Prod.mk.injEq] at H
     obtain ⟨rfl, rfl, rfl⟩ := H
     go_wp2_with (first | ((with_reducible refine gate_callee (f := 47) rfl ?_); refine goesL_ (some 26) rfl rfl Tryz.func47 (by kernel_rfl) rfl #[.string a0, .int .i64 x8_2, .int .i64 a1] rfl My.gx ?_; (with_reducible refine (ententeref02_Open.calls k2 a0 x8_2 a1 t170 t171 t172 _ A7.out).mono ?_); rintro e w12 ⟨rfl, hb⟩; refine ⟨_, rfl, ?_⟩; replace HO_7 := My.am (Kd.R_below (My.dr HO_7.out) hb); replace HB := My.st HB hb; (try clear hb)))
     go_ret3
     exact ⟨_, My.r2, My.dR HO_7.out, (My.bl_ HB)⟩
end Go.Proofs.YtkcpgaplpmbmoaaGreat.PA
