-- Written by a program of this session (wip/tools/mp.py over the kit's printer); Lean checks it.
import Derived.Test.YtfjemhfcdbjolaaPBx0
import Derived.Test.YtfjemhfcdbjolaaPBx3
import Derived.Test.YtfjemhfcdbjolaaPBx5
import Derived.Test.YtfjemhfcdbjolaaPBx6
namespace Go.Proofs.Ytfjemhfcdbjolaa.PB
open Go.RowKit Go.Proofs.YtfjemhfcdbjolaaW.PrintWords Go.Proofs.YtfjemhfcdbjolaaW.PrintLast Go.Proofs.YtfjemhfcdbjolaaW.PrintMore
attribute [local go_sem] max2_int min2_int max_two min_two max_three min_three max_four min_four   -- for this text's walks alone
set_option linter.unusedVariables false
set_option linter.unusedSimpArgs false

/-! ### ententeref02_Open: function 17 -/
def ententeref02_Open.j0 : Nat → ByteArray → Int → Int → Bool → Option (ByteArray × Int × Int)
  | 0, _, _, _, _ => none
  | k + 1, x0, x1, x2, x31 => if x31 = true then (some ((⟨#[]⟩ : ByteArray), 0, 2)) else (if 0 ≤ x1 then (if x1 ≤ (x0.size : Int) then (if (x0.extract (x1 : Int).toNat x0.size).toList = ([] : List UInt8) then (some ((⟨#[]⟩ : ByteArray), 0, 10)) else (if 0 < ((x0.extract (x1 : Int).toNat x0.size).size : Int) then (if (bt (x0.extract (x1 : Int).toNat x0.size) 0) = 231 then (if ((x0.extract (x1 : Int).toNat x0.size).size : Int) = 1 then (some ((⟨#[]⟩ : ByteArray), 0, 10)) else (if 1 < ((x0.extract (x1 : Int).toNat x0.size).size : Int) then (if (wrap64 (bt (x0.extract (x1 : Int).toNat x0.size) 1)) = x2 then ((ententeref01_TakeNumber.f k (x0.extract (x1 : Int).toNat x0.size) 2).bind fun bt176 => (if bt176.2.2 = 0 then (if bt176.1 > 30000 then (some ((⟨#[]⟩ : ByteArray), 0, 3)) else (if (wrap64 (((x0.extract (x1 : Int).toNat x0.size).size : Int) - bt176.2.1)) < (wrap64 ((wrap64 (bt176.1)) + 8)) then (some ((⟨#[]⟩ : ByteArray), 0, 10)) else (if 0 ≤ bt176.2.1 then (if bt176.2.1 ≤ (wrap64 (bt176.2.1 + (wrap64 (bt176.1)))) then (if (wrap64 (bt176.2.1 + (wrap64 (bt176.1)))) ≤ ((x0.extract (x1 : Int).toNat x0.size).size : Int) then ((ententeref02_Seal.f k x2 ((x0.extract (x1 : Int).toNat x0.size).extract (bt176.2.1 : Int).toNat ((wrap64 (bt176.2.1 + (wrap64 (bt176.1)))) : Int).toNat)).bind fun bt179 => (if 0 ≤ (wrap64 ((wrap64 (bt176.2.1 + (wrap64 (bt176.1)))) + 8)) then (if (wrap64 ((wrap64 (bt176.2.1 + (wrap64 (bt176.1)))) + 8)) ≤ ((x0.extract (x1 : Int).toNat x0.size).size : Int) then (if bt179.1.toList = ((x0.extract (x1 : Int).toNat x0.size).extract 0 ((wrap64 ((wrap64 (bt176.2.1 + (wrap64 (bt176.1)))) + 8)) : Int).toNat).toList then (some ((x0.extract (x1 : Int).toNat x0.size).extract (bt176.2.1 : Int).toNat ((wrap64 (bt176.2.1 + (wrap64 (bt176.1)))) : Int).toNat, wrap64 (x1 + (bt179.1.size : Int)), 0)) else (some ((⟨#[]⟩ : ByteArray), 0, 22))) else (none)) else (none))) else (none)) else (none)) else (none)))) else (some ((⟨#[]⟩ : ByteArray), 0, bt176.2.2)))) else (some ((⟨#[]⟩ : ByteArray), 0, 21))) else (none))) else (some ((⟨#[]⟩ : ByteArray), 0, 20))) else (none))) else (none)) else (none))
def ententeref02_Open.f (k : Nat) (a0 : ByteArray) (a1 : Int) (a2 : Int) : Option (ByteArray × Int × Int) := if a1 < 0 then (ententeref02_Open.j0 k a0 a1 a2 true) else (if a1 > (a0.size : Int) then (ententeref02_Open.j0 k a0 a1 a2 true) else (if a2 < 0 then (ententeref02_Open.j0 k a0 a1 a2 true) else (ententeref02_Open.j0 k a0 a1 a2 (decide (a2 > 255)))))
theorem ententeref02_Open.mono_l : ∀ k, (∀ y0 y1 y2 y3, LeO (ententeref02_Open.j0 k y0 y1 y2 y3) (ententeref02_Open.j0 (k + 1) y0 y1 y2 y3))
  | 0 => fun _ _ _ _ r h => by simp [ententeref02_Open.j0] at h
  | k + 1 => by
    have ih0 := ententeref02_Open.mono_l k
    · intro y0 y1 y2 y3
      unfold ententeref02_Open.j0
      repeat' first
      | (with_reducible exact ih0 _ _ _ _)
      | (with_reducible exact ententeref01_TakeNumber.mono _ _ _)
      | (with_reducible exact ententeref02_Seal.mono _ _ _)
      | (with_reducible exact LeO.refl _)
      | (with_reducible exact LeO.none _)
      | (with_reducible refine LeO.ite ?_ ?_)
      | (with_reducible refine LeO.bind ?_ (fun _ => ?_))
      | exact ih0 _ _ _ _
      | exact ententeref01_TakeNumber.mono _ _ _
      | exact ententeref02_Seal.mono _ _ _
      | exact LeO.none _
      | refine LeO.ite ?_ ?_
      | refine LeO.bind ?_ (fun _ => ?_)
theorem ententeref02_Open.mono : ∀ a0 a1 a2 k, LeO (ententeref02_Open.f k a0 a1 a2) (ententeref02_Open.f (k + 1) a0 a1 a2) := by
  intro a0 a1 a2 k
  have ih0 := ententeref02_Open.mono_l k
  unfold ententeref02_Open.f
  repeat' first
      | (with_reducible exact ih0 _ _ _ _)
      | (with_reducible exact ententeref01_TakeNumber.mono _ _ _)
      | (with_reducible exact ententeref02_Seal.mono _ _ _)
      | (with_reducible exact LeO.refl _)
      | (with_reducible exact LeO.none _)
      | (with_reducible refine LeO.ite ?_ ?_)
      | (with_reducible refine LeO.bind ?_ (fun _ => ?_))
      | exact ih0 _ _ _ _
      | exact ententeref01_TakeNumber.mono _ _ _
      | exact ententeref02_Seal.mono _ _ _
      | exact LeO.none _
      | refine LeO.ite ?_ ?_
      | refine LeO.bind ?_ (fun _ => ?_)
set_option maxHeartbeats 8000000 in
set_option maxRecDepth 100000 in
theorem ententeref02_Open.calls (k : Nat) (a0 : ByteArray) (a1 : Int) (a2 : Int) (r1 : ByteArray) (r2 : Int) (r3 : Int) (w : World) (h : ententeref02_Open.f k a0 a1 a2 = some (r1, r2, r3)) :
    Calls Try.prog 17 #[.string a0, .int .i64 a1, .int .i64 a2] w fun e w' => e = .returned (.tuple #[.string r1, .int .i64 r2, .int .i64 r3]) ∧ Below w.heap.size w w' := by
  have HB := Aside0.mk (Below.refl w.heap.size w)
  have H : (if a1 < 0 then (ententeref02_Open.j0 k a0 a1 a2 true) else (if a1 > (a0.size : Int) then (ententeref02_Open.j0 k a0 a1 a2 true) else (if a2 < 0 then (ententeref02_Open.j0 k a0 a1 a2 true) else (ententeref02_Open.j0 k a0 a1 a2 (decide (a2 > 255)))))) = some (r1, r2, r3) := h
  clear h
  have HC4 := Aside0.mk H
  clear H
  go_enter Try.func17, Try.ntmps17
  go_upto_region 1 with (fail)
  go_cut [31] (fun v31 wc => ∃ (kq : Nat) (x31_3 : Bool), v31 = .bool x31_3 ∧ Aside0 (ententeref02_Open.j0 kq a0 a1 a2 x31_3 = some (r1, r2, r3)) ∧ Aside0 (kq ≤ k) ∧ Aside0 (Below w.heap.size w wc))
  case first =>
    have H := HC4.out
    clear HC4
    by_cases c5 : a1 < 0
    · rw [if_pos c5] at H
      have c5b0 : decide (a1 < 0) = true := decide_eq_true c5
      clear c5
      (first | rw [c5b0] | (simp only [i64_w, i32_w]; rw [c5b0]) | skip)
      have H' := Aside0.mk H
      clear H
      go_wp2
      go_meet
      case rel => exact ⟨_, (true), (by first | rfl | (simp; done) | (simp [*]; done)), H', ⟨by first | omega | exact Nat.le_refl _⟩, ⟨by repeat (first | (with_reducible first | exact HB.out | apply below_alloc | apply pw_below_drewN | apply below_drew1) | exact HB.out)⟩⟩
    · rw [if_neg c5] at H
      have c5b0 : decide (a1 < 0) = false := decide_eq_false c5
      clear c5
      (first | rw [c5b0] | (simp only [i64_w, i32_w]; rw [c5b0]) | skip)
      by_cases c6 : a1 > (a0.size : Int)
      · rw [if_pos c6] at H
        have c6b0 : decide ((a0.size : Int) < a1) = true := decide_eq_true c6
        clear c6
        have H' := Aside0.mk H
        clear H
        go_wp2
        go_meet
        case rel => exact ⟨_, (true), (by first | rfl | (simp; done) | (simp [*]; done)), H', ⟨by first | omega | exact Nat.le_refl _⟩, ⟨by repeat (first | (with_reducible first | exact HB.out | apply below_alloc | apply pw_below_drewN | apply below_drew1) | exact HB.out)⟩⟩
      · rw [if_neg c6] at H
        have c6b0 : decide ((a0.size : Int) < a1) = false := decide_eq_false c6
        clear c6
        by_cases c7 : a2 < 0
        · rw [if_pos c7] at H
          have c7b0 : decide (a2 < 0) = true := decide_eq_true c7
          clear c7
          have H' := Aside0.mk H
          clear H
          go_wp2
          go_meet
          case rel => exact ⟨_, (true), (by first | rfl | (simp; done) | (simp [*]; done)), H', ⟨by first | omega | exact Nat.le_refl _⟩, ⟨by repeat (first | (with_reducible first | exact HB.out | apply below_alloc | apply pw_below_drewN | apply below_drew1) | exact HB.out)⟩⟩
        · rw [if_neg c7] at H
          have c7b0 : decide (a2 < 0) = false := decide_eq_false c7
          clear c7
          have H' := Aside0.mk H
          clear H
          go_wp2
          go_meet
          case rel => exact ⟨_, (decide (a2 > 255)), (by first | rfl | (simp; done) | (simp [*]; done)), H', ⟨by first | omega | exact Nat.le_refl _⟩, ⟨by repeat (first | (with_reducible first | exact HB.out | apply below_alloc | apply pw_below_drewN | apply below_drew1) | exact HB.out)⟩⟩
  case rest =>
    clear HC4
    try clear c1
    try clear p2
    try clear c5
    try clear c5b0
    try clear c6
    try clear c6b0
    try clear c7
    try clear c7b0
    obtain ⟨kq, x31_3, rfl, HA, HJ3, HB⟩ := hcut
    cases kq with
    | zero => exact absurd HA.out (by simp [ententeref02_Open.j0])
    | succ kj3 =>
      have H := HA.out
      clear HA
      simp only [ententeref02_Open.j0] at H
      by_cases c8 : x31_3 = true
      · subst c8
        have H1 : (some ((⟨#[]⟩ : ByteArray), 0, 2)) = some (r1, r2, r3) := by rw [if_pos rfl] at H; exact H
        clear H
        have H := H1
        clear H1
        simp only [Option.some.injEq, Prod.mk.injEq] at H
        obtain ⟨rfl, rfl, rfl⟩ := H
        go_wp2
        go_ret3
        exact ⟨by first | rfl | (simp [errW_none, errW_some] <;> rfl) | (simp [*, errW_none, errW_some] <;> rfl), by repeat (first | (with_reducible first | exact HB.out | apply below_alloc | apply pw_below_drewN | apply below_drew1) | exact HB.out)⟩
      · replace c8 := Bool.eq_false_iff.mpr c8
        subst c8
        have H1 : (if 0 ≤ a1 then (if a1 ≤ (a0.size : Int) then (if (a0.extract (a1 : Int).toNat a0.size).toList = ([] : List UInt8) then (some ((⟨#[]⟩ : ByteArray), 0, 10)) else (if 0 < ((a0.extract (a1 : Int).toNat a0.size).size : Int) then (if (bt (a0.extract (a1 : Int).toNat a0.size) 0) = 231 then (if ((a0.extract (a1 : Int).toNat a0.size).size : Int) = 1 then (some ((⟨#[]⟩ : ByteArray), 0, 10)) else (if 1 < ((a0.extract (a1 : Int).toNat a0.size).size : Int) then (if (wrap64 (bt (a0.extract (a1 : Int).toNat a0.size) 1)) = a2 then ((ententeref01_TakeNumber.f kj3 (a0.extract (a1 : Int).toNat a0.size) 2).bind fun bt176 => (if bt176.2.2 = 0 then (if bt176.1 > 30000 then (some ((⟨#[]⟩ : ByteArray), 0, 3)) else (if (wrap64 (((a0.extract (a1 : Int).toNat a0.size).size : Int) - bt176.2.1)) < (wrap64 ((wrap64 (bt176.1)) + 8)) then (some ((⟨#[]⟩ : ByteArray), 0, 10)) else (if 0 ≤ bt176.2.1 then (if bt176.2.1 ≤ (wrap64 (bt176.2.1 + (wrap64 (bt176.1)))) then (if (wrap64 (bt176.2.1 + (wrap64 (bt176.1)))) ≤ ((a0.extract (a1 : Int).toNat a0.size).size : Int) then ((ententeref02_Seal.f kj3 a2 ((a0.extract (a1 : Int).toNat a0.size).extract (bt176.2.1 : Int).toNat ((wrap64 (bt176.2.1 + (wrap64 (bt176.1)))) : Int).toNat)).bind fun bt179 => (if 0 ≤ (wrap64 ((wrap64 (bt176.2.1 + (wrap64 (bt176.1)))) + 8)) then (if (wrap64 ((wrap64 (bt176.2.1 + (wrap64 (bt176.1)))) + 8)) ≤ ((a0.extract (a1 : Int).toNat a0.size).size : Int) then (if bt179.1.toList = ((a0.extract (a1 : Int).toNat a0.size).extract 0 ((wrap64 ((wrap64 (bt176.2.1 + (wrap64 (bt176.1)))) + 8)) : Int).toNat).toList then (some ((a0.extract (a1 : Int).toNat a0.size).extract (bt176.2.1 : Int).toNat ((wrap64 (bt176.2.1 + (wrap64 (bt176.1)))) : Int).toNat, wrap64 (a1 + (bt179.1.size : Int)), 0)) else (some ((⟨#[]⟩ : ByteArray), 0, 22))) else (none)) else (none))) else (none)) else (none)) else (none)))) else (some ((⟨#[]⟩ : ByteArray), 0, bt176.2.2)))) else (some ((⟨#[]⟩ : ByteArray), 0, 21))) else (none))) else (some ((⟨#[]⟩ : ByteArray), 0, 20))) else (none))) else (none)) else (none)) = some (r1, r2, r3) := by rw [if_neg (show ¬ (false = true) by decide)] at H; exact H
        clear H
        have H := H1
        clear H1
        by_cases c9 : 0 ≤ a1
        · rw [if_pos c9] at H
          have c9b0 := eq_true c9
          have c9b1 : decide (0 ≤ a1) = true := decide_eq_true c9
          clear c9
          by_cases c10 : a1 ≤ (a0.size : Int)
          · rw [if_pos c10] at H
            have c10b0 := eq_true c10
            have c10b1 : decide (a1 ≤ (a0.size : Int)) = true := decide_eq_true c10
            clear c10
            obtain ⟨rs, hrs⟩ : ∃ y_ : ByteArray, y_ = (a0.extract (a1 : Int).toNat a0.size) := ⟨_, rfl⟩
            rw [← hrs] at H
            have Nrs := Aside0.mk hrs
            have hcrs := My.cut_str (P := Try.prog) 9 .i64 Try.underlying9 a0 a1 (of_decide_eq_true (by first | (with_reducible assumption) | assumption)) (of_decide_eq_true (by first | (with_reducible assumption) | assumption))
            rw [← hrs] at hcrs
            clear hrs
            by_cases c11 : rs.toList = ([] : List UInt8)
            · rw [if_pos c11] at H
              have c11b0 : (rs.toList == ([] : List UInt8)) = true := beq_iff_eq.mpr c11
              have c11b1 : (rs.toList != ([] : List UInt8)) = false := bne_eq_false_iff_eq.mpr c11
              clear c11
              simp only [Option.some.injEq, Prod.mk.injEq] at H
              obtain ⟨rfl, rfl, rfl⟩ := H
              go_wp2
              go_ret3
              exact ⟨by first | rfl | (simp [errW_none, errW_some] <;> rfl) | (simp [*, errW_none, errW_some] <;> rfl), by repeat (first | (with_reducible first | exact HB.out | apply below_alloc | apply pw_below_drewN | apply below_drew1) | exact HB.out)⟩
            · rw [if_neg c11] at H
              have c11b0 : (rs.toList == ([] : List UInt8)) = false := beq_eq_false_iff_ne.mpr c11
              have c11b1 : (rs.toList != ([] : List UInt8)) = true := bne_iff_ne.mpr c11
              by_cases c12 : 0 < (rs.size : Int)
              · rw [if_pos c12] at H
                have c12b0 : decide (0 < (rs.size : Int)) = true := decide_eq_true c12
                have c12b1 : decide (0 < rs.size) = true := decide_eq_true (by omega)
                clear c12
                by_cases c14 : (bt rs 0) = 231
                · rw [if_pos c14] at H
                  have c14b0 : ((bt rs 0) == 231) = true := beq_iff_eq.mpr c14
                  have c14b1 : ((bt rs 0) != 231) = false := bne_eq_false_iff_eq.mpr c14
                  clear c14
                  by_cases c15 : (rs.size : Int) = 1
                  · rw [if_pos c15] at H
                    have c15b0 : ((rs.size : Int) == 1) = true := beq_iff_eq.mpr c15
                    have c15b1 : ((rs.size : Int) != 1) = false := bne_eq_false_iff_eq.mpr c15
                    clear c15
                    simp only [Option.some.injEq, Prod.mk.injEq] at H
                    obtain ⟨rfl, rfl, rfl⟩ := H
                    have p13 : 0 ≤ (0 : Int) := (by omega)
                    have q13 : 0 < rs.size := (by have : (0 : Int) < (rs.size : Int) := of_decide_eq_true (by first | (with_reducible assumption) | assumption); omega)
                    have hx13 : ∀ h : 0 < rs.size, ((rs[0]'h).toNat : Int) = bt rs 0 := bt_at rs 0
                    clear p13
                    have qi13 : (0 < (rs.size : Int)) = True := eq_true (of_decide_eq_true (by first | (with_reducible assumption) | assumption))
                    replace q13 := eq_true q13
                    go_wp2
                    go_ret3
                    exact ⟨by first | rfl | (simp [errW_none, errW_some] <;> rfl) | (simp [*, errW_none, errW_some] <;> rfl), by repeat (first | (with_reducible first | exact HB.out | apply below_alloc | apply pw_below_drewN | apply below_drew1) | exact HB.out)⟩
                  · rw [if_neg c15] at H
                    have c15b0 : ((rs.size : Int) == 1) = false := beq_eq_false_iff_ne.mpr c15
                    have c15b1 : ((rs.size : Int) != 1) = true := bne_iff_ne.mpr c15
                    by_cases c16 : 1 < (rs.size : Int)
                    · rw [if_pos c16] at H
                      have c16b0 : decide (1 < (rs.size : Int)) = true := decide_eq_true c16
                      have c16b1 : decide (1 < rs.size) = true := decide_eq_true (by omega)
                      clear c16
                      by_cases c18 : (wrap64 (bt rs 1)) = a2
                      · rw [if_pos c18] at H
                        have c18b0 : ((wrap64 (bt rs 1)) == a2) = true := beq_iff_eq.mpr c18
                        have c18b1 : ((wrap64 (bt rs 1)) != a2) = false := bne_eq_false_iff_eq.mpr c18
                        clear c18
                        replace H := Option.bind_eq_some_iff.mp H
                        obtain ⟨⟨t176, t177, t178⟩, A190, H⟩ := H
                        replace H : (if t178 = 0 then (if t176 > 30000 then (some ((⟨#[]⟩ : ByteArray), 0, 3)) else (if (wrap64 ((rs.size : Int) - t177)) < (wrap64 ((wrap64 (t176)) + 8)) then (some ((⟨#[]⟩ : ByteArray), 0, 10)) else (if 0 ≤ t177 then (if t177 ≤ (wrap64 (t177 + (wrap64 (t176)))) then (if (wrap64 (t177 + (wrap64 (t176)))) ≤ (rs.size : Int) then ((ententeref02_Seal.f kj3 a2 (rs.extract (t177 : Int).toNat ((wrap64 (t177 + (wrap64 (t176)))) : Int).toNat)).bind fun bt179 => (if 0 ≤ (wrap64 ((wrap64 (t177 + (wrap64 (t176)))) + 8)) then (if (wrap64 ((wrap64 (t177 + (wrap64 (t176)))) + 8)) ≤ (rs.size : Int) then (if bt179.1.toList = (rs.extract 0 ((wrap64 ((wrap64 (t177 + (wrap64 (t176)))) + 8)) : Int).toNat).toList then (some (rs.extract (t177 : Int).toNat ((wrap64 (t177 + (wrap64 (t176)))) : Int).toNat, wrap64 (a1 + (bt179.1.size : Int)), 0)) else (some ((⟨#[]⟩ : ByteArray), 0, 22))) else (none)) else (none))) else (none)) else (none)) else (none)))) else (some ((⟨#[]⟩ : ByteArray), 0, t178))) = some (r1, r2, r3) := H
                        have A19 := Aside0.mk A190
                        clear A190
                        by_cases c20 : t178 = 0
                        · rw [if_pos c20] at H
                          have c20b0 : (t178 == 0) = true := beq_iff_eq.mpr c20
                          have c20b1 : (t178 != 0) = false := bne_eq_false_iff_eq.mpr c20
                          clear c20
                          by_cases c21 : t176 > 30000
                          · rw [if_pos c21] at H
                            have c21b0 : decide (30000 < t176) = true := decide_eq_true c21
                            clear c21
                            simp only [Option.some.injEq, Prod.mk.injEq] at H
                            obtain ⟨rfl, rfl, rfl⟩ := H
                            have p13 : 0 ≤ (0 : Int) := (by omega)
                            have q13 : 0 < rs.size := (by have : (0 : Int) < (rs.size : Int) := of_decide_eq_true (by first | (with_reducible assumption) | assumption); omega)
                            have hx13 : ∀ h : 0 < rs.size, ((rs[0]'h).toNat : Int) = bt rs 0 := bt_at rs 0
                            clear p13
                            have qi13 : (0 < (rs.size : Int)) = True := eq_true (of_decide_eq_true (by first | (with_reducible assumption) | assumption))
                            replace q13 := eq_true q13
                            have p17 : 0 ≤ (1 : Int) := (by omega)
                            have q17 : 1 < rs.size := (by have : (1 : Int) < (rs.size : Int) := of_decide_eq_true (by first | (with_reducible assumption) | assumption); omega)
                            have hx17 : ∀ h : 1 < rs.size, ((rs[1]'h).toNat : Int) = bt rs 1 := bt_at rs 1
                            clear p17
                            have qi17 : (1 < (rs.size : Int)) = True := eq_true (of_decide_eq_true (by first | (with_reducible assumption) | assumption))
                            replace q17 := eq_true q17
                            go_wp2_with (first | ((with_reducible refine gate_callee (f := 27) rfl ?_); refine goesL_ (some 50) rfl rfl Try.func27 (by kernel_rfl) rfl #[.string rs, .int .i64 2] rfl (by (try simp only [List.map_toArray, List.map_cons, List.map_nil]); first | done | rfl | (simp only [List.length_drop, List.length_take]; rfl)) ?_; (with_reducible refine (ententeref01_TakeNumber.calls kj3 rs 2 t176 t177 t178 _ A19.out).mono ?_); rintro e w22 ⟨rfl, hb⟩; refine ⟨_, rfl, ?_⟩; have n0_ := Aside0.mk (below_step (by repeat (first | (with_reducible first | exact HB.out | apply below_alloc | apply pw_below_drewN | apply below_drew1) | exact HB.out)) hb); clear HB; have HB := n0_; clear n0_; (try clear hb); (try clear hb2); (try clear hk); (try clear hi)))
                            go_ret3
                            exact ⟨by first | rfl | (simp [errW_none, errW_some] <;> rfl) | (simp [*, errW_none, errW_some] <;> rfl), by repeat (first | (with_reducible first | exact HB.out | apply below_alloc | apply pw_below_drewN | apply below_drew1) | exact HB.out)⟩
                          · rw [if_neg c21] at H
                            have c21b0 : decide (30000 < t176) = false := decide_eq_false c21
                            clear c21
                            by_cases c23 : (wrap64 ((rs.size : Int) - t177)) < (wrap64 ((wrap64 (t176)) + 8))
                            · rw [if_pos c23] at H
                              have c23b0 : decide ((wrap64 ((rs.size : Int) - t177)) < (wrap64 ((wrap64 (t176)) + 8))) = true := decide_eq_true c23
                              clear c23
                              simp only [Option.some.injEq, Prod.mk.injEq] at H
                              obtain ⟨rfl, rfl, rfl⟩ := H
                              have p13 : 0 ≤ (0 : Int) := (by omega)
                              have q13 : 0 < rs.size := (by have : (0 : Int) < (rs.size : Int) := of_decide_eq_true (by first | (with_reducible assumption) | assumption); omega)
                              have hx13 : ∀ h : 0 < rs.size, ((rs[0]'h).toNat : Int) = bt rs 0 := bt_at rs 0
                              clear p13
                              have qi13 : (0 < (rs.size : Int)) = True := eq_true (of_decide_eq_true (by first | (with_reducible assumption) | assumption))
                              replace q13 := eq_true q13
                              have p17 : 0 ≤ (1 : Int) := (by omega)
                              have q17 : 1 < rs.size := (by have : (1 : Int) < (rs.size : Int) := of_decide_eq_true (by first | (with_reducible assumption) | assumption); omega)
                              have hx17 : ∀ h : 1 < rs.size, ((rs[1]'h).toNat : Int) = bt rs 1 := bt_at rs 1
                              clear p17
                              have qi17 : (1 < (rs.size : Int)) = True := eq_true (of_decide_eq_true (by first | (with_reducible assumption) | assumption))
                              replace q17 := eq_true q17
                              go_wp2_with (first | ((with_reducible refine gate_callee (f := 27) rfl ?_); refine goesL_ (some 50) rfl rfl Try.func27 (by kernel_rfl) rfl #[.string rs, .int .i64 2] rfl (by (try simp only [List.map_toArray, List.map_cons, List.map_nil]); first | done | rfl | (simp only [List.length_drop, List.length_take]; rfl)) ?_; (with_reducible refine (ententeref01_TakeNumber.calls kj3 rs 2 t176 t177 t178 _ A19.out).mono ?_); rintro e w24 ⟨rfl, hb⟩; refine ⟨_, rfl, ?_⟩; have n0_ := Aside0.mk (below_step (by repeat (first | (with_reducible first | exact HB.out | apply below_alloc | apply pw_below_drewN | apply below_drew1) | exact HB.out)) hb); clear HB; have HB := n0_; clear n0_; (try clear hb); (try clear hb2); (try clear hk); (try clear hi)))
                              go_ret3
                              exact ⟨by first | rfl | (simp [errW_none, errW_some] <;> rfl) | (simp [*, errW_none, errW_some] <;> rfl), by repeat (first | (with_reducible first | exact HB.out | apply below_alloc | apply pw_below_drewN | apply below_drew1) | exact HB.out)⟩
                            · rw [if_neg c23] at H
                              have c23b0 : decide ((wrap64 ((rs.size : Int) - t177)) < (wrap64 ((wrap64 (t176)) + 8))) = false := decide_eq_false c23
                              clear c23
                              by_cases c25 : 0 ≤ t177
                              · rw [if_pos c25] at H
                                have c25b0 := eq_true c25
                                have c25b1 : decide (0 ≤ t177) = true := decide_eq_true c25
                                clear c25
                                by_cases c26 : t177 ≤ (wrap64 (t177 + (wrap64 (t176))))
                                · rw [if_pos c26] at H
                                  have c26b0 := eq_true c26
                                  have c26b1 : decide (t177 ≤ (wrap64 (t177 + (wrap64 (t176))))) = true := decide_eq_true c26
                                  by_cases c27 : (wrap64 (t177 + (wrap64 (t176)))) ≤ (rs.size : Int)
                                  · rw [if_pos c27] at H
                                    have c27b0 := eq_true c27
                                    have c27b1 : decide ((wrap64 (t177 + (wrap64 (t176)))) ≤ (rs.size : Int)) = true := decide_eq_true c27
                                    replace H := Option.bind_eq_some_iff.mp H
                                    obtain ⟨⟨t179, t180⟩, A280, H⟩ := H
                                    replace H : (if 0 ≤ (wrap64 ((wrap64 (t177 + (wrap64 (t176)))) + 8)) then (if (wrap64 ((wrap64 (t177 + (wrap64 (t176)))) + 8)) ≤ (rs.size : Int) then (if t179.toList = (rs.extract 0 ((wrap64 ((wrap64 (t177 + (wrap64 (t176)))) + 8)) : Int).toNat).toList then (some (rs.extract (t177 : Int).toNat ((wrap64 (t177 + (wrap64 (t176)))) : Int).toNat, wrap64 (a1 + (t179.size : Int)), 0)) else (some ((⟨#[]⟩ : ByteArray), 0, 22))) else (none)) else (none)) = some (r1, r2, r3) := H
                                    have A28 := Aside0.mk A280
                                    clear A280
                                    obtain ⟨ji29, hji29⟩ : ∃ j_ : Int, (wrap64 ((wrap64 (t177 + (wrap64 (t176)))) + 8)) = j_ := ⟨_, rfl⟩
                                    replace H : (if 0 ≤ (ji29) then (if (ji29) ≤ (rs.size : Int) then (if t179.toList = (rs.extract 0 ((ji29) : Int).toNat).toList then (some (rs.extract (t177 : Int).toNat ((wrap64 (t177 + (wrap64 (t176)))) : Int).toNat, wrap64 (a1 + (t179.size : Int)), 0)) else (some ((⟨#[]⟩ : ByteArray), 0, 22))) else (none)) else (none)) = some (r1, r2, r3) := by first | (rw [hji29] at H; exact H) | (simp only [hji29] at H ⊢; exact H)
                                    (try rw [hji29] at A19)
                                    (try rw [hji29] at A28)
                                    have hji29w : (IntKind.i64.wrap ((wrap64 (t177 + (wrap64 (t176)))) + 8)) = ji29 := (i64_w _).trans hji29
                                    by_cases c30 : 0 ≤ (ji29)
                                    · rw [if_pos c30] at H
                                      have c30b0 := eq_true c30
                                      have c30b1 : decide (0 ≤ (ji29)) = true := decide_eq_true c30
                                      clear c30
                                      by_cases c31 : (ji29) ≤ (rs.size : Int)
                                      · rw [if_pos c31] at H
                                        have c31b0 := eq_true c31
                                        have c31b1 : decide ((ji29) ≤ (rs.size : Int)) = true := decide_eq_true c31
                                        clear c31
                                        by_cases c32 : t179.toList = (rs.extract 0 ((ji29) : Int).toNat).toList
                                        · rw [if_pos c32] at H
                                          have c32b0 : (t179.toList == (rs.extract 0 ((ji29) : Int).toNat).toList) = true := beq_iff_eq.mpr c32
                                          have c32b1 : (t179.toList != (rs.extract 0 ((ji29) : Int).toNat).toList) = false := bne_eq_false_iff_eq.mpr c32
                                          clear c32
                                          simp only [Option.some.injEq, Prod.mk.injEq] at H
                                          obtain ⟨rfl, rfl, rfl⟩ := H
                                          have p13 : 0 ≤ (0 : Int) := (by omega)
                                          have q13 : 0 < rs.size := (by have : (0 : Int) < (rs.size : Int) := of_decide_eq_true (by first | (with_reducible assumption) | assumption); omega)
                                          have hx13 : ∀ h : 0 < rs.size, ((rs[0]'h).toNat : Int) = bt rs 0 := bt_at rs 0
                                          clear p13
                                          have qi13 : (0 < (rs.size : Int)) = True := eq_true (of_decide_eq_true (by first | (with_reducible assumption) | assumption))
                                          replace q13 := eq_true q13
                                          have p17 : 0 ≤ (1 : Int) := (by omega)
                                          have q17 : 1 < rs.size := (by have : (1 : Int) < (rs.size : Int) := of_decide_eq_true (by first | (with_reducible assumption) | assumption); omega)
                                          have hx17 : ∀ h : 1 < rs.size, ((rs[1]'h).toNat : Int) = bt rs 1 := bt_at rs 1
                                          clear p17
                                          have qi17 : (1 < (rs.size : Int)) = True := eq_true (of_decide_eq_true (by first | (with_reducible assumption) | assumption))
                                          replace q17 := eq_true q17
                                          go_wp2_with (first | ((with_reducible refine gate_callee (f := 27) rfl ?_); refine goesL_ (some 50) rfl rfl Try.func27 (by kernel_rfl) rfl #[.string rs, .int .i64 2] rfl (by (try simp only [List.map_toArray, List.map_cons, List.map_nil]); first | done | rfl | (simp only [List.length_drop, List.length_take]; rfl)) ?_; (with_reducible refine (ententeref01_TakeNumber.calls kj3 rs 2 t176 t177 t178 _ A19.out).mono ?_); rintro e w33 ⟨rfl, hb⟩; refine ⟨_, rfl, ?_⟩; have n0_ := Aside0.mk (below_step (by repeat (first | (with_reducible first | exact HB.out | apply below_alloc | apply pw_below_drewN | apply below_drew1) | exact HB.out)) hb); clear HB; have HB := n0_; clear n0_; (try clear hb); (try clear hb2); (try clear hk); (try clear hi)) | ((with_reducible refine gate_callee (f := 15) rfl ?_); refine goesL_ (some 77) rfl rfl Try.func15 (by kernel_rfl) rfl #[.int .i64 a2, .string (rs.extract (t177 : Int).toNat ((wrap64 (t177 + (wrap64 (t176)))) : Int).toNat)] rfl (by (try simp only [List.map_toArray, List.map_cons, List.map_nil]); first | done | rfl | (simp only [List.length_drop, List.length_take]; rfl)) ?_; (with_reducible refine (ententeref02_Seal.calls kj3 a2 (rs.extract (t177 : Int).toNat ((wrap64 (t177 + (wrap64 (t176)))) : Int).toNat) t179 t180 _ A28.out).mono ?_); rintro e w34 ⟨rfl, hb⟩; refine ⟨_, rfl, ?_⟩; have n0_ := Aside0.mk (below_step (by repeat (first | (with_reducible first | exact HB.out | apply below_alloc | apply pw_below_drewN | apply below_drew1) | exact HB.out)) hb); clear HB; have HB := n0_; clear n0_; (try clear hb); (try clear hb2); (try clear hk); (try clear hi)))
                                          go_ret3
                                          exact ⟨by first | rfl | (simp [errW_none, errW_some] <;> rfl) | (simp only [← hji29]; first | rfl | (simp [errW_none, errW_some] <;> rfl)) | (simp [*, errW_none, errW_some] <;> rfl), by repeat (first | (with_reducible first | exact HB.out | apply below_alloc | apply pw_below_drewN | apply below_drew1) | exact HB.out)⟩
                                        · rw [if_neg c32] at H
                                          have c32b0 : (t179.toList == (rs.extract 0 ((ji29) : Int).toNat).toList) = false := beq_eq_false_iff_ne.mpr c32
                                          have c32b1 : (t179.toList != (rs.extract 0 ((ji29) : Int).toNat).toList) = true := bne_iff_ne.mpr c32
                                          simp only [Option.some.injEq, Prod.mk.injEq] at H
                                          obtain ⟨rfl, rfl, rfl⟩ := H
                                          have p13 : 0 ≤ (0 : Int) := (by omega)
                                          have q13 : 0 < rs.size := (by have : (0 : Int) < (rs.size : Int) := of_decide_eq_true (by first | (with_reducible assumption) | assumption); omega)
                                          have hx13 : ∀ h : 0 < rs.size, ((rs[0]'h).toNat : Int) = bt rs 0 := bt_at rs 0
                                          clear p13
                                          have qi13 : (0 < (rs.size : Int)) = True := eq_true (of_decide_eq_true (by first | (with_reducible assumption) | assumption))
                                          replace q13 := eq_true q13
                                          have p17 : 0 ≤ (1 : Int) := (by omega)
                                          have q17 : 1 < rs.size := (by have : (1 : Int) < (rs.size : Int) := of_decide_eq_true (by first | (with_reducible assumption) | assumption); omega)
                                          have hx17 : ∀ h : 1 < rs.size, ((rs[1]'h).toNat : Int) = bt rs 1 := bt_at rs 1
                                          clear p17
                                          have qi17 : (1 < (rs.size : Int)) = True := eq_true (of_decide_eq_true (by first | (with_reducible assumption) | assumption))
                                          replace q17 := eq_true q17
                                          go_wp2_with (first | ((with_reducible refine gate_callee (f := 27) rfl ?_); refine goesL_ (some 50) rfl rfl Try.func27 (by kernel_rfl) rfl #[.string rs, .int .i64 2] rfl (by (try simp only [List.map_toArray, List.map_cons, List.map_nil]); first | done | rfl | (simp only [List.length_drop, List.length_take]; rfl)) ?_; (with_reducible refine (ententeref01_TakeNumber.calls kj3 rs 2 t176 t177 t178 _ A19.out).mono ?_); rintro e w35 ⟨rfl, hb⟩; refine ⟨_, rfl, ?_⟩; have n0_ := Aside0.mk (below_step (by repeat (first | (with_reducible first | exact HB.out | apply below_alloc | apply pw_below_drewN | apply below_drew1) | exact HB.out)) hb); clear HB; have HB := n0_; clear n0_; (try clear hb); (try clear hb2); (try clear hk); (try clear hi)) | ((with_reducible refine gate_callee (f := 15) rfl ?_); refine goesL_ (some 77) rfl rfl Try.func15 (by kernel_rfl) rfl #[.int .i64 a2, .string (rs.extract (t177 : Int).toNat ((wrap64 (t177 + (wrap64 (t176)))) : Int).toNat)] rfl (by (try simp only [List.map_toArray, List.map_cons, List.map_nil]); first | done | rfl | (simp only [List.length_drop, List.length_take]; rfl)) ?_; (with_reducible refine (ententeref02_Seal.calls kj3 a2 (rs.extract (t177 : Int).toNat ((wrap64 (t177 + (wrap64 (t176)))) : Int).toNat) t179 t180 _ A28.out).mono ?_); rintro e w36 ⟨rfl, hb⟩; refine ⟨_, rfl, ?_⟩; have n0_ := Aside0.mk (below_step (by repeat (first | (with_reducible first | exact HB.out | apply below_alloc | apply pw_below_drewN | apply below_drew1) | exact HB.out)) hb); clear HB; have HB := n0_; clear n0_; (try clear hb); (try clear hb2); (try clear hk); (try clear hi)))
                                          go_ret3
                                          exact ⟨by first | rfl | (simp [errW_none, errW_some] <;> rfl) | (simp only [← hji29]; first | rfl | (simp [errW_none, errW_some] <;> rfl)) | (simp [*, errW_none, errW_some] <;> rfl), by repeat (first | (with_reducible first | exact HB.out | apply below_alloc | apply pw_below_drewN | apply below_drew1) | exact HB.out)⟩
                                      · rw [if_neg c31] at H
                                        exact absurd H (by simp)
                                    · rw [if_neg c30] at H
                                      exact absurd H (by simp)
                                  · rw [if_neg c27] at H
                                    exact absurd H (by simp)
                                · rw [if_neg c26] at H
                                  exact absurd H (by simp)
                              · rw [if_neg c25] at H
                                exact absurd H (by simp)
                        · rw [if_neg c20] at H
                          have c20b0 : (t178 == 0) = false := beq_eq_false_iff_ne.mpr c20
                          have c20b1 : (t178 != 0) = true := bne_iff_ne.mpr c20
                          simp only [Option.some.injEq, Prod.mk.injEq] at H
                          obtain ⟨rfl, rfl, rfl⟩ := H
                          have p13 : 0 ≤ (0 : Int) := (by omega)
                          have q13 : 0 < rs.size := (by have : (0 : Int) < (rs.size : Int) := of_decide_eq_true (by first | (with_reducible assumption) | assumption); omega)
                          have hx13 : ∀ h : 0 < rs.size, ((rs[0]'h).toNat : Int) = bt rs 0 := bt_at rs 0
                          clear p13
                          have qi13 : (0 < (rs.size : Int)) = True := eq_true (of_decide_eq_true (by first | (with_reducible assumption) | assumption))
                          replace q13 := eq_true q13
                          have p17 : 0 ≤ (1 : Int) := (by omega)
                          have q17 : 1 < rs.size := (by have : (1 : Int) < (rs.size : Int) := of_decide_eq_true (by first | (with_reducible assumption) | assumption); omega)
                          have hx17 : ∀ h : 1 < rs.size, ((rs[1]'h).toNat : Int) = bt rs 1 := bt_at rs 1
                          clear p17
                          have qi17 : (1 < (rs.size : Int)) = True := eq_true (of_decide_eq_true (by first | (with_reducible assumption) | assumption))
                          replace q17 := eq_true q17
                          go_wp2_with (first | ((with_reducible refine gate_callee (f := 27) rfl ?_); refine goesL_ (some 50) rfl rfl Try.func27 (by kernel_rfl) rfl #[.string rs, .int .i64 2] rfl (by (try simp only [List.map_toArray, List.map_cons, List.map_nil]); first | done | rfl | (simp only [List.length_drop, List.length_take]; rfl)) ?_; (with_reducible refine (ententeref01_TakeNumber.calls kj3 rs 2 t176 t177 t178 _ A19.out).mono ?_); rintro e w37 ⟨rfl, hb⟩; refine ⟨_, rfl, ?_⟩; have n0_ := Aside0.mk (below_step (by repeat (first | (with_reducible first | exact HB.out | apply below_alloc | apply pw_below_drewN | apply below_drew1) | exact HB.out)) hb); clear HB; have HB := n0_; clear n0_; (try clear hb); (try clear hb2); (try clear hk); (try clear hi)))
                          go_ret3
                          exact ⟨by first | rfl | (simp [errW_none, errW_some] <;> rfl) | (simp [*, errW_none, errW_some] <;> rfl), by repeat (first | (with_reducible first | exact HB.out | apply below_alloc | apply pw_below_drewN | apply below_drew1) | exact HB.out)⟩
                      · rw [if_neg c18] at H
                        have c18b0 : ((wrap64 (bt rs 1)) == a2) = false := beq_eq_false_iff_ne.mpr c18
                        have c18b1 : ((wrap64 (bt rs 1)) != a2) = true := bne_iff_ne.mpr c18
                        simp only [Option.some.injEq, Prod.mk.injEq] at H
                        obtain ⟨rfl, rfl, rfl⟩ := H
                        have p13 : 0 ≤ (0 : Int) := (by omega)
                        have q13 : 0 < rs.size := (by have : (0 : Int) < (rs.size : Int) := of_decide_eq_true (by first | (with_reducible assumption) | assumption); omega)
                        have hx13 : ∀ h : 0 < rs.size, ((rs[0]'h).toNat : Int) = bt rs 0 := bt_at rs 0
                        clear p13
                        have qi13 : (0 < (rs.size : Int)) = True := eq_true (of_decide_eq_true (by first | (with_reducible assumption) | assumption))
                        replace q13 := eq_true q13
                        have p17 : 0 ≤ (1 : Int) := (by omega)
                        have q17 : 1 < rs.size := (by have : (1 : Int) < (rs.size : Int) := of_decide_eq_true (by first | (with_reducible assumption) | assumption); omega)
                        have hx17 : ∀ h : 1 < rs.size, ((rs[1]'h).toNat : Int) = bt rs 1 := bt_at rs 1
                        clear p17
                        have qi17 : (1 < (rs.size : Int)) = True := eq_true (of_decide_eq_true (by first | (with_reducible assumption) | assumption))
                        replace q17 := eq_true q17
                        go_wp2
                        go_ret3
                        exact ⟨by first | rfl | (simp [errW_none, errW_some] <;> rfl) | (simp [*, errW_none, errW_some] <;> rfl), by repeat (first | (with_reducible first | exact HB.out | apply below_alloc | apply pw_below_drewN | apply below_drew1) | exact HB.out)⟩
                    · rw [if_neg c16] at H
                      exact absurd H (by simp)
                · rw [if_neg c14] at H
                  have c14b0 : ((bt rs 0) == 231) = false := beq_eq_false_iff_ne.mpr c14
                  have c14b1 : ((bt rs 0) != 231) = true := bne_iff_ne.mpr c14
                  simp only [Option.some.injEq, Prod.mk.injEq] at H
                  obtain ⟨rfl, rfl, rfl⟩ := H
                  have p13 : 0 ≤ (0 : Int) := (by omega)
                  have q13 : 0 < rs.size := (by have : (0 : Int) < (rs.size : Int) := of_decide_eq_true (by first | (with_reducible assumption) | assumption); omega)
                  have hx13 : ∀ h : 0 < rs.size, ((rs[0]'h).toNat : Int) = bt rs 0 := bt_at rs 0
                  clear p13
                  have qi13 : (0 < (rs.size : Int)) = True := eq_true (of_decide_eq_true (by first | (with_reducible assumption) | assumption))
                  replace q13 := eq_true q13
                  go_wp2
                  go_ret3
                  exact ⟨by first | rfl | (simp [errW_none, errW_some] <;> rfl) | (simp [*, errW_none, errW_some] <;> rfl), by repeat (first | (with_reducible first | exact HB.out | apply below_alloc | apply pw_below_drewN | apply below_drew1) | exact HB.out)⟩
              · rw [if_neg c12] at H
                exact absurd H (by simp)
          · rw [if_neg c10] at H
            exact absurd H (by simp)
        · rw [if_neg c9] at H
          exact absurd H (by simp)

/-! ### ententelaw02_SealOpens: function 5 -/
def ententelaw02_SealOpens.f (k : Nat) (a0 : ByteArray) (a1 : Int) (a2 : Int) : Option (Bool) := if (a0.size : Int) > 60000 then ((ententelaw02_awake.f k).bind fun t181 => (some t181)) else ((seal_Open.f k a0 a1 a2).bind fun bt182 => ((ententeref02_Open.f k a0 a1 a2).bind fun bt185 => (if bt182.1.toList = bt185.1.toList then (if bt182.2.1 = bt185.2.1 then (if bt182.2.2 = bt185.2.2 then ((ententelaw02_awake.f k).bind fun t188 => (some t188)) else (some false)) else (some false)) else (some false))))
theorem ententelaw02_SealOpens.mono : ∀ a0 a1 a2 k, LeO (ententelaw02_SealOpens.f k a0 a1 a2) (ententelaw02_SealOpens.f (k + 1) a0 a1 a2) := by
  intro a0 a1 a2 k
  unfold ententelaw02_SealOpens.f
  repeat' first
      | (with_reducible exact ententelaw02_awake.mono _)
      | (with_reducible exact ententeref02_Open.mono _ _ _ _)
      | (with_reducible exact seal_Open.mono _ _ _ _)
      | (with_reducible exact LeO.refl _)
      | (with_reducible exact LeO.none _)
      | (with_reducible refine LeO.ite ?_ ?_)
      | (with_reducible refine LeO.bind ?_ (fun _ => ?_))
      | exact ententelaw02_awake.mono _
      | exact ententeref02_Open.mono _ _ _ _
      | exact seal_Open.mono _ _ _ _
      | exact LeO.none _
      | refine LeO.ite ?_ ?_
      | refine LeO.bind ?_ (fun _ => ?_)
set_option maxHeartbeats 8000000 in
set_option maxRecDepth 100000 in
theorem ententelaw02_SealOpens.calls (k : Nat) (a0 : ByteArray) (a1 : Int) (a2 : Int) (r : Bool) (w : World) (ht : r = true) (h : ententelaw02_SealOpens.f k a0 a1 a2 = some r) :
    Calls Try.prog 5 #[.string a0, .int .i64 a1, .int .i64 a2] w fun e w' => e = .returned (.bool r) ∧ Below w.heap.size w w' := by
  have HB := Aside0.mk (Below.refl w.heap.size w)
  have HT := Aside0.mk ht
  clear ht
  have H : (if (a0.size : Int) > 60000 then ((ententelaw02_awake.f k).bind fun t181 => (some t181)) else ((seal_Open.f k a0 a1 a2).bind fun bt182 => ((ententeref02_Open.f k a0 a1 a2).bind fun bt185 => (if bt182.1.toList = bt185.1.toList then (if bt182.2.1 = bt185.2.1 then (if bt182.2.2 = bt185.2.2 then ((ententelaw02_awake.f k).bind fun t188 => (some t188)) else (some false)) else (some false)) else (some false))))) = some r := h
  clear h
  by_cases c4 : (a0.size : Int) > 60000
  · rw [if_pos c4] at H
    have c4b0 : decide (60000 < (a0.size : Int)) = true := decide_eq_true c4
    have c4b1 : decide (60000 < a0.size) = true := decide_eq_true (by omega)
    clear c4
    replace H := Option.bind_eq_some_iff.mp H
    obtain ⟨t181, A50, H⟩ := H
    replace H : (some t181) = some r := H
    have A5 := Aside0.mk A50
    clear A50
    obtain rfl := Option.some.inj H
    go_enter Try.func5, Try.ntmps5
    go_wp2_with (first | ((with_reducible refine gate_callee (f := 13) rfl ?_); refine goesL_ (some 16) rfl rfl Try.func13 (by kernel_rfl) rfl #[] rfl (by (try simp only [List.map_toArray, List.map_cons, List.map_nil]); first | done | rfl | (simp only [List.length_drop, List.length_take]; rfl)) ?_; (with_reducible refine (ententelaw02_awake.calls k  t181 _ A5.out).mono ?_); rintro e w6 ⟨rfl, hb⟩; refine ⟨_, rfl, ?_⟩; have n0_ := Aside0.mk (below_step (by repeat (first | (with_reducible first | exact HB.out | apply below_alloc | apply pw_below_drewN | apply below_drew1) | exact HB.out)) hb); clear HB; have HB := n0_; clear n0_; (try clear hb); (try clear hb2); (try clear hk); (try clear hi)))
    go_ret
    exact ⟨by first | rfl | (simp [errW_none, errW_some] <;> rfl) | (simp [*, errW_none, errW_some] <;> rfl), by repeat (first | (with_reducible first | exact HB.out | apply below_alloc | apply pw_below_drewN | apply below_drew1) | exact HB.out)⟩
  · rw [if_neg c4] at H
    have c4b0 : decide (60000 < (a0.size : Int)) = false := decide_eq_false c4
    have c4b1 : decide (60000 < a0.size) = false := decide_eq_false (by omega)
    clear c4
    replace H := Option.bind_eq_some_iff.mp H
    obtain ⟨⟨t182, t183, t184⟩, A70, H⟩ := H
    replace H : ((ententeref02_Open.f k a0 a1 a2).bind fun bt185 => (if t182.toList = bt185.1.toList then (if t183 = bt185.2.1 then (if t184 = bt185.2.2 then ((ententelaw02_awake.f k).bind fun t188 => (some t188)) else (some false)) else (some false)) else (some false))) = some r := H
    have A7 := Aside0.mk A70
    clear A70
    replace H := Option.bind_eq_some_iff.mp H
    obtain ⟨⟨t185, t186, t187⟩, A80, H⟩ := H
    replace H : (if t182.toList = t185.toList then (if t183 = t186 then (if t184 = t187 then ((ententelaw02_awake.f k).bind fun t188 => (some t188)) else (some false)) else (some false)) else (some false)) = some r := H
    have A8 := Aside0.mk A80
    clear A80
    by_cases c9 : t182.toList = t185.toList
    · rw [if_pos c9] at H
      have c9b0 : (t182.toList == t185.toList) = true := beq_iff_eq.mpr c9
      have c9b1 : (t182.toList != t185.toList) = false := bne_eq_false_iff_eq.mpr c9
      clear c9
      by_cases c10 : t183 = t186
      · rw [if_pos c10] at H
        have c10b0 : (t183 == t186) = true := beq_iff_eq.mpr c10
        have c10b1 : (t183 != t186) = false := bne_eq_false_iff_eq.mpr c10
        clear c10
        by_cases c11 : t184 = t187
        · rw [if_pos c11] at H
          have c11b0 : (t184 == t187) = true := beq_iff_eq.mpr c11
          have c11b1 : (t184 != t187) = false := bne_eq_false_iff_eq.mpr c11
          clear c11
          replace H := Option.bind_eq_some_iff.mp H
          obtain ⟨t188, A120, H⟩ := H
          replace H : (some t188) = some r := H
          have A12 := Aside0.mk A120
          clear A120
          obtain rfl := Option.some.inj H
          go_enter Try.func5, Try.ntmps5
          go_wp2_with (first | ((with_reducible refine gate_callee (f := 16) rfl ?_); refine goesL_ (some 21) rfl rfl Try.func16 (by kernel_rfl) rfl #[.string a0, .int .i64 a1, .int .i64 a2] rfl (by (try simp only [List.map_toArray, List.map_cons, List.map_nil]); first | done | rfl | (simp only [List.length_drop, List.length_take]; rfl)) ?_; (with_reducible refine (seal_Open.calls k a0 a1 a2 t182 t183 t184 _ A7.out).mono ?_); rintro e w13 ⟨rfl, hb⟩; refine ⟨_, rfl, ?_⟩; have n0_ := Aside0.mk (below_step (by repeat (first | (with_reducible first | exact HB.out | apply below_alloc | apply pw_below_drewN | apply below_drew1) | exact HB.out)) hb); clear HB; have HB := n0_; clear n0_; (try clear hb); (try clear hb2); (try clear hk); (try clear hi)) | ((with_reducible refine gate_callee (f := 17) rfl ?_); refine goesL_ (some 29) rfl rfl Try.func17 (by kernel_rfl) rfl #[.string a0, .int .i64 a1, .int .i64 a2] rfl (by (try simp only [List.map_toArray, List.map_cons, List.map_nil]); first | done | rfl | (simp only [List.length_drop, List.length_take]; rfl)) ?_; (with_reducible refine (ententeref02_Open.calls k a0 a1 a2 t185 t186 t187 _ A8.out).mono ?_); rintro e w14 ⟨rfl, hb⟩; refine ⟨_, rfl, ?_⟩; have n0_ := Aside0.mk (below_step (by repeat (first | (with_reducible first | exact HB.out | apply below_alloc | apply pw_below_drewN | apply below_drew1) | exact HB.out)) hb); clear HB; have HB := n0_; clear n0_; (try clear hb); (try clear hb2); (try clear hk); (try clear hi)) | (go_at_call 13; (with_reducible refine (ententelaw02_awake.calls k  t188 _ A12.out).mono ?_); rintro e w15 ⟨rfl, hb⟩; have n0_ := Aside0.mk (below_step (by repeat (first | (with_reducible first | exact HB.out | apply below_alloc | apply pw_below_drewN | apply below_drew1) | exact HB.out)) hb); clear HB; have HB := n0_; clear n0_; (try clear hb); (try clear hb2); (try clear hk); (try clear hi)))
          go_ret
          exact ⟨by first | rfl | (simp [errW_none, errW_some] <;> rfl) | (simp [*, errW_none, errW_some] <;> rfl), by repeat (first | (with_reducible first | exact HB.out | apply below_alloc | apply pw_below_drewN | apply below_drew1) | exact HB.out)⟩
        · rw [if_neg c11] at H
          have c11b0 : (t184 == t187) = false := beq_eq_false_iff_ne.mpr c11
          have c11b1 : (t184 != t187) = true := bne_iff_ne.mpr c11
          exact absurd ((Option.some.inj H).trans HT.out) Bool.false_ne_true
      · rw [if_neg c10] at H
        have c10b0 : (t183 == t186) = false := beq_eq_false_iff_ne.mpr c10
        have c10b1 : (t183 != t186) = true := bne_iff_ne.mpr c10
        exact absurd ((Option.some.inj H).trans HT.out) Bool.false_ne_true
    · rw [if_neg c9] at H
      have c9b0 : (t182.toList == t185.toList) = false := beq_eq_false_iff_ne.mpr c9
      have c9b1 : (t182.toList != t185.toList) = true := bne_iff_ne.mpr c9
      exact absurd ((Option.some.inj H).trans HT.out) Bool.false_ne_true

/-- THE ONE PURE STATEMENT of ententelaw02_SealOpens. -/
def ententelaw02_SealOpens.Pure : Prop := ∀ (a0 : ByteArray) (a1 : Int) (a2 : Int), a0.size ≤ 140737488351232 → (Lit.int .i64 a1).wf = true → (Lit.int .i64 a2).wf = true → ∃ k, ententelaw02_SealOpens.f k a0 a1 a2 = some true

end Go.Proofs.Ytfjemhfcdbjolaa.PB
