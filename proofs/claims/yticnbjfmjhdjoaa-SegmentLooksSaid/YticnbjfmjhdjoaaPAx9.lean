-- Written by a program of this session (wip/tools/mp.py over the kit's printer); Lean checks it.
import Derived.Test.YticnbjfmjhdjoaaPAx0
import Derived.Test.YticnbjfmjhdjoaaPAx7
import Derived.Test.YticnbjfmjhdjoaaPAx8
namespace Go.Proofs.Yticnbjfmjhdjoaa.PA
open Go.RowKit Go.Proofs.YticnbjfmjhdjoaaW.PrintWords Go.Proofs.YticnbjfmjhdjoaaW.PrintLast Go.Proofs.YticnbjfmjhdjoaaW.PrintMore
attribute [local go_sem] max2_int min2_int max_two min_two max_three min_three max_four min_four   -- for this text's walks alone
set_option linter.unusedVariables false
set_option linter.unusedSimpArgs false

/-! ### ententeref02_Open: function 29 -/
def ententeref02_Open.j0 : Nat → ByteArray → Int → Int → Bool → Option (ByteArray × Int × Int)
  | 0, _, _, _, _ => none
  | k + 1, x0, x1, x2, x31 => if x31 = true then (some ((⟨#[]⟩ : ByteArray), 0, 2)) else (if 0 ≤ x1 then (if x1 ≤ (x0.size : Int) then (if (x0.extract (x1 : Int).toNat x0.size).toList = ([] : List UInt8) then (some ((⟨#[]⟩ : ByteArray), 0, 10)) else (if 0 < ((x0.extract (x1 : Int).toNat x0.size).size : Int) then (if (bt (x0.extract (x1 : Int).toNat x0.size) 0) = 231 then (if ((x0.extract (x1 : Int).toNat x0.size).size : Int) = 1 then (some ((⟨#[]⟩ : ByteArray), 0, 10)) else (if 1 < ((x0.extract (x1 : Int).toNat x0.size).size : Int) then (if (wrap64 (bt (x0.extract (x1 : Int).toNat x0.size) 1)) = x2 then ((ententeref01_TakeNumber.f k (x0.extract (x1 : Int).toNat x0.size) 2).bind fun bt225 => (if bt225.2.2 = 0 then (if bt225.1 > 30000 then (some ((⟨#[]⟩ : ByteArray), 0, 3)) else (if (wrap64 (((x0.extract (x1 : Int).toNat x0.size).size : Int) - bt225.2.1)) < (wrap64 ((wrap64 (bt225.1)) + 8)) then (some ((⟨#[]⟩ : ByteArray), 0, 10)) else (if 0 ≤ bt225.2.1 then (if bt225.2.1 ≤ (wrap64 (bt225.2.1 + (wrap64 (bt225.1)))) then (if (wrap64 (bt225.2.1 + (wrap64 (bt225.1)))) ≤ ((x0.extract (x1 : Int).toNat x0.size).size : Int) then ((ententeref02_Seal.f k x2 ((x0.extract (x1 : Int).toNat x0.size).extract (bt225.2.1 : Int).toNat ((wrap64 (bt225.2.1 + (wrap64 (bt225.1)))) : Int).toNat)).bind fun bt228 => (if 0 ≤ (wrap64 ((wrap64 (bt225.2.1 + (wrap64 (bt225.1)))) + 8)) then (if (wrap64 ((wrap64 (bt225.2.1 + (wrap64 (bt225.1)))) + 8)) ≤ ((x0.extract (x1 : Int).toNat x0.size).size : Int) then (if bt228.1.toList = ((x0.extract (x1 : Int).toNat x0.size).extract 0 ((wrap64 ((wrap64 (bt225.2.1 + (wrap64 (bt225.1)))) + 8)) : Int).toNat).toList then (some ((x0.extract (x1 : Int).toNat x0.size).extract (bt225.2.1 : Int).toNat ((wrap64 (bt225.2.1 + (wrap64 (bt225.1)))) : Int).toNat, wrap64 (x1 + (bt228.1.size : Int)), 0)) else (some ((⟨#[]⟩ : ByteArray), 0, 22))) else (none)) else (none))) else (none)) else (none)) else (none)))) else (some ((⟨#[]⟩ : ByteArray), 0, bt225.2.2)))) else (some ((⟨#[]⟩ : ByteArray), 0, 21))) else (none))) else (some ((⟨#[]⟩ : ByteArray), 0, 20))) else (none))) else (none)) else (none))
def ententeref02_Open.f (k : Nat) (a0 : ByteArray) (a1 : Int) (a2 : Int) : Option (ByteArray × Int × Int) := if a1 < 0 then (ententeref02_Open.j0 k a0 a1 a2 true) else (if a1 > (a0.size : Int) then (ententeref02_Open.j0 k a0 a1 a2 true) else (if a2 < 0 then (ententeref02_Open.j0 k a0 a1 a2 true) else (ententeref02_Open.j0 k a0 a1 a2 (decide (a2 > 255)))))
theorem ententeref02_Open.mono_l : ∀ k, (∀ y0 y1 y2 y3, LeO (ententeref02_Open.j0 k y0 y1 y2 y3) (ententeref02_Open.j0 (k + 1) y0 y1 y2 y3))
  | 0 => fun _ _ _ _ r h => by simp [ententeref02_Open.j0] at h
  | k + 1 => by
    have ih0 := ententeref02_Open.mono_l k
    · intro y0 y1 y2 y3
      unfold ententeref02_Open.j0
      repeat' first
      | (with_reducible exact ih0 _ _ _ _)
      | (with_reducible exact ententeref01_TakeNumber.mono _ _ _)
      | (with_reducible exact ententeref02_Seal.mono _ _ _)
      | (with_reducible exact LeO.refl _)
      | (with_reducible exact LeO.none _)
      | (with_reducible refine LeO.ite ?_ ?_)
      | (with_reducible refine LeO.bind ?_ (fun _ => ?_))
      | exact ih0 _ _ _ _
      | exact ententeref01_TakeNumber.mono _ _ _
      | exact ententeref02_Seal.mono _ _ _
      | exact LeO.none _
      | refine LeO.ite ?_ ?_
      | refine LeO.bind ?_ (fun _ => ?_)
theorem ententeref02_Open.mono : ∀ a0 a1 a2 k, LeO (ententeref02_Open.f k a0 a1 a2) (ententeref02_Open.f (k + 1) a0 a1 a2) := by
  intro a0 a1 a2 k
  have ih0 := ententeref02_Open.mono_l k
  unfold ententeref02_Open.f
  repeat' first
      | (with_reducible exact ih0 _ _ _ _)
      | (with_reducible exact ententeref01_TakeNumber.mono _ _ _)
      | (with_reducible exact ententeref02_Seal.mono _ _ _)
      | (with_reducible exact LeO.refl _)
      | (with_reducible exact LeO.none _)
      | (with_reducible refine LeO.ite ?_ ?_)
      | (with_reducible refine LeO.bind ?_ (fun _ => ?_))
      | exact ih0 _ _ _ _
      | exact ententeref01_TakeNumber.mono _ _ _
      | exact ententeref02_Seal.mono _ _ _
      | exact LeO.none _
      | refine LeO.ite ?_ ?_
      | refine LeO.bind ?_ (fun _ => ?_)
set_option maxHeartbeats 8000000 in
set_option maxRecDepth 100000 in
theorem ententeref02_Open.calls (k : Nat) (a0 : ByteArray) (a1 : Int) (a2 : Int) (r1 : ByteArray) (r2 : Int) (r3 : Int) (w : World) (h : ententeref02_Open.f k a0 a1 a2 = some (r1, r2, r3)) :
    Calls Try.prog 29 #[.string a0, .int .i64 a1, .int .i64 a2] w fun e w' => e = .returned (.tuple #[.string r1, .int .i64 r2, .int .i64 r3]) ∧ Below w.heap.size w w' := by
  have HB := Aside0.mk (Below.refl w.heap.size w)
  have H : (if a1 < 0 then (ententeref02_Open.j0 k a0 a1 a2 true) else (if a1 > (a0.size : Int) then (ententeref02_Open.j0 k a0 a1 a2 true) else (if a2 < 0 then (ententeref02_Open.j0 k a0 a1 a2 true) else (ententeref02_Open.j0 k a0 a1 a2 (decide (a2 > 255)))))) = some (r1, r2, r3) := h
  clear h
  have HC4 := Aside0.mk H
  clear H
  go_enter Try.func29, Try.ntmps29
  go_upto_region 1 with (fail)
  go_cut [31] (fun v31 wc => ∃ (kq : Nat) (x31_3 : Bool), v31 = .bool x31_3 ∧ Aside0 (ententeref02_Open.j0 kq a0 a1 a2 x31_3 = some (r1, r2, r3)) ∧ Aside0 (kq ≤ k) ∧ Aside0 (Below w.heap.size w wc))
  case first =>
    have H := HC4.out
    clear HC4
    by_cases c5 : a1 < 0
    · rw [if_pos c5] at H
      have c5b0 : decide (a1 < 0) = true := decide_eq_true c5
      clear c5
      (first | rw [c5b0] | (simp only [i64_w, i32_w]; rw [c5b0]) | skip)
      have H' := Aside0.mk H
      clear H
      go_wp2
      go_meet
      case rel => exact ⟨_, (true), (by first | rfl | (simp; done) | (simp [*]; done)), H', ⟨by first | omega | exact Nat.le_refl _⟩, ⟨by repeat (first | (with_reducible first | exact HB.out | apply below_alloc | apply pw_below_drewN | apply below_drew1) | exact HB.out)⟩⟩
    · rw [if_neg c5] at H
      have c5b0 : decide (a1 < 0) = false := decide_eq_false c5
      clear c5
      (first | rw [c5b0] | (simp only [i64_w, i32_w]; rw [c5b0]) | skip)
      by_cases c6 : a1 > (a0.size : Int)
      · rw [if_pos c6] at H
        have c6b0 : decide ((a0.size : Int) < a1) = true := decide_eq_true c6
        clear c6
        have H' := Aside0.mk H
        clear H
        go_wp2
        go_meet
        case rel => exact ⟨_, (true), (by first | rfl | (simp; done) | (simp [*]; done)), H', ⟨by first | omega | exact Nat.le_refl _⟩, ⟨by repeat (first | (with_reducible first | exact HB.out | apply below_alloc | apply pw_below_drewN | apply below_drew1) | exact HB.out)⟩⟩
      · rw [if_neg c6] at H
        have c6b0 : decide ((a0.size : Int) < a1) = false := decide_eq_false c6
        clear c6
        by_cases c7 : a2 < 0
        · rw [if_pos c7] at H
          have c7b0 : decide (a2 < 0) = true := decide_eq_true c7
          clear c7
          have H' := Aside0.mk H
          clear H
          go_wp2
          go_meet
          case rel => exact ⟨_, (true), (by first | rfl | (simp; done) | (simp [*]; done)), H', ⟨by first | omega | exact Nat.le_refl _⟩, ⟨by repeat (first | (with_reducible first | exact HB.out | apply below_alloc | apply pw_below_drewN | apply below_drew1) | exact HB.out)⟩⟩
        · rw [if_neg c7] at H
          have c7b0 : decide (a2 < 0) = false := decide_eq_false c7
          clear c7
          have H' := Aside0.mk H
          clear H
          go_wp2
          go_meet
          case rel => exact ⟨_, (decide (a2 > 255)), (by first | rfl | (simp; done) | (simp [*]; done)), H', ⟨by first | omega | exact Nat.le_refl _⟩, ⟨by repeat (first | (with_reducible first | exact HB.out | apply below_alloc | apply pw_below_drewN | apply below_drew1) | exact HB.out)⟩⟩
  case rest =>
    clear HC4
    try clear c2
    try clear p2
    try clear c5
    try clear c5b0
    try clear c6
    try clear c6b0
    try clear c7
    try clear c7b0
    obtain ⟨kq, x31_3, rfl, HA, HJ3, HB⟩ := hcut
    cases kq with
    | zero => exact absurd HA.out (by simp [ententeref02_Open.j0])
    | succ kj3 =>
      have H := HA.out
      clear HA
      simp only [ententeref02_Open.j0] at H
      by_cases c8 : x31_3 = true
      · subst c8
        have H1 : (some ((⟨#[]⟩ : ByteArray), 0, 2)) = some (r1, r2, r3) := by rw [if_pos rfl] at H; exact H
        clear H
        have H := H1
        clear H1
        simp only [Option.some.injEq, Prod.mk.injEq] at H
        obtain ⟨rfl, rfl, rfl⟩ := H
        go_wp2
        go_ret3
        exact ⟨by first | rfl | (simp [errW_none, errW_some] <;> rfl) | (simp [*, errW_none, errW_some] <;> rfl), by repeat (first | (with_reducible first | exact HB.out | apply below_alloc | apply pw_below_drewN | apply below_drew1) | exact HB.out)⟩
      · replace c8 := Bool.eq_false_iff.mpr c8
        subst c8
        have H1 : (if 0 ≤ a1 then (if a1 ≤ (a0.size : Int) then (if (a0.extract (a1 : Int).toNat a0.size).toList = ([] : List UInt8) then (some ((⟨#[]⟩ : ByteArray), 0, 10)) else (if 0 < ((a0.extract (a1 : Int).toNat a0.size).size : Int) then (if (bt (a0.extract (a1 : Int).toNat a0.size) 0) = 231 then (if ((a0.extract (a1 : Int).toNat a0.size).size : Int) = 1 then (some ((⟨#[]⟩ : ByteArray), 0, 10)) else (if 1 < ((a0.extract (a1 : Int).toNat a0.size).size : Int) then (if (wrap64 (bt (a0.extract (a1 : Int).toNat a0.size) 1)) = a2 then ((ententeref01_TakeNumber.f kj3 (a0.extract (a1 : Int).toNat a0.size) 2).bind fun bt225 => (if bt225.2.2 = 0 then (if bt225.1 > 30000 then (some ((⟨#[]⟩ : ByteArray), 0, 3)) else (if (wrap64 (((a0.extract (a1 : Int).toNat a0.size).size : Int) - bt225.2.1)) < (wrap64 ((wrap64 (bt225.1)) + 8)) then (some ((⟨#[]⟩ : ByteArray), 0, 10)) else (if 0 ≤ bt225.2.1 then (if bt225.2.1 ≤ (wrap64 (bt225.2.1 + (wrap64 (bt225.1)))) then (if (wrap64 (bt225.2.1 + (wrap64 (bt225.1)))) ≤ ((a0.extract (a1 : Int).toNat a0.size).size : Int) then ((ententeref02_Seal.f kj3 a2 ((a0.extract (a1 : Int).toNat a0.size).extract (bt225.2.1 : Int).toNat ((wrap64 (bt225.2.1 + (wrap64 (bt225.1)))) : Int).toNat)).bind fun bt228 => (if 0 ≤ (wrap64 ((wrap64 (bt225.2.1 + (wrap64 (bt225.1)))) + 8)) then (if (wrap64 ((wrap64 (bt225.2.1 + (wrap64 (bt225.1)))) + 8)) ≤ ((a0.extract (a1 : Int).toNat a0.size).size : Int) then (if bt228.1.toList = ((a0.extract (a1 : Int).toNat a0.size).extract 0 ((wrap64 ((wrap64 (bt225.2.1 + (wrap64 (bt225.1)))) + 8)) : Int).toNat).toList then (some ((a0.extract (a1 : Int).toNat a0.size).extract (bt225.2.1 : Int).toNat ((wrap64 (bt225.2.1 + (wrap64 (bt225.1)))) : Int).toNat, wrap64 (a1 + (bt228.1.size : Int)), 0)) else (some ((⟨#[]⟩ : ByteArray), 0, 22))) else (none)) else (none))) else (none)) else (none)) else (none)))) else (some ((⟨#[]⟩ : ByteArray), 0, bt225.2.2)))) else (some ((⟨#[]⟩ : ByteArray), 0, 21))) else (none))) else (some ((⟨#[]⟩ : ByteArray), 0, 20))) else (none))) else (none)) else (none)) = some (r1, r2, r3) := by rw [if_neg (show ¬ (false = true) by decide)] at H; exact H
        clear H
        have H := H1
        clear H1
        by_cases c9 : 0 ≤ a1
        · rw [if_pos c9] at H
          have c9b0 := eq_true c9
          have c9b1 : decide (0 ≤ a1) = true := decide_eq_true c9
          clear c9
          by_cases c10 : a1 ≤ (a0.size : Int)
          · rw [if_pos c10] at H
            have c10b0 := eq_true c10
            have c10b1 : decide (a1 ≤ (a0.size : Int)) = true := decide_eq_true c10
            clear c10
            obtain ⟨rs, hrs⟩ : ∃ y_ : ByteArray, y_ = (a0.extract (a1 : Int).toNat a0.size) := ⟨_, rfl⟩
            rw [← hrs] at H
            have Nrs := Aside0.mk hrs
            have hcrs := My.cut_str (P := Try.prog) 9 .i64 Try.underlying9 a0 a1 (of_decide_eq_true (by first | (with_reducible assumption) | assumption)) (of_decide_eq_true (by first | (with_reducible assumption) | assumption))
            rw [← hrs] at hcrs
            clear hrs
            by_cases c11 : rs.toList = ([] : List UInt8)
            · rw [if_pos c11] at H
              have c11b0 : (rs.toList == ([] : List UInt8)) = true := beq_iff_eq.mpr c11
              have c11b1 : (rs.toList != ([] : List UInt8)) = false := bne_eq_false_iff_eq.mpr c11
              clear c11
              simp only [Option.some.injEq, Prod.mk.injEq] at H
              obtain ⟨rfl, rfl, rfl⟩ := H
              go_wp2
              go_ret3
              exact ⟨by first | rfl | (simp [errW_none, errW_some] <;> rfl) | (simp [*, errW_none, errW_some] <;> rfl), by repeat (first | (with_reducible first | exact HB.out | apply below_alloc | apply pw_below_drewN | apply below_drew1) | exact HB.out)⟩
            · rw [if_neg c11] at H
              have c11b0 : (rs.toList == ([] : List UInt8)) = false := beq_eq_false_iff_ne.mpr c11
              have c11b1 : (rs.toList != ([] : List UInt8)) = true := bne_iff_ne.mpr c11
              by_cases c12 : 0 < (rs.size : Int)
              · rw [if_pos c12] at H
                have c12b0 : decide (0 < (rs.size : Int)) = true := decide_eq_true c12
                have c12b1 : decide (0 < rs.size) = true := decide_eq_true (by omega)
                clear c12
                by_cases c14 : (bt rs 0) = 231
                · rw [if_pos c14] at H
                  have c14b0 : ((bt rs 0) == 231) = true := beq_iff_eq.mpr c14
                  have c14b1 : ((bt rs 0) != 231) = false := bne_eq_false_iff_eq.mpr c14
                  clear c14
                  by_cases c15 : (rs.size : Int) = 1
                  · rw [if_pos c15] at H
                    have c15b0 : ((rs.size : Int) == 1) = true := beq_iff_eq.mpr c15
                    have c15b1 : ((rs.size : Int) != 1) = false := bne_eq_false_iff_eq.mpr c15
                    clear c15
                    simp only [Option.some.injEq, Prod.mk.injEq] at H
                    obtain ⟨rfl, rfl, rfl⟩ := H
                    have p13 : 0 ≤ (0 : Int) := (by omega)
                    have q13 : 0 < rs.size := (by have : (0 : Int) < (rs.size : Int) := of_decide_eq_true (by first | (with_reducible assumption) | assumption); omega)
                    have hx13 : ∀ h : 0 < rs.size, ((rs[0]'h).toNat : Int) = bt rs 0 := bt_at rs 0
                    clear p13
                    have qi13 : (0 < (rs.size : Int)) = True := eq_true (of_decide_eq_true (by first | (with_reducible assumption) | assumption))
                    replace q13 := eq_true q13
                    go_wp2
                    go_ret3
                    exact ⟨by first | rfl | (simp [errW_none, errW_some] <;> rfl) | (simp [*, errW_none, errW_some] <;> rfl), by repeat (first | (with_reducible first | exact HB.out | apply below_alloc | apply pw_below_drewN | apply below_drew1) | exact HB.out)⟩
                  · rw [if_neg c15] at H
                    have c15b0 : ((rs.size : Int) == 1) = false := beq_eq_false_iff_ne.mpr c15
                    have c15b1 : ((rs.size : Int) != 1) = true := bne_iff_ne.mpr c15
                    by_cases c16 : 1 < (rs.size : Int)
                    · rw [if_pos c16] at H
                      have c16b0 : decide (1 < (rs.size : Int)) = true := decide_eq_true c16
                      have c16b1 : decide (1 < rs.size) = true := decide_eq_true (by omega)
                      clear c16
                      by_cases c18 : (wrap64 (bt rs 1)) = a2
                      · rw [if_pos c18] at H
                        have c18b0 : ((wrap64 (bt rs 1)) == a2) = true := beq_iff_eq.mpr c18
                        have c18b1 : ((wrap64 (bt rs 1)) != a2) = false := bne_eq_false_iff_eq.mpr c18
                        clear c18
                        replace H := Option.bind_eq_some_iff.mp H
                        obtain ⟨⟨t225, t226, t227⟩, A190, H⟩ := H
                        replace H : (if t227 = 0 then (if t225 > 30000 then (some ((⟨#[]⟩ : ByteArray), 0, 3)) else (if (wrap64 ((rs.size : Int) - t226)) < (wrap64 ((wrap64 (t225)) + 8)) then (some ((⟨#[]⟩ : ByteArray), 0, 10)) else (if 0 ≤ t226 then (if t226 ≤ (wrap64 (t226 + (wrap64 (t225)))) then (if (wrap64 (t226 + (wrap64 (t225)))) ≤ (rs.size : Int) then ((ententeref02_Seal.f kj3 a2 (rs.extract (t226 : Int).toNat ((wrap64 (t226 + (wrap64 (t225)))) : Int).toNat)).bind fun bt228 => (if 0 ≤ (wrap64 ((wrap64 (t226 + (wrap64 (t225)))) + 8)) then (if (wrap64 ((wrap64 (t226 + (wrap64 (t225)))) + 8)) ≤ (rs.size : Int) then (if bt228.1.toList = (rs.extract 0 ((wrap64 ((wrap64 (t226 + (wrap64 (t225)))) + 8)) : Int).toNat).toList then (some (rs.extract (t226 : Int).toNat ((wrap64 (t226 + (wrap64 (t225)))) : Int).toNat, wrap64 (a1 + (bt228.1.size : Int)), 0)) else (some ((⟨#[]⟩ : ByteArray), 0, 22))) else (none)) else (none))) else (none)) else (none)) else (none)))) else (some ((⟨#[]⟩ : ByteArray), 0, t227))) = some (r1, r2, r3) := H
                        have A19 := Aside0.mk A190
                        clear A190
                        by_cases c20 : t227 = 0
                        · rw [if_pos c20] at H
                          have c20b0 : (t227 == 0) = true := beq_iff_eq.mpr c20
                          have c20b1 : (t227 != 0) = false := bne_eq_false_iff_eq.mpr c20
                          clear c20
                          by_cases c21 : t225 > 30000
                          · rw [if_pos c21] at H
                            have c21b0 : decide (30000 < t225) = true := decide_eq_true c21
                            clear c21
                            simp only [Option.some.injEq, Prod.mk.injEq] at H
                            obtain ⟨rfl, rfl, rfl⟩ := H
                            have p13 : 0 ≤ (0 : Int) := (by omega)
                            have q13 : 0 < rs.size := (by have : (0 : Int) < (rs.size : Int) := of_decide_eq_true (by first | (with_reducible assumption) | assumption); omega)
                            have hx13 : ∀ h : 0 < rs.size, ((rs[0]'h).toNat : Int) = bt rs 0 := bt_at rs 0
                            clear p13
                            have qi13 : (0 < (rs.size : Int)) = True := eq_true (of_decide_eq_true (by first | (with_reducible assumption) | assumption))
                            replace q13 := eq_true q13
                            have p17 : 0 ≤ (1 : Int) := (by omega)
                            have q17 : 1 < rs.size := (by have : (1 : Int) < (rs.size : Int) := of_decide_eq_true (by first | (with_reducible assumption) | assumption); omega)
                            have hx17 : ∀ h : 1 < rs.size, ((rs[1]'h).toNat : Int) = bt rs 1 := bt_at rs 1
                            clear p17
                            have qi17 : (1 < (rs.size : Int)) = True := eq_true (of_decide_eq_true (by first | (with_reducible assumption) | assumption))
                            replace q17 := eq_true q17
                            go_wp2_with (first | ((with_reducible refine gate_callee (f := 39) rfl ?_); refine goesL_ (some 50) rfl rfl Try.func39 (by kernel_rfl) rfl #[.string rs, .int .i64 2] rfl (by (try simp only [List.map_toArray, List.map_cons, List.map_nil]); first | done | rfl | (simp only [List.length_drop, List.length_take]; rfl)) ?_; (with_reducible refine (ententeref01_TakeNumber.calls kj3 rs 2 t225 t226 t227 _ A19.out).mono ?_); rintro e w22 ⟨rfl, hb⟩; refine ⟨_, rfl, ?_⟩; have n0_ := Aside0.mk (below_step (by repeat (first | (with_reducible first | exact HB.out | apply below_alloc | apply pw_below_drewN | apply below_drew1) | exact HB.out)) hb); clear HB; have HB := n0_; clear n0_; (try clear hb); (try clear hb2); (try clear hk); (try clear hi)))
                            go_ret3
                            exact ⟨by first | rfl | (simp [errW_none, errW_some] <;> rfl) | (simp [*, errW_none, errW_some] <;> rfl), by repeat (first | (with_reducible first | exact HB.out | apply below_alloc | apply pw_below_drewN | apply below_drew1) | exact HB.out)⟩
                          · rw [if_neg c21] at H
                            have c21b0 : decide (30000 < t225) = false := decide_eq_false c21
                            clear c21
                            by_cases c23 : (wrap64 ((rs.size : Int) - t226)) < (wrap64 ((wrap64 (t225)) + 8))
                            · rw [if_pos c23] at H
                              have c23b0 : decide ((wrap64 ((rs.size : Int) - t226)) < (wrap64 ((wrap64 (t225)) + 8))) = true := decide_eq_true c23
                              clear c23
                              simp only [Option.some.injEq, Prod.mk.injEq] at H
                              obtain ⟨rfl, rfl, rfl⟩ := H
                              have p13 : 0 ≤ (0 : Int) := (by omega)
                              have q13 : 0 < rs.size := (by have : (0 : Int) < (rs.size : Int) := of_decide_eq_true (by first | (with_reducible assumption) | assumption); omega)
                              have hx13 : ∀ h : 0 < rs.size, ((rs[0]'h).toNat : Int) = bt rs 0 := bt_at rs 0
                              clear p13
                              have qi13 : (0 < (rs.size : Int)) = True := eq_true (of_decide_eq_true (by first | (with_reducible assumption) | assumption))
                              replace q13 := eq_true q13
                              have p17 : 0 ≤ (1 : Int) := (by omega)
                              have q17 : 1 < rs.size := (by have : (1 : Int) < (rs.size : Int) := of_decide_eq_true (by first | (with_reducible assumption) | assumption); omega)
                              have hx17 : ∀ h : 1 < rs.size, ((rs[1]'h).toNat : Int) = bt rs 1 := bt_at rs 1
                              clear p17
                              have qi17 : (1 < (rs.size : Int)) = True := eq_true (of_decide_eq_true (by first | (with_reducible assumption) | assumption))
                              replace q17 := eq_true q17
                              go_wp2_with (first | ((with_reducible refine gate_callee (f := 39) rfl ?_); refine goesL_ (some 50) rfl rfl Try.func39 (by kernel_rfl) rfl #[.string rs, .int .i64 2] rfl (by (try simp only [List.map_toArray, List.map_cons, List.map_nil]); first | done | rfl | (simp only [List.length_drop, List.length_take]; rfl)) ?_; (with_reducible refine (ententeref01_TakeNumber.calls kj3 rs 2 t225 t226 t227 _ A19.out).mono ?_); rintro e w24 ⟨rfl, hb⟩; refine ⟨_, rfl, ?_⟩; have n0_ := Aside0.mk (below_step (by repeat (first | (with_reducible first | exact HB.out | apply below_alloc | apply pw_below_drewN | apply below_drew1) | exact HB.out)) hb); clear HB; have HB := n0_; clear n0_; (try clear hb); (try clear hb2); (try clear hk); (try clear hi)))
                              go_ret3
                              exact ⟨by first | rfl | (simp [errW_none, errW_some] <;> rfl) | (simp [*, errW_none, errW_some] <;> rfl), by repeat (first | (with_reducible first | exact HB.out | apply below_alloc | apply pw_below_drewN | apply below_drew1) | exact HB.out)⟩
                            · rw [if_neg c23] at H
                              have c23b0 : decide ((wrap64 ((rs.size : Int) - t226)) < (wrap64 ((wrap64 (t225)) + 8))) = false := decide_eq_false c23
                              clear c23
                              by_cases c25 : 0 ≤ t226
                              · rw [if_pos c25] at H
                                have c25b0 := eq_true c25
                                have c25b1 : decide (0 ≤ t226) = true := decide_eq_true c25
                                clear c25
                                by_cases c26 : t226 ≤ (wrap64 (t226 + (wrap64 (t225))))
                                · rw [if_pos c26] at H
                                  have c26b0 := eq_true c26
                                  have c26b1 : decide (t226 ≤ (wrap64 (t226 + (wrap64 (t225))))) = true := decide_eq_true c26
                                  by_cases c27 : (wrap64 (t226 + (wrap64 (t225)))) ≤ (rs.size : Int)
                                  · rw [if_pos c27] at H
                                    have c27b0 := eq_true c27
                                    have c27b1 : decide ((wrap64 (t226 + (wrap64 (t225)))) ≤ (rs.size : Int)) = true := decide_eq_true c27
                                    replace H := Option.bind_eq_some_iff.mp H
                                    obtain ⟨⟨t228, t229⟩, A280, H⟩ := H
                                    replace H : (if 0 ≤ (wrap64 ((wrap64 (t226 + (wrap64 (t225)))) + 8)) then (if (wrap64 ((wrap64 (t226 + (wrap64 (t225)))) + 8)) ≤ (rs.size : Int) then (if t228.toList = (rs.extract 0 ((wrap64 ((wrap64 (t226 + (wrap64 (t225)))) + 8)) : Int).toNat).toList then (some (rs.extract (t226 : Int).toNat ((wrap64 (t226 + (wrap64 (t225)))) : Int).toNat, wrap64 (a1 + (t228.size : Int)), 0)) else (some ((⟨#[]⟩ : ByteArray), 0, 22))) else (none)) else (none)) = some (r1, r2, r3) := H
                                    have A28 := Aside0.mk A280
                                    clear A280
                                    obtain ⟨ji29, hji29⟩ : ∃ j_ : Int, (wrap64 ((wrap64 (t226 + (wrap64 (t225)))) + 8)) = j_ := ⟨_, rfl⟩
                                    replace H : (if 0 ≤ (ji29) then (if (ji29) ≤ (rs.size : Int) then (if t228.toList = (rs.extract 0 ((ji29) : Int).toNat).toList then (some (rs.extract (t226 : Int).toNat ((wrap64 (t226 + (wrap64 (t225)))) : Int).toNat, wrap64 (a1 + (t228.size : Int)), 0)) else (some ((⟨#[]⟩ : ByteArray), 0, 22))) else (none)) else (none)) = some (r1, r2, r3) := by first | (rw [hji29] at H; exact H) | (simp only [hji29] at H ⊢; exact H)
                                    (try rw [hji29] at A19)
                                    (try rw [hji29] at A28)
                                    have hji29w : (IntKind.i64.wrap ((wrap64 (t226 + (wrap64 (t225)))) + 8)) = ji29 := (i64_w _).trans hji29
                                    by_cases c30 : 0 ≤ (ji29)
                                    · rw [if_pos c30] at H
                                      have c30b0 := eq_true c30
                                      have c30b1 : decide (0 ≤ (ji29)) = true := decide_eq_true c30
                                      clear c30
                                      by_cases c31 : (ji29) ≤ (rs.size : Int)
                                      · rw [if_pos c31] at H
                                        have c31b0 := eq_true c31
                                        have c31b1 : decide ((ji29) ≤ (rs.size : Int)) = true := decide_eq_true c31
                                        clear c31
                                        by_cases c32 : t228.toList = (rs.extract 0 ((ji29) : Int).toNat).toList
                                        · rw [if_pos c32] at H
                                          have c32b0 : (t228.toList == (rs.extract 0 ((ji29) : Int).toNat).toList) = true := beq_iff_eq.mpr c32
                                          have c32b1 : (t228.toList != (rs.extract 0 ((ji29) : Int).toNat).toList) = false := bne_eq_false_iff_eq.mpr c32
                                          clear c32
                                          simp only [Option.some.injEq, Prod.mk.injEq] at H
                                          obtain ⟨rfl, rfl, rfl⟩ := H
                                          have p13 : 0 ≤ (0 : Int) := (by omega)
                                          have q13 : 0 < rs.size := (by have : (0 : Int) < (rs.size : Int) := of_decide_eq_true (by first | (with_reducible assumption) | assumption); omega)
                                          have hx13 : ∀ h : 0 < rs.size, ((rs[0]'h).toNat : Int) = bt rs 0 := bt_at rs 0
                                          clear p13
                                          have qi13 : (0 < (rs.size : Int)) = True := eq_true (of_decide_eq_true (by first | (with_reducible assumption) | assumption))
                                          replace q13 := eq_true q13
                                          have p17 : 0 ≤ (1 : Int) := (by omega)
                                          have q17 : 1 < rs.size := (by have : (1 : Int) < (rs.size : Int) := of_decide_eq_true (by first | (with_reducible assumption) | assumption); omega)
                                          have hx17 : ∀ h : 1 < rs.size, ((rs[1]'h).toNat : Int) = bt rs 1 := bt_at rs 1
                                          clear p17
                                          have qi17 : (1 < (rs.size : Int)) = True := eq_true (of_decide_eq_true (by first | (with_reducible assumption) | assumption))
                                          replace q17 := eq_true q17
                                          go_wp2_with (first | ((with_reducible refine gate_callee (f := 39) rfl ?_); refine goesL_ (some 50) rfl rfl Try.func39 (by kernel_rfl) rfl #[.string rs, .int .i64 2] rfl (by (try simp only [List.map_toArray, List.map_cons, List.map_nil]); first | done | rfl | (simp only [List.length_drop, List.length_take]; rfl)) ?_; (with_reducible refine (ententeref01_TakeNumber.calls kj3 rs 2 t225 t226 t227 _ A19.out).mono ?_); rintro e w33 ⟨rfl, hb⟩; refine ⟨_, rfl, ?_⟩; have n0_ := Aside0.mk (below_step (by repeat (first | (with_reducible first | exact HB.out | apply below_alloc | apply pw_below_drewN | apply below_drew1) | exact HB.out)) hb); clear HB; have HB := n0_; clear n0_; (try clear hb); (try clear hb2); (try clear hk); (try clear hi)) | ((with_reducible refine gate_callee (f := 10) rfl ?_); refine goesL_ (some 77) rfl rfl Try.func10 (by kernel_rfl) rfl #[.int .i64 a2, .string (rs.extract (t226 : Int).toNat ((wrap64 (t226 + (wrap64 (t225)))) : Int).toNat)] rfl (by (try simp only [List.map_toArray, List.map_cons, List.map_nil]); first | done | rfl | (simp only [List.length_drop, List.length_take]; rfl)) ?_; (with_reducible refine (ententeref02_Seal.calls kj3 a2 (rs.extract (t226 : Int).toNat ((wrap64 (t226 + (wrap64 (t225)))) : Int).toNat) t228 t229 _ A28.out).mono ?_); rintro e w34 ⟨rfl, hb⟩; refine ⟨_, rfl, ?_⟩; have n0_ := Aside0.mk (below_step (by repeat (first | (with_reducible first | exact HB.out | apply below_alloc | apply pw_below_drewN | apply below_drew1) | exact HB.out)) hb); clear HB; have HB := n0_; clear n0_; (try clear hb); (try clear hb2); (try clear hk); (try clear hi)))
                                          go_ret3
                                          exact ⟨by first | rfl | (simp [errW_none, errW_some] <;> rfl) | (simp only [← hji29]; first | rfl | (simp [errW_none, errW_some] <;> rfl)) | (simp [*, errW_none, errW_some] <;> rfl), by repeat (first | (with_reducible first | exact HB.out | apply below_alloc | apply pw_below_drewN | apply below_drew1) | exact HB.out)⟩
                                        · rw [if_neg c32] at H
                                          have c32b0 : (t228.toList == (rs.extract 0 ((ji29) : Int).toNat).toList) = false := beq_eq_false_iff_ne.mpr c32
                                          have c32b1 : (t228.toList != (rs.extract 0 ((ji29) : Int).toNat).toList) = true := bne_iff_ne.mpr c32
                                          simp only [Option.some.injEq, Prod.mk.injEq] at H
                                          obtain ⟨rfl, rfl, rfl⟩ := H
                                          have p13 : 0 ≤ (0 : Int) := (by omega)
                                          have q13 : 0 < rs.size := (by have : (0 : Int) < (rs.size : Int) := of_decide_eq_true (by first | (with_reducible assumption) | assumption); omega)
                                          have hx13 : ∀ h : 0 < rs.size, ((rs[0]'h).toNat : Int) = bt rs 0 := bt_at rs 0
                                          clear p13
                                          have qi13 : (0 < (rs.size : Int)) = True := eq_true (of_decide_eq_true (by first | (with_reducible assumption) | assumption))
                                          replace q13 := eq_true q13
                                          have p17 : 0 ≤ (1 : Int) := (by omega)
                                          have q17 : 1 < rs.size := (by have : (1 : Int) < (rs.size : Int) := of_decide_eq_true (by first | (with_reducible assumption) | assumption); omega)
                                          have hx17 : ∀ h : 1 < rs.size, ((rs[1]'h).toNat : Int) = bt rs 1 := bt_at rs 1
                                          clear p17
                                          have qi17 : (1 < (rs.size : Int)) = True := eq_true (of_decide_eq_true (by first | (with_reducible assumption) | assumption))
                                          replace q17 := eq_true q17
                                          go_wp2_with (first | ((with_reducible refine gate_callee (f := 39) rfl ?_); refine goesL_ (some 50) rfl rfl Try.func39 (by kernel_rfl) rfl #[.string rs, .int .i64 2] rfl (by (try simp only [List.map_toArray, List.map_cons, List.map_nil]); first | done | rfl | (simp only [List.length_drop, List.length_take]; rfl)) ?_; (with_reducible refine (ententeref01_TakeNumber.calls kj3 rs 2 t225 t226 t227 _ A19.out).mono ?_); rintro e w35 ⟨rfl, hb⟩; refine ⟨_, rfl, ?_⟩; have n0_ := Aside0.mk (below_step (by repeat (first | (with_reducible first | exact HB.out | apply below_alloc | apply pw_below_drewN | apply below_drew1) | exact HB.out)) hb); clear HB; have HB := n0_; clear n0_; (try clear hb); (try clear hb2); (try clear hk); (try clear hi)) | ((with_reducible refine gate_callee (f := 10) rfl ?_); refine goesL_ (some 77) rfl rfl Try.func10 (by kernel_rfl) rfl #[.int .i64 a2, .string (rs.extract (t226 : Int).toNat ((wrap64 (t226 + (wrap64 (t225)))) : Int).toNat)] rfl (by (try simp only [List.map_toArray, List.map_cons, List.map_nil]); first | done | rfl | (simp only [List.length_drop, List.length_take]; rfl)) ?_; (with_reducible refine (ententeref02_Seal.calls kj3 a2 (rs.extract (t226 : Int).toNat ((wrap64 (t226 + (wrap64 (t225)))) : Int).toNat) t228 t229 _ A28.out).mono ?_); rintro e w36 ⟨rfl, hb⟩; refine ⟨_, rfl, ?_⟩; have n0_ := Aside0.mk (below_step (by repeat (first | (with_reducible first | exact HB.out | apply below_alloc | apply pw_below_drewN | apply below_drew1) | exact HB.out)) hb); clear HB; have HB := n0_; clear n0_; (try clear hb); (try clear hb2); (try clear hk); (try clear hi)))
                                          go_ret3
                                          exact ⟨by first | rfl | (simp [errW_none, errW_some] <;> rfl) | (simp only [← hji29]; first | rfl | (simp [errW_none, errW_some] <;> rfl)) | (simp [*, errW_none, errW_some] <;> rfl), by repeat (first | (with_reducible first | exact HB.out | apply below_alloc | apply pw_below_drewN | apply below_drew1) | exact HB.out)⟩
                                      · rw [if_neg c31] at H
                                        exact absurd H (by simp)
                                    · rw [if_neg c30] at H
                                      exact absurd H (by simp)
                                  · rw [if_neg c27] at H
                                    exact absurd H (by simp)
                                · rw [if_neg c26] at H
                                  exact absurd H (by simp)
                              · rw [if_neg c25] at H
                                exact absurd H (by simp)
                        · rw [if_neg c20] at H
                          have c20b0 : (t227 == 0) = false := beq_eq_false_iff_ne.mpr c20
                          have c20b1 : (t227 != 0) = true := bne_iff_ne.mpr c20
                          simp only [Option.some.injEq, Prod.mk.injEq] at H
                          obtain ⟨rfl, rfl, rfl⟩ := H
                          have p13 : 0 ≤ (0 : Int) := (by omega)
                          have q13 : 0 < rs.size := (by have : (0 : Int) < (rs.size : Int) := of_decide_eq_true (by first | (with_reducible assumption) | assumption); omega)
                          have hx13 : ∀ h : 0 < rs.size, ((rs[0]'h).toNat : Int) = bt rs 0 := bt_at rs 0
                          clear p13
                          have qi13 : (0 < (rs.size : Int)) = True := eq_true (of_decide_eq_true (by first | (with_reducible assumption) | assumption))
                          replace q13 := eq_true q13
                          have p17 : 0 ≤ (1 : Int) := (by omega)
                          have q17 : 1 < rs.size := (by have : (1 : Int) < (rs.size : Int) := of_decide_eq_true (by first | (with_reducible assumption) | assumption); omega)
                          have hx17 : ∀ h : 1 < rs.size, ((rs[1]'h).toNat : Int) = bt rs 1 := bt_at rs 1
                          clear p17
                          have qi17 : (1 < (rs.size : Int)) = True := eq_true (of_decide_eq_true (by first | (with_reducible assumption) | assumption))
                          replace q17 := eq_true q17
                          go_wp2_with (first | ((with_reducible refine gate_callee (f := 39) rfl ?_); refine goesL_ (some 50) rfl rfl Try.func39 (by kernel_rfl) rfl #[.string rs, .int .i64 2] rfl (by (try simp only [List.map_toArray, List.map_cons, List.map_nil]); first | done | rfl | (simp only [List.length_drop, List.length_take]; rfl)) ?_; (with_reducible refine (ententeref01_TakeNumber.calls kj3 rs 2 t225 t226 t227 _ A19.out).mono ?_); rintro e w37 ⟨rfl, hb⟩; refine ⟨_, rfl, ?_⟩; have n0_ := Aside0.mk (below_step (by repeat (first | (with_reducible first | exact HB.out | apply below_alloc | apply pw_below_drewN | apply below_drew1) | exact HB.out)) hb); clear HB; have HB := n0_; clear n0_; (try clear hb); (try clear hb2); (try clear hk); (try clear hi)))
                          go_ret3
                          exact ⟨by first | rfl | (simp [errW_none, errW_some] <;> rfl) | (simp [*, errW_none, errW_some] <;> rfl), by repeat (first | (with_reducible first | exact HB.out | apply below_alloc | apply pw_below_drewN | apply below_drew1) | exact HB.out)⟩
                      · rw [if_neg c18] at H
                        have c18b0 : ((wrap64 (bt rs 1)) == a2) = false := beq_eq_false_iff_ne.mpr c18
                        have c18b1 : ((wrap64 (bt rs 1)) != a2) = true := bne_iff_ne.mpr c18
                        simp only [Option.some.injEq, Prod.mk.injEq] at H
                        obtain ⟨rfl, rfl, rfl⟩ := H
                        have p13 : 0 ≤ (0 : Int) := (by omega)
                        have q13 : 0 < rs.size := (by have : (0 : Int) < (rs.size : Int) := of_decide_eq_true (by first | (with_reducible assumption) | assumption); omega)
                        have hx13 : ∀ h : 0 < rs.size, ((rs[0]'h).toNat : Int) = bt rs 0 := bt_at rs 0
                        clear p13
                        have qi13 : (0 < (rs.size : Int)) = True := eq_true (of_decide_eq_true (by first | (with_reducible assumption) | assumption))
                        replace q13 := eq_true q13
                        have p17 : 0 ≤ (1 : Int) := (by omega)
                        have q17 : 1 < rs.size := (by have : (1 : Int) < (rs.size : Int) := of_decide_eq_true (by first | (with_reducible assumption) | assumption); omega)
                        have hx17 : ∀ h : 1 < rs.size, ((rs[1]'h).toNat : Int) = bt rs 1 := bt_at rs 1
                        clear p17
                        have qi17 : (1 < (rs.size : Int)) = True := eq_true (of_decide_eq_true (by first | (with_reducible assumption) | assumption))
                        replace q17 := eq_true q17
                        go_wp2
                        go_ret3
                        exact ⟨by first | rfl | (simp [errW_none, errW_some] <;> rfl) | (simp [*, errW_none, errW_some] <;> rfl), by repeat (first | (with_reducible first | exact HB.out | apply below_alloc | apply pw_below_drewN | apply below_drew1) | exact HB.out)⟩
                    · rw [if_neg c16] at H
                      exact absurd H (by simp)
                · rw [if_neg c14] at H
                  have c14b0 : ((bt rs 0) == 231) = false := beq_eq_false_iff_ne.mpr c14
                  have c14b1 : ((bt rs 0) != 231) = true := bne_iff_ne.mpr c14
                  simp only [Option.some.injEq, Prod.mk.injEq] at H
                  obtain ⟨rfl, rfl, rfl⟩ := H
                  have p13 : 0 ≤ (0 : Int) := (by omega)
                  have q13 : 0 < rs.size := (by have : (0 : Int) < (rs.size : Int) := of_decide_eq_true (by first | (with_reducible assumption) | assumption); omega)
                  have hx13 : ∀ h : 0 < rs.size, ((rs[0]'h).toNat : Int) = bt rs 0 := bt_at rs 0
                  clear p13
                  have qi13 : (0 < (rs.size : Int)) = True := eq_true (of_decide_eq_true (by first | (with_reducible assumption) | assumption))
                  replace q13 := eq_true q13
                  go_wp2
                  go_ret3
                  exact ⟨by first | rfl | (simp [errW_none, errW_some] <;> rfl) | (simp [*, errW_none, errW_some] <;> rfl), by repeat (first | (with_reducible first | exact HB.out | apply below_alloc | apply pw_below_drewN | apply below_drew1) | exact HB.out)⟩
              · rw [if_neg c12] at H
                exact absurd H (by simp)
          · rw [if_neg c10] at H
            exact absurd H (by simp)
        · rw [if_neg c9] at H
          exact absurd H (by simp)

/-! ### ententeref02_Cut: function 30 -/
mutual
def ententeref02_Cut.j0 : Nat → ByteArray → Int → Bool → Option (List ByteArray × Int × Int)
  | 0, _, _, _ => none
  | k + 1, x0, x1, x17 => if x17 = true then (some (([] : List ByteArray), 0, 2)) else (ententeref02_Cut.l0 k x0 x1 ([] : List ByteArray) 0)
def ententeref02_Cut.l0 : Nat → ByteArray → Int → List ByteArray → Int → Option (List ByteArray × Int × Int)
  | 0, _, _, _, _ => none
  | k + 1, x0, x1, x7, x8 => if x8 < (x0.size : Int) then ((ententeref02_Open.f k x0 x8 x1).bind fun bt230 => (if bt230.2.2 = 0 then (if x7.length < 8796093022208 then (ententeref02_Cut.l0 k x0 x1 (x7 ++ [bt230.1]) bt230.2.1) else (none)) else (some (x7, x8, bt230.2.2)))) else (some (x7, x8, 0))
end
def ententeref02_Cut.f (k : Nat) (a0 : ByteArray) (a1 : Int) : Option (List ByteArray × Int × Int) := if a1 < 0 then (ententeref02_Cut.j0 k a0 a1 true) else (ententeref02_Cut.j0 k a0 a1 (decide (a1 > 255)))
theorem ententeref02_Cut.mono_l : ∀ k, (∀ y0 y1 y2, LeO (ententeref02_Cut.j0 k y0 y1 y2) (ententeref02_Cut.j0 (k + 1) y0 y1 y2)) ∧ (∀ y0 y1 y2 y3, LeO (ententeref02_Cut.l0 k y0 y1 y2 y3) (ententeref02_Cut.l0 (k + 1) y0 y1 y2 y3))
  | 0 => ⟨fun _ _ _ r h => by simp [ententeref02_Cut.j0] at h, fun _ _ _ _ r h => by simp [ententeref02_Cut.l0] at h⟩
  | k + 1 => by
    obtain ⟨ih0, ih1⟩ := ententeref02_Cut.mono_l k
    refine ⟨?_, ?_⟩
    · intro y0 y1 y2
      unfold ententeref02_Cut.j0
      repeat' first
      | (with_reducible exact ih0 _ _ _)
      | (with_reducible exact ih1 _ _ _ _)
      | (with_reducible exact ententeref02_Open.mono _ _ _ _)
      | (with_reducible exact LeO.refl _)
      | (with_reducible exact LeO.none _)
      | (with_reducible refine LeO.ite ?_ ?_)
      | (with_reducible refine LeO.bind ?_ (fun _ => ?_))
      | exact ih0 _ _ _
      | exact ih1 _ _ _ _
      | exact ententeref02_Open.mono _ _ _ _
      | exact LeO.none _
      | refine LeO.ite ?_ ?_
      | refine LeO.bind ?_ (fun _ => ?_)
    · intro y0 y1 y2 y3
      unfold ententeref02_Cut.l0
      repeat' first
      | (with_reducible exact ih0 _ _ _)
      | (with_reducible exact ih1 _ _ _ _)
      | (with_reducible exact ententeref02_Open.mono _ _ _ _)
      | (with_reducible exact LeO.refl _)
      | (with_reducible exact LeO.none _)
      | (with_reducible refine LeO.ite ?_ ?_)
      | (with_reducible refine LeO.bind ?_ (fun _ => ?_))
      | exact ih0 _ _ _
      | exact ih1 _ _ _ _
      | exact ententeref02_Open.mono _ _ _ _
      | exact LeO.none _
      | refine LeO.ite ?_ ?_
      | refine LeO.bind ?_ (fun _ => ?_)
theorem ententeref02_Cut.mono : ∀ a0 a1 k, LeO (ententeref02_Cut.f k a0 a1) (ententeref02_Cut.f (k + 1) a0 a1) := by
  intro a0 a1 k
  obtain ⟨ih0, ih1⟩ := ententeref02_Cut.mono_l k
  unfold ententeref02_Cut.f
  repeat' first
      | (with_reducible exact ih0 _ _ _)
      | (with_reducible exact ih1 _ _ _ _)
      | (with_reducible exact ententeref02_Open.mono _ _ _ _)
      | (with_reducible exact LeO.refl _)
      | (with_reducible exact LeO.none _)
      | (with_reducible refine LeO.ite ?_ ?_)
      | (with_reducible refine LeO.bind ?_ (fun _ => ?_))
      | exact ih0 _ _ _
      | exact ih1 _ _ _ _
      | exact ententeref02_Open.mono _ _ _ _
      | exact LeO.none _
      | refine LeO.ite ?_ ?_
      | refine LeO.bind ?_ (fun _ => ?_)
set_option maxHeartbeats 8000000 in
set_option maxRecDepth 100000 in
theorem ententeref02_Cut.calls (k : Nat) (a0 : ByteArray) (a1 : Int) (r1 : List ByteArray) (r2 : Int) (r3 : Int) (w : World) (h : ententeref02_Cut.f k a0 a1 = some (r1, r2, r3)) :
    Calls Try.prog 30 #[.string a0, .int .i64 a1] w fun e w' => ∃ v0_ : Value, e = .returned (.tuple #[v0_, .int .i64 r2, .int .i64 r3]) ∧ Kd.R Kd.string 9 w' w.heap.size (fun _ => True) v0_ r1 ∧ Below w.heap.size w w' := by
  have HB := Aside0.mk (Below.refl w.heap.size w)
  have H : (if a1 < 0 then (ententeref02_Cut.j0 k a0 a1 true) else (ententeref02_Cut.j0 k a0 a1 (decide (a1 > 255)))) = some (r1, r2, r3) := h
  clear h
  have HC3 := Aside0.mk H
  clear H
  go_enter Try.func30, Try.ntmps30
  go_upto_region 1 with (fail)
  go_cut [17] (fun v17 wc => ∃ (kq : Nat) (x17_2 : Bool), v17 = .bool x17_2 ∧ Aside0 (ententeref02_Cut.j0 kq a0 a1 x17_2 = some (r1, r2, r3)) ∧ Aside0 (kq ≤ k) ∧ Aside0 (Below w.heap.size w wc))
  case first =>
    have H := HC3.out
    clear HC3
    by_cases c4 : a1 < 0
    · rw [if_pos c4] at H
      have c4b0 : decide (a1 < 0) = true := decide_eq_true c4
      clear c4
      (first | rw [c4b0] | (simp only [i64_w, i32_w]; rw [c4b0]) | skip)
      have H' := Aside0.mk H
      clear H
      go_wp2
      go_meet
      case rel => exact ⟨_, (true), (by first | rfl | (simp; done) | (simp [*]; done)), H', ⟨by first | omega | exact Nat.le_refl _⟩, ⟨by repeat (first | (with_reducible first | exact HB.out | apply below_alloc | apply pw_below_drewN | apply below_drew1) | exact HB.out)⟩⟩
    · rw [if_neg c4] at H
      have c4b0 : decide (a1 < 0) = false := decide_eq_false c4
      clear c4
      (first | rw [c4b0] | (simp only [i64_w, i32_w]; rw [c4b0]) | skip)
      have H' := Aside0.mk H
      clear H
      go_wp2
      go_meet
      case rel => exact ⟨_, (decide (a1 > 255)), (by first | rfl | (simp; done) | (simp [*]; done)), H', ⟨by first | omega | exact Nat.le_refl _⟩, ⟨by repeat (first | (with_reducible first | exact HB.out | apply below_alloc | apply pw_below_drewN | apply below_drew1) | exact HB.out)⟩⟩
  case rest =>
    clear HC3
    try clear p2
    try clear c3
    try clear c4
    try clear c4b0
    obtain ⟨kq, x17_2, rfl, HA, HJ2, HB⟩ := hcut
    cases kq with
    | zero => exact absurd HA.out (by simp [ententeref02_Cut.j0])
    | succ kj2 =>
      have H := HA.out
      clear HA
      simp only [ententeref02_Cut.j0] at H
      by_cases c5 : x17_2 = true
      · subst c5
        have H1 : (some (([] : List ByteArray), 0, 2)) = some (r1, r2, r3) := by rw [if_pos rfl] at H; exact H
        clear H
        have H := H1
        clear H1
        simp only [Option.some.injEq, Prod.mk.injEq] at H
        obtain ⟨rfl, rfl, rfl⟩ := H
        go_wp2
        go_ret3
        exact ⟨_, by first | rfl | (simp [errW_none, errW_some] <;> rfl) | (simp [*, errW_none, errW_some] <;> rfl), by first | exact Kd.R_nil _ _ _ _ _ | exact Kd.N_nil _ _ _ _ _ | exact Kd.V_nil _ _ _ _ _ | exact Kd.Q_nil _ _ _ _ _ | exact Kd.S_nil _ _ _ _ _, by repeat (first | (with_reducible first | exact HB.out | apply below_alloc | apply pw_below_drewN | apply below_drew1) | exact HB.out)⟩
      · replace c5 := Bool.eq_false_iff.mpr c5
        subst c5
        have H1 : (ententeref02_Cut.l0 kj2 a0 a1 ([] : List ByteArray) 0) = some (r1, r2, r3) := by rw [if_neg (show ¬ (false = true) by decide)] at H; exact H
        clear H
        have H := H1
        clear H1
        have H' := Aside0.mk H
        clear H
        go_wp2
        go_loopg [7, 8] kj2 (fun kq v7 v8 w' => ∃ (x7_2 : List ByteArray) (x8_2 : Int), v8 = .int .i64 x8_2 ∧ Aside0 (ententeref02_Cut.l0 kq a0 a1 x7_2 x8_2 = some (r1, r2, r3)) ∧ Aside0 (kq ≤ kj2) ∧ Aside0 (Kd.R Kd.string 9 w' w.heap.size (fun _ => True) v7 x7_2) ∧ Aside0 (Below w.heap.size w w'))
        case atStart => exact ⟨(([] : List ByteArray)), (0), (by first | rfl | (simp; done) | (simp [*]; done)), H', ⟨Nat.le_refl _⟩, ⟨by first | exact Kd.R_nil _ _ _ _ _ | exact Kd.N_nil _ _ _ _ _ | exact Kd.V_nil _ _ _ _ _ | exact Kd.Q_nil _ _ _ _ _ | exact Kd.S_nil _ _ _ _ _⟩, ⟨by repeat (first | (with_reducible first | exact HB.out | apply below_alloc | apply pw_below_drewN | apply below_drew1) | exact HB.out)⟩⟩
        case round =>
          clear H'
          try clear p2
          try clear c3
          try clear c4
          try clear c4b0
          try clear c5
          try clear p2
          obtain ⟨x7_2, x8_2, rfl, HA, HK2, HO_7, HB⟩ := hrel
          cases gk with
          | zero => exact absurd HA.out (by simp [ententeref02_Cut.l0])
          | succ k2 =>
            have H := HA.out
            clear HA
            simp only [ententeref02_Cut.l0] at H
            by_cases c6 : x8_2 < (a0.size : Int)
            · rw [if_pos c6] at H
              have c6b0 : decide (x8_2 < (a0.size : Int)) = true := decide_eq_true c6
              clear c6
              replace H := Option.bind_eq_some_iff.mp H
              obtain ⟨⟨t230, t231, t232⟩, A70, H⟩ := H
              replace H : (if t232 = 0 then (if x7_2.length < 8796093022208 then (ententeref02_Cut.l0 k2 a0 a1 (x7_2 ++ [t230]) t231) else (none)) else (some (x7_2, x8_2, t232))) = some (r1, r2, r3) := H
              have A7 := Aside0.mk A70
              clear A70
              by_cases c8 : t232 = 0
              · rw [if_pos c8] at H
                have c8b0 : (t232 == 0) = true := beq_iff_eq.mpr c8
                have c8b1 : (t232 != 0) = false := bne_eq_false_iff_eq.mpr c8
                clear c8
                by_cases c9 : x7_2.length < 8796093022208
                · rw [if_pos c9] at H
                  have LMc9 := Aside0.mk c9
                  clear c9
                  obtain ⟨y233, hy233⟩ : ∃ y_ : List ByteArray, y_ = (x7_2 ++ [t230]) := ⟨_, rfl⟩
                  replace H : (ententeref02_Cut.l0 k2 a0 a1 y233 t231) = some (r1, r2, r3) := by first | (rw [hy233]; with_reducible exact H) | (have H2_ := (Option.bind_some _ _).symm.trans H; rw [hy233]; with_reducible exact H2_) | (have H2_ := (Option.bind_some _ _).symm.trans H; with_reducible exact H2_) | with_reducible exact H | (rw [hy233]; exact H) | exact H
                  have Ny233 := Aside0.mk hy233
                  clear hy233
                  have H' := Aside0.mk H
                  clear H
                  go_wp2_with (first | ((with_reducible refine gate_callee (f := 29) rfl ?_); refine goesL_ (some 26) rfl rfl Try.func29 (by kernel_rfl) rfl #[.string a0, .int .i64 x8_2, .int .i64 a1] rfl (by (try simp only [List.map_toArray, List.map_cons, List.map_nil]); first | done | rfl | (simp only [List.length_drop, List.length_take]; rfl)) ?_; (with_reducible refine (ententeref02_Open.calls k2 a0 x8_2 a1 t230 t231 t232 _ A7.out).mono ?_); rintro e w10 ⟨rfl, hb⟩; refine ⟨_, rfl, ?_⟩; have n0_ := Aside0.mk (Kd.R_below (by (with_reducible repeat (first | apply Kd.R_alloc | apply Kd.R_drewN | apply Kd.R_drew)); exact HO_7.out) hb); have n1_ := Aside0.mk (below_step (by repeat (first | (with_reducible first | exact HB.out | apply below_alloc | apply pw_below_drewN | apply below_drew1) | exact HB.out)) hb); clear HO_7; clear HB; have HO_7 := n0_; have HB := n1_; clear n0_ n1_; (try clear hb); (try clear hb2); (try clear hk); (try clear hi)) | ((with_reducible refine gate_builtin (b := .append) (xs := #[.tmp 35, .tmp 37]) rfl ?_); at_builtin; refine Kd.R_append Kd.string (w0 := w) w.heap.size rfl (.tmp 35) (.tmp 37) 22 9 (.string ⟨#[]⟩) 16 rfl Try.underlying22 info9 rfl (by decide) (by omega) u7 x7_2 t230 [.string t230] (fun _ => True) (fun _ => False) rfl rfl ?aP (fun _ hk => hk.elim) ?aF ?aO ?aB ?aS ?aL ?_; (case aP => exact rfl); (case aB => exact (by repeat (first | (with_reducible first | exact HB.out | apply below_alloc | apply pw_below_drewN | apply below_drew1) | exact HB.out))); (case aF => exact (fun _ _ => trivial)); (case aO => exact (by (with_reducible repeat (first | apply Kd.R_alloc | apply Kd.R_drewN | apply Kd.R_drew)); exact HO_7.out)); (case aS => exact (below_size (by repeat (first | (with_reducible first | exact HB.out | apply below_alloc | apply pw_below_drewN | apply below_drew1) | exact HB.out)))); (case aL => have := LMc9.out; omega); intro v234 w11 ho hb hg hat; rw [← Ny233.out] at ho; have n0_ := Aside0.mk (hb); have n1_ := Aside0.mk (ho); clear HB; clear HO_7; have HB := n0_; have HO235 := n1_; clear n0_ n1_; clear ho hb hg hat))
                  go_roundg k2
                  case measure => have := HJ2.out; have := HK2.out; omega
                  case rel => exact ⟨(y233), (t231), (by first | rfl | (simp; done) | (simp [*]; done)), H', ⟨by have := HJ2.out; have := HK2.out; omega⟩, ⟨by (with_reducible repeat (first | apply Kd.R_alloc | apply Kd.R_drewN | apply Kd.R_drew)); exact HO235.out⟩, ⟨by repeat (first | (with_reducible first | exact HB.out | apply below_alloc | apply pw_below_drewN | apply below_drew1) | exact HB.out)⟩⟩
                · rw [if_neg c9] at H
                  exact absurd H (by simp)
              · rw [if_neg c8] at H
                have c8b0 : (t232 == 0) = false := beq_eq_false_iff_ne.mpr c8
                have c8b1 : (t232 != 0) = true := bne_iff_ne.mpr c8
                simp only [Option.some.injEq, Prod.mk.injEq] at H
                obtain ⟨rfl, rfl, rfl⟩ := H
                go_wp2_with (first | ((with_reducible refine gate_callee (f := 29) rfl ?_); refine goesL_ (some 26) rfl rfl Try.func29 (by kernel_rfl) rfl #[.string a0, .int .i64 x8_2, .int .i64 a1] rfl (by (try simp only [List.map_toArray, List.map_cons, List.map_nil]); first | done | rfl | (simp only [List.length_drop, List.length_take]; rfl)) ?_; (with_reducible refine (ententeref02_Open.calls k2 a0 x8_2 a1 t230 t231 t232 _ A7.out).mono ?_); rintro e w12 ⟨rfl, hb⟩; refine ⟨_, rfl, ?_⟩; have n0_ := Aside0.mk (Kd.R_below (by (with_reducible repeat (first | apply Kd.R_alloc | apply Kd.R_drewN | apply Kd.R_drew)); exact HO_7.out) hb); have n1_ := Aside0.mk (below_step (by repeat (first | (with_reducible first | exact HB.out | apply below_alloc | apply pw_below_drewN | apply below_drew1) | exact HB.out)) hb); clear HO_7; clear HB; have HO_7 := n0_; have HB := n1_; clear n0_ n1_; (try clear hb); (try clear hb2); (try clear hk); (try clear hi)))
                go_ret3
                exact ⟨_, by first | rfl | (simp [errW_none, errW_some] <;> rfl) | (simp [*, errW_none, errW_some] <;> rfl), by (with_reducible repeat (first | apply Kd.R_alloc | apply Kd.R_drewN | apply Kd.R_drew)); exact HO_7.out, by repeat (first | (with_reducible first | exact HB.out | apply below_alloc | apply pw_below_drewN | apply below_drew1) | exact HB.out)⟩
            · rw [if_neg c6] at H
              have c6b0 : decide (x8_2 < (a0.size : Int)) = false := decide_eq_false c6
              clear c6
              simp only [Option.some.injEq, Prod.mk.injEq] at H
              obtain ⟨rfl, rfl, rfl⟩ := H
              go_wp2
              go_ret3
              exact ⟨_, by first | rfl | (simp [errW_none, errW_some] <;> rfl) | (simp [*, errW_none, errW_some] <;> rfl), by (with_reducible repeat (first | apply Kd.R_alloc | apply Kd.R_drewN | apply Kd.R_drew)); exact HO_7.out, by repeat (first | (with_reducible first | exact HB.out | apply below_alloc | apply pw_below_drewN | apply below_drew1) | exact HB.out)⟩

end Go.Proofs.Yticnbjfmjhdjoaa.PA
