-- Written by a program of this session (wip/tools/mp.py over the kit's printer); Lean checks it.
import Derived.Test.YtkcpgaplpmbmoaaGreatPAx0
namespace Go.Proofs.YtkcpgaplpmbmoaaGreat.PA
open Go.RowKit Go.Proofs.YtkcpgaplpmbmoaaGreatW.PrintWords Go.Proofs.YtkcpgaplpmbmoaaGreatW.PrintLast Go.Proofs.YtkcpgaplpmbmoaaGreatW.PrintMore
attribute [local go_sem] max2_int min2_int max_two min_two max_three min_three max_four min_four   -- for this text's walks alone
set_option linter.unusedVariables false
set_option maxHeartbeats 8000000
set_option maxRecDepth 100000
set_option linter.unusedSimpArgs false

/-! ### disk_Disk_none: function 54 -/


/-! ### slices_AppendSeq_int_int: function 84 -/


/-! ### slices_Collect_int: function 74 -/


/-! ### cmp_isNaN_int: function 104 -/


/-! ### cmp_Less_int: function 94 -/


/-! ### slices_insertionSortOrdered_int: function 88 -/


/-! ### slices_siftDownOrdered_int: function 99 -/


/-! ### slices_heapSortOrdered_int: function 89 -/


/-! ### bits_Len32: function 97 -/


/-! ### bits_Len64: function 98 -/


/-! ### bits_Len: function 86 -/


/-! ### slices_nextPowerOfTwo: function 100 -/


/-! ### slices_xorshift_Next: function 101 -/


/-! ### slices_breakPatternsOrdered_int: function 90 -/


/-! ### slices_order2Ordered_int: function 105 -/


/-! ### slices_medianOrdered_int: function 103 -/


/-! ### slices_medianAdjacentOrdered_int: function 102 -/


/-! ### slices_choosePivotOrdered_int: function 91 -/


/-! ### slices_reverseRangeOrdered_int: function 92 -/


/-! ### slices_partialInsertionSortOrdered_int: function 93 -/


/-! ### slices_partitionEqualOrdered_int: function 95 -/


/-! ### slices_partitionOrdered_int: function 96 -/


/-! ### slices_pdqsortOrdered_int: function 85 -/


/-! ### slices_Sort_int_int: function 75 -/


/-! ### slices_Sorted_int: function 55 -/


/-! ### api_File_1_76: function 76 -/


/-! ### api_File_56: function 56 -/


/-! ### disk_Disk_Files: function 28 -/


/-! ### disk_Disk_Image: function 11 -/


/-! ### disk_Disk_ready: function 60 -/


/-! ### disk_Disk_find: function 35 -/


/-! ### disk_Disk_Read: function 18 -/


-- NOT PRINTED: function 36 (api_File_36)

/-! ### segment_Look_1: function 37 -/
def segment_Look_1.f (a0_0 : Int) (a0_1 : ByteArray) (a0_2 : Int) (a1_0 : Int) (a1_1 : ByteArray) (a1_2 : Int) : Option (Int) := if a0_0 ≤ a1_0 then (some (-1)) else (some 1)
theorem segment_Look_1.calls (a0_0 : Int) (a0_1 : ByteArray) (a0_2 : Int) (a1_0 : Int) (a1_1 : ByteArray) (a1_2 : Int) (r : Int) (w : World) (h : segment_Look_1.f a0_0 a0_1 a0_2 a1_0 a1_1 a1_2 = some r) :
  Calls Tryz.prog 37 #[.agg #[.int .i64 a0_0, .string a0_1, .int .i64 a0_2], .agg #[.int .i64 a1_0, .string a1_1, .int .i64 a1_2]] w fun e w' => e = .returned (.int .i64 r) ∧ Below w.heap.size w w' := by
 have hu24 := Tryz.underlying24
 have HB := My.am (Below.refl w.heap.size w)
 unfold segment_Look_1.f at h
 have H := h
 clear h
 by_cases c3 : a0_0 ≤ a1_0
 ·rw [if_pos c3] at H
  have c3b0 := decide_eq_true c3
  clear c3
  obtain rfl := Option.some.inj H
  go_enter Tryz.func37, Tryz.ntmps37
  go_wp2_with (first | ((with_reducible refine gate_dst (N := 2) rfl ?_); refine My.bx 2 #[.int .i64 a0_0, .string a0_1, .int .i64 a0_2] 24 ?_; intro gb101 hg w4 hbox hb; have BK101 := My.am (hbox); have GE101 := My.nge hg (My.bl_ HB); replace HB := My.st HB hb; clear hb hbox hg) | ((with_reducible refine gate_dst (N := 3) rfl ?_); refine My.bx 3 #[.int .i64 a1_0, .string a1_1, .int .i64 a1_2] 24 ?_; intro gb102 hg w5 hbox hb; have BK102 := My.am (hbox); have GE102 := My.nge hg (My.bl_ HB); replace HB := My.st HB hb; obtain ⟨NB101_102, NB102_101, BK101⟩ := My.nb hg hb BK101; clear hb hbox hg; have hnb6 := NB101_102.out; have hnc6 := NB102_101.out; have hq7 := My.cz3 BK101; have hq8 := My.cz3 BK102))
  go_ret
  exact ⟨My.r2, (My.bl_ HB)⟩
 ·rw [if_neg c3] at H
  have c3b0 := decide_eq_false c3
  clear c3
  obtain rfl := Option.some.inj H
  go_enter Tryz.func37, Tryz.ntmps37
  go_wp2_with (first | ((with_reducible refine gate_dst (N := 2) rfl ?_); refine My.bx 2 #[.int .i64 a0_0, .string a0_1, .int .i64 a0_2] 24 ?_; intro gb101 hg w9 hbox hb; have BK101 := My.am (hbox); have GE101 := My.nge hg (My.bl_ HB); replace HB := My.st HB hb; clear hb hbox hg) | ((with_reducible refine gate_dst (N := 3) rfl ?_); refine My.bx 3 #[.int .i64 a1_0, .string a1_1, .int .i64 a1_2] 24 ?_; intro gb102 hg w10 hbox hb; have BK102 := My.am (hbox); have GE102 := My.nge hg (My.bl_ HB); replace HB := My.st HB hb; obtain ⟨NB101_102, NB102_101, BK101⟩ := My.nb hg hb BK101; clear hb hbox hg; have hnb11 := NB101_102.out; have hnc11 := NB102_101.out; have hq12 := My.cz3 BK101; have hq13 := My.cz3 BK102))
  go_ret
  exact ⟨My.r2, (My.bl_ HB)⟩

/-! ### pack_TakeNumber: function 61 -/
mutual
def pack_TakeNumber.j0 : Nat → ByteArray → Int → Bool → Option (Int × Int × Int)
 | 0, _, _, _ => none
 | k + 1, x0, x1, x17 => if x17 = true then (some (0, 0, 2)) else (pack_TakeNumber.l0 k x0 x1 0 0)
def pack_TakeNumber.l0 : Nat → ByteArray → Int → Int → Int → Option (Int × Int × Int)
 | 0, _, _, _, _ => none
 | k + 1, x0, x1, x7, x18 => if x18 < 10 then (if (wrap64 (x1 + x18)) = (x0.size : Int) then (some (0, 0, 10)) else (if 0 ≤ (wrap64 (x1 + x18)) then (if (wrap64 (x1 + x18)) < (x0.size : Int) then (if x18 = 9 then (pack_TakeNumber.j2 k x0 x1 x7 x18 (bt x0 (wrap64 (x1 + x18))) x18 (decide ((bt x0 (wrap64 (x1 + x18))) > 1))) else (pack_TakeNumber.j2 k x0 x1 x7 x18 (bt x0 (wrap64 (x1 + x18))) x18 false)) else (none)) else (none))) else (some (0, 0, 11))
def pack_TakeNumber.j2 : Nat → ByteArray → Int → Int → Int → Int → Int → Bool → Option (Int × Int × Int)
 | 0, _, _, _, _, _, _, _ => none
 | k + 1, x0, x1, x7, x8, x9, x18, x37 => if x37 = true then (some (0, 0, 11)) else (if 0 ≤ (IntKind.u64.wrap (wrap64 (7 * x8))) then (if x9 ≥ 128 then (pack_TakeNumber.l0 k x0 x1 (Go.bits .or .u64 x7 (shl .u64 (IntKind.u64.wrap (Go.bits .and .u8 x9 127)) (IntKind.u64.wrap (wrap64 (7 * x8))))) (wrap64 (x18 + 1))) else (if x9 = 0 then (if x8 > 0 then (some (0, 0, 11)) else (some (Go.bits .or .u64 x7 (shl .u64 (IntKind.u64.wrap (Go.bits .and .u8 x9 127)) (IntKind.u64.wrap (wrap64 (7 * x8)))), wrap64 ((wrap64 (x1 + x8)) + 1), 0))) else (some (Go.bits .or .u64 x7 (shl .u64 (IntKind.u64.wrap (Go.bits .and .u8 x9 127)) (IntKind.u64.wrap (wrap64 (7 * x8)))), wrap64 ((wrap64 (x1 + x8)) + 1), 0)))) else (none))
end
def pack_TakeNumber.f (k : Nat) (a0 : ByteArray) (a1 : Int) : Option (Int × Int × Int) := if a1 < 0 then (pack_TakeNumber.j0 k a0 a1 true) else (pack_TakeNumber.j0 k a0 a1 (decide (a1 > (a0.size : Int))))
theorem pack_TakeNumber.mono_l : ∀ k, (∀ y0 y1 y2, LeO (pack_TakeNumber.j0 k y0 y1 y2) (pack_TakeNumber.j0 (k + 1) y0 y1 y2)) ∧ (∀ y0 y1 y2 y3, LeO (pack_TakeNumber.l0 k y0 y1 y2 y3) (pack_TakeNumber.l0 (k + 1) y0 y1 y2 y3)) ∧ (∀ y0 y1 y2 y3 y4 y5 y6, LeO (pack_TakeNumber.j2 k y0 y1 y2 y3 y4 y5 y6) (pack_TakeNumber.j2 (k + 1) y0 y1 y2 y3 y4 y5 y6))
 | 0 => ⟨fun _ _ _ r h => by simp [pack_TakeNumber.j0] at h, fun _ _ _ _ r h => by simp [pack_TakeNumber.l0] at h, fun _ _ _ _ _ _ _ r h => by simp [pack_TakeNumber.j2] at h⟩
 | k + 1 => by
  obtain ⟨ih0, ih1, ih2⟩ := pack_TakeNumber.mono_l k
  refine ⟨?_, ?_, ?_⟩
  ·intro y0 y1 y2
   unfold pack_TakeNumber.j0
   repeat' (with_reducible first | exact ih0 _ _ _ | exact ih1 _ _ _ _ | exact ih2 _ _ _ _ _ _ _ | exact LeO.refl _ | exact LeO.none _ | apply LeO.ite | refine LeO.bind ?_ (fun _ => ?_))
  ·intro y0 y1 y2 y3
   unfold pack_TakeNumber.l0
   repeat' (with_reducible first | exact ih0 _ _ _ | exact ih1 _ _ _ _ | exact ih2 _ _ _ _ _ _ _ | exact LeO.refl _ | exact LeO.none _ | apply LeO.ite | refine LeO.bind ?_ (fun _ => ?_))
  intro y0 y1 y2 y3 y4 y5 y6
  unfold pack_TakeNumber.j2
  repeat' (with_reducible first | exact ih0 _ _ _ | exact ih1 _ _ _ _ | exact ih2 _ _ _ _ _ _ _ | exact LeO.refl _ | exact LeO.none _ | apply LeO.ite | refine LeO.bind ?_ (fun _ => ?_))
theorem pack_TakeNumber.mono : ∀ a0 a1 k, LeO (pack_TakeNumber.f k a0 a1) (pack_TakeNumber.f (k + 1) a0 a1) := by
 intro a0 a1 k
 obtain ⟨ih0, ih1, ih2⟩ := pack_TakeNumber.mono_l k
 unfold pack_TakeNumber.f
 repeat' (with_reducible first | exact ih0 _ _ _ | exact ih1 _ _ _ _ | exact ih2 _ _ _ _ _ _ _ | exact LeO.refl _ | exact LeO.none _ | apply LeO.ite | refine LeO.bind ?_ (fun _ => ?_))
theorem pack_TakeNumber.calls (k : Nat) (a0 : ByteArray) (a1 : Int) (r1 : Int) (r2 : Int) (r3 : Int) (w : World) (h : pack_TakeNumber.f k a0 a1 = some (r1, r2, r3)) :
  Calls Tryz.prog 61 #[.string a0, .int .i64 a1] w fun e w' => e = .returned (.tuple #[.int .u64 r1, .int .i64 r2, .int .i64 r3]) ∧ Drawn0 w w' := by
 unfold pack_TakeNumber.f at h
 have H := h
 clear h
 have HC3 := My.am H
 clear H
 go_enter Tryz.func61, Tryz.ntmps61
 go_upto_region 1 with (fail)
 go_cut [17] (fun v17 wc => ∃ (kq : Nat) (x17_2 : Bool), v17 = .bool x17_2 ∧ Aside0 (pack_TakeNumber.j0 kq a0 a1 x17_2 = some (r1, r2, r3)) ∧ Aside0 (kq ≤ k) ∧ Drawn0 w wc)
 case first =>
  have H := HC3.out
  clear HC3
  by_cases c4 : a1 < 0
  ·rw [if_pos c4] at H
   have c4b0 := decide_eq_true c4
   clear c4
   (first | rw [c4b0] | (simp only [i64_w, i32_w]; rw [c4b0]) | skip)
   have H' := My.am H
   clear H
   go_wp2
   go_meet
   case rel => exact ⟨_, (true), My.r1, H', ⟨My.r4⟩, by repeat (first | exact Drawn0.refl _ | apply Drawn0.step)⟩
  ·rw [if_neg c4] at H
   have c4b0 := decide_eq_false c4
   clear c4
   (first | rw [c4b0] | (simp only [i64_w, i32_w]; rw [c4b0]) | skip)
   have H' := My.am H
   clear H
   go_wp2
   go_meet
   case rel => exact ⟨_, (decide (a1 > (a0.size : Int))), My.r1, H', ⟨My.r4⟩, by repeat (first | exact Drawn0.refl _ | apply Drawn0.step)⟩
 case rest =>
  clear HC3
  obtain ⟨kq, x17_2, rfl, HA, HJ2, ⟨mc2, rfl⟩⟩ := hcut
  cases kq with
  | zero => exact absurd HA.out (by simp [pack_TakeNumber.j0])
  | succ kj2 =>
   have H := HA.out
   clear HA
   simp only [pack_TakeNumber.j0] at H
   by_cases c5 : x17_2 = true
   ·subst c5
    rw [if_pos rfl] at H
    simp only [Option.some.injEq, Prod.mk.injEq] at H
    obtain ⟨rfl, rfl, rfl⟩ := H
    go_wp2
    go_ret3
    exact ⟨by first | rfl | (simp; done) | (simp [*]; done), by repeat (first | exact Drawn0.refl _ | apply Drawn0.step)⟩
   replace c5 := Bool.eq_false_iff.mpr c5
   subst c5
   rw [if_neg (show ¬ (false = true) by decide)] at H
   have H' := My.am H
   clear H
   go_wp2
   go_loopg [7, 18] kj2 (fun kq v7 v18 w' => ∃ (x7_2 : Int) (x18_2 : Int), v7 = .int .u64 x7_2 ∧ v18 = .int .i64 x18_2 ∧ Aside0 (pack_TakeNumber.l0 kq a0 a1 x7_2 x18_2 = some (r1, r2, r3)) ∧ Aside0 (kq ≤ kj2) ∧ Drawn0 w w')
   case atStart => exact ⟨(0), (0), My.r1, My.r1, H', ⟨Nat.le_refl _⟩, by repeat (first | exact Drawn0.refl _ | apply Drawn0.step)⟩
   case round =>
    clear H'
    try clear c5
    obtain ⟨x7_2, x18_2, rfl, rfl, HA, HK2, ⟨m2, rfl⟩⟩ := hrel
    cases gk with
    | zero => exact absurd HA.out (by simp [pack_TakeNumber.l0])
    | succ k2 =>
     have H := HA.out
     clear HA
     simp only [pack_TakeNumber.l0] at H
     by_cases c6 : x18_2 < 10
     rotate_left
     ·rw [if_neg c6] at H
      have c6b0 := decide_eq_false c6
      clear c6
      simp only [Option.some.injEq, Prod.mk.injEq] at H
      obtain ⟨rfl, rfl, rfl⟩ := H
      go_wp2
      go_ret3
      exact ⟨by first | rfl | (simp; done) | (simp [*]; done), by repeat (first | exact Drawn0.refl _ | apply Drawn0.step)⟩

     rw [if_pos c6] at H
     have c6b0 := decide_eq_true c6
     clear c6
     by_cases c7 : (wrap64 (a1 + x18_2)) = (a0.size : Int)
     ·rw [if_pos c7] at H
      have c7b0 : ((wrap64 (a1 + x18_2)) == (a0.size : Int)) = true := beq_iff_eq.mpr c7
      have c7b1 : ((wrap64 (a1 + x18_2)) != (a0.size : Int)) = false := bne_eq_false_iff_eq.mpr c7
      clear c7
      simp only [Option.some.injEq, Prod.mk.injEq] at H
      obtain ⟨rfl, rfl, rfl⟩ := H
      go_wp2
      go_ret3
      exact ⟨by first | rfl | (simp; done) | (simp [*]; done), by repeat (first | exact Drawn0.refl _ | apply Drawn0.step)⟩
     rw [if_neg c7] at H
     have c7b0 : ((wrap64 (a1 + x18_2)) == (a0.size : Int)) = false := beq_eq_false_iff_ne.mpr c7
     have c7b1 : ((wrap64 (a1 + x18_2)) != (a0.size : Int)) = true := bne_iff_ne.mpr c7
     obtain ⟨ji8, hji8⟩ : ∃ j_ : Int, (wrap64 (a1 + x18_2)) = j_ := ⟨_, rfl⟩
     replace H : (if 0 ≤ (ji8) then (if (ji8) < (a0.size : Int) then (if x18_2 = 9 then (pack_TakeNumber.j2 k2 a0 a1 x7_2 x18_2 (bt a0 (ji8)) x18_2 (decide ((bt a0 (ji8)) > 1))) else (pack_TakeNumber.j2 k2 a0 a1 x7_2 x18_2 (bt a0 (ji8)) x18_2 false)) else (none)) else (none)) = some (r1, r2, r3) := by first | (rw [hji8] at H; exact H) | (simp only [hji8] at H ⊢; exact H)
     (try rw [hji8] at c7b0)
     (try rw [hji8] at c7b1)
     have hji8w : (IntKind.i64.wrap (a1 + x18_2)) = ji8 := (i64_w _).trans hji8
     replace H := My.ds H
     obtain ⟨c9b0, H⟩ := H
     replace H := My.ds H
     obtain ⟨c10b0, H⟩ := H
     have HC12 := My.am H
     clear H
     have p11 : 0 ≤ ((ji8) : Int) := My.as_
     have q11 : (ji8) < (a0.size : Int) := My.as_
     have hx11 := bt_at a0 (ji8)
     replace p11 := eq_true p11
     replace q11 := eq_true q11
     go_upto_region 10 with (fail)
     go_cut [37] (fun v37 wc => ∃ (kq : Nat) (x37_11 : Bool), v37 = .bool x37_11 ∧ Aside0 (pack_TakeNumber.j2 kq a0 a1 x7_2 x18_2 (bt a0 (ji8)) x18_2 x37_11 = some (r1, r2, r3)) ∧ Aside0 (kq ≤ k2) ∧ Drawn0 w wc)
     case first =>
      have H := HC12.out
      clear HC12
      by_cases c13 : x18_2 = 9
      ·rw [if_pos c13] at H
       have c13b0 : (x18_2 == 9) = true := beq_iff_eq.mpr c13
       have c13b1 : (x18_2 != 9) = false := bne_eq_false_iff_eq.mpr c13
       clear c13
       (first | rw [c13b0] | (simp only [i64_w, i32_w]; rw [c13b0]) | skip)
       have H' := My.am H
       clear H
       go_wp2
       go_meet
       case rel => exact ⟨_, (decide ((bt a0 (ji8)) > 1)), (by first | rfl | (simp; done) | (simp only [← hji8] <;> (first | rfl | simp)) | (simp [*]; done)), H', ⟨by have := HJ2.out; have := HK2.out; first | omega | exact Nat.le_refl _⟩, by repeat (first | exact Drawn0.refl _ | apply Drawn0.step)⟩
      rw [if_neg c13] at H
      have c13b0 : (x18_2 == 9) = false := beq_eq_false_iff_ne.mpr c13
      have c13b1 : (x18_2 != 9) = true := bne_iff_ne.mpr c13
      (first | rw [c13b0] | (simp only [i64_w, i32_w]; rw [c13b0]) | skip)
      have H' := My.am H
      clear H
      go_wp2
      go_meet
      case rel => exact ⟨_, (false), My.r1, H', ⟨by have := HJ2.out; have := HK2.out; first | omega | exact Nat.le_refl _⟩, by repeat (first | exact Drawn0.refl _ | apply Drawn0.step)⟩
     case rest =>
      clear HC12
      try clear c5
      try clear c6
      try clear c6b0
      try clear c7
      try clear c7b0
      try clear c7b1
      try clear c9b0
      try clear c10b0
      try clear p11
      try clear q11
      try clear hx11
      try clear p11
      try clear q11
      obtain ⟨kq, x37_11, rfl, HA, HJ11, ⟨mc11, rfl⟩⟩ := hcut
      cases kq with
      | zero => exact absurd HA.out (by simp [pack_TakeNumber.j2])
      | succ kj11 =>
       have H := HA.out
       clear HA
       simp only [pack_TakeNumber.j2] at H
       by_cases c14 : x37_11 = true
       ·subst c14
        rw [if_pos rfl] at H
        simp only [Option.some.injEq, Prod.mk.injEq] at H
        obtain ⟨rfl, rfl, rfl⟩ := H
        go_wp2
        go_ret3
        exact ⟨by first | rfl | (simp; done) | (simp only [← hji8] <;> (first | rfl | simp)) | (simp [*]; done), by repeat (first | exact Drawn0.refl _ | apply Drawn0.step)⟩
       replace c14 := Bool.eq_false_iff.mpr c14
       subst c14
       rw [if_neg (show ¬ (false = true) by decide)] at H
       obtain ⟨ji15, hji15⟩ : ∃ j_ : Int, (IntKind.u64.wrap (wrap64 (7 * x18_2))) = j_ := ⟨_, rfl⟩
       replace H : (if 0 ≤ (ji15) then (if (bt a0 (ji8)) ≥ 128 then (pack_TakeNumber.l0 kj11 a0 a1 (Go.bits .or .u64 x7_2 (shl .u64 (IntKind.u64.wrap (Go.bits .and .u8 (bt a0 (ji8)) 127)) (ji15))) (wrap64 (x18_2 + 1))) else (if (bt a0 (ji8)) = 0 then (if x18_2 > 0 then (some (0, 0, 11)) else (some (Go.bits .or .u64 x7_2 (shl .u64 (IntKind.u64.wrap (Go.bits .and .u8 (bt a0 (ji8)) 127)) (ji15)), wrap64 ((wrap64 (a1 + x18_2)) + 1), 0))) else (some (Go.bits .or .u64 x7_2 (shl .u64 (IntKind.u64.wrap (Go.bits .and .u8 (bt a0 (ji8)) 127)) (ji15)), wrap64 ((wrap64 (a1 + x18_2)) + 1), 0)))) else (none)) = some (r1, r2, r3) := by first | (rw [hji15] at H; exact H) | (simp only [hji15] at H ⊢; exact H)
       by_cases c16 : 0 ≤ (ji15)
       rotate_left
       ·exact My.nn c16 H
       rw [if_pos c16] at H
       have c16b0 := eq_true c16
       have c16b1 := decide_eq_true c16
       clear c16
       obtain ⟨ji17, hji17⟩ : ∃ j_ : Int, (shl .u64 (IntKind.u64.wrap (Go.bits .and .u8 (bt a0 (ji8)) 127)) (ji15)) = j_ := ⟨_, rfl⟩
       replace H : (if (bt a0 (ji8)) ≥ 128 then (pack_TakeNumber.l0 kj11 a0 a1 (Go.bits .or .u64 x7_2 (ji17)) (wrap64 (x18_2 + 1))) else (if (bt a0 (ji8)) = 0 then (if x18_2 > 0 then (some (0, 0, 11)) else (some (Go.bits .or .u64 x7_2 (ji17), wrap64 ((wrap64 (a1 + x18_2)) + 1), 0))) else (some (Go.bits .or .u64 x7_2 (ji17), wrap64 ((wrap64 (a1 + x18_2)) + 1), 0)))) = some (r1, r2, r3) := by first | (rw [hji17] at H; exact H) | (simp only [hji17] at H ⊢; exact H)
       have hji17_ : (IntKind.u64.wrap ((IntKind.u64.wrap (Go.bits .and .u8 (bt a0 (ji8)) 127)) * 2 ^ min (ji15).toNat 64)) = ji17 := hji17
       have hji17z : (ji15) ≤ 64 → (IntKind.u64.wrap ((IntKind.u64.wrap (Go.bits .and .u8 (bt a0 (ji8)) 127)) * 2 ^ (ji15).toNat)) = ji17 := shl_small hji17
       by_cases c18 : (bt a0 (ji8)) ≥ 128
       ·rw [if_pos c18] at H
        have c18b0 : decide (128 ≤ (bt a0 (ji8))) = true := decide_eq_true c18
        clear c18
        have H' := My.am H
        clear H
        go_wp2
        go_roundg kj11
        case measure => have := HJ2.out; have := HK2.out; have := HJ11.out; omega
        case rel => exact ⟨(Go.bits .or .u64 x7_2 (ji17)), (wrap64 (x18_2 + 1)), (by first | rfl | (simp; done) | (simp only [← hji17] <;> (first | rfl | simp)) | (simp [*]; done)), My.r1, H', ⟨by have := HJ2.out; have := HK2.out; have := HJ11.out; omega⟩, by repeat (first | exact Drawn0.refl _ | apply Drawn0.step)⟩
       rw [if_neg c18] at H
       have c18b0 : decide (128 ≤ (bt a0 (ji8))) = false := decide_eq_false c18
       clear c18
       by_cases c19 : (bt a0 (ji8)) = 0
       ·rw [if_pos c19] at H
        have c19b0 : ((bt a0 (ji8)) == 0) = true := beq_iff_eq.mpr c19
        have c19b1 : ((bt a0 (ji8)) != 0) = false := bne_eq_false_iff_eq.mpr c19
        clear c19
        by_cases c20 : x18_2 > 0
        ·rw [if_pos c20] at H
         have c20b0 : decide (0 < x18_2) = true := decide_eq_true c20
         clear c20
         simp only [Option.some.injEq, Prod.mk.injEq] at H
         obtain ⟨rfl, rfl, rfl⟩ := H
         go_wp2
         go_ret3
         exact ⟨by first | rfl | (simp; done) | (simp only [← hji8, ← hji15, ← hji17] <;> (first | rfl | simp)) | (simp [*]; done), by repeat (first | exact Drawn0.refl _ | apply Drawn0.step)⟩
        rw [if_neg c20] at H
        have c20b0 : decide (0 < x18_2) = false := decide_eq_false c20
        clear c20
        simp only [Option.some.injEq, Prod.mk.injEq] at H
        obtain ⟨rfl, rfl, rfl⟩ := H
        go_wp2
        go_ret3
        exact ⟨by first | rfl | (simp; done) | (simp only [← hji8, ← hji15, ← hji17] <;> (first | rfl | simp)) | (simp [*]; done), by repeat (first | exact Drawn0.refl _ | apply Drawn0.step)⟩
       rw [if_neg c19] at H
       have c19b0 : ((bt a0 (ji8)) == 0) = false := beq_eq_false_iff_ne.mpr c19
       have c19b1 : ((bt a0 (ji8)) != 0) = true := bne_iff_ne.mpr c19
       simp only [Option.some.injEq, Prod.mk.injEq] at H
       obtain ⟨rfl, rfl, rfl⟩ := H
       go_wp2
       go_ret3
       exact ⟨by first | rfl | (simp; done) | (simp only [← hji8, ← hji15, ← hji17] <;> (first | rfl | simp)) | (simp [*]; done), by repeat (first | exact Drawn0.refl _ | apply Drawn0.step)⟩
/-! ### seal_eight: function 62 -/

def seal_eight.f (n : Int) : Option ByteArray := some (strOfNums [n % 256, n / 256 % 256, n / 65536 % 256, n / 16777216 % 256, n / 4294967296 % 256, n / 1099511627776 % 256, n / 281474976710656 % 256, n / 72057594037927936 % 256])
theorem seal_eight.calls (n : Int) (r : ByteArray) (w : World) (h : seal_eight.f n = some r) :
  Calls Tryz.prog 62 #[.int .u64 n] w fun e w' => e = .returned (.string r) ∧ Below w.heap.size w w' := by
 obtain rfl := Option.some.inj h
 clear h
 have hcv := run_convert_bytes_arg (P := Tryz.prog) (w.alloc (.cells #[.int .u8 (n % 256), .int .u8 (n / 256 % 256), .int .u8 (n / 65536 % 256), .int .u8 (n / 16777216 % 256), .int .u8 (n / 4294967296 % 256), .int .u8 (n / 1099511627776 % 256), .int .u8 (n / 281474976710656 % 256), .int .u8 (n / 72057594037927936 % 256)] 129)) 124 5 Tryz.underlying124 Tryz.underlying5 w.heap.size 0 8 8
  [n % 256, n / 256 % 256, n / 65536 % 256, n / 16777216 % 256, n / 4294967296 % 256, n / 1099511627776 % 256, n / 281474976710656 % 256, n / 72057594037927936 % 256] rfl (fun i hi => by
   rw [blk_cell (blk_new w _)]
   match i with
   | 0 | 1 | 2 | 3 | 4 | 5 | 6 | 7 => rfl
   | i + 8 => omega) 9 Tryz.underlying9
 have HCV := My.am hcv
 clear hcv
 go_enter Tryz.func62, Tryz.ntmps62
 go_wp2
 go_rounds 9
 rw [HCV.out]
 go_wp2
 go_ret
 exact ⟨rfl, below_alloc (Below.refl _ _) _⟩


/-! ### seal_table: function 80 -/

def seal_tab : List Int := [0, 9051005139383707209, 18102010278767414418, 9704381199536204507, 7257036000092981153, 1814259000023245288, 11493583972846619443, 16292555063049989498, 14514072000185962306, 13040162471224305931, 3628518000046490576, 5746791986423309721, 12527462061959317731, 15006518869663149738, 6263731030979658865, 3131865515489829432]
set_option maxHeartbeats 4000000 in
theorem seal_table.calls (w : World) : Calls Tryz.prog 80 #[] w fun e w' => e = .returned (.agg #[.int .u64 0, .int .u64 9051005139383707209, .int .u64 18102010278767414418, .int .u64 9704381199536204507, .int .u64 7257036000092981153, .int .u64 1814259000023245288, .int .u64 11493583972846619443, .int .u64 16292555063049989498, .int .u64 14514072000185962306, .int .u64 13040162471224305931, .int .u64 3628518000046490576, .int .u64 5746791986423309721, .int .u64 12527462061959317731, .int .u64 15006518869663149738, .int .u64 6263731030979658865, .int .u64 3131865515489829432]) ∧ Below w.heap.size w w' := by
 go_enter Tryz.func80, Tryz.ntmps80
 go_wp2
 refine bodyPost_ret (v := (.agg #[.int .u64 0, .int .u64 9051005139383707209, .int .u64 18102010278767414418, .int .u64 9704381199536204507, .int .u64 7257036000092981153, .int .u64 1814259000023245288, .int .u64 11493583972846619443, .int .u64 16292555063049989498, .int .u64 14514072000185962306, .int .u64 13040162471224305931, .int .u64 3628518000046490576, .int .u64 5746791986423309721, .int .u64 12527462061959317731, .int .u64 15006518869663149738, .int .u64 6263731030979658865, .int .u64 3131865515489829432])) ?_ rfl ⟨rfl, below_alloc (Below.refl _ _) _⟩
 simp [results, Tryz.results80, go_sem]


/-! ### seal_Sum: function 63 -/

def seal_half (r : Int) : Int := Go.bits .xor .u64 (r / 16) (rd seal_tab (Go.bits .and .u64 r 15))
mutual
def seal_Sum.l0 : Nat → List ByteArray → Int → Int → Option Int
 | 0, _, _, _ => none
 | k + 1, x0, r, i => if i < (x0.length : Int) then (if 0 ≤ i then (seal_Sum.l1 k x0 (rdOf ByteArray.empty x0 i) r i 0) else none) else (some (Go.bits .xor .u64 Go.IntKind.u64.max r))
def seal_Sum.l1 : Nat → List ByteArray → ByteArray → Int → Int → Int → Option Int
 | 0, _, _, _, _, _ => none
 | k + 1, x0, s, r, i, j => if j < (s.size : Int) then (if 0 ≤ j then (seal_Sum.l1 k x0 s (seal_half (seal_half (Go.bits .xor .u64 r (IntKind.u64.wrap (bt s j))))) i (wrap64 (j + 1))) else none) else (seal_Sum.l0 k x0 r (wrap64 (i + 1)))
end
def seal_Sum.f (k : Nat) (l0 : List ByteArray) : Option Int := seal_Sum.l0 k l0 18446744073709551615 0
theorem seal_Sum.mono_l : ∀ k, (∀ y0 y1 y2, LeO (seal_Sum.l0 k y0 y1 y2) (seal_Sum.l0 (k + 1) y0 y1 y2)) ∧ (∀ y0 y1 y2 y3 y4, LeO (seal_Sum.l1 k y0 y1 y2 y3 y4) (seal_Sum.l1 (k + 1) y0 y1 y2 y3 y4))
 | 0 => ⟨fun _ _ _ r h => by simp [seal_Sum.l0] at h, fun _ _ _ _ _ r h => by simp [seal_Sum.l1] at h⟩
 | k + 1 => by
  obtain ⟨ih0, ih1⟩ := seal_Sum.mono_l k
  refine ⟨?_, ?_⟩
  ·intro y0 y1 y2
   unfold seal_Sum.l0
   repeat' first
    | (with_reducible exact ih1 _ _ _ _ _)
    | (with_reducible exact LeO.refl _)
    | (with_reducible exact LeO.none _)
    | (with_reducible refine LeO.ite ?_ ?_)
  intro y0 y1 y2 y3 y4
  unfold seal_Sum.l1
  repeat' first
   | (with_reducible exact ih0 _ _ _)
   | (with_reducible exact ih1 _ _ _ _ _)
   | (with_reducible exact LeO.refl _)
   | (with_reducible exact LeO.none _)
   | (with_reducible refine LeO.ite ?_ ?_)
theorem seal_Sum.mono : ∀ a0 k, LeO (seal_Sum.f k a0) (seal_Sum.f (k + 1) a0) := fun a0 k => (seal_Sum.mono_l k).1 _ _ _
theorem and15 (r : Int) : 0 ≤ Go.bits .and .u64 r 15 ∧ Go.bits .and .u64 r 15 < 16 := by
 unfold Go.bits
 have h : (BitVec.ofInt 64 r &&& BitVec.ofInt 64 15).toNat ≤ 15 := by
  rw [BitVec.toNat_and]
  exact Nat.le_trans Nat.and_le_right (by decide)
 have e : IntKind.u64.wrap (((BitVec.ofInt 64 r &&& BitVec.ofInt 64 15).toNat : Nat) : Int) = (((BitVec.ofInt 64 r &&& BitVec.ofInt 64 15).toNat : Nat) : Int) := by
  simp only [IntKind.wrap, IntKind.bits, IntKind.signed]
  have h2 : ((((BitVec.ofInt 64 r &&& BitVec.ofInt 64 15).toNat : Nat) : Int)) % 18446744073709551616 = (((BitVec.ofInt 64 r &&& BitVec.ofInt 64 15).toNat : Nat) : Int) := by omega
  simpa using h2
 show 0 ≤ IntKind.u64.wrap (((BitVec.ofInt 64 r &&& BitVec.ofInt 64 15).toNat : Nat) : Int) ∧ IntKind.u64.wrap (((BitVec.ofInt 64 r &&& BitVec.ofInt 64 15).toNat : Nat) : Int) < 16
 rw [e]
 omega
theorem seal_Sum.calls (k : Nat) (A0 : Option Addr) (c0 : Nat) (l0 : List ByteArray) (r : Int) (w : World) (hr0 : Kd.C Kd.string w A0 l0.length l0) (hc0 : l0.length ≤ c0) (h : seal_Sum.f k l0 = some r) :
  Calls Tryz.prog 63 #[.slice A0 l0.length c0] w fun e w' => e = .returned (.int .u64 r) ∧ Below w.heap.size w w' := by
 have HR0 := My.am hr0
 clear hr0
 have H' : Aside0 (seal_Sum.l0 k l0 18446744073709551615 0 = some r) := ⟨h⟩
 clear h
 go_enter Tryz.func63, Tryz.ntmps63
 go_wp2_with ((with_reducible refine gate_callee (f := 80) rfl ?_); refine goesL_ (some 8) rfl rfl Tryz.func80 (by kernel_rfl) rfl #[] rfl (by (try simp only [List.map_toArray, List.map_cons, List.map_nil]); first | done | rfl) ?_; (with_reducible refine (seal_table.calls _).mono ?_); rintro e w1 ⟨rfl, hb⟩; refine ⟨_, rfl, ?_⟩; have HB1 := My.am hb; clear hb)
 have HT : Aside0 (∀ i : Int, 0 ≤ i → i < 16 → (w1.alloc (.cells #[.int .u64 0, .int .u64 9051005139383707209, .int .u64 18102010278767414418, .int .u64 9704381199536204507, .int .u64 7257036000092981153, .int .u64 1814259000023245288, .int .u64 11493583972846619443, .int .u64 16292555063049989498, .int .u64 14514072000185962306, .int .u64 13040162471224305931, .int .u64 3628518000046490576, .int .u64 5746791986423309721, .int .u64 12527462061959317731, .int .u64 15006518869663149738, .int .u64 6263731030979658865, .int .u64 3131865515489829432] 130)).cell? ⟨w1.heap.size, i.toNat, none⟩ = some (.int .u64 (rd seal_tab i))) := by
  refine ⟨fun i h0 h1 => ?_⟩
  rw [blk_cell (blk_new w1 _)]
  obtain ⟨n, rfl⟩ := Int.eq_ofNat_of_zero_le h0
  have hn : n < 16 := by omega
  clear h0 h1
  revert hn
  rw [Int.toNat_natCast]
  match n with
  | 0 | 1 | 2 | 3 | 4 | 5 | 6 | 7 | 8 | 9 | 10 | 11 | 12 | 13 | 14 | 15 => intro _; rfl
  | n + 16 => intro h; omega
 have HC := My.am (Kd.C_alloc (Kd.C_below HR0.out HB1.out) (.cells #[.int .u64 0, .int .u64 9051005139383707209, .int .u64 18102010278767414418, .int .u64 9704381199536204507, .int .u64 7257036000092981153, .int .u64 1814259000023245288, .int .u64 11493583972846619443, .int .u64 16292555063049989498, .int .u64 14514072000185962306, .int .u64 13040162471224305931, .int .u64 3628518000046490576, .int .u64 5746791986423309721, .int .u64 12527462061959317731, .int .u64 15006518869663149738, .int .u64 6263731030979658865, .int .u64 3131865515489829432] 130))
 have HB := My.am (below_alloc HB1.out (.cells #[.int .u64 0, .int .u64 9051005139383707209, .int .u64 18102010278767414418, .int .u64 9704381199536204507, .int .u64 7257036000092981153, .int .u64 1814259000023245288, .int .u64 11493583972846619443, .int .u64 16292555063049989498, .int .u64 14514072000185962306, .int .u64 13040162471224305931, .int .u64 3628518000046490576, .int .u64 5746791986423309721, .int .u64 12527462061959317731, .int .u64 15006518869663149738, .int .u64 6263731030979658865, .int .u64 3131865515489829432] 130))
 clear HR0 HB1
 generalize w1.alloc _ = w2 at HT HC HB ⊢
 generalize w1.heap.size = g at HT ⊢
 go_loopg [4, 11] k (fun kq v4 v11 w' => ∃ (x4 x11 : Int), v4 = .int .u64 x4 ∧ v11 = .int .i64 x11 ∧ Aside0 (seal_Sum.l0 kq l0 x4 x11 = some r) ∧ Aside0 (kq ≤ k) ∧ w2 = w')
 case atStart => exact ⟨_, _, rfl, rfl, H', ⟨Nat.le_refl _⟩, rfl⟩
 case round =>
  clear H'
  obtain ⟨x4, x11, rfl, rfl, HA, HK1, rfl⟩ := hrel
  cases gk with
  | zero => exact absurd HA.out (by simp [seal_Sum.l0])
  | succ k1 =>
   have H := HA.out
   clear HA
   simp only [seal_Sum.l0] at H
   by_cases c2 : x11 < (l0.length : Int)
   rotate_left
   ·rw [if_neg c2] at H
    have c2b0 := decide_eq_false c2
    clear c2
    obtain rfl := Option.some.inj H
    go_wp2
    go_ret
    exact ⟨rfl, HB.out⟩


   rw [if_pos c2] at H
   by_cases c3 : 0 ≤ x11
   rotate_left
   ·rw [if_neg c3] at H
    cases H
   rw [if_pos c3] at H
   have c2b0 := decide_eq_true c2
   have H' := My.am H
   clear H
   obtain ⟨ad, e0, hx⟩ := Kd.at_string HC.out x11 c3 c2
   cases e0
   have p1 : (0 ≤ x11) = True := eq_true c3
   have q1 : (x11 < (l0.length : Int)) = True := eq_true c2
   clear c2 c3
   go_wp2
   go_loopg [4, 17] k1 (fun kq v4 v17 w' => ∃ (y4 y17 : Int), v4 = .int .u64 y4 ∧ v17 = .int .i64 y17 ∧ Aside0 (seal_Sum.l1 kq l0 (rdOf ByteArray.empty l0 x11) y4 x11 y17 = some r) ∧ Aside0 (kq ≤ k1) ∧ w2 = w')
   case atStart => exact ⟨_, _, rfl, rfl, H', ⟨Nat.le_refl _⟩, rfl⟩
   case round =>
    clear H'
    obtain ⟨y4, y17, rfl, rfl, HA, HK2, rfl⟩ := hrel
    cases gk with
    | zero => exact absurd HA.out (by simp [seal_Sum.l1])
    | succ k2 =>
     have H := HA.out
     clear HA
     simp only [seal_Sum.l1] at H
     by_cases c4 : y17 < ((rdOf ByteArray.empty l0 x11).size : Int)
     rotate_left
     ·rw [if_neg c4] at H
      have c4b0 := decide_eq_false c4
      have H' := My.am H
      clear H c4
      go_wp2
      go_roundg k2
      case measure => have := HK1.out; have := HK2.out; omega
      case rel => exact ⟨_, _, rfl, rfl, H', ⟨by have := HK1.out; have := HK2.out; omega⟩, rfl⟩
     rw [if_pos c4] at H
     by_cases c5 : 0 ≤ y17
     rotate_left
     ·rw [if_neg c5] at H
      cases H
     rw [if_pos c5] at H
     have c4b0 := decide_eq_true c4
     have H' := My.am H
     clear H
     have hx6 := bt_at (rdOf ByteArray.empty l0 x11) y17
     have p6 : (0 ≤ y17) = True := eq_true c5
     have q6 : (y17 < ((rdOf ByteArray.empty l0 x11).size : Int)) = True := eq_true c4
     clear c4 c5
     have a1 := and15 (Go.bits .xor .u64 y4 (IntKind.u64.wrap (bt (rdOf ByteArray.empty l0 x11) y17)))
     have a2 := and15 (seal_half (Go.bits .xor .u64 y4 (IntKind.u64.wrap (bt (rdOf ByteArray.empty l0 x11) y17))))
     have d1 := HT.out _ a1.1 a1.2
     have d2 := HT.out _ a2.1 a2.2
     have a1p := eq_true a1.1
     have a1q := eq_true a1.2
     have a2p := eq_true a2.1
     have a2q := eq_true a2.2
     clear a1 a2
     unfold seal_half at d2 a2p a2q
     go_wp2
     go_roundg k2
     case measure => have := HK1.out; have := HK2.out; omega
     case rel => exact ⟨_, _, rfl, rfl, H', ⟨by have := HK1.out; have := HK2.out; omega⟩, rfl⟩
end Go.Proofs.YtkcpgaplpmbmoaaGreat.PA
