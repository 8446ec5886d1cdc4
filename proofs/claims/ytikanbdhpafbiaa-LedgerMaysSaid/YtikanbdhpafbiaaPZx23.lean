-- Written by a program of this session (wip/tools/mp.py over the kit's printer); Lean checks it.
import Derived.Test.YtikanbdhpafbiaaPZx0
import Derived.Test.YtikanbdhpafbiaaPZx18
import Derived.Test.YtikanbdhpafbiaaPZx21
import Derived.Test.YtikanbdhpafbiaaPZx22
namespace Go.Proofs.Ytikanbdhpafbiaa.PZ
open Go.RowKit Go.Proofs.YtikanbdhpafbiaaW.PrintWords Go.Proofs.YtikanbdhpafbiaaW.PrintLast Go.Proofs.YtikanbdhpafbiaaW.PrintMore
attribute [local go_sem] max2_int min2_int max_two min_two max_three min_three max_four min_four   -- for this text's walks alone
set_option linter.unusedVariables false
set_option maxHeartbeats 8000000
set_option maxRecDepth 100000
set_option linter.unusedSimpArgs false

/-! ### ententeref07_Net: function 24 -/
def ententeref07_Net.l0 : Nat → ByteArray → ByteArray → List Int → List Int → Int → List (S51) → List (S64) → Option (Int × Int × Int)
 | 0, _, _, _, _, _, _, _ => none
 | k + 1, x1, x2, x9, x10, x11, x485000, x485001 => if x11 < (x485001.length : Int) then (if 0 ≤ x11 then (if ((rd_T64 x485001 x11).f1.f1).toList = x1.toList then (if ((rd_T64 x485001 x11).f2) = 2 then (ententeref07_Net.l0 k x1 x2 x9 x10 (wrap64 (x11 + 1)) x485000 x485001) else (if (((rd_T64 x485001 x11).f0).size : Int) < (x2.size : Int) then (ententeref07_Net.l0 k x1 x2 x9 x10 (wrap64 (x11 + 1)) x485000 x485001) else (if 0 ≤ (x2.size : Int) then (if (x2.size : Int) ≤ (((rd_T64 x485001 x11).f0).size : Int) then (if (((rd_T64 x485001 x11).f0).extract 0 ((x2.size : Int) : Int).toNat).toList = x2.toList then ((ententeref06_Delta.f k ((rd_T64 x485001 x11).f1.f0) ((rd_T64 x485001 x11).f1.f1) ((rd_T64 x485001 x11).f1.f2)).bind fun bt489 => (if x9.length < 17592186044416 then (if x10.length < 17592186044416 then (ententeref07_Net.l0 k x1 x2 (x9 ++ [bt489.1]) (x10 ++ [bt489.2]) (wrap64 (x11 + 1)) x485000 x485001) else (none)) else (none))) else (ententeref07_Net.l0 k x1 x2 x9 x10 (wrap64 (x11 + 1)) x485000 x485001)) else (none)) else (none)))) else (ententeref07_Net.l0 k x1 x2 x9 x10 (wrap64 (x11 + 1)) x485000 x485001)) else (none)) else ((ententeref04_Sum.f k x9).bind fun bt497 => ((ententeref04_Sum.f k x10).bind fun bt499 => (if bt497.2 = 0 then (if bt499.2 = 0 then (some (bt497.1, bt499.1, 0)) else (some (0, 0, 40))) else (some (0, 0, 40)))))
def ententeref07_Net.f (k : Nat) (l0_0 : List (S51)) (l0_1 : List (S64)) (a1 : ByteArray) (a2 : ByteArray) : Option (Int × Int × Int) := (ententeref07_May.f k l0_0 l0_1).bind fun t485 => (if t485 = 0 then ((ententeref07_Account.f k l0_0 l0_1 a1).bind fun t486 => (if t486 < 0 then (some (0, 0, 70)) else (ententeref07_Net.l0 k a1 a2 ([] : List Int) ([] : List Int) 0 l0_0 l0_1))) else (some (0, 0, 2)))
theorem ententeref07_Net.mono_l : ∀ k, (∀ y0 y1 y2 y3 y4 y5 y6, LeO (ententeref07_Net.l0 k y0 y1 y2 y3 y4 y5 y6) (ententeref07_Net.l0 (k + 1) y0 y1 y2 y3 y4 y5 y6))
 | 0 => fun _ _ _ _ _ _ _ r h => by simp [ententeref07_Net.l0] at h
 | k + 1 => by
  have ih0 := ententeref07_Net.mono_l k
  intro y0 y1 y2 y3 y4 y5 y6
  unfold ententeref07_Net.l0
  repeat' (with_reducible first | exact ih0 _ _ _ _ _ _ _ | exact ententeref04_Sum.mono _ _ | exact ententeref06_Delta.mono _ _ _ _ | exact ententeref07_Account.mono _ _ _ _ | exact ententeref07_May.mono _ _ _ | exact LeO.refl _ | exact LeO.none _ | apply LeO.ite | refine LeO.bind ?_ (fun _ => ?_))
theorem ententeref07_Net.mono : ∀ a0 a1 a2 a3 k, LeO (ententeref07_Net.f k a0 a1 a2 a3) (ententeref07_Net.f (k + 1) a0 a1 a2 a3) := by
 intro a0 a1 a2 a3 k
 have ih0 := ententeref07_Net.mono_l k
 unfold ententeref07_Net.f
 repeat' (with_reducible first | exact ih0 _ _ _ _ _ _ _ | exact ententeref04_Sum.mono _ _ | exact ententeref06_Delta.mono _ _ _ _ | exact ententeref07_Account.mono _ _ _ _ | exact ententeref07_May.mono _ _ _ | exact LeO.refl _ | exact LeO.none _ | apply LeO.ite | refine LeO.bind ?_ (fun _ => ?_))
theorem ententeref07_Net.calls (k : Nat) (A0_0 : Option Addr) (c0_0 : Nat) (l0_0 : List (S51)) (A0_1 : Option Addr) (c0_1 : Nat) (l0_1 : List (S64)) (a1 : ByteArray) (a2 : ByteArray) (r1 : Int) (r2 : Int) (r3 : Int) (w : World) (hr0_0 : Kd.C k51 w A0_0 l0_0.length l0_0) (hc0_0 : l0_0.length ≤ c0_0) (hr0_1 : Kd.C k64 w A0_1 l0_1.length l0_1) (hc0_1 : l0_1.length ≤ c0_1) (h : ententeref07_Net.f k l0_0 l0_1 a1 a2 = some (r1, r2, r3)) :
  Calls Try.prog 24 #[.agg #[.slice A0_0 l0_0.length c0_0, .slice A0_1 l0_1.length c0_1], .string a1, .string a2] w fun e w' => e = .returned (.tuple #[.int .i64 r1, .int .i64 r2, .int .i64 r3]) ∧ Below w.heap.size w w' := by
 have hu25 := Try.underlying25
 have hu64 := Try.underlying64
 have hu27 := Try.underlying27
 have HR0_0 := My.am hr0_0
 have HC0_0 := My.am hc0_0
 clear hr0_0 hc0_0
 have HR0_1 := My.am hr0_1
 have HC0_1 := My.am hc0_1
 clear hr0_1 hc0_1
 have HB := My.am (Below.refl w.heap.size w)
 unfold ententeref07_Net.f at h
 have H := h
 clear h
 replace H := Option.bind_eq_some_iff.mp H
 obtain ⟨t485, A40, H⟩ := H
 try dsimp only at H
 have A4 := My.am A40
 clear A40
 by_cases c5 : t485 = 0
 ·rw [if_pos c5] at H
  have c5b0 : (t485 == 0) = true := beq_iff_eq.mpr c5
  have c5b1 : (t485 != 0) = false := bne_eq_false_iff_eq.mpr c5
  clear c5
  replace H := Option.bind_eq_some_iff.mp H
  obtain ⟨t486, A60, H⟩ := H
  try dsimp only at H
  have A6 := My.am A60
  clear A60
  by_cases c7 : t486 < 0
  ·rw [if_pos c7] at H
   have c7b0 := decide_eq_true c7
   clear c7
   simp only [Option.some.injEq, Prod.mk.injEq] at H
   obtain ⟨rfl, rfl, rfl⟩ := H
   go_enter Try.func24, Try.ntmps24
   go_wp2_with (first | ((with_reducible refine gate_dst (N := 3) rfl ?_); (try (refine gate_guard (by rfl) ?_; dsimp only)); refine My.bx 3 #[.slice A0_0 l0_0.length c0_0, .slice A0_1 l0_1.length c0_1] 25 ?_; intro gb484 hg w8 hbox hb; have BK484 := My.am (hbox); have GE484 := My.nge hg (My.bl_ HB); replace HB := My.st HB hb; clear hb hbox hg; have hq9 := My.cz2 BK484) | ((with_reducible refine gate_callee (f := 25) rfl ?_); refine goesL_ (some 20) rfl rfl Try.func25 (by kernel_rfl) rfl #[.agg #[.slice A0_0 l0_0.length c0_0, .slice A0_1 l0_1.length c0_1]] rfl My.gx ?_; (with_reducible refine (ententeref07_May.calls k _ _ l0_0 _ _ l0_1 t485 _ ?side1 ?side2 ?side3 ?side4 A4.out).mono ?_); (case side1 => exact My.sd_ HR0_0 HB); (case side2 => exact HC0_0.out); (case side3 => exact My.sd_ HR0_1 HB); (case side4 => exact HC0_1.out); rintro e w10 ⟨rfl, hb⟩; refine ⟨_, rfl, ?_⟩; replace BK484 := My.ab BK484 hb; replace HB := My.st HB hb; (try clear hb); have hq11 := My.cz2 BK484) | ((with_reducible refine gate_callee (f := 37) rfl ?_); refine goesL_ (some 24) rfl rfl Try.func37 (by kernel_rfl) rfl #[.agg #[.slice A0_0 l0_0.length c0_0, .slice A0_1 l0_1.length c0_1], .string a1] rfl My.gx ?_; (with_reducible refine (ententeref07_Account.calls k _ _ l0_0 _ _ l0_1 a1 t486 _ ?side1 ?side2 ?side3 ?side4 A6.out).mono ?_); (case side1 => exact My.sd_ HR0_0 HB); (case side2 => exact HC0_0.out); (case side3 => exact My.sd_ HR0_1 HB); (case side4 => exact HC0_1.out); rintro e w12 ⟨rfl, hb⟩; refine ⟨_, rfl, ?_⟩; replace BK484 := My.ab BK484 hb; replace HB := My.st HB hb; (try clear hb)))
   go_ret3
   exact ⟨My.r2, (My.bl_ HB)⟩
  ·rw [if_neg c7] at H
   have c7b0 := decide_eq_false c7
   clear c7
   have H' := My.am H
   clear H
   go_enter Try.func24, Try.ntmps24
   go_wp2_with (first | ((with_reducible refine gate_dst (N := 3) rfl ?_); (try (refine gate_guard (by rfl) ?_; dsimp only)); refine My.bx 3 #[.slice A0_0 l0_0.length c0_0, .slice A0_1 l0_1.length c0_1] 25 ?_; intro gb484 hg w13 hbox hb; have BK484 := My.am (hbox); have GE484 := My.nge hg (My.bl_ HB); replace HB := My.st HB hb; clear hb hbox hg; have hq14 := My.cz2 BK484) | ((with_reducible refine gate_callee (f := 25) rfl ?_); refine goesL_ (some 20) rfl rfl Try.func25 (by kernel_rfl) rfl #[.agg #[.slice A0_0 l0_0.length c0_0, .slice A0_1 l0_1.length c0_1]] rfl My.gx ?_; (with_reducible refine (ententeref07_May.calls k _ _ l0_0 _ _ l0_1 t485 _ ?side1 ?side2 ?side3 ?side4 A4.out).mono ?_); (case side1 => exact My.sd_ HR0_0 HB); (case side2 => exact HC0_0.out); (case side3 => exact My.sd_ HR0_1 HB); (case side4 => exact HC0_1.out); rintro e w15 ⟨rfl, hb⟩; refine ⟨_, rfl, ?_⟩; replace BK484 := My.ab BK484 hb; replace HB := My.st HB hb; (try clear hb); have hq16 := My.cz2 BK484) | ((with_reducible refine gate_callee (f := 37) rfl ?_); refine goesL_ (some 24) rfl rfl Try.func37 (by kernel_rfl) rfl #[.agg #[.slice A0_0 l0_0.length c0_0, .slice A0_1 l0_1.length c0_1], .string a1] rfl My.gx ?_; (with_reducible refine (ententeref07_Account.calls k _ _ l0_0 _ _ l0_1 a1 t486 _ ?side1 ?side2 ?side3 ?side4 A6.out).mono ?_); (case side1 => exact My.sd_ HR0_0 HB); (case side2 => exact HC0_0.out); (case side3 => exact My.sd_ HR0_1 HB); (case side4 => exact HC0_1.out); rintro e w17 ⟨rfl, hb⟩; refine ⟨_, rfl, ?_⟩; replace BK484 := My.ab BK484 hb; replace HB := My.st HB hb; (try clear hb)))
   go_loopg [9, 10, 11] k (fun kq v9 v10 v11 w' => ∃ (x9_1 : List Int) (x10_1 : List Int) (x11_1 : Int), v11 = .int .i64 x11_1 ∧ Aside0 (ententeref07_Net.l0 kq a1 a2 x9_1 x10_1 x11_1 l0_0 l0_1 = some (r1, r2, r3)) ∧ Aside0 (kq ≤ k) ∧ Aside0 (Kd.R (Kd.int .i64) 2 w' w.heap.size (fun k_ => some k_ ≠ (v10 : Value).ownBlock) v9 x9_1) ∧ Aside0 (Kd.R (Kd.int .i64) 2 w' w.heap.size (fun k_ => some k_ ≠ (v9 : Value).ownBlock) v10 x10_1) ∧ Aside0 (w'.heap[gb484]? = some (.cells #[(.slice A0_0 l0_0.length c0_0), (.slice A0_1 l0_1.length c0_1)] 25 (0, 0))) ∧ Aside0 (Below w.heap.size w w'))
   case atStart => exact ⟨(([] : List Int)), (([] : List Int)), (0), My.r1, H', ⟨Nat.le_refl _⟩, ⟨My.r3⟩, ⟨My.r3⟩, ⟨(My.at_ BK484)⟩, ⟨(My.bl_ HB)⟩⟩
   case round =>
    clear H'
    try clear c5
    try clear c5b0
    try clear c5b1
    try clear c7
    try clear c7b0
    try clear hq14
    try clear hq16
    obtain ⟨x9_1, x10_1, x11_1, rfl, HA, HK1, HO_9, HO_10, BK484, HB⟩ := hrel
    cases gk with
    | zero => exact absurd HA.out (by simp [ententeref07_Net.l0])
    | succ k1 =>
     have H := HA.out
     clear HA
     simp only [ententeref07_Net.l0] at H
     by_cases c18 : x11_1 < (l0_1.length : Int)
     rotate_left
     ·rw [if_neg c18] at H
      have c18b0 := decide_eq_false c18
      clear c18
      replace H := Option.bind_eq_some_iff.mp H
      obtain ⟨⟨t497, t498⟩, A520, H⟩ := H
      try dsimp only at H
      have A52 := My.am A520
      clear A520
      replace H := Option.bind_eq_some_iff.mp H
      obtain ⟨⟨t499, t500⟩, A530, H⟩ := H
      try dsimp only at H
      have A53 := My.am A530
      clear A530
      by_cases c54 : t498 = 0
      rotate_left
      ·rw [if_neg c54] at H
       have c54b0 : (t498 == 0) = false := beq_eq_false_iff_ne.mpr c54
       have c54b1 : (t498 != 0) = true := bne_iff_ne.mpr c54
       simp only [Option.some.injEq, Prod.mk.injEq] at H
       obtain ⟨rfl, rfl, rfl⟩ := H
       have hq62 := My.cz2 BK484
       obtain ⟨Ao63, co63, eo63⟩ := Kd.R_slice HO_9.out
       subst eo63
       go_wp2_with (first | ((with_reducible refine gate_callee (f := 57) rfl ?_); refine goesL_ (some 81) rfl rfl Try.func57 (by kernel_rfl) rfl #[.slice Ao63 x9_1.length co63] rfl My.gx ?_; (with_reducible refine (ententeref04_Sum.calls k1 _ _ x9_1 t497 t498 _ ?side1 ?side2 A52.out).mono ?_); (case side1 => repeat (first | exact (Kd.R_reads' HO_9.out).2.2 | (with_reducible refine Kd.C_alloc ?_ _) | (with_reducible refine Kd.C_drewN ?_ _) | (with_reducible refine Kd.C_drew ?_))); (case side2 => exact (Kd.R_reads' HO_9.out).2.1); rintro e w' ⟨rfl, ⟨nd, rfl⟩⟩; refine ⟨_, rfl, ?_⟩; obtain ⟨Ao64, co64, eo64⟩ := Kd.R_slice HO_10.out; subst eo64) | ((with_reducible refine gate_callee (f := 57) rfl ?_); refine goesL_ (some 86) rfl rfl Try.func57 (by kernel_rfl) rfl #[.slice Ao64 x10_1.length co64] rfl My.gx ?_; (with_reducible refine (ententeref04_Sum.calls k1 _ _ x10_1 t499 t500 _ ?side1 ?side2 A53.out).mono ?_); (case side1 => repeat (first | exact (Kd.R_reads' HO_10.out).2.2 | (with_reducible refine Kd.C_alloc ?_ _) | (with_reducible refine Kd.C_drewN ?_ _) | (with_reducible refine Kd.C_drew ?_))); (case side2 => exact (Kd.R_reads' HO_10.out).2.1); rintro e w' ⟨rfl, ⟨nd, rfl⟩⟩; refine ⟨_, rfl, ?_⟩))
       go_ret3
       exact ⟨My.r2, (My.bl_ HB)⟩
      rw [if_pos c54] at H
      have c54b0 : (t498 == 0) = true := beq_iff_eq.mpr c54
      have c54b1 : (t498 != 0) = false := bne_eq_false_iff_eq.mpr c54
      clear c54
      by_cases c55 : t500 = 0
      ·rw [if_pos c55] at H
       have c55b0 : (t500 == 0) = true := beq_iff_eq.mpr c55
       have c55b1 : (t500 != 0) = false := bne_eq_false_iff_eq.mpr c55
       clear c55
       simp only [Option.some.injEq, Prod.mk.injEq] at H
       obtain ⟨rfl, rfl, rfl⟩ := H
       have hq56 := My.cz2 BK484
       obtain ⟨Ao57, co57, eo57⟩ := Kd.R_slice HO_9.out
       subst eo57
       go_wp2_with (first | ((with_reducible refine gate_callee (f := 57) rfl ?_); refine goesL_ (some 81) rfl rfl Try.func57 (by kernel_rfl) rfl #[.slice Ao57 x9_1.length co57] rfl My.gx ?_; (with_reducible refine (ententeref04_Sum.calls k1 _ _ x9_1 t497 t498 _ ?side1 ?side2 A52.out).mono ?_); (case side1 => repeat (first | exact (Kd.R_reads' HO_9.out).2.2 | (with_reducible refine Kd.C_alloc ?_ _) | (with_reducible refine Kd.C_drewN ?_ _) | (with_reducible refine Kd.C_drew ?_))); (case side2 => exact (Kd.R_reads' HO_9.out).2.1); rintro e w' ⟨rfl, ⟨nd, rfl⟩⟩; refine ⟨_, rfl, ?_⟩; obtain ⟨Ao58, co58, eo58⟩ := Kd.R_slice HO_10.out; subst eo58) | ((with_reducible refine gate_callee (f := 57) rfl ?_); refine goesL_ (some 86) rfl rfl Try.func57 (by kernel_rfl) rfl #[.slice Ao58 x10_1.length co58] rfl My.gx ?_; (with_reducible refine (ententeref04_Sum.calls k1 _ _ x10_1 t499 t500 _ ?side1 ?side2 A53.out).mono ?_); (case side1 => repeat (first | exact (Kd.R_reads' HO_10.out).2.2 | (with_reducible refine Kd.C_alloc ?_ _) | (with_reducible refine Kd.C_drewN ?_ _) | (with_reducible refine Kd.C_drew ?_))); (case side2 => exact (Kd.R_reads' HO_10.out).2.1); rintro e w' ⟨rfl, ⟨nd, rfl⟩⟩; refine ⟨_, rfl, ?_⟩))
       go_ret3
       exact ⟨My.r2, (My.bl_ HB)⟩
      rw [if_neg c55] at H
      have c55b0 : (t500 == 0) = false := beq_eq_false_iff_ne.mpr c55
      have c55b1 : (t500 != 0) = true := bne_iff_ne.mpr c55
      simp only [Option.some.injEq, Prod.mk.injEq] at H
      obtain ⟨rfl, rfl, rfl⟩ := H
      have hq59 := My.cz2 BK484
      obtain ⟨Ao60, co60, eo60⟩ := Kd.R_slice HO_9.out
      subst eo60
      go_wp2_with (first | ((with_reducible refine gate_callee (f := 57) rfl ?_); refine goesL_ (some 81) rfl rfl Try.func57 (by kernel_rfl) rfl #[.slice Ao60 x9_1.length co60] rfl My.gx ?_; (with_reducible refine (ententeref04_Sum.calls k1 _ _ x9_1 t497 t498 _ ?side1 ?side2 A52.out).mono ?_); (case side1 => repeat (first | exact (Kd.R_reads' HO_9.out).2.2 | (with_reducible refine Kd.C_alloc ?_ _) | (with_reducible refine Kd.C_drewN ?_ _) | (with_reducible refine Kd.C_drew ?_))); (case side2 => exact (Kd.R_reads' HO_9.out).2.1); rintro e w' ⟨rfl, ⟨nd, rfl⟩⟩; refine ⟨_, rfl, ?_⟩; obtain ⟨Ao61, co61, eo61⟩ := Kd.R_slice HO_10.out; subst eo61) | ((with_reducible refine gate_callee (f := 57) rfl ?_); refine goesL_ (some 86) rfl rfl Try.func57 (by kernel_rfl) rfl #[.slice Ao61 x10_1.length co61] rfl My.gx ?_; (with_reducible refine (ententeref04_Sum.calls k1 _ _ x10_1 t499 t500 _ ?side1 ?side2 A53.out).mono ?_); (case side1 => repeat (first | exact (Kd.R_reads' HO_10.out).2.2 | (with_reducible refine Kd.C_alloc ?_ _) | (with_reducible refine Kd.C_drewN ?_ _) | (with_reducible refine Kd.C_drew ?_))); (case side2 => exact (Kd.R_reads' HO_10.out).2.1); rintro e w' ⟨rfl, ⟨nd, rfl⟩⟩; refine ⟨_, rfl, ?_⟩))
      go_ret3
      exact ⟨My.r2, (My.bl_ HB)⟩
     rw [if_pos c18] at H
     have c18b0 := decide_eq_true c18
     clear c18
     replace H := My.ds H
     obtain ⟨c19b0, H⟩ := H
     by_cases c20 : ((rd_T64 l0_1 x11_1).f1.f1).toList = a1.toList
     rotate_left
     ·rw [if_neg c20] at H
      have c20b0 : (((rd_T64 l0_1 x11_1).f1.f1).toList == a1.toList) = false := beq_eq_false_iff_ne.mpr c20
      have c20b1 : (((rd_T64 l0_1 x11_1).f1.f1).toList != a1.toList) = true := bne_iff_ne.mpr c20
      have H' := My.am H
      clear H
      have hq48 := My.cz2 BK484
      have p487 : 0 ≤ (x11_1 : Int) := My.as_
      have q487 : x11_1 < (l0_1.length : Int) := My.as_
      obtain ⟨ad487, e487, hx487_0, hx487_1, hx487_2, hx487_3, hx487_4⟩ := My.up5 HB (at_T64 HR0_1.out x11_1 p487 q487)
      cases e487
      replace p487 := eq_true p487
      replace q487 := eq_true q487
      go_wp2_with (first | ((with_reducible refine gate_dst (N := 12) rfl ?_); (try (refine gate_guard (by rfl) ?_; dsimp only)); refine My.bx 12 #[.string (⟨#[]⟩ : ByteArray), .int .i64 0, .string (⟨#[]⟩ : ByteArray), .int .i64 0, .int .i64 0] 64 ?_; intro gb488 hg w49 hbox hb; replace HO_9 := My.am (Kd.R_below (My.dr HO_9.out) hb); replace HO_10 := My.am (Kd.R_below (My.dr HO_10.out) hb); have BK488 := My.am (hbox); have GE488 := My.nge hg (My.bl_ HB); replace HB := My.st HB hb; obtain ⟨NB484_488, NB488_484, BK484⟩ := My.nb hg hb BK484; clear hb hbox hg; have hnb50 := NB488_484.out; have hnc50 := NB484_488.out; have hq51 := My.cz5 BK488))
      go_roundg k1
      case measure => have := HK1.out; omega
      case rel => exact ⟨(x9_1), (x10_1), (wrap64 (x11_1 + 1)), My.r1, H', ⟨by have := HK1.out; omega⟩, ⟨by (with_reducible repeat (first | apply Kd.R_alloc | apply Kd.R_drewN | apply Kd.R_drew)); exact Kd.R_mono (Kd.R_far (p := ⟨gb488, 4, none⟩) (Kd.R_far (p := ⟨gb488, 3, none⟩) (Kd.R_far (p := ⟨gb488, 2, none⟩) (Kd.R_far (p := ⟨gb488, 1, none⟩) (Kd.R_far (p := ⟨gb488, 0, none⟩) (Kd.R_types HO_9.out BK488.out (by decide)) (fun _ hk => hk.2) (.string ((rd_T64 l0_1 x11_1).f0))) (fun _ hk => hk.2) (.int .i64 ((rd_T64 l0_1 x11_1).f1.f0))) (fun _ hk => hk.2) (.string ((rd_T64 l0_1 x11_1).f1.f1))) (fun _ hk => hk.2) (.int .i64 ((rd_T64 l0_1 x11_1).f1.f2))) (fun _ hk => hk.2) (.int .i64 ((rd_T64 l0_1 x11_1).f2))) (fun _ hk => hk.1)⟩, ⟨by (with_reducible repeat (first | apply Kd.R_alloc | apply Kd.R_drewN | apply Kd.R_drew)); exact Kd.R_mono (Kd.R_far (p := ⟨gb488, 4, none⟩) (Kd.R_far (p := ⟨gb488, 3, none⟩) (Kd.R_far (p := ⟨gb488, 2, none⟩) (Kd.R_far (p := ⟨gb488, 1, none⟩) (Kd.R_far (p := ⟨gb488, 0, none⟩) (Kd.R_types HO_10.out BK488.out (by decide)) (fun _ hk => hk.2) (.string ((rd_T64 l0_1 x11_1).f0))) (fun _ hk => hk.2) (.int .i64 ((rd_T64 l0_1 x11_1).f1.f0))) (fun _ hk => hk.2) (.string ((rd_T64 l0_1 x11_1).f1.f1))) (fun _ hk => hk.2) (.int .i64 ((rd_T64 l0_1 x11_1).f1.f2))) (fun _ hk => hk.2) (.int .i64 ((rd_T64 l0_1 x11_1).f2))) (fun _ hk => hk.1)⟩, ⟨(My.sv_ BK484)⟩, ⟨(My.bl_ HB)⟩⟩
     rw [if_pos c20] at H
     have c20b0 : (((rd_T64 l0_1 x11_1).f1.f1).toList == a1.toList) = true := beq_iff_eq.mpr c20
     have c20b1 : (((rd_T64 l0_1 x11_1).f1.f1).toList != a1.toList) = false := bne_eq_false_iff_eq.mpr c20
     clear c20
     by_cases c21 : ((rd_T64 l0_1 x11_1).f2) = 2
     ·rw [if_pos c21] at H
      have c21b0 : (((rd_T64 l0_1 x11_1).f2) == 2) = true := beq_iff_eq.mpr c21
      have c21b1 : (((rd_T64 l0_1 x11_1).f2) != 2) = false := bne_eq_false_iff_eq.mpr c21
      clear c21
      have H' := My.am H
      clear H
      have hq22 := My.cz2 BK484
      have p487 : 0 ≤ (x11_1 : Int) := My.as_
      have q487 : x11_1 < (l0_1.length : Int) := My.as_
      obtain ⟨ad487, e487, hx487_0, hx487_1, hx487_2, hx487_3, hx487_4⟩ := My.up5 HB (at_T64 HR0_1.out x11_1 p487 q487)
      cases e487
      replace p487 := eq_true p487
      replace q487 := eq_true q487
      go_wp2_with (first | ((with_reducible refine gate_dst (N := 12) rfl ?_); (try (refine gate_guard (by rfl) ?_; dsimp only)); refine My.bx 12 #[.string (⟨#[]⟩ : ByteArray), .int .i64 0, .string (⟨#[]⟩ : ByteArray), .int .i64 0, .int .i64 0] 64 ?_; intro gb488 hg w23 hbox hb; replace HO_9 := My.am (Kd.R_below (My.dr HO_9.out) hb); replace HO_10 := My.am (Kd.R_below (My.dr HO_10.out) hb); have BK488 := My.am (hbox); have GE488 := My.nge hg (My.bl_ HB); replace HB := My.st HB hb; obtain ⟨NB484_488, NB488_484, BK484⟩ := My.nb hg hb BK484; clear hb hbox hg; have hnb24 := NB488_484.out; have hnc24 := NB484_488.out; have hq25 := My.cz5 BK488))
      go_roundg k1
      case measure => have := HK1.out; omega
      case rel => exact ⟨(x9_1), (x10_1), (wrap64 (x11_1 + 1)), My.r1, H', ⟨by have := HK1.out; omega⟩, ⟨by (with_reducible repeat (first | apply Kd.R_alloc | apply Kd.R_drewN | apply Kd.R_drew)); exact Kd.R_mono (Kd.R_far (p := ⟨gb488, 4, none⟩) (Kd.R_far (p := ⟨gb488, 3, none⟩) (Kd.R_far (p := ⟨gb488, 2, none⟩) (Kd.R_far (p := ⟨gb488, 1, none⟩) (Kd.R_far (p := ⟨gb488, 0, none⟩) (Kd.R_types HO_9.out BK488.out (by decide)) (fun _ hk => hk.2) (.string ((rd_T64 l0_1 x11_1).f0))) (fun _ hk => hk.2) (.int .i64 ((rd_T64 l0_1 x11_1).f1.f0))) (fun _ hk => hk.2) (.string ((rd_T64 l0_1 x11_1).f1.f1))) (fun _ hk => hk.2) (.int .i64 ((rd_T64 l0_1 x11_1).f1.f2))) (fun _ hk => hk.2) (.int .i64 ((rd_T64 l0_1 x11_1).f2))) (fun _ hk => hk.1)⟩, ⟨by (with_reducible repeat (first | apply Kd.R_alloc | apply Kd.R_drewN | apply Kd.R_drew)); exact Kd.R_mono (Kd.R_far (p := ⟨gb488, 4, none⟩) (Kd.R_far (p := ⟨gb488, 3, none⟩) (Kd.R_far (p := ⟨gb488, 2, none⟩) (Kd.R_far (p := ⟨gb488, 1, none⟩) (Kd.R_far (p := ⟨gb488, 0, none⟩) (Kd.R_types HO_10.out BK488.out (by decide)) (fun _ hk => hk.2) (.string ((rd_T64 l0_1 x11_1).f0))) (fun _ hk => hk.2) (.int .i64 ((rd_T64 l0_1 x11_1).f1.f0))) (fun _ hk => hk.2) (.string ((rd_T64 l0_1 x11_1).f1.f1))) (fun _ hk => hk.2) (.int .i64 ((rd_T64 l0_1 x11_1).f1.f2))) (fun _ hk => hk.2) (.int .i64 ((rd_T64 l0_1 x11_1).f2))) (fun _ hk => hk.1)⟩, ⟨(My.sv_ BK484)⟩, ⟨(My.bl_ HB)⟩⟩
     rw [if_neg c21] at H
     have c21b0 : (((rd_T64 l0_1 x11_1).f2) == 2) = false := beq_eq_false_iff_ne.mpr c21
     have c21b1 : (((rd_T64 l0_1 x11_1).f2) != 2) = true := bne_iff_ne.mpr c21
     by_cases c26 : (((rd_T64 l0_1 x11_1).f0).size : Int) < (a2.size : Int)
     ·rw [if_pos c26] at H
      have c26b0 := decide_eq_true c26
      have c26b1 : decide (((rd_T64 l0_1 x11_1).f0).size < a2.size) = true := decide_eq_true (Int.ofNat_lt.mp c26)
      clear c26
      have H' := My.am H
      clear H
      have hq27 := My.cz2 BK484
      have p487 : 0 ≤ (x11_1 : Int) := My.as_
      have q487 : x11_1 < (l0_1.length : Int) := My.as_
      obtain ⟨ad487, e487, hx487_0, hx487_1, hx487_2, hx487_3, hx487_4⟩ := My.up5 HB (at_T64 HR0_1.out x11_1 p487 q487)
      cases e487
      replace p487 := eq_true p487
      replace q487 := eq_true q487
      go_wp2_with (first | ((with_reducible refine gate_dst (N := 12) rfl ?_); (try (refine gate_guard (by rfl) ?_; dsimp only)); refine My.bx 12 #[.string (⟨#[]⟩ : ByteArray), .int .i64 0, .string (⟨#[]⟩ : ByteArray), .int .i64 0, .int .i64 0] 64 ?_; intro gb488 hg w28 hbox hb; replace HO_9 := My.am (Kd.R_below (My.dr HO_9.out) hb); replace HO_10 := My.am (Kd.R_below (My.dr HO_10.out) hb); have BK488 := My.am (hbox); have GE488 := My.nge hg (My.bl_ HB); replace HB := My.st HB hb; obtain ⟨NB484_488, NB488_484, BK484⟩ := My.nb hg hb BK484; clear hb hbox hg; have hnb29 := NB488_484.out; have hnc29 := NB484_488.out; have hq30 := My.cz5 BK488))
      go_roundg k1
      case measure => have := HK1.out; omega
      case rel => exact ⟨(x9_1), (x10_1), (wrap64 (x11_1 + 1)), My.r1, H', ⟨by have := HK1.out; omega⟩, ⟨by (with_reducible repeat (first | apply Kd.R_alloc | apply Kd.R_drewN | apply Kd.R_drew)); exact Kd.R_mono (Kd.R_far (p := ⟨gb488, 4, none⟩) (Kd.R_far (p := ⟨gb488, 3, none⟩) (Kd.R_far (p := ⟨gb488, 2, none⟩) (Kd.R_far (p := ⟨gb488, 1, none⟩) (Kd.R_far (p := ⟨gb488, 0, none⟩) (Kd.R_types HO_9.out BK488.out (by decide)) (fun _ hk => hk.2) (.string ((rd_T64 l0_1 x11_1).f0))) (fun _ hk => hk.2) (.int .i64 ((rd_T64 l0_1 x11_1).f1.f0))) (fun _ hk => hk.2) (.string ((rd_T64 l0_1 x11_1).f1.f1))) (fun _ hk => hk.2) (.int .i64 ((rd_T64 l0_1 x11_1).f1.f2))) (fun _ hk => hk.2) (.int .i64 ((rd_T64 l0_1 x11_1).f2))) (fun _ hk => hk.1)⟩, ⟨by (with_reducible repeat (first | apply Kd.R_alloc | apply Kd.R_drewN | apply Kd.R_drew)); exact Kd.R_mono (Kd.R_far (p := ⟨gb488, 4, none⟩) (Kd.R_far (p := ⟨gb488, 3, none⟩) (Kd.R_far (p := ⟨gb488, 2, none⟩) (Kd.R_far (p := ⟨gb488, 1, none⟩) (Kd.R_far (p := ⟨gb488, 0, none⟩) (Kd.R_types HO_10.out BK488.out (by decide)) (fun _ hk => hk.2) (.string ((rd_T64 l0_1 x11_1).f0))) (fun _ hk => hk.2) (.int .i64 ((rd_T64 l0_1 x11_1).f1.f0))) (fun _ hk => hk.2) (.string ((rd_T64 l0_1 x11_1).f1.f1))) (fun _ hk => hk.2) (.int .i64 ((rd_T64 l0_1 x11_1).f1.f2))) (fun _ hk => hk.2) (.int .i64 ((rd_T64 l0_1 x11_1).f2))) (fun _ hk => hk.1)⟩, ⟨(My.sv_ BK484)⟩, ⟨(My.bl_ HB)⟩⟩
     rw [if_neg c26] at H
     have c26b0 := decide_eq_false c26
     have c26b1 : decide (((rd_T64 l0_1 x11_1).f0).size < a2.size) = false := decide_eq_false (fun h => c26 (Int.ofNat_lt.mpr h))
     clear c26
     by_cases c31 : 0 ≤ (a2.size : Int)
     rotate_left
     ·exact My.nn c31 H
     rw [if_pos c31] at H
     have c31b0 := eq_true c31
     have c31b1 := decide_eq_true c31
     clear c31
     by_cases c32 : (a2.size : Int) ≤ (((rd_T64 l0_1 x11_1).f0).size : Int)
     rotate_left
     ·exact My.nn c32 H
     rw [if_pos c32] at H
     have c32b0 := eq_true c32
     have c32b1 := decide_eq_true c32
     clear c32
     by_cases c33 : (((rd_T64 l0_1 x11_1).f0).extract 0 ((a2.size : Int) : Int).toNat).toList = a2.toList
     rotate_left
     ·rw [if_neg c33] at H
      have c33b0 : ((((rd_T64 l0_1 x11_1).f0).extract 0 ((a2.size : Int) : Int).toNat).toList == a2.toList) = false := beq_eq_false_iff_ne.mpr c33
      have c33b1 : ((((rd_T64 l0_1 x11_1).f0).extract 0 ((a2.size : Int) : Int).toNat).toList != a2.toList) = true := bne_iff_ne.mpr c33
      (try simp only [Int.toNat_natCast] at c33b0 c33b1)
      have H' := My.am H
      clear H
      have hq44 := My.cz2 BK484
      have p487 : 0 ≤ (x11_1 : Int) := My.as_
      have q487 : x11_1 < (l0_1.length : Int) := My.as_
      obtain ⟨ad487, e487, hx487_0, hx487_1, hx487_2, hx487_3, hx487_4⟩ := My.up5 HB (at_T64 HR0_1.out x11_1 p487 q487)
      cases e487
      replace p487 := eq_true p487
      replace q487 := eq_true q487
      go_wp2_with (first | ((with_reducible refine gate_dst (N := 12) rfl ?_); (try (refine gate_guard (by rfl) ?_; dsimp only)); refine My.bx 12 #[.string (⟨#[]⟩ : ByteArray), .int .i64 0, .string (⟨#[]⟩ : ByteArray), .int .i64 0, .int .i64 0] 64 ?_; intro gb488 hg w45 hbox hb; replace HO_9 := My.am (Kd.R_below (My.dr HO_9.out) hb); replace HO_10 := My.am (Kd.R_below (My.dr HO_10.out) hb); have BK488 := My.am (hbox); have GE488 := My.nge hg (My.bl_ HB); replace HB := My.st HB hb; obtain ⟨NB484_488, NB488_484, BK484⟩ := My.nb hg hb BK484; clear hb hbox hg; have hnb46 := NB488_484.out; have hnc46 := NB484_488.out; have hq47 := My.cz5 BK488))
      go_roundg k1
      case measure => have := HK1.out; omega
      case rel => exact ⟨(x9_1), (x10_1), (wrap64 (x11_1 + 1)), My.r1, H', ⟨by have := HK1.out; omega⟩, ⟨by (with_reducible repeat (first | apply Kd.R_alloc | apply Kd.R_drewN | apply Kd.R_drew)); exact Kd.R_mono (Kd.R_far (p := ⟨gb488, 4, none⟩) (Kd.R_far (p := ⟨gb488, 3, none⟩) (Kd.R_far (p := ⟨gb488, 2, none⟩) (Kd.R_far (p := ⟨gb488, 1, none⟩) (Kd.R_far (p := ⟨gb488, 0, none⟩) (Kd.R_types HO_9.out BK488.out (by decide)) (fun _ hk => hk.2) (.string ((rd_T64 l0_1 x11_1).f0))) (fun _ hk => hk.2) (.int .i64 ((rd_T64 l0_1 x11_1).f1.f0))) (fun _ hk => hk.2) (.string ((rd_T64 l0_1 x11_1).f1.f1))) (fun _ hk => hk.2) (.int .i64 ((rd_T64 l0_1 x11_1).f1.f2))) (fun _ hk => hk.2) (.int .i64 ((rd_T64 l0_1 x11_1).f2))) (fun _ hk => hk.1)⟩, ⟨by (with_reducible repeat (first | apply Kd.R_alloc | apply Kd.R_drewN | apply Kd.R_drew)); exact Kd.R_mono (Kd.R_far (p := ⟨gb488, 4, none⟩) (Kd.R_far (p := ⟨gb488, 3, none⟩) (Kd.R_far (p := ⟨gb488, 2, none⟩) (Kd.R_far (p := ⟨gb488, 1, none⟩) (Kd.R_far (p := ⟨gb488, 0, none⟩) (Kd.R_types HO_10.out BK488.out (by decide)) (fun _ hk => hk.2) (.string ((rd_T64 l0_1 x11_1).f0))) (fun _ hk => hk.2) (.int .i64 ((rd_T64 l0_1 x11_1).f1.f0))) (fun _ hk => hk.2) (.string ((rd_T64 l0_1 x11_1).f1.f1))) (fun _ hk => hk.2) (.int .i64 ((rd_T64 l0_1 x11_1).f1.f2))) (fun _ hk => hk.2) (.int .i64 ((rd_T64 l0_1 x11_1).f2))) (fun _ hk => hk.1)⟩, ⟨(My.sv_ BK484)⟩, ⟨(My.bl_ HB)⟩⟩
     rw [if_pos c33] at H
     have c33b0 : ((((rd_T64 l0_1 x11_1).f0).extract 0 ((a2.size : Int) : Int).toNat).toList == a2.toList) = true := beq_iff_eq.mpr c33
     have c33b1 : ((((rd_T64 l0_1 x11_1).f0).extract 0 ((a2.size : Int) : Int).toNat).toList != a2.toList) = false := bne_eq_false_iff_eq.mpr c33
     (try simp only [Int.toNat_natCast] at c33b0 c33b1)
     clear c33
     replace H := Option.bind_eq_some_iff.mp H
     obtain ⟨⟨t489, t490⟩, A340, H⟩ := H
     try dsimp only at H
     have A34 := My.am A340
     clear A340
     by_cases c35 : x9_1.length < 17592186044416
     rotate_left
     ·exact My.nn c35 H
     rw [if_pos c35] at H
     have LMc35 := My.am c35
     clear c35
     obtain ⟨y491, hy491⟩ : ∃ y_ : List Int, y_ = (x9_1 ++ [t489]) := ⟨_, rfl⟩
     replace H : (if x10_1.length < 17592186044416 then (ententeref07_Net.l0 k1 a1 a2 y491 (x10_1 ++ [t490]) (wrap64 (x11_1 + 1)) l0_0 l0_1) else (none)) = some (r1, r2, r3) := by first | (rw [hy491]; with_reducible exact H) | (have H2_ := (Option.bind_some _ _).symm.trans H; rw [hy491]; with_reducible exact H2_) | (have H2_ := (Option.bind_some _ _).symm.trans H; with_reducible exact H2_) | with_reducible exact H | (rw [hy491]; exact H) | exact H
     have Ny491 := My.am hy491
     clear hy491
     by_cases c36 : x10_1.length < 17592186044416
     rotate_left
     ·exact My.nn c36 H
     rw [if_pos c36] at H
     have LMc36 := My.am c36
     clear c36
     obtain ⟨y494, hy494⟩ : ∃ y_ : List Int, y_ = (x10_1 ++ [t490]) := ⟨_, rfl⟩
     replace H : (ententeref07_Net.l0 k1 a1 a2 y491 y494 (wrap64 (x11_1 + 1)) l0_0 l0_1) = some (r1, r2, r3) := by first | (rw [hy494]; with_reducible exact H) | (have H2_ := (Option.bind_some _ _).symm.trans H; rw [hy494]; with_reducible exact H2_) | (have H2_ := (Option.bind_some _ _).symm.trans H; with_reducible exact H2_) | with_reducible exact H | (rw [hy494]; exact H) | exact H
     have Ny494 := My.am hy494
     clear hy494
     have H' := My.am H
     clear H
     have hq37 := My.cz2 BK484
     have p487 : 0 ≤ (x11_1 : Int) := My.as_
     have q487 : x11_1 < (l0_1.length : Int) := My.as_
     obtain ⟨ad487, e487, hx487_0, hx487_1, hx487_2, hx487_3, hx487_4⟩ := My.up5 HB (at_T64 HR0_1.out x11_1 p487 q487)
     cases e487
     replace p487 := eq_true p487
     replace q487 := eq_true q487
     go_wp2_with (first | ((with_reducible refine gate_dst (N := 12) rfl ?_); (try (refine gate_guard (by rfl) ?_; dsimp only)); refine My.bx 12 #[.string (⟨#[]⟩ : ByteArray), .int .i64 0, .string (⟨#[]⟩ : ByteArray), .int .i64 0, .int .i64 0] 64 ?_; intro gb488 hg w38 hbox hb; replace HO_9 := My.am (Kd.R_below (My.dr HO_9.out) hb); replace HO_10 := My.am (Kd.R_below (My.dr HO_10.out) hb); have BK488 := My.am (hbox); have GE488 := My.nge hg (My.bl_ HB); replace HB := My.st HB hb; obtain ⟨NB484_488, NB488_484, BK484⟩ := My.nb hg hb BK484; clear hb hbox hg; have hnb39 := NB488_484.out; have hnc39 := NB484_488.out; have hq40 := My.cz5 BK488) | ((with_reducible refine gate_callee (f := 56) rfl ?_); refine goesL_ (some 68) rfl rfl Try.func56 (by kernel_rfl) rfl #[.agg #[.int .i64 ((rd_T64 l0_1 x11_1).f1.f0), .string ((rd_T64 l0_1 x11_1).f1.f1), .int .i64 ((rd_T64 l0_1 x11_1).f1.f2)]] rfl My.gx ?_; (with_reducible refine (ententeref06_Delta.calls k1 ((rd_T64 l0_1 x11_1).f1.f0) ((rd_T64 l0_1 x11_1).f1.f1) ((rd_T64 l0_1 x11_1).f1.f2) t489 t490 _ A34.out).mono ?_); rintro e w41 ⟨rfl, hb⟩; refine ⟨_, rfl, ?_⟩; replace HO_9 := My.am (Kd.R_below (by (with_reducible repeat (first | apply Kd.R_alloc | apply Kd.R_drewN | apply Kd.R_drew)); exact (My.rf5 gb488 (.string ((rd_T64 l0_1 x11_1).f0)) (.int .i64 ((rd_T64 l0_1 x11_1).f1.f0)) (.string ((rd_T64 l0_1 x11_1).f1.f1)) (.int .i64 ((rd_T64 l0_1 x11_1).f1.f2)) (.int .i64 ((rd_T64 l0_1 x11_1).f2)) (Kd.R_types HO_9.out BK488.out (by decide)))) hb); replace HO_10 := My.am (Kd.R_below (by (with_reducible repeat (first | apply Kd.R_alloc | apply Kd.R_drewN | apply Kd.R_drew)); exact (My.rf5 gb488 (.string ((rd_T64 l0_1 x11_1).f0)) (.int .i64 ((rd_T64 l0_1 x11_1).f1.f0)) (.string ((rd_T64 l0_1 x11_1).f1.f1)) (.int .i64 ((rd_T64 l0_1 x11_1).f1.f2)) (.int .i64 ((rd_T64 l0_1 x11_1).f2)) (Kd.R_types HO_10.out BK488.out (by decide)))) hb); replace BK484 := My.am (blk_below (g := gb484) (o := .cells #[.slice A0_0 l0_0.length c0_0, .slice (some ad487) l0_1.length c0_1] 25 (0, 0)) ((My.sv_ BK484)) hb); replace BK488 := My.am (blk_below (g := gb488) (o := .cells #[.string ((rd_T64 l0_1 x11_1).f0), .int .i64 ((rd_T64 l0_1 x11_1).f1.f0), .string ((rd_T64 l0_1 x11_1).f1.f1), .int .i64 ((rd_T64 l0_1 x11_1).f1.f2), .int .i64 ((rd_T64 l0_1 x11_1).f2)] 64 (0, 0)) ((My.sv_ BK488)) hb); replace HB := My.st HB hb; (try clear hb)) | ((with_reducible refine gate_builtin (b := .append) (xs := #[.tmp 71, .tmp 73]) rfl ?_); (try (refine gate_guard (by rfl) ?_; dsimp only)); at_builtin; refine Kd.R_append (Kd.int .i64) (w0 := w) w.heap.size rfl (.tmp 71) (.tmp 73) 87 2 (.int .i64 0) 8 rfl Try.underlying87 info2 rfl (by decide) (by omega) u9 x9_1 t489 [.int .i64 t489] (fun k_ => some k_ ≠ (u10 : Value).ownBlock) (fun _ => False) rfl rfl ?aP (fun _ hk => hk.elim) ?aF ?aO ?aB ?aS ?aL ?_; (case aP => exact rfl); (case aB => exact (My.bl_ HB)); (case aF => exact (fun k_ hk => Kd.fresh' (Kd.R_lt (My.dr HO_10.out)) k_ hk)); (case aO => exact (My.dr HO_9.out)); (case aS => exact (below_size (My.bl_ HB))); (case aL => have := LMc35.out; omega); intro v492 w42 ho hb hg hat; rw [← Ny491.out] at ho; replace HO_10 := My.am (Kd.R_after (ok := (fun _ => True)) (by (with_reducible repeat (first | apply Kd.R_alloc | apply Kd.R_drewN | apply Kd.R_drew)); exact Kd.R_mono HO_10.out (fun _ hk => ⟨trivial, hk⟩)) hg hat); replace BK484 := My.am (blk_grown (My.at_ BK484) hg (Kd.R_ne HO_9.out BK484.out (by decide))); replace BK488 := My.am (blk_grown (My.at_ BK488) hg (Kd.R_ne HO_9.out BK488.out (by decide))); replace HB := My.am (hb); have HO493 := My.am (ho); (try clear HO_9); clear ho hb hg hat) | ((with_reducible refine gate_builtin (b := .append) (xs := #[.tmp 75, .tmp 77]) rfl ?_); (try (refine gate_guard (by rfl) ?_; dsimp only)); at_builtin; refine Kd.R_append (Kd.int .i64) (w0 := w) w.heap.size rfl (.tmp 75) (.tmp 77) 87 2 (.int .i64 0) 8 rfl Try.underlying87 info2 rfl (by decide) (by omega) u10 x10_1 t490 [.int .i64 t490] (fun k_ => some k_ ≠ (v492 : Value).ownBlock) (fun _ => False) rfl rfl ?aP (fun _ hk => hk.elim) ?aF ?aO ?aB ?aS ?aL ?_; (case aP => exact rfl); (case aB => exact (My.bl_ HB)); (case aF => exact (fun k_ hk => Kd.fresh' (Kd.R_lt (My.dr HO493.out)) k_ hk)); (case aO => exact (by (with_reducible repeat (first | apply Kd.R_alloc | apply Kd.R_drewN | apply Kd.R_drew)); exact Kd.R_mono HO_10.out (fun _ hk => hk.2))); (case aS => exact (below_size (My.bl_ HB))); (case aL => have := LMc36.out; omega); intro v495 w43 ho hb hg hat; rw [← Ny494.out] at ho; replace BK484 := My.am (blk_grown (My.at_ BK484) hg (Kd.R_ne HO_10.out BK484.out (by decide))); replace BK488 := My.am (blk_grown (My.at_ BK488) hg (Kd.R_ne HO_10.out BK488.out (by decide))); replace HO493 := My.am (Kd.R_after (ok := (fun _ => True)) (by (with_reducible repeat (first | apply Kd.R_alloc | apply Kd.R_drewN | apply Kd.R_drew)); exact Kd.R_mono HO493.out (fun _ hk => ⟨trivial, hk⟩)) hg hat); replace HB := My.am (hb); have HO496 := My.am (ho); (try clear HO_10); clear ho hb hg hat))
     go_roundg k1
     case measure => have := HK1.out; omega
     case rel => exact ⟨(y491), (y494), (wrap64 (x11_1 + 1)), My.r1, H', ⟨by have := HK1.out; omega⟩, ⟨by (with_reducible repeat (first | apply Kd.R_alloc | apply Kd.R_drewN | apply Kd.R_drew)); exact Kd.R_mono HO493.out (fun _ hk => hk.2)⟩, ⟨by (with_reducible repeat (first | apply Kd.R_alloc | apply Kd.R_drewN | apply Kd.R_drew)); exact HO496.out⟩, ⟨(My.at_ BK484)⟩, ⟨(My.bl_ HB)⟩⟩
 ·rw [if_neg c5] at H
  have c5b0 : (t485 == 0) = false := beq_eq_false_iff_ne.mpr c5
  have c5b1 : (t485 != 0) = true := bne_iff_ne.mpr c5
  simp only [Option.some.injEq, Prod.mk.injEq] at H
  obtain ⟨rfl, rfl, rfl⟩ := H
  go_enter Try.func24, Try.ntmps24
  go_wp2_with (first | ((with_reducible refine gate_dst (N := 3) rfl ?_); (try (refine gate_guard (by rfl) ?_; dsimp only)); refine My.bx 3 #[.slice A0_0 l0_0.length c0_0, .slice A0_1 l0_1.length c0_1] 25 ?_; intro gb484 hg w65 hbox hb; have BK484 := My.am (hbox); have GE484 := My.nge hg (My.bl_ HB); replace HB := My.st HB hb; clear hb hbox hg; have hq66 := My.cz2 BK484) | ((with_reducible refine gate_callee (f := 25) rfl ?_); refine goesL_ (some 20) rfl rfl Try.func25 (by kernel_rfl) rfl #[.agg #[.slice A0_0 l0_0.length c0_0, .slice A0_1 l0_1.length c0_1]] rfl My.gx ?_; (with_reducible refine (ententeref07_May.calls k _ _ l0_0 _ _ l0_1 t485 _ ?side1 ?side2 ?side3 ?side4 A4.out).mono ?_); (case side1 => exact My.sd_ HR0_0 HB); (case side2 => exact HC0_0.out); (case side3 => exact My.sd_ HR0_1 HB); (case side4 => exact HC0_1.out); rintro e w67 ⟨rfl, hb⟩; refine ⟨_, rfl, ?_⟩; replace HB := My.st HB hb; (try clear hb)))
  go_ret3
  exact ⟨My.r2, (My.bl_ HB)⟩

/-! ### ententeref07_Mark: function 45 -/
def ententeref07_Mark.l0 : Nat → ByteArray → Int → List (S51) → List (S64) → Option (Int)
 | 0, _, _, _, _ => none
 | k + 1, x1, x5, x502000, x502001 => if x5 < (x502001.length : Int) then (if 0 ≤ x5 then (if ((rd_T64 x502001 x5).f0).toList = x1.toList then (some x5) else (ententeref07_Mark.l0 k x1 (wrap64 (x5 + 1)) x502000 x502001)) else (none)) else (some (-1))
def ententeref07_Mark.f (k : Nat) (l0_0 : List (S51)) (l0_1 : List (S64)) (a1 : ByteArray) : Option (Int) := ententeref07_Mark.l0 k a1 0 l0_0 l0_1
theorem ententeref07_Mark.mono_l : ∀ k, (∀ y0 y1 y2 y3, LeO (ententeref07_Mark.l0 k y0 y1 y2 y3) (ententeref07_Mark.l0 (k + 1) y0 y1 y2 y3))
 | 0 => fun _ _ _ _ r h => by simp [ententeref07_Mark.l0] at h
 | k + 1 => by
  have ih0 := ententeref07_Mark.mono_l k
  intro y0 y1 y2 y3
  unfold ententeref07_Mark.l0
  repeat' (with_reducible first | exact ih0 _ _ _ _ | exact LeO.refl _ | exact LeO.none _ | apply LeO.ite | refine LeO.bind ?_ (fun _ => ?_))
theorem ententeref07_Mark.mono : ∀ a0 a1 a2 k, LeO (ententeref07_Mark.f k a0 a1 a2) (ententeref07_Mark.f (k + 1) a0 a1 a2) := by
 intro a0 a1 a2 k
 have ih0 := ententeref07_Mark.mono_l k
 unfold ententeref07_Mark.f
 repeat' (with_reducible first | exact ih0 _ _ _ _ | exact LeO.refl _ | exact LeO.none _ | apply LeO.ite | refine LeO.bind ?_ (fun _ => ?_))
theorem ententeref07_Mark.calls (k : Nat) (A0_0 : Option Addr) (c0_0 : Nat) (l0_0 : List (S51)) (A0_1 : Option Addr) (c0_1 : Nat) (l0_1 : List (S64)) (a1 : ByteArray) (r : Int) (w : World) (hr0_0 : Kd.C k51 w A0_0 l0_0.length l0_0) (hc0_0 : l0_0.length ≤ c0_0) (hr0_1 : Kd.C k64 w A0_1 l0_1.length l0_1) (hc0_1 : l0_1.length ≤ c0_1) (h : ententeref07_Mark.f k l0_0 l0_1 a1 = some r) :
  Calls Try.prog 45 #[.agg #[.slice A0_0 l0_0.length c0_0, .slice A0_1 l0_1.length c0_1], .string a1] w fun e w' => e = .returned (.int .i64 r) ∧ Below w.heap.size w w' := by
 have hu25 := Try.underlying25
 have HR0_0 := My.am hr0_0
 have HC0_0 := My.am hc0_0
 clear hr0_0 hc0_0
 have HR0_1 := My.am hr0_1
 have HC0_1 := My.am hc0_1
 clear hr0_1 hc0_1
 have HB := My.am (Below.refl w.heap.size w)
 have H : (ententeref07_Mark.l0 k a1 0 l0_0 l0_1) = some r := h
 clear h
 have H' := My.am H
 clear H
 go_enter Try.func45, Try.ntmps45
 go_wp2_with (first | ((with_reducible refine gate_dst (N := 2) rfl ?_); refine My.bx 2 #[.slice A0_0 l0_0.length c0_0, .slice A0_1 l0_1.length c0_1] 25 ?_; intro gb501 hg w3 hbox hb; have BK501 := My.am (hbox); have GE501 := My.nge hg (My.bl_ HB); replace HB := My.st HB hb; clear hb hbox hg))
 go_loopg [5] k (fun kq v5 w' => ∃ (x5_1 : Int), v5 = .int .i64 x5_1 ∧ Aside0 (ententeref07_Mark.l0 kq a1 x5_1 l0_0 l0_1 = some r) ∧ Aside0 (kq ≤ k) ∧ Aside0 (w'.heap[gb501]? = some (.cells #[(.slice A0_0 l0_0.length c0_0), (.slice A0_1 l0_1.length c0_1)] 25 (0, 0))) ∧ Aside0 (Below w.heap.size w w'))
 case atStart => exact ⟨(0), My.r1, H', ⟨Nat.le_refl _⟩, ⟨(My.at_ BK501)⟩, ⟨(My.bl_ HB)⟩⟩
 case round =>
  clear H'
  obtain ⟨x5_1, rfl, HA, HK1, BK501, HB⟩ := hrel
  cases gk with
  | zero => exact absurd HA.out (by simp [ententeref07_Mark.l0])
  | succ k1 =>
   have H := HA.out
   clear HA
   simp only [ententeref07_Mark.l0] at H
   by_cases c4 : x5_1 < (l0_1.length : Int)
   rotate_left
   ·rw [if_neg c4] at H
    have c4b0 := decide_eq_false c4
    clear c4
    obtain rfl := Option.some.inj H
    have hq9 := My.cz2 BK501
    go_wp2
    go_ret
    exact ⟨My.r2, (My.bl_ HB)⟩

   rw [if_pos c4] at H
   have c4b0 := decide_eq_true c4
   clear c4
   replace H := My.ds H
   obtain ⟨c5b0, H⟩ := H
   by_cases c6 : ((rd_T64 l0_1 x5_1).f0).toList = a1.toList
   ·rw [if_pos c6] at H
    have c6b0 : (((rd_T64 l0_1 x5_1).f0).toList == a1.toList) = true := beq_iff_eq.mpr c6
    have c6b1 : (((rd_T64 l0_1 x5_1).f0).toList != a1.toList) = false := bne_eq_false_iff_eq.mpr c6
    clear c6
    obtain rfl := Option.some.inj H
    have hq7 := My.cz2 BK501
    have p502 : 0 ≤ (x5_1 : Int) := My.as_
    have q502 : x5_1 < (l0_1.length : Int) := My.as_
    obtain ⟨ad502, e502, hx502_0, hx502_1, hx502_2, hx502_3, hx502_4⟩ := My.up5 HB (at_T64 HR0_1.out x5_1 p502 q502)
    cases e502
    replace p502 := eq_true p502
    replace q502 := eq_true q502
    go_wp2
    go_ret
    exact ⟨My.r2, (My.bl_ HB)⟩
   rw [if_neg c6] at H
   have c6b0 : (((rd_T64 l0_1 x5_1).f0).toList == a1.toList) = false := beq_eq_false_iff_ne.mpr c6
   have c6b1 : (((rd_T64 l0_1 x5_1).f0).toList != a1.toList) = true := bne_iff_ne.mpr c6
   have H' := My.am H
   clear H
   have hq8 := My.cz2 BK501
   have p502 : 0 ≤ (x5_1 : Int) := My.as_
   have q502 : x5_1 < (l0_1.length : Int) := My.as_
   obtain ⟨ad502, e502, hx502_0, hx502_1, hx502_2, hx502_3, hx502_4⟩ := My.up5 HB (at_T64 HR0_1.out x5_1 p502 q502)
   cases e502
   replace p502 := eq_true p502
   replace q502 := eq_true q502
   go_wp2
   go_roundg k1
   case measure => have := HK1.out; omega
   case rel => exact ⟨(wrap64 (x5_1 + 1)), My.r1, H', ⟨by have := HK1.out; omega⟩, ⟨(My.at_ BK501)⟩, ⟨(My.bl_ HB)⟩⟩
/-! ### ententeref07_State: function 27 -/
def ententeref07_State.f (k : Nat) (l0_0 : List (S51)) (l0_1 : List (S64)) (a1 : ByteArray) : Option (Int) := (ententeref07_Mark.f k l0_0 l0_1 a1).bind fun t504 => ((ententeref07_May.f k l0_0 l0_1).bind fun t505 => (if t505 = 0 then (if t504 < 0 then (some 0) else (if 0 ≤ t504 then (if t504 < (l0_1.length : Int) then (some ((rd_T64 l0_1 t504).f2)) else (none)) else (none))) else (some 0)))
theorem ententeref07_State.mono : ∀ a0 a1 a2 k, LeO (ententeref07_State.f k a0 a1 a2) (ententeref07_State.f (k + 1) a0 a1 a2) := by
 intro a0 a1 a2 k
 unfold ententeref07_State.f
 repeat' (with_reducible first | exact ententeref07_Mark.mono _ _ _ _ | exact ententeref07_May.mono _ _ _ | exact LeO.refl _ | exact LeO.none _ | apply LeO.ite | refine LeO.bind ?_ (fun _ => ?_))
theorem ententeref07_State.calls (k : Nat) (A0_0 : Option Addr) (c0_0 : Nat) (l0_0 : List (S51)) (A0_1 : Option Addr) (c0_1 : Nat) (l0_1 : List (S64)) (a1 : ByteArray) (r : Int) (w : World) (hr0_0 : Kd.C k51 w A0_0 l0_0.length l0_0) (hc0_0 : l0_0.length ≤ c0_0) (hr0_1 : Kd.C k64 w A0_1 l0_1.length l0_1) (hc0_1 : l0_1.length ≤ c0_1) (h : ententeref07_State.f k l0_0 l0_1 a1 = some r) :
  Calls Try.prog 27 #[.agg #[.slice A0_0 l0_0.length c0_0, .slice A0_1 l0_1.length c0_1], .string a1] w fun e w' => e = .returned (.int .i64 r) ∧ Below w.heap.size w w' := by
 have hu25 := Try.underlying25
 have HR0_0 := My.am hr0_0
 have HC0_0 := My.am hc0_0
 clear hr0_0 hc0_0
 have HR0_1 := My.am hr0_1
 have HC0_1 := My.am hc0_1
 clear hr0_1 hc0_1
 have HB := My.am (Below.refl w.heap.size w)
 unfold ententeref07_State.f at h
 have H := h
 clear h
 replace H := Option.bind_eq_some_iff.mp H
 obtain ⟨t504, A30, H⟩ := H
 try dsimp only at H
 have A3 := My.am A30
 clear A30
 replace H := Option.bind_eq_some_iff.mp H
 obtain ⟨t505, A40, H⟩ := H
 try dsimp only at H
 have A4 := My.am A40
 clear A40
 by_cases c5 : t505 = 0
 ·rw [if_pos c5] at H
  have c5b0 : (t505 == 0) = true := beq_iff_eq.mpr c5
  have c5b1 : (t505 != 0) = false := bne_eq_false_iff_eq.mpr c5
  clear c5
  by_cases c6 : t504 < 0
  ·rw [if_pos c6] at H
   have c6b0 := decide_eq_true c6
   clear c6
   obtain rfl := Option.some.inj H
   go_enter Try.func27, Try.ntmps27
   go_wp2_with (first | ((with_reducible refine gate_dst (N := 2) rfl ?_); refine My.bx 2 #[.slice A0_0 l0_0.length c0_0, .slice A0_1 l0_1.length c0_1] 25 ?_; intro gb503 hg w7 hbox hb; have BK503 := My.am (hbox); have GE503 := My.nge hg (My.bl_ HB); replace HB := My.st HB hb; clear hb hbox hg; have hq8 := My.cz2 BK503) | ((with_reducible refine gate_callee (f := 45) rfl ?_); refine goesL_ (some 8) rfl rfl Try.func45 (by kernel_rfl) rfl #[.agg #[.slice A0_0 l0_0.length c0_0, .slice A0_1 l0_1.length c0_1], .string a1] rfl My.gx ?_; (with_reducible refine (ententeref07_Mark.calls k _ _ l0_0 _ _ l0_1 a1 t504 _ ?side1 ?side2 ?side3 ?side4 A3.out).mono ?_); (case side1 => exact My.sd_ HR0_0 HB); (case side2 => exact HC0_0.out); (case side3 => exact My.sd_ HR0_1 HB); (case side4 => exact HC0_1.out); rintro e w9 ⟨rfl, hb⟩; refine ⟨_, rfl, ?_⟩; replace BK503 := My.ab BK503 hb; replace HB := My.st HB hb; (try clear hb); have hq10 := My.cz2 BK503) | ((with_reducible refine gate_callee (f := 25) rfl ?_); refine goesL_ (some 10) rfl rfl Try.func25 (by kernel_rfl) rfl #[.agg #[.slice A0_0 l0_0.length c0_0, .slice A0_1 l0_1.length c0_1]] rfl My.gx ?_; (with_reducible refine (ententeref07_May.calls k _ _ l0_0 _ _ l0_1 t505 _ ?side1 ?side2 ?side3 ?side4 A4.out).mono ?_); (case side1 => exact My.sd_ HR0_0 HB); (case side2 => exact HC0_0.out); (case side3 => exact My.sd_ HR0_1 HB); (case side4 => exact HC0_1.out); rintro e w11 ⟨rfl, hb⟩; refine ⟨_, rfl, ?_⟩; replace BK503 := My.ab BK503 hb; replace HB := My.st HB hb; (try clear hb)))
   go_ret
   exact ⟨My.r2, (My.bl_ HB)⟩
  ·rw [if_neg c6] at H
   have c6b0 := decide_eq_false c6
   clear c6
   by_cases c12 : 0 ≤ t504
   ·rw [if_pos c12] at H
    have c12b0 := decide_eq_true c12
    clear c12
    by_cases c13 : t504 < (l0_1.length : Int)
    ·rw [if_pos c13] at H
     have c13b0 := decide_eq_true c13
     clear c13
     obtain rfl := Option.some.inj H
     go_enter Try.func27, Try.ntmps27
     go_wp2_with (first | ((with_reducible refine gate_dst (N := 2) rfl ?_); refine My.bx 2 #[.slice A0_0 l0_0.length c0_0, .slice A0_1 l0_1.length c0_1] 25 ?_; intro gb503 hg w14 hbox hb; have BK503 := My.am (hbox); have GE503 := My.nge hg (My.bl_ HB); replace HB := My.st HB hb; clear hb hbox hg; have hq15 := My.cz2 BK503) | ((with_reducible refine gate_callee (f := 45) rfl ?_); refine goesL_ (some 8) rfl rfl Try.func45 (by kernel_rfl) rfl #[.agg #[.slice A0_0 l0_0.length c0_0, .slice A0_1 l0_1.length c0_1], .string a1] rfl My.gx ?_; (with_reducible refine (ententeref07_Mark.calls k _ _ l0_0 _ _ l0_1 a1 t504 _ ?side1 ?side2 ?side3 ?side4 A3.out).mono ?_); (case side1 => exact My.sd_ HR0_0 HB); (case side2 => exact HC0_0.out); (case side3 => exact My.sd_ HR0_1 HB); (case side4 => exact HC0_1.out); rintro e w16 ⟨rfl, hb⟩; refine ⟨_, rfl, ?_⟩; replace BK503 := My.ab BK503 hb; replace HB := My.st HB hb; (try clear hb); have hq17 := My.cz2 BK503) | ((with_reducible refine gate_callee (f := 25) rfl ?_); refine goesL_ (some 10) rfl rfl Try.func25 (by kernel_rfl) rfl #[.agg #[.slice A0_0 l0_0.length c0_0, .slice A0_1 l0_1.length c0_1]] rfl My.gx ?_; (with_reducible refine (ententeref07_May.calls k _ _ l0_0 _ _ l0_1 t505 _ ?side1 ?side2 ?side3 ?side4 A4.out).mono ?_); (case side1 => exact My.sd_ HR0_0 HB); (case side2 => exact HC0_0.out); (case side3 => exact My.sd_ HR0_1 HB); (case side4 => exact HC0_1.out); rintro e w18 ⟨rfl, hb⟩; refine ⟨_, rfl, ?_⟩; replace BK503 := My.ab BK503 hb; replace HB := My.st HB hb; (try clear hb); have hq19 := My.cz2 BK503; have p506 : 0 ≤ (t504 : Int) := My.as_; have q506 : t504 < (l0_1.length : Int) := My.as_; obtain ⟨ad506, e506, hx506_0, hx506_1, hx506_2, hx506_3, hx506_4⟩ := My.up5 HB (at_T64 HR0_1.out t504 p506 q506); cases e506; replace p506 := eq_true p506; replace q506 := eq_true q506))
     go_ret
     exact ⟨My.r2, (My.bl_ HB)⟩
    rw [if_neg c13] at H
    exact absurd H (by simp)
   rw [if_neg c12] at H
   exact absurd H (by simp)
 ·rw [if_neg c5] at H
  have c5b0 : (t505 == 0) = false := beq_eq_false_iff_ne.mpr c5
  have c5b1 : (t505 != 0) = true := bne_iff_ne.mpr c5
  obtain rfl := Option.some.inj H
  go_enter Try.func27, Try.ntmps27
  go_wp2_with (first | ((with_reducible refine gate_dst (N := 2) rfl ?_); refine My.bx 2 #[.slice A0_0 l0_0.length c0_0, .slice A0_1 l0_1.length c0_1] 25 ?_; intro gb503 hg w20 hbox hb; have BK503 := My.am (hbox); have GE503 := My.nge hg (My.bl_ HB); replace HB := My.st HB hb; clear hb hbox hg; have hq21 := My.cz2 BK503) | ((with_reducible refine gate_callee (f := 45) rfl ?_); refine goesL_ (some 8) rfl rfl Try.func45 (by kernel_rfl) rfl #[.agg #[.slice A0_0 l0_0.length c0_0, .slice A0_1 l0_1.length c0_1], .string a1] rfl My.gx ?_; (with_reducible refine (ententeref07_Mark.calls k _ _ l0_0 _ _ l0_1 a1 t504 _ ?side1 ?side2 ?side3 ?side4 A3.out).mono ?_); (case side1 => exact My.sd_ HR0_0 HB); (case side2 => exact HC0_0.out); (case side3 => exact My.sd_ HR0_1 HB); (case side4 => exact HC0_1.out); rintro e w22 ⟨rfl, hb⟩; refine ⟨_, rfl, ?_⟩; replace BK503 := My.ab BK503 hb; replace HB := My.st HB hb; (try clear hb); have hq23 := My.cz2 BK503) | ((with_reducible refine gate_callee (f := 25) rfl ?_); refine goesL_ (some 10) rfl rfl Try.func25 (by kernel_rfl) rfl #[.agg #[.slice A0_0 l0_0.length c0_0, .slice A0_1 l0_1.length c0_1]] rfl My.gx ?_; (with_reducible refine (ententeref07_May.calls k _ _ l0_0 _ _ l0_1 t505 _ ?side1 ?side2 ?side3 ?side4 A4.out).mono ?_); (case side1 => exact My.sd_ HR0_0 HB); (case side2 => exact HC0_0.out); (case side3 => exact My.sd_ HR0_1 HB); (case side4 => exact HC0_1.out); rintro e w24 ⟨rfl, hb⟩; refine ⟨_, rfl, ?_⟩; replace HB := My.st HB hb; (try clear hb)))
  go_ret
  exact ⟨My.r2, (My.bl_ HB)⟩

end Go.Proofs.Ytikanbdhpafbiaa.PZ
