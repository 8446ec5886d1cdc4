-- Written by a program of this session (wip/tools/mp.py over the kit's printer); Lean checks it.
import Derived.Test.YtcgmoeiknkdljaaPAx0
import Derived.Test.YtcgmoeiknkdljaaPAx4
namespace Go.Proofs.Ytcgmoeiknkdljaa.PA
open Go.RowKit Go.Proofs.YtcgmoeiknkdljaaW.PrintWords Go.Proofs.YtcgmoeiknkdljaaW.PrintLast Go.Proofs.YtcgmoeiknkdljaaW.PrintMore
attribute [local go_sem] max2_int min2_int max_two min_two max_three min_three max_four min_four   -- for this text's walks alone
set_option linter.unusedVariables false
set_option maxHeartbeats 8000000
set_option maxRecDepth 100000
set_option linter.unusedSimpArgs false

/-! ### cmp_Compare_int: function 53 -/
def cmp_Compare_int.f (a0 : Int) (a1 : Int) : Option (Int) := (cmp_isNaN_int.f a0).bind fun t138 => ((cmp_isNaN_int.f a1).bind fun t139 => (if t138 = true then (if t139 = true then (some 0) else (some (-1))) else (if t139 = true then (some 1) else (if a0 < a1 then (some (-1)) else (if a0 > a1 then (some 1) else (some 0))))))
theorem cmp_Compare_int.calls (a0 : Int) (a1 : Int) (r : Int) (w : World) (h : cmp_Compare_int.f a0 a1 = some r) :
  Calls Try.prog 53 #[.int .i64 a0, .int .i64 a1] w fun e w' => e = .returned (.int .i64 r) ∧ Drawn0 w w' := by
 unfold cmp_Compare_int.f at h
 have H := h
 clear h
 replace H := Option.bind_eq_some_iff.mp H
 obtain ⟨t138, A30, H⟩ := H
 try dsimp only at H
 have A3 := My.am A30
 clear A30
 replace H := Option.bind_eq_some_iff.mp H
 obtain ⟨t139, A40, H⟩ := H
 try dsimp only at H
 have A4 := My.am A40
 clear A40
 by_cases c5 : t138 = true
 ·subst c5
  rw [if_pos rfl] at H
  by_cases c6 : t139 = true
  ·subst c6
   rw [if_pos rfl] at H
   obtain rfl := Option.some.inj H
   go_enter Try.func53, Try.ntmps53
   go_wp2_with (first | ((with_reducible refine gate_callee (f := 58) rfl ?_); refine goesL_ (some 8) rfl rfl Try.func58 (by kernel_rfl) rfl #[.int .i64 a0] rfl My.gx ?_; (with_reducible refine (cmp_isNaN_int.calls a0 true _ A3.out).mono ?_); rintro e w' ⟨rfl, ⟨nd, rfl⟩⟩; refine ⟨_, rfl, ?_⟩) | ((with_reducible refine gate_callee (f := 58) rfl ?_); refine goesL_ (some 10) rfl rfl Try.func58 (by kernel_rfl) rfl #[.int .i64 a1] rfl My.gx ?_; (with_reducible refine (cmp_isNaN_int.calls a1 true _ A4.out).mono ?_); rintro e w' ⟨rfl, ⟨nd, rfl⟩⟩; refine ⟨_, rfl, ?_⟩))
   go_ret
   exact ⟨by first | rfl | (simp; done) | (simp [*]; done), by repeat (first | exact Drawn0.refl _ | apply Drawn0.step)⟩
  ·replace c6 := Bool.eq_false_iff.mpr c6
   subst c6
   rw [if_neg (show ¬ (false = true) by decide)] at H
   obtain rfl := Option.some.inj H
   go_enter Try.func53, Try.ntmps53
   go_wp2_with (first | ((with_reducible refine gate_callee (f := 58) rfl ?_); refine goesL_ (some 8) rfl rfl Try.func58 (by kernel_rfl) rfl #[.int .i64 a0] rfl My.gx ?_; (with_reducible refine (cmp_isNaN_int.calls a0 true _ A3.out).mono ?_); rintro e w' ⟨rfl, ⟨nd, rfl⟩⟩; refine ⟨_, rfl, ?_⟩) | ((with_reducible refine gate_callee (f := 58) rfl ?_); refine goesL_ (some 10) rfl rfl Try.func58 (by kernel_rfl) rfl #[.int .i64 a1] rfl My.gx ?_; (with_reducible refine (cmp_isNaN_int.calls a1 false _ A4.out).mono ?_); rintro e w' ⟨rfl, ⟨nd, rfl⟩⟩; refine ⟨_, rfl, ?_⟩))
   go_ret
   exact ⟨by first | rfl | (simp; done) | (simp [*]; done), by repeat (first | exact Drawn0.refl _ | apply Drawn0.step)⟩
 ·replace c5 := Bool.eq_false_iff.mpr c5
  subst c5
  rw [if_neg (show ¬ (false = true) by decide)] at H
  by_cases c7 : t139 = true
  ·subst c7
   rw [if_pos rfl] at H
   obtain rfl := Option.some.inj H
   go_enter Try.func53, Try.ntmps53
   go_wp2_with (first | ((with_reducible refine gate_callee (f := 58) rfl ?_); refine goesL_ (some 8) rfl rfl Try.func58 (by kernel_rfl) rfl #[.int .i64 a0] rfl My.gx ?_; (with_reducible refine (cmp_isNaN_int.calls a0 false _ A3.out).mono ?_); rintro e w' ⟨rfl, ⟨nd, rfl⟩⟩; refine ⟨_, rfl, ?_⟩) | ((with_reducible refine gate_callee (f := 58) rfl ?_); refine goesL_ (some 10) rfl rfl Try.func58 (by kernel_rfl) rfl #[.int .i64 a1] rfl My.gx ?_; (with_reducible refine (cmp_isNaN_int.calls a1 true _ A4.out).mono ?_); rintro e w' ⟨rfl, ⟨nd, rfl⟩⟩; refine ⟨_, rfl, ?_⟩))
   go_ret
   exact ⟨by first | rfl | (simp; done) | (simp [*]; done), by repeat (first | exact Drawn0.refl _ | apply Drawn0.step)⟩
  replace c7 := Bool.eq_false_iff.mpr c7
  subst c7
  rw [if_neg (show ¬ (false = true) by decide)] at H
  by_cases c8 : a0 < a1
  ·rw [if_pos c8] at H
   have c8b0 := decide_eq_true c8
   clear c8
   obtain rfl := Option.some.inj H
   go_enter Try.func53, Try.ntmps53
   go_wp2_with (first | ((with_reducible refine gate_callee (f := 58) rfl ?_); refine goesL_ (some 8) rfl rfl Try.func58 (by kernel_rfl) rfl #[.int .i64 a0] rfl My.gx ?_; (with_reducible refine (cmp_isNaN_int.calls a0 false _ A3.out).mono ?_); rintro e w' ⟨rfl, ⟨nd, rfl⟩⟩; refine ⟨_, rfl, ?_⟩) | ((with_reducible refine gate_callee (f := 58) rfl ?_); refine goesL_ (some 10) rfl rfl Try.func58 (by kernel_rfl) rfl #[.int .i64 a1] rfl My.gx ?_; (with_reducible refine (cmp_isNaN_int.calls a1 false _ A4.out).mono ?_); rintro e w' ⟨rfl, ⟨nd, rfl⟩⟩; refine ⟨_, rfl, ?_⟩))
   go_ret
   exact ⟨by first | rfl | (simp; done) | (simp [*]; done), by repeat (first | exact Drawn0.refl _ | apply Drawn0.step)⟩
  rw [if_neg c8] at H
  have c8b0 := decide_eq_false c8
  clear c8
  by_cases c9 : a0 > a1
  ·rw [if_pos c9] at H
   have c9b0 : decide (a1 < a0) = true := decide_eq_true c9
   clear c9
   obtain rfl := Option.some.inj H
   go_enter Try.func53, Try.ntmps53
   go_wp2_with (first | ((with_reducible refine gate_callee (f := 58) rfl ?_); refine goesL_ (some 8) rfl rfl Try.func58 (by kernel_rfl) rfl #[.int .i64 a0] rfl My.gx ?_; (with_reducible refine (cmp_isNaN_int.calls a0 false _ A3.out).mono ?_); rintro e w' ⟨rfl, ⟨nd, rfl⟩⟩; refine ⟨_, rfl, ?_⟩) | ((with_reducible refine gate_callee (f := 58) rfl ?_); refine goesL_ (some 10) rfl rfl Try.func58 (by kernel_rfl) rfl #[.int .i64 a1] rfl My.gx ?_; (with_reducible refine (cmp_isNaN_int.calls a1 false _ A4.out).mono ?_); rintro e w' ⟨rfl, ⟨nd, rfl⟩⟩; refine ⟨_, rfl, ?_⟩))
   go_ret
   exact ⟨by first | rfl | (simp; done) | (simp [*]; done), by repeat (first | exact Drawn0.refl _ | apply Drawn0.step)⟩
  rw [if_neg c9] at H
  have c9b0 : decide (a1 < a0) = false := decide_eq_false c9
  clear c9
  obtain rfl := Option.some.inj H
  go_enter Try.func53, Try.ntmps53
  go_wp2_with (first | ((with_reducible refine gate_callee (f := 58) rfl ?_); refine goesL_ (some 8) rfl rfl Try.func58 (by kernel_rfl) rfl #[.int .i64 a0] rfl My.gx ?_; (with_reducible refine (cmp_isNaN_int.calls a0 false _ A3.out).mono ?_); rintro e w' ⟨rfl, ⟨nd, rfl⟩⟩; refine ⟨_, rfl, ?_⟩) | ((with_reducible refine gate_callee (f := 58) rfl ?_); refine goesL_ (some 10) rfl rfl Try.func58 (by kernel_rfl) rfl #[.int .i64 a1] rfl My.gx ?_; (with_reducible refine (cmp_isNaN_int.calls a1 false _ A4.out).mono ?_); rintro e w' ⟨rfl, ⟨nd, rfl⟩⟩; refine ⟨_, rfl, ?_⟩))
  go_ret
  exact ⟨by first | rfl | (simp; done) | (simp [*]; done), by repeat (first | exact Drawn0.refl _ | apply Drawn0.step)⟩

/-! ### ident_Cmp_1: function 55 -/
def ident_Cmp_1.f (k : Nat) (a0_0 : Int) (a0_1 : Int) (a1_0 : Int) (a1_1 : Int) : Option (Int) := (cmp_Compare_int.f a0_0 a1_0).bind fun t142 => ((cmp_Compare_int.f a0_1 a1_1).bind fun t143 => ((cmp_Or_int.f k (([t142, t143] : List Int))).bind fun t147 => (some t147)))
theorem ident_Cmp_1.mono : ∀ a0 a1 a2 a3 k, LeO (ident_Cmp_1.f k a0 a1 a2 a3) (ident_Cmp_1.f (k + 1) a0 a1 a2 a3) := by
 intro a0 a1 a2 a3 k
 unfold ident_Cmp_1.f
 repeat' (with_reducible first | exact cmp_Or_int.mono _ _ | exact LeO.refl _ | exact LeO.none _ | apply LeO.ite | refine LeO.bind ?_ (fun _ => ?_))
def ident_Cmp_1.T1 : Bool × List (List Nat × List Nat) := (true, [([], []), ([0], [0]), ([], []), ([2], [2]), ([1, 3], [1, 3]), ([], []), ([5], [5]), ([], []), ([7], [7]), ([6, 8, 4], [6, 8]), ([4, 9], [4, 9]), ([10, 9], [10]), ([11, 11, 0, 1, 2, 3, 4, 5, 6, 7, 8, 9, 10, 11], [11])])
def ident_Cmp_1.B1 : List Nat := [0, 1, 0, 4, 15, 0, 32, 0, 128, 511, 1023, 2047, 4095]
theorem ident_Cmp_1.tab1 : rtab .any (opsOf Try.f55 1) = ident_Cmp_1.T1 := by kernel_rfl
theorem ident_Cmp_1.bits1 : waitsOk ident_Cmp_1.T1.2 ident_Cmp_1.B1 = true := by kernel_rfl
theorem ident_Cmp_1.calls (k : Nat) (a0_0 : Int) (a0_1 : Int) (a1_0 : Int) (a1_1 : Int) (r : Int) (w : World) (h : ident_Cmp_1.f k a0_0 a0_1 a1_0 a1_1 = some r) :
  Calls Try.prog 55 #[.agg #[.int .i64 a0_0, .int .i64 a0_1], .agg #[.int .i64 a1_0, .int .i64 a1_1]] w fun e w' => e = .returned (.int .i64 r) ∧ Below w.heap.size w w' := by
 have hu62 := Try.underlying62
 have HB := My.am (Below.refl w.heap.size w)
 unfold ident_Cmp_1.f at h
 have H := h
 clear h
 replace H := Option.bind_eq_some_iff.mp H
 obtain ⟨t142, A30, H⟩ := H
 try dsimp only at H
 have A3 := My.am A30
 clear A30
 replace H := Option.bind_eq_some_iff.mp H
 obtain ⟨t143, A40, H⟩ := H
 try dsimp only at H
 have A4 := My.am A40
 clear A40
 obtain ⟨y144, hy144⟩ : ∃ y_ : List Int, y_ = (([t142, t143] : List Int)) := ⟨_, rfl⟩
 replace H : ((cmp_Or_int.f k y144).bind fun t147 => (some t147)) = some r := by first | (rw [hy144]; with_reducible exact H) | (have H2_ := (Option.bind_some _ _).symm.trans H; rw [hy144]; with_reducible exact H2_) | (have H2_ := (Option.bind_some _ _).symm.trans H; with_reducible exact H2_) | with_reducible exact H | (rw [hy144]; exact H) | exact H
 have Ny144 := My.am hy144
 clear hy144
 replace H := Option.bind_eq_some_iff.mp H
 obtain ⟨t147, A50, H⟩ := H
 try dsimp only at H
 have A5 := My.am A50
 clear A50
 obtain rfl := Option.some.inj H
 go_enter Try.func55, Try.ntmps55
 try go_wp2_with (first | ((with_reducible refine gate_dst (N := 2) rfl ?_); refine My.bx 2 #[.int .i64 a0_0, .int .i64 a0_1] 62 ?_; intro gb140 hg w6 hbox hb; have BK140 := My.am (hbox); have GE140 := My.nge hg (My.bl_ HB); replace HB := My.st HB hb; clear hb hbox hg) | ((with_reducible refine gate_dst (N := 3) rfl ?_); refine My.bx 3 #[.int .i64 a1_0, .int .i64 a1_1] 62 ?_; intro gb141 hg w7 hbox hb; have BK141 := My.am (hbox); have GE141 := My.nge hg (My.bl_ HB); replace HB := My.st HB hb; replace BK140 := My.ab BK140 hb; clear hb hbox hg))
 replace BK140 := My.am (blk_drew BK140.out)
 replace BK141 := My.am (blk_drew BK141.out)
 replace HB := My.am (below_drew1 HB.out)
 refine start_ (n := 13) (S := fun w' => w'.cell? ⟨gb140, 0, none⟩ = some (.int .i64 a0_0) ∧ w'.cell? ⟨gb140, 1, none⟩ = some (.int .i64 a0_1) ∧ w'.cell? ⟨gb141, 0, none⟩ = some (.int .i64 a1_0) ∧ w'.cell? ⟨gb141, 1, none⟩ = some (.int .i64 a1_1)) (ds := []) #[false, false, false, false, false, false, false, false, false, false, false, false, false] (by kernel_rfl) rfl rfl ⟨My.b_ BK140 0, My.b_ BK140 1, My.b_ BK141 0, My.b_ BK141 1⟩ (fun hHeld => ?_); refine with_tabW ident_Cmp_1.tab1 ident_Cmp_1.bits1 (fun HT_ HW_ => ?_)
 generalize w7.drew = w8 at BK140 BK141 HB hHeld ⊢
 refine My.pu_ 0 5 13 HT_.out ?_
 refine My.pv_ 2 7 13 5 HT_.out ?_
 refine My.pv_ 5 10 13 37 HT_.out ?_
 refine My.pv_ 7 12 13 165 HT_.out ?_
 refine My.tv_ 1 6 13 167 HT_.out HW_.out hHeld rfl rfl (by rintro w' ⟨s0, s1, s2, s3⟩; go_simp; with_reducible rfl) ?_
 refine My.tv_ 3 8 13 175 HT_.out HW_.out hHeld rfl rfl (by rintro w' ⟨s0, s1, s2, s3⟩; go_simp; with_reducible rfl) ?_
 refine My.tv_ 6 11 13 239 HT_.out HW_.out hHeld rfl rfl (by rintro w' ⟨s0, s1, s2, s3⟩; go_simp; with_reducible rfl) ?_
 refine My.tv_ 8 13 13 495 HT_.out HW_.out hHeld rfl rfl (by rintro w' ⟨s0, s1, s2, s3⟩; go_simp; with_reducible rfl) ?_
 refine one_ (i := 4) (N := some 9) (My.Mb 13 511) rfl rfl (one_of HT_.out (by kernel_rfl)) (by decide) (fun K hK => ?_)
 refine goes_ Try.func53 (by kernel_rfl) rfl #[.int .i64 a0_0, .int .i64 a1_0] (by rfl) rfl rfl My.gx ?_
 with_reducible refine (cmp_Compare_int.calls a0_0 a1_0 t142 _ A3.out).mono ?_
 rintro e w' ⟨rfl, ⟨nd, rfl⟩⟩
 refine ⟨_, rfl, ?_⟩
 refine hK.out _ _ ⟨My.b_ BK140 0, My.b_ BK140 1, My.b_ BK141 0, My.b_ BK141 1⟩ (fun hHeld => ?_)
 clear hK K
 refine My.nm 9 ?_
 refine one_ (i := 9) (N := some 14) (My.Mb 13 1023) rfl rfl (one_of HT_.out (by kernel_rfl)) (by decide) (fun K hK => ?_)
 refine goes_ Try.func53 (by kernel_rfl) rfl #[.int .i64 a0_1, .int .i64 a1_1] (by rfl) rfl rfl My.gx ?_
 with_reducible refine (cmp_Compare_int.calls a0_1 a1_1 t143 _ A4.out).mono ?_
 rintro e w' ⟨rfl, ⟨nd, rfl⟩⟩
 refine ⟨_, rfl, ?_⟩
 refine hK.out _ _ ⟨My.b_ BK140 0, My.b_ BK140 1, My.b_ BK141 0, My.b_ BK141 1⟩ (fun hHeld => ?_)
 clear hK K
 refine My.nm 14 ?_
 refine one_ (i := 10) (N := some 15) (My.Mb 13 2047) rfl rfl (one_of HT_.out (by kernel_rfl)) (by decide) (fun K hK => ?_)
 refine Kd.R_lit_step (Kd.int .i64) _ 3 ?hg (N := 15) ?hd (xs := ([t142, t143] : List Int)) (inner := [.int .i64 t142, .int .i64 t143]) (ok := fun _ => True) (okp := fun _ => True) ?hr ?hp (fun _ hk => hk) trivial (Below.refl _ _) (Nat.le_refl _) (by simp) ?_; (case hd => rfl); (case hg => rfl); (case hr => first | (go_simp; done) | (go_simp; rfl)); (case hp => exact (Reps.one (show Kd.M (Kd.int .i64) _ _ _ t142 [.int .i64 t142] from rfl) (Reps.one (show Kd.M (Kd.int .i64) _ _ _ t143 [.int .i64 t143] from rfl) (Reps.none _ _))))
 intro v145 w9 ho10 hb hg_ hnew_
 clear hg_ hnew_
 (first | rw [← Ny144.out] at ho10 | (simp only [Int.reduceToNat] at ho10; rw [← Ny144.out] at ho10))
 have HO146 := My.am (Kd.R_lower ho10 (below_size (My.bl_ HB)))
 replace BK140 := My.ab BK140 hb
 replace BK141 := My.ab BK141 hb
 replace HB := My.st HB hb
 clear hb ho10
 obtain ⟨Ao11, co11, eo11⟩ := Kd.R_slice HO146.out
 (first | subst eo11 | (injection eo11 with f1_ f2_ f3_; have f4_ := f1_.symm; have f5_ := f3_.symm; clear f1_ f2_ f3_; subst f4_; subst f5_))
 refine hK.out _ _ ⟨My.b_ BK140 0, My.b_ BK140 1, My.b_ BK141 0, My.b_ BK141 1⟩ (fun hHeld => ?_)
 clear hK K
 refine My.nm 15 ?_
 refine one_ (i := 11) (N := some 16) (My.Mb 13 4095) rfl rfl (one_of HT_.out (by kernel_rfl)) (by decide) (fun K hK => ?_)
 refine goes_ Try.func52 (by kernel_rfl) rfl #[.slice Ao11 y144.length co11] (by rfl) rfl rfl My.gx ?_
 with_reducible refine (cmp_Or_int.calls k _ _ y144 t147 _ ?side1 ?side2 A5.out).mono ?_
 (case side1 => repeat (first | exact (Kd.R_reads' HO146.out).2.2 | (with_reducible refine Kd.C_alloc ?_ _) | (with_reducible refine Kd.C_drewN ?_ _) | (with_reducible refine Kd.C_drew ?_)))
 (case side2 => exact (Kd.R_reads' HO146.out).2.1)
 rintro e w' ⟨rfl, ⟨nd, rfl⟩⟩
 refine ⟨_, rfl, ?_⟩
 refine hK.out _ _ ⟨My.b_ BK140 0, My.b_ BK140 1, My.b_ BK141 0, My.b_ BK141 1⟩ (fun hHeld => ?_)
 clear hK K
 refine My.nm 16 ?_
 refine My.pu_ 12 4 13 HT_.out ?_
 refine done_ (done_of HT_.out (by kernel_rfl)) ?_
 try go_wp2
 go_ret
 exact ⟨My.r2, (My.bl_ HB)⟩

/-! ### api_Hop_54: function 54 -/
def api_Hop_54.l0 : Nat → List (S62) → List (S62) → List (S62) → Int → Int → Option (Int)
 | 0, _, _, _, _, _ => none
 | k + 1, x0, x1, x11, x12, x13 => if x13 < x12 then (if 0 ≤ x13 then (if x13 < (x11.length : Int) then (if x13 ≥ (x1.length : Int) then (some 1) else (if x13 < (x1.length : Int) then ((ident_Cmp_1.f k ((rd_T62 x11 x13).f0) ((rd_T62 x11 x13).f1) ((rd_T62 x1 x13).f0) ((rd_T62 x1 x13).f1)).bind fun t152 => (if t152 = 0 then (api_Hop_54.l0 k x0 x1 x11 x12 (wrap64 (x13 + 1))) else (some t152))) else (none))) else (none)) else (none)) else (if (x0.length : Int) < (x1.length : Int) then (some (-1)) else (some 0))
def api_Hop_54.f (k : Nat) (l0 : List (S62)) (l1 : List (S62)) (a2 : Int) : Option (Int) := api_Hop_54.l0 k l0 l1 l0 (l0.length : Int) 0
theorem api_Hop_54.mono_l : ∀ k, (∀ y0 y1 y2 y3 y4, LeO (api_Hop_54.l0 k y0 y1 y2 y3 y4) (api_Hop_54.l0 (k + 1) y0 y1 y2 y3 y4))
 | 0 => fun _ _ _ _ _ r h => by simp [api_Hop_54.l0] at h
 | k + 1 => by
  have ih0 := api_Hop_54.mono_l k
  intro y0 y1 y2 y3 y4
  unfold api_Hop_54.l0
  repeat' (with_reducible first | exact ih0 _ _ _ _ _ | exact ident_Cmp_1.mono _ _ _ _ _ | exact LeO.refl _ | exact LeO.none _ | apply LeO.ite | refine LeO.bind ?_ (fun _ => ?_))
theorem api_Hop_54.mono : ∀ a0 a1 a2 k, LeO (api_Hop_54.f k a0 a1 a2) (api_Hop_54.f (k + 1) a0 a1 a2) := by
 intro a0 a1 a2 k
 have ih0 := api_Hop_54.mono_l k
 unfold api_Hop_54.f
 repeat' (with_reducible first | exact ih0 _ _ _ _ _ | exact ident_Cmp_1.mono _ _ _ _ _ | exact LeO.refl _ | exact LeO.none _ | apply LeO.ite | refine LeO.bind ?_ (fun _ => ?_))
theorem api_Hop_54.calls (k : Nat) (A0 : Option Addr) (c0 : Nat) (l0 : List (S62)) (A1 : Option Addr) (c1 : Nat) (l1 : List (S62)) (a2 : Int) (r : Int) (w : World) (hr0 : Kd.C k62 w A0 l0.length l0) (hc0 : l0.length ≤ c0) (hr1 : Kd.C k62 w A1 l1.length l1) (hc1 : l1.length ≤ c1) (h : api_Hop_54.f k l0 l1 a2 = some r) :
  Calls Try.prog 54 #[.slice A0 l0.length c0, .slice A1 l1.length c1, .func (.func 55) #[] #[]] w fun e w' => e = .returned (.int .i64 r) ∧ Below w.heap.size w w' := by
 have hu62 := Try.underlying62
 have HR0 := My.am hr0
 have HC0 := My.am hc0
 clear hr0 hc0
 have HR1 := My.am hr1
 have HC1 := My.am hc1
 clear hr1 hc1
 have HB := My.am (Below.refl w.heap.size w)
 unfold api_Hop_54.f at h
 have H := h
 clear h
 have H' := My.am H
 clear H
 go_enter Try.func54, Try.ntmps54
 go_wp2
 go_loopg [13] k (fun kq v13 w' => ∃ (x13_1 : Int), v13 = .int .i64 x13_1 ∧ Aside0 (api_Hop_54.l0 kq l0 l1 l0 (l0.length : Int) x13_1 = some r) ∧ Aside0 (kq ≤ k) ∧ Aside0 (Below w.heap.size w w'))
 case atStart => exact ⟨(0), My.r1, H', ⟨Nat.le_refl _⟩, ⟨(My.bl_ HB)⟩⟩
 case round =>
  clear H'
  try clear c1
  obtain ⟨x13_1, rfl, HA, HK1, HB⟩ := hrel
  cases gk with
  | zero => exact absurd HA.out (by simp [api_Hop_54.l0])
  | succ k1 =>
   have H := HA.out
   clear HA
   simp only [api_Hop_54.l0] at H
   by_cases c4 : x13_1 < (l0.length : Int)
   rotate_left
   ·rw [if_neg c4] at H
    have c4b0 := decide_eq_false c4
    clear c4
    by_cases c27 : (l0.length : Int) < (l1.length : Int)
    ·rw [if_pos c27] at H
     have c27b0 := decide_eq_true c27
     have c27b1 : decide (l0.length < l1.length) = true := decide_eq_true (Int.ofNat_lt.mp c27)
     clear c27
     obtain rfl := Option.some.inj H
     go_wp2
     go_ret
     exact ⟨My.r2, (My.bl_ HB)⟩
    rw [if_neg c27] at H
    have c27b0 := decide_eq_false c27
    have c27b1 : decide (l0.length < l1.length) = false := decide_eq_false (fun h => c27 (Int.ofNat_lt.mpr h))
    clear c27
    obtain rfl := Option.some.inj H
    go_wp2
    go_ret
    exact ⟨My.r2, (My.bl_ HB)⟩

   rw [if_pos c4] at H
   have c4b0 := decide_eq_true c4
   clear c4
   replace H := My.ds H
   obtain ⟨c5b0, H⟩ := H
   replace H := My.ds H
   obtain ⟨c6b0, H⟩ := H
   by_cases c7 : x13_1 ≥ (l1.length : Int)
   ·rw [if_pos c7] at H
    have c7b0 : decide ((l1.length : Int) ≤ x13_1) = true := decide_eq_true c7
    clear c7
    obtain rfl := Option.some.inj H
    have p148 : 0 ≤ (x13_1 : Int) := My.as_
    have q148 : x13_1 < (l0.length : Int) := My.as_
    obtain ⟨ad148, e148, hx148_0, hx148_1⟩ := My.up2 HB (at_T62 HR0.out x13_1 p148 q148)
    cases e148
    replace p148 := eq_true p148
    replace q148 := eq_true q148
    go_wp2_with (first | ((with_reducible refine gate_dst (N := 8) rfl ?_); refine My.bx 8 #[.int .i64 0, .int .i64 0] 62 ?_; intro gb149 hg w8 hbox hb; have BK149 := My.am (hbox); have GW149 := My.nge hg (My.bl_ HB); have GE149 := GW149; replace HB := My.st HB hb; clear hb hbox hg; have hq9 := My.cz2 BK149))
    go_ret
    exact ⟨My.r2, (My.bl_ HB)⟩
   rw [if_neg c7] at H
   have c7b0 : decide ((l1.length : Int) ≤ x13_1) = false := decide_eq_false c7
   clear c7
   replace H := My.ds H
   obtain ⟨c10b0, H⟩ := H
   replace H := Option.bind_eq_some_iff.mp H
   obtain ⟨t152, A110, H⟩ := H
   try dsimp only at H
   have A11 := My.am A110
   clear A110
   by_cases c12 : t152 = 0
   ·rw [if_pos c12] at H
    have c12b0 : (t152 == 0) = true := beq_iff_eq.mpr c12
    have c12b1 : (t152 != 0) = false := bne_eq_false_iff_eq.mpr c12
    clear c12
    have H' := My.am H
    clear H
    have p148 : 0 ≤ (x13_1 : Int) := My.as_
    have q148 : x13_1 < (l0.length : Int) := My.as_
    obtain ⟨ad148, e148, hx148_0, hx148_1⟩ := My.up2 HB (at_T62 HR0.out x13_1 p148 q148)
    cases e148
    replace p148 := eq_true p148
    replace q148 := eq_true q148
    go_wp2_with (first | ((with_reducible refine gate_dst (N := 8) rfl ?_); refine My.bx 8 #[.int .i64 0, .int .i64 0] 62 ?_; intro gb149 hg w13 hbox hb; have BK149 := My.am (hbox); have GW149 := My.nge hg (My.bl_ HB); have GE149 := GW149; replace HB := My.st HB hb; clear hb hbox hg; have hq14 := My.cz2 BK149; have p150 : 0 ≤ (x13_1 : Int) := My.as_; have q150 : x13_1 < (l1.length : Int) := My.as_; obtain ⟨ad150, e150, hx150_0, hx150_1⟩ := at_T62 HR1.out x13_1 p150 q150; cases e150; have hn150_0 : ad150.block ≠ gb149 := Nat.ne_of_lt (Nat.lt_of_lt_of_le (by have := World.block_lt_of_cell? _ _ hx150_0; first | rwa [add_block] at this | exact this) GW149.out); have hn150_1 : ad150.block ≠ gb149 := Nat.ne_of_lt (Nat.lt_of_lt_of_le (by have := World.block_lt_of_cell? _ _ hx150_0; first | rwa [add_block] at this | exact this) GW149.out); replace hx150_0 := My.up HB hx150_0; replace hx150_1 := My.up HB hx150_1; replace hx150_0 := (cell_far (p := ⟨gb149, 0, none⟩) (by first | (rw [add_block]; exact hn150_0) | (show (Addr.add _ _).block ≠ _; rw [add_block]; exact hn150_0) | exact hn150_0) (.int .i64 ((rd_T62 l0 x13_1).f0))).trans hx150_0; replace hx150_1 := (cell_far (p := ⟨gb149, 0, none⟩) (by first | (rw [add_block]; exact hn150_0) | (show (Addr.add _ _).block ≠ _; rw [add_block]; exact hn150_0) | exact hn150_0) (.int .i64 ((rd_T62 l0 x13_1).f0))).trans hx150_1; replace hx150_0 := (cell_far (p := ⟨gb149, 1, none⟩) (by first | (rw [add_block]; exact hn150_1) | (show (Addr.add _ _).block ≠ _; rw [add_block]; exact hn150_1) | exact hn150_1) (.int .i64 ((rd_T62 l0 x13_1).f1))).trans hx150_0; replace hx150_1 := (cell_far (p := ⟨gb149, 1, none⟩) (by first | (rw [add_block]; exact hn150_1) | (show (Addr.add _ _).block ≠ _; rw [add_block]; exact hn150_1) | exact hn150_1) (.int .i64 ((rd_T62 l0 x13_1).f1))).trans hx150_1; clear hn150_0; clear hn150_1; replace p150 := eq_true p150; replace q150 := eq_true q150) | ((with_reducible refine gate_dst (N := 9) rfl ?_); refine My.bx 9 #[.int .i64 0, .int .i64 0] 62 ?_; intro gb151 hg w15 hbox hb; have BK151 := My.am (hbox); have GE151 := My.nge hg (My.bl_ HB); replace HB := My.st HB hb; have NB149_151 := My.am ((by rw [hg]; exact Nat.ne_of_lt (blk_lt (g := gb149) (o := .cells #[.int .i64 ((rd_T62 l0 x13_1).f0), .int .i64 ((rd_T62 l0 x13_1).f1)] 62 (0, 0)) ((My.sv_ BK149))) : gb149 ≠ gb151)); have NB151_149 := My.am ((by rw [hg]; exact Nat.ne_of_gt (blk_lt (g := gb149) (o := .cells #[.int .i64 ((rd_T62 l0 x13_1).f0), .int .i64 ((rd_T62 l0 x13_1).f1)] 62 (0, 0)) ((My.sv_ BK149))) : gb151 ≠ gb149)); replace BK149 := My.am (blk_below (g := gb149) (o := .cells #[.int .i64 ((rd_T62 l0 x13_1).f0), .int .i64 ((rd_T62 l0 x13_1).f1)] 62 (0, 0)) ((My.sv_ BK149)) hb); clear hb hbox hg; have hnb16 := NB151_149.out; have hnc16 := NB149_151.out; have hq17 := My.cz2 BK151; have hq18 := My.cz2 BK149) | ((with_reducible refine gate_dst (N := 29) rfl ?_); refine My.goesV_ (f := 55) (first := #[]) (cap := #[]) (some 29) rfl rfl Try.func55 (by kernel_rfl) rfl #[.agg #[.int .i64 ((rd_T62 l0 x13_1).f0), .int .i64 ((rd_T62 l0 x13_1).f1)], .agg #[.int .i64 ((rd_T62 l1 x13_1).f0), .int .i64 ((rd_T62 l1 x13_1).f1)]] rfl rfl (by simp only [List.map_toArray, List.map_cons, List.map_nil, Array.empty_append, Array.append_empty]; first | done | rfl | (simp [Act.eval]; done)) ?_; (with_reducible refine (ident_Cmp_1.calls k1 ((rd_T62 l0 x13_1).f0) ((rd_T62 l0 x13_1).f1) ((rd_T62 l1 x13_1).f0) ((rd_T62 l1 x13_1).f1) t152 _ A11.out).mono ?_); rintro e w19 ⟨rfl, hb⟩; refine ⟨_, rfl, ?_⟩; replace BK149 := My.am (blk_below (g := gb149) (o := .cells #[.int .i64 ((rd_T62 l0 x13_1).f0), .int .i64 ((rd_T62 l0 x13_1).f1)] 62 (0, 0)) ((My.sv_ BK149)) hb); replace BK151 := My.am (blk_below (g := gb151) (o := .cells #[.int .i64 ((rd_T62 l1 x13_1).f0), .int .i64 ((rd_T62 l1 x13_1).f1)] 62 (0, 0)) ((My.sv_ BK151)) hb); replace HB := My.st HB hb; (try clear hb)))
    go_roundg k1
    case measure => have := HK1.out; omega
    case rel => exact ⟨(wrap64 (x13_1 + 1)), My.r1, H', ⟨by have := HK1.out; omega⟩, ⟨(My.bl_ HB)⟩⟩
   rw [if_neg c12] at H
   have c12b0 : (t152 == 0) = false := beq_eq_false_iff_ne.mpr c12
   have c12b1 : (t152 != 0) = true := bne_iff_ne.mpr c12
   obtain rfl := Option.some.inj H
   have p148 : 0 ≤ (x13_1 : Int) := My.as_
   have q148 : x13_1 < (l0.length : Int) := My.as_
   obtain ⟨ad148, e148, hx148_0, hx148_1⟩ := My.up2 HB (at_T62 HR0.out x13_1 p148 q148)
   cases e148
   replace p148 := eq_true p148
   replace q148 := eq_true q148
   go_wp2_with (first | ((with_reducible refine gate_dst (N := 8) rfl ?_); refine My.bx 8 #[.int .i64 0, .int .i64 0] 62 ?_; intro gb149 hg w20 hbox hb; have BK149 := My.am (hbox); have GW149 := My.nge hg (My.bl_ HB); have GE149 := GW149; replace HB := My.st HB hb; clear hb hbox hg; have hq21 := My.cz2 BK149; have p150 : 0 ≤ (x13_1 : Int) := My.as_; have q150 : x13_1 < (l1.length : Int) := My.as_; obtain ⟨ad150, e150, hx150_0, hx150_1⟩ := at_T62 HR1.out x13_1 p150 q150; cases e150; have hn150_0 : ad150.block ≠ gb149 := Nat.ne_of_lt (Nat.lt_of_lt_of_le (by have := World.block_lt_of_cell? _ _ hx150_0; first | rwa [add_block] at this | exact this) GW149.out); have hn150_1 : ad150.block ≠ gb149 := Nat.ne_of_lt (Nat.lt_of_lt_of_le (by have := World.block_lt_of_cell? _ _ hx150_0; first | rwa [add_block] at this | exact this) GW149.out); replace hx150_0 := My.up HB hx150_0; replace hx150_1 := My.up HB hx150_1; replace hx150_0 := (cell_far (p := ⟨gb149, 0, none⟩) (by first | (rw [add_block]; exact hn150_0) | (show (Addr.add _ _).block ≠ _; rw [add_block]; exact hn150_0) | exact hn150_0) (.int .i64 ((rd_T62 l0 x13_1).f0))).trans hx150_0; replace hx150_1 := (cell_far (p := ⟨gb149, 0, none⟩) (by first | (rw [add_block]; exact hn150_0) | (show (Addr.add _ _).block ≠ _; rw [add_block]; exact hn150_0) | exact hn150_0) (.int .i64 ((rd_T62 l0 x13_1).f0))).trans hx150_1; replace hx150_0 := (cell_far (p := ⟨gb149, 1, none⟩) (by first | (rw [add_block]; exact hn150_1) | (show (Addr.add _ _).block ≠ _; rw [add_block]; exact hn150_1) | exact hn150_1) (.int .i64 ((rd_T62 l0 x13_1).f1))).trans hx150_0; replace hx150_1 := (cell_far (p := ⟨gb149, 1, none⟩) (by first | (rw [add_block]; exact hn150_1) | (show (Addr.add _ _).block ≠ _; rw [add_block]; exact hn150_1) | exact hn150_1) (.int .i64 ((rd_T62 l0 x13_1).f1))).trans hx150_1; clear hn150_0; clear hn150_1; replace p150 := eq_true p150; replace q150 := eq_true q150) | ((with_reducible refine gate_dst (N := 9) rfl ?_); refine My.bx 9 #[.int .i64 0, .int .i64 0] 62 ?_; intro gb151 hg w22 hbox hb; have BK151 := My.am (hbox); have GE151 := My.nge hg (My.bl_ HB); replace HB := My.st HB hb; have NB149_151 := My.am ((by rw [hg]; exact Nat.ne_of_lt (blk_lt (g := gb149) (o := .cells #[.int .i64 ((rd_T62 l0 x13_1).f0), .int .i64 ((rd_T62 l0 x13_1).f1)] 62 (0, 0)) ((My.sv_ BK149))) : gb149 ≠ gb151)); have NB151_149 := My.am ((by rw [hg]; exact Nat.ne_of_gt (blk_lt (g := gb149) (o := .cells #[.int .i64 ((rd_T62 l0 x13_1).f0), .int .i64 ((rd_T62 l0 x13_1).f1)] 62 (0, 0)) ((My.sv_ BK149))) : gb151 ≠ gb149)); replace BK149 := My.am (blk_below (g := gb149) (o := .cells #[.int .i64 ((rd_T62 l0 x13_1).f0), .int .i64 ((rd_T62 l0 x13_1).f1)] 62 (0, 0)) ((My.sv_ BK149)) hb); clear hb hbox hg; have hnb23 := NB151_149.out; have hnc23 := NB149_151.out; have hq24 := My.cz2 BK151; have hq25 := My.cz2 BK149) | ((with_reducible refine gate_dst (N := 29) rfl ?_); refine My.goesV_ (f := 55) (first := #[]) (cap := #[]) (some 29) rfl rfl Try.func55 (by kernel_rfl) rfl #[.agg #[.int .i64 ((rd_T62 l0 x13_1).f0), .int .i64 ((rd_T62 l0 x13_1).f1)], .agg #[.int .i64 ((rd_T62 l1 x13_1).f0), .int .i64 ((rd_T62 l1 x13_1).f1)]] rfl rfl (by simp only [List.map_toArray, List.map_cons, List.map_nil, Array.empty_append, Array.append_empty]; first | done | rfl | (simp [Act.eval]; done)) ?_; (with_reducible refine (ident_Cmp_1.calls k1 ((rd_T62 l0 x13_1).f0) ((rd_T62 l0 x13_1).f1) ((rd_T62 l1 x13_1).f0) ((rd_T62 l1 x13_1).f1) t152 _ A11.out).mono ?_); rintro e w26 ⟨rfl, hb⟩; refine ⟨_, rfl, ?_⟩; replace HB := My.st HB hb; (try clear hb)))
   go_ret
   exact ⟨My.r2, (My.bl_ HB)⟩
/-! ### ident_Cmp: function 47 -/
def ident_Cmp.f (k : Nat) (a0_0 : Int) (a0_1 : Int) (l0_2 : List (S62)) (a1_0 : Int) (a1_1 : Int) (l1_2 : List (S62)) : Option (Int) := (cmp_Compare_int.f a0_0 a1_0).bind fun t155 => ((cmp_Compare_int.f a0_1 a1_1).bind fun t156 => ((api_Hop_54.f k l0_2 l1_2 0).bind fun t157 => ((cmp_Or_int.f k (([t155, t156, t157] : List Int))).bind fun t161 => (some t161))))
theorem ident_Cmp.mono : ∀ a0 a1 a2 a3 a4 a5 k, LeO (ident_Cmp.f k a0 a1 a2 a3 a4 a5) (ident_Cmp.f (k + 1) a0 a1 a2 a3 a4 a5) := by
 intro a0 a1 a2 a3 a4 a5 k
 unfold ident_Cmp.f
 repeat' (with_reducible first | exact api_Hop_54.mono _ _ _ _ | exact cmp_Or_int.mono _ _ | exact LeO.refl _ | exact LeO.none _ | apply LeO.ite | refine LeO.bind ?_ (fun _ => ?_))
def ident_Cmp.T1 : Bool × List (List Nat × List Nat) := (true, [([], []), ([0], [0]), ([], []), ([2], [2]), ([1, 3], [1, 3]), ([], []), ([5], [5]), ([], []), ([7], [7]), ([6, 8, 4], [6, 8]), ([], []), ([10], [10]), ([], []), ([12], [12]), ([11, 13, 9], [11, 13]), ([4, 9, 14], [4, 9, 14]), ([15, 14], [15]), ([16, 16, 0, 1, 2, 3, 4, 5, 6, 7, 8, 9, 10, 11, 12, 13, 14, 15, 16], [16])])
def ident_Cmp.B1 : List Nat := [0, 1, 0, 4, 15, 0, 32, 0, 128, 511, 0, 1024, 0, 4096, 16383, 32767, 65535, 131071]
theorem ident_Cmp.tab1 : rtab .any (opsOf Try.f47 1) = ident_Cmp.T1 := by kernel_rfl
theorem ident_Cmp.bits1 : waitsOk ident_Cmp.T1.2 ident_Cmp.B1 = true := by kernel_rfl
theorem ident_Cmp.calls (k : Nat) (a0_0 : Int) (a0_1 : Int) (A0_2 : Option Addr) (c0_2 : Nat) (l0_2 : List (S62)) (a1_0 : Int) (a1_1 : Int) (A1_2 : Option Addr) (c1_2 : Nat) (l1_2 : List (S62)) (r : Int) (w : World) (hr0_2 : Kd.C k62 w A0_2 l0_2.length l0_2) (hc0_2 : l0_2.length ≤ c0_2) (hr1_2 : Kd.C k62 w A1_2 l1_2.length l1_2) (hc1_2 : l1_2.length ≤ c1_2) (h : ident_Cmp.f k a0_0 a0_1 l0_2 a1_0 a1_1 l1_2 = some r) :
  Calls Try.prog 47 #[.agg #[.int .i64 a0_0, .int .i64 a0_1, .slice A0_2 l0_2.length c0_2], .agg #[.int .i64 a1_0, .int .i64 a1_1, .slice A1_2 l1_2.length c1_2]] w fun e w' => e = .returned (.int .i64 r) ∧ Below w.heap.size w w' := by
 have hu35 := Try.underlying35
 have HR0_2 := My.am hr0_2
 have HC0_2 := My.am hc0_2
 clear hr0_2 hc0_2
 have HR1_2 := My.am hr1_2
 have HC1_2 := My.am hc1_2
 clear hr1_2 hc1_2
 have HB := My.am (Below.refl w.heap.size w)
 unfold ident_Cmp.f at h
 have H := h
 clear h
 replace H := Option.bind_eq_some_iff.mp H
 obtain ⟨t155, A30, H⟩ := H
 try dsimp only at H
 have A3 := My.am A30
 clear A30
 replace H := Option.bind_eq_some_iff.mp H
 obtain ⟨t156, A40, H⟩ := H
 try dsimp only at H
 have A4 := My.am A40
 clear A40
 replace H := Option.bind_eq_some_iff.mp H
 obtain ⟨t157, A50, H⟩ := H
 try dsimp only at H
 have A5 := My.am A50
 clear A50
 obtain ⟨y158, hy158⟩ : ∃ y_ : List Int, y_ = (([t155, t156, t157] : List Int)) := ⟨_, rfl⟩
 replace H : ((cmp_Or_int.f k y158).bind fun t161 => (some t161)) = some r := by first | (rw [hy158]; with_reducible exact H) | (have H2_ := (Option.bind_some _ _).symm.trans H; rw [hy158]; with_reducible exact H2_) | (have H2_ := (Option.bind_some _ _).symm.trans H; with_reducible exact H2_) | with_reducible exact H | (rw [hy158]; exact H) | exact H
 have Ny158 := My.am hy158
 clear hy158
 replace H := Option.bind_eq_some_iff.mp H
 obtain ⟨t161, A60, H⟩ := H
 try dsimp only at H
 have A6 := My.am A60
 clear A60
 obtain rfl := Option.some.inj H
 go_enter Try.func47, Try.ntmps47
 try go_wp2_with (first | ((with_reducible refine gate_dst (N := 2) rfl ?_); refine My.bx 2 #[.int .i64 a0_0, .int .i64 a0_1, .slice A0_2 l0_2.length c0_2] 35 ?_; intro gb153 hg w7 hbox hb; have BK153 := My.am (hbox); have GE153 := My.nge hg (My.bl_ HB); replace HB := My.st HB hb; clear hb hbox hg) | ((with_reducible refine gate_dst (N := 3) rfl ?_); refine My.bx 3 #[.int .i64 a1_0, .int .i64 a1_1, .slice A1_2 l1_2.length c1_2] 35 ?_; intro gb154 hg w8 hbox hb; have BK154 := My.am (hbox); have GE154 := My.nge hg (My.bl_ HB); replace HB := My.st HB hb; replace BK153 := My.ab BK153 hb; clear hb hbox hg))
 replace BK153 := My.am (blk_drew BK153.out)
 replace BK154 := My.am (blk_drew BK154.out)
 replace HB := My.am (below_drew1 HB.out)
 refine start_ (n := 18) (S := fun w' => w'.cell? ⟨gb153, 0, none⟩ = some (.int .i64 a0_0) ∧ w'.cell? ⟨gb153, 1, none⟩ = some (.int .i64 a0_1) ∧ w'.cell? ⟨gb153, 2, none⟩ = some (.slice A0_2 l0_2.length c0_2) ∧ w'.cell? ⟨gb154, 0, none⟩ = some (.int .i64 a1_0) ∧ w'.cell? ⟨gb154, 1, none⟩ = some (.int .i64 a1_1) ∧ w'.cell? ⟨gb154, 2, none⟩ = some (.slice A1_2 l1_2.length c1_2)) (ds := []) #[false, false, false, false, false, false, false, false, false, false, false, false, false, false, false, false, false, false] (by kernel_rfl) rfl rfl ⟨My.b_ BK153 0, My.b_ BK153 1, My.b_ BK153 2, My.b_ BK154 0, My.b_ BK154 1, My.b_ BK154 2⟩ (fun hHeld => ?_); refine with_tabW ident_Cmp.tab1 ident_Cmp.bits1 (fun HT_ HW_ => ?_)
 generalize w8.drew = w9 at BK153 BK154 HB hHeld ⊢
 refine My.pu_ 0 5 18 HT_.out ?_
 refine My.pv_ 2 7 18 5 HT_.out ?_
 refine My.pv_ 5 10 18 37 HT_.out ?_
 refine My.pv_ 7 12 18 165 HT_.out ?_
 refine My.pv_ 10 15 18 1189 HT_.out ?_
 refine My.pv_ 12 17 18 5285 HT_.out ?_
 refine My.tv_ 1 6 18 5287 HT_.out HW_.out hHeld rfl rfl (by rintro w' ⟨s0, s1, s2, s3, s4, s5⟩; go_simp; with_reducible rfl) ?_
 refine My.tv_ 3 8 18 5295 HT_.out HW_.out hHeld rfl rfl (by rintro w' ⟨s0, s1, s2, s3, s4, s5⟩; go_simp; with_reducible rfl) ?_
 refine My.tv_ 6 11 18 5359 HT_.out HW_.out hHeld rfl rfl (by rintro w' ⟨s0, s1, s2, s3, s4, s5⟩; go_simp; with_reducible rfl) ?_
 refine My.tv_ 8 13 18 5615 HT_.out HW_.out hHeld rfl rfl (by rintro w' ⟨s0, s1, s2, s3, s4, s5⟩; go_simp; with_reducible rfl) ?_
 refine My.tv_ 11 16 18 7663 HT_.out HW_.out hHeld rfl rfl (by rintro w' ⟨s0, s1, s2, s3, s4, s5⟩; go_simp; with_reducible rfl) ?_
 refine My.tv_ 13 18 18 15855 HT_.out HW_.out hHeld rfl rfl (by rintro w' ⟨s0, s1, s2, s3, s4, s5⟩; go_simp; with_reducible rfl) ?_
 refine one_ (i := 4) (N := some 9) (My.Mb 18 15871) rfl rfl (one_of HT_.out (by kernel_rfl)) (by decide) (fun K hK => ?_)
 refine goes_ Try.func53 (by kernel_rfl) rfl #[.int .i64 a0_0, .int .i64 a1_0] (by rfl) rfl rfl My.gx ?_
 with_reducible refine (cmp_Compare_int.calls a0_0 a1_0 t155 _ A3.out).mono ?_
 rintro e w' ⟨rfl, ⟨nd, rfl⟩⟩
 refine ⟨_, rfl, ?_⟩
 refine hK.out _ _ ⟨My.b_ BK153 0, My.b_ BK153 1, My.b_ BK153 2, My.b_ BK154 0, My.b_ BK154 1, My.b_ BK154 2⟩ (fun hHeld => ?_)
 clear hK K
 refine My.nm 9 ?_
 refine one_ (i := 9) (N := some 14) (My.Mb 18 16383) rfl rfl (one_of HT_.out (by kernel_rfl)) (by decide) (fun K hK => ?_)
 refine goes_ Try.func53 (by kernel_rfl) rfl #[.int .i64 a0_1, .int .i64 a1_1] (by rfl) rfl rfl My.gx ?_
 with_reducible refine (cmp_Compare_int.calls a0_1 a1_1 t156 _ A4.out).mono ?_
 rintro e w' ⟨rfl, ⟨nd, rfl⟩⟩
 refine ⟨_, rfl, ?_⟩
 refine hK.out _ _ ⟨My.b_ BK153 0, My.b_ BK153 1, My.b_ BK153 2, My.b_ BK154 0, My.b_ BK154 1, My.b_ BK154 2⟩ (fun hHeld => ?_)
 clear hK K
 refine My.nm 14 ?_
 refine one_ (i := 14) (N := some 19) (My.Mb 18 32767) rfl rfl (one_of HT_.out (by kernel_rfl)) (by decide) (fun K hK => ?_)
 refine goes_ Try.func54 (by kernel_rfl) rfl #[.slice A0_2 l0_2.length c0_2, .slice A1_2 l1_2.length c1_2, .func (.func 55) #[] #[]] (by rfl) rfl rfl My.gx ?_
 with_reducible refine (api_Hop_54.calls k _ _ l0_2 _ _ l1_2 0 t157 _ ?side1 ?side2 ?side3 ?side4 A5.out).mono ?_
 (case side1 => repeat (first | exact (Kd.C_below HR0_2.out (My.bl_ HB)) | (with_reducible refine Kd.C_alloc ?_ _) | (with_reducible refine Kd.C_drewN ?_ _) | (with_reducible refine Kd.C_drew ?_)))
 (case side2 => exact HC0_2.out)
 (case side3 => repeat (first | exact (Kd.C_below HR1_2.out (My.bl_ HB)) | (with_reducible refine Kd.C_alloc ?_ _) | (with_reducible refine Kd.C_drewN ?_ _) | (with_reducible refine Kd.C_drew ?_)))
 (case side4 => exact HC1_2.out)
 rintro e w10 ⟨rfl, hb⟩
 refine ⟨_, rfl, ?_⟩
 replace BK153 := My.ab BK153 hb
 replace BK154 := My.ab BK154 hb
 replace HB := My.st HB hb
 (try clear hb)
 (try clear hb2)
 (try clear hk)
 (try clear hi)
 refine hK.out _ _ ⟨My.b_ BK153 0, My.b_ BK153 1, My.b_ BK153 2, My.b_ BK154 0, My.b_ BK154 1, My.b_ BK154 2⟩ (fun hHeld => ?_)
 clear hK K
 refine My.nm 19 ?_
 refine one_ (i := 15) (N := some 20) (My.Mb 18 65535) rfl rfl (one_of HT_.out (by kernel_rfl)) (by decide) (fun K hK => ?_)
 refine Kd.R_lit_step (Kd.int .i64) _ 3 ?hg (N := 20) ?hd (xs := ([t155, t156, t157] : List Int)) (inner := [.int .i64 t155, .int .i64 t156, .int .i64 t157]) (ok := fun _ => True) (okp := fun _ => True) ?hr ?hp (fun _ hk => hk) trivial (Below.refl _ _) (Nat.le_refl _) (by simp) ?_; (case hd => rfl); (case hg => rfl); (case hr => first | (go_simp; done) | (go_simp; rfl)); (case hp => exact (Reps.one (show Kd.M (Kd.int .i64) _ _ _ t155 [.int .i64 t155] from rfl) (Reps.one (show Kd.M (Kd.int .i64) _ _ _ t156 [.int .i64 t156] from rfl) (Reps.one (show Kd.M (Kd.int .i64) _ _ _ t157 [.int .i64 t157] from rfl) (Reps.none _ _)))))
 intro v159 w11 ho12 hb hg_ hnew_
 clear hg_ hnew_
 (first | rw [← Ny158.out] at ho12 | (simp only [Int.reduceToNat] at ho12; rw [← Ny158.out] at ho12))
 have HO160 := My.am (Kd.R_lower ho12 (below_size (My.bl_ HB)))
 replace BK153 := My.ab BK153 hb
 replace BK154 := My.ab BK154 hb
 replace HB := My.st HB hb
 clear hb ho12
 obtain ⟨Ao13, co13, eo13⟩ := Kd.R_slice HO160.out
 (first | subst eo13 | (injection eo13 with f1_ f2_ f3_; have f4_ := f1_.symm; have f5_ := f3_.symm; clear f1_ f2_ f3_; subst f4_; subst f5_))
 refine hK.out _ _ ⟨My.b_ BK153 0, My.b_ BK153 1, My.b_ BK153 2, My.b_ BK154 0, My.b_ BK154 1, My.b_ BK154 2⟩ (fun hHeld => ?_)
 clear hK K
 refine My.nm 20 ?_
 refine one_ (i := 16) (N := some 21) (My.Mb 18 131071) rfl rfl (one_of HT_.out (by kernel_rfl)) (by decide) (fun K hK => ?_)
 refine goes_ Try.func52 (by kernel_rfl) rfl #[.slice Ao13 y158.length co13] (by rfl) rfl rfl My.gx ?_
 with_reducible refine (cmp_Or_int.calls k _ _ y158 t161 _ ?side1 ?side2 A6.out).mono ?_
 (case side1 => repeat (first | exact (Kd.R_reads' HO160.out).2.2 | (with_reducible refine Kd.C_alloc ?_ _) | (with_reducible refine Kd.C_drewN ?_ _) | (with_reducible refine Kd.C_drew ?_)))
 (case side2 => exact (Kd.R_reads' HO160.out).2.1)
 rintro e w' ⟨rfl, ⟨nd, rfl⟩⟩
 refine ⟨_, rfl, ?_⟩
 refine hK.out _ _ ⟨My.b_ BK153 0, My.b_ BK153 1, My.b_ BK153 2, My.b_ BK154 0, My.b_ BK154 1, My.b_ BK154 2⟩ (fun hHeld => ?_)
 clear hK K
 refine My.nm 21 ?_
 refine My.pu_ 17 4 18 HT_.out ?_
 refine done_ (done_of HT_.out (by kernel_rfl)) ?_
 try go_wp2
 go_ret
 exact ⟨My.r2, (My.bl_ HB)⟩

/-! ### outbox_same: function 41 -/
def outbox_same.f (k : Nat) (a0_0 : Int) (a0_1 : Int) (a0_2 : Int) (l0_3 : List (S62)) (a0_4 : ByteArray) (a0_5 : Int) (a1_0 : Int) (a1_1 : Int) (a1_2 : Int) (l1_3 : List (S62)) (a1_4 : ByteArray) (a1_5 : Int) : Option (Bool) := if a0_0 = a1_0 then (if a0_4.toList = a1_4.toList then (if a0_5 = a1_5 then ((ident_Cmp.f k a0_1 a0_2 l0_3 a1_1 a1_2 l1_3).bind fun t164 => (some (t164 == 0))) else (some false)) else (some false)) else (some false)
theorem outbox_same.mono : ∀ a0 a1 a2 a3 a4 a5 a6 a7 a8 a9 a10 a11 k, LeO (outbox_same.f k a0 a1 a2 a3 a4 a5 a6 a7 a8 a9 a10 a11) (outbox_same.f (k + 1) a0 a1 a2 a3 a4 a5 a6 a7 a8 a9 a10 a11) := by
 intro a0 a1 a2 a3 a4 a5 a6 a7 a8 a9 a10 a11 k
 unfold outbox_same.f
 repeat' (with_reducible first | exact ident_Cmp.mono _ _ _ _ _ _ _ | exact LeO.refl _ | exact LeO.none _ | apply LeO.ite | refine LeO.bind ?_ (fun _ => ?_))
theorem outbox_same.calls (k : Nat) (a0_0 : Int) (a0_1 : Int) (a0_2 : Int) (A0_3 : Option Addr) (c0_3 : Nat) (l0_3 : List (S62)) (a0_4 : ByteArray) (a0_5 : Int) (a1_0 : Int) (a1_1 : Int) (a1_2 : Int) (A1_3 : Option Addr) (c1_3 : Nat) (l1_3 : List (S62)) (a1_4 : ByteArray) (a1_5 : Int) (r : Bool) (w : World) (hr0_3 : Kd.C k62 w A0_3 l0_3.length l0_3) (hc0_3 : l0_3.length ≤ c0_3) (hr1_3 : Kd.C k62 w A1_3 l1_3.length l1_3) (hc1_3 : l1_3.length ≤ c1_3) (h : outbox_same.f k a0_0 a0_1 a0_2 l0_3 a0_4 a0_5 a1_0 a1_1 a1_2 l1_3 a1_4 a1_5 = some r) :
  Calls Try.prog 41 #[.agg #[.int .i64 a0_0, .int .i64 a0_1, .int .i64 a0_2, .slice A0_3 l0_3.length c0_3, .string a0_4, .int .i64 a0_5], .agg #[.int .i64 a1_0, .int .i64 a1_1, .int .i64 a1_2, .slice A1_3 l1_3.length c1_3, .string a1_4, .int .i64 a1_5]] w fun e w' => e = .returned (.bool r) ∧ Below w.heap.size w w' := by
 have hu37 := Try.underlying37
 have hu35 := Try.underlying35
 have HR0_3 := My.am hr0_3
 have HC0_3 := My.am hc0_3
 clear hr0_3 hc0_3
 have HR1_3 := My.am hr1_3
 have HC1_3 := My.am hc1_3
 clear hr1_3 hc1_3
 have HB := My.am (Below.refl w.heap.size w)
 unfold outbox_same.f at h
 have H := h
 clear h
 by_cases c3 : a0_0 = a1_0
 ·rw [if_pos c3] at H
  have c3b0 : (a0_0 == a1_0) = true := beq_iff_eq.mpr c3
  have c3b1 : (a0_0 != a1_0) = false := bne_eq_false_iff_eq.mpr c3
  clear c3
  by_cases c4 : a0_4.toList = a1_4.toList
  ·rw [if_pos c4] at H
   have c4b0 : (a0_4.toList == a1_4.toList) = true := beq_iff_eq.mpr c4
   have c4b1 : (a0_4.toList != a1_4.toList) = false := bne_eq_false_iff_eq.mpr c4
   clear c4
   by_cases c5 : a0_5 = a1_5
   ·rw [if_pos c5] at H
    have c5b0 : (a0_5 == a1_5) = true := beq_iff_eq.mpr c5
    have c5b1 : (a0_5 != a1_5) = false := bne_eq_false_iff_eq.mpr c5
    clear c5
    replace H := Option.bind_eq_some_iff.mp H
    obtain ⟨t164, A60, H⟩ := H
    try dsimp only at H
    have A6 := My.am A60
    clear A60
    obtain rfl := Option.some.inj H
    go_enter Try.func41, Try.ntmps41
    go_wp2_with (first | ((with_reducible refine gate_dst (N := 2) rfl ?_); refine My.bx 2 #[.int .i64 a0_0, .int .i64 a0_1, .int .i64 a0_2, .slice A0_3 l0_3.length c0_3, .string a0_4, .int .i64 a0_5] 37 ?_; intro gb162 hg w7 hbox hb; have BK162 := My.am (hbox); have GE162 := My.nge hg (My.bl_ HB); replace HB := My.st HB hb; clear hb hbox hg) | ((with_reducible refine gate_dst (N := 3) rfl ?_); refine My.bx 3 #[.int .i64 a1_0, .int .i64 a1_1, .int .i64 a1_2, .slice A1_3 l1_3.length c1_3, .string a1_4, .int .i64 a1_5] 37 ?_; intro gb163 hg w8 hbox hb; have BK163 := My.am (hbox); have GE163 := My.nge hg (My.bl_ HB); replace HB := My.st HB hb; obtain ⟨NB162_163, NB163_162, BK162⟩ := My.nb hg hb BK162; clear hb hbox hg; have hnb9 := NB162_163.out; have hnc9 := NB163_162.out; have hq10 := My.cz6 BK162; have hq11 := My.cz6 BK163) | (go_at_call 47; (with_reducible refine (ident_Cmp.calls k a0_1 a0_2 _ _ l0_3 a1_1 a1_2 _ _ l1_3 t164 _ ?side1 ?side2 ?side3 ?side4 A6.out).mono ?_); (case side1 => exact My.sd_ HR0_3 HB); (case side2 => exact HC0_3.out); (case side3 => exact My.sd_ HR1_3 HB); (case side4 => exact HC1_3.out); rintro e w12 ⟨rfl, hb⟩; replace BK162 := My.ab BK162 hb; replace BK163 := My.ab BK163 hb; replace HB := My.st HB hb; (try clear hb)))
    go_ret
    exact ⟨My.r2, (My.bl_ HB)⟩
   rw [if_neg c5] at H
   have c5b0 : (a0_5 == a1_5) = false := beq_eq_false_iff_ne.mpr c5
   have c5b1 : (a0_5 != a1_5) = true := bne_iff_ne.mpr c5
   obtain rfl := Option.some.inj H
   go_enter Try.func41, Try.ntmps41
   go_wp2_with (first | ((with_reducible refine gate_dst (N := 2) rfl ?_); refine My.bx 2 #[.int .i64 a0_0, .int .i64 a0_1, .int .i64 a0_2, .slice A0_3 l0_3.length c0_3, .string a0_4, .int .i64 a0_5] 37 ?_; intro gb162 hg w13 hbox hb; have BK162 := My.am (hbox); have GE162 := My.nge hg (My.bl_ HB); replace HB := My.st HB hb; clear hb hbox hg) | ((with_reducible refine gate_dst (N := 3) rfl ?_); refine My.bx 3 #[.int .i64 a1_0, .int .i64 a1_1, .int .i64 a1_2, .slice A1_3 l1_3.length c1_3, .string a1_4, .int .i64 a1_5] 37 ?_; intro gb163 hg w14 hbox hb; have BK163 := My.am (hbox); have GE163 := My.nge hg (My.bl_ HB); replace HB := My.st HB hb; obtain ⟨NB162_163, NB163_162, BK162⟩ := My.nb hg hb BK162; clear hb hbox hg; have hnb15 := NB162_163.out; have hnc15 := NB163_162.out; have hq16 := My.cz6 BK162; have hq17 := My.cz6 BK163))
   go_ret
   exact ⟨My.r2, (My.bl_ HB)⟩
  ·rw [if_neg c4] at H
   have c4b0 : (a0_4.toList == a1_4.toList) = false := beq_eq_false_iff_ne.mpr c4
   have c4b1 : (a0_4.toList != a1_4.toList) = true := bne_iff_ne.mpr c4
   obtain rfl := Option.some.inj H
   go_enter Try.func41, Try.ntmps41
   go_wp2_with (first | ((with_reducible refine gate_dst (N := 2) rfl ?_); refine My.bx 2 #[.int .i64 a0_0, .int .i64 a0_1, .int .i64 a0_2, .slice A0_3 l0_3.length c0_3, .string a0_4, .int .i64 a0_5] 37 ?_; intro gb162 hg w18 hbox hb; have BK162 := My.am (hbox); have GE162 := My.nge hg (My.bl_ HB); replace HB := My.st HB hb; clear hb hbox hg) | ((with_reducible refine gate_dst (N := 3) rfl ?_); refine My.bx 3 #[.int .i64 a1_0, .int .i64 a1_1, .int .i64 a1_2, .slice A1_3 l1_3.length c1_3, .string a1_4, .int .i64 a1_5] 37 ?_; intro gb163 hg w19 hbox hb; have BK163 := My.am (hbox); have GE163 := My.nge hg (My.bl_ HB); replace HB := My.st HB hb; obtain ⟨NB162_163, NB163_162, BK162⟩ := My.nb hg hb BK162; clear hb hbox hg; have hnb20 := NB162_163.out; have hnc20 := NB163_162.out; have hq21 := My.cz6 BK162; have hq22 := My.cz6 BK163))
   go_ret
   exact ⟨My.r2, (My.bl_ HB)⟩
 ·rw [if_neg c3] at H
  have c3b0 : (a0_0 == a1_0) = false := beq_eq_false_iff_ne.mpr c3
  have c3b1 : (a0_0 != a1_0) = true := bne_iff_ne.mpr c3
  obtain rfl := Option.some.inj H
  go_enter Try.func41, Try.ntmps41
  go_wp2_with (first | ((with_reducible refine gate_dst (N := 2) rfl ?_); refine My.bx 2 #[.int .i64 a0_0, .int .i64 a0_1, .int .i64 a0_2, .slice A0_3 l0_3.length c0_3, .string a0_4, .int .i64 a0_5] 37 ?_; intro gb162 hg w23 hbox hb; have BK162 := My.am (hbox); have GE162 := My.nge hg (My.bl_ HB); replace HB := My.st HB hb; clear hb hbox hg) | ((with_reducible refine gate_dst (N := 3) rfl ?_); refine My.bx 3 #[.int .i64 a1_0, .int .i64 a1_1, .int .i64 a1_2, .slice A1_3 l1_3.length c1_3, .string a1_4, .int .i64 a1_5] 37 ?_; intro gb163 hg w24 hbox hb; have BK163 := My.am (hbox); have GE163 := My.nge hg (My.bl_ HB); replace HB := My.st HB hb; obtain ⟨NB162_163, NB163_162, BK162⟩ := My.nb hg hb BK162; clear hb hbox hg; have hnb25 := NB162_163.out; have hnc25 := NB163_162.out; have hq26 := My.cz6 BK162; have hq27 := My.cz6 BK163))
  go_ret
  exact ⟨My.r2, (My.bl_ HB)⟩

/-! ### outbox_has_1: function 40 -/


end Go.Proofs.Ytcgmoeiknkdljaa.PA
