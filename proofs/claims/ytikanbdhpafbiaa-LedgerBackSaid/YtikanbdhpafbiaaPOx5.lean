-- Written by a program of this session (wip/tools/mp.py over the kit's printer); Lean checks it.
import Derived.Test.YtikanbdhpafbiaaPOx0
import Derived.Test.YtikanbdhpafbiaaPOx4
namespace Go.Proofs.Ytikanbdhpafbiaa.PO
open Go.RowKit Go.Proofs.YtikanbdhpafbiaaW.PrintWords Go.Proofs.YtikanbdhpafbiaaW.PrintLast Go.Proofs.YtikanbdhpafbiaaW.PrintMore
attribute [local go_sem] max2_int min2_int max_two min_two max_three min_three max_four min_four   -- for this text's walks alone
set_option linter.unusedVariables false
set_option maxHeartbeats 8000000
set_option maxRecDepth 100000
set_option linter.unusedSimpArgs false

/-! ### act_May: function 51 -/
def act_May.f (k : Nat) (a0_0 : ByteArray) (a0_1 : Int) (a0_2 : Int) (a0_3 : Int) (a0_4 : Int) (a0_5 : Int) (a0_6 : Int) : Option (Int) := (act_Name.f k a0_0).bind fun t115 => (if t115 = true then ((pot_Check.f a0_1 a0_2 a0_3).bind fun t116 => (if t116 = 0 then ((pot_Check.f a0_4 a0_5 a0_6).bind fun t117 => (if t117 = 0 then (some 0) else (some 2))) else (some 2))) else (some 2))
theorem act_May.mono : ∀ a0 a1 a2 a3 a4 a5 a6 k, LeO (act_May.f k a0 a1 a2 a3 a4 a5 a6) (act_May.f (k + 1) a0 a1 a2 a3 a4 a5 a6) := by
 intro a0 a1 a2 a3 a4 a5 a6 k
 unfold act_May.f
 repeat' (with_reducible first | exact act_Name.mono _ _ | exact LeO.refl _ | exact LeO.none _ | apply LeO.ite | refine LeO.bind ?_ (fun _ => ?_))
theorem act_May.calls (k : Nat) (a0_0 : ByteArray) (a0_1 : Int) (a0_2 : Int) (a0_3 : Int) (a0_4 : Int) (a0_5 : Int) (a0_6 : Int) (r : Int) (w : World) (h : act_May.f k a0_0 a0_1 a0_2 a0_3 a0_4 a0_5 a0_6 = some r) :
  Calls Try.prog 51 #[.agg #[.string a0_0, .int .i64 a0_1, .int .i64 a0_2, .int .i64 a0_3, .int .i64 a0_4, .int .i64 a0_5, .int .i64 a0_6]] w fun e w' => e = .returned (.int .i64 r) ∧ Below w.heap.size w w' := by
 have hu51 := Try.underlying51
 have hu49 := Try.underlying49
 have HB := My.am (Below.refl w.heap.size w)
 unfold act_May.f at h
 have H := h
 clear h
 replace H := Option.bind_eq_some_iff.mp H
 obtain ⟨t115, A20, H⟩ := H
 try dsimp only at H
 have A2 := My.am A20
 clear A20
 by_cases c3 : t115 = true
 ·subst c3
  rw [if_pos rfl] at H
  replace H := Option.bind_eq_some_iff.mp H
  obtain ⟨t116, A40, H⟩ := H
  try dsimp only at H
  have A4 := My.am A40
  clear A40
  by_cases c5 : t116 = 0
  ·rw [if_pos c5] at H
   have c5b0 : (t116 == 0) = true := beq_iff_eq.mpr c5
   have c5b1 : (t116 != 0) = false := bne_eq_false_iff_eq.mpr c5
   clear c5
   replace H := Option.bind_eq_some_iff.mp H
   obtain ⟨t117, A60, H⟩ := H
   try dsimp only at H
   have A6 := My.am A60
   clear A60
   by_cases c7 : t117 = 0
   ·rw [if_pos c7] at H
    have c7b0 : (t117 == 0) = true := beq_iff_eq.mpr c7
    have c7b1 : (t117 != 0) = false := bne_eq_false_iff_eq.mpr c7
    clear c7
    obtain rfl := Option.some.inj H
    go_enter Try.func51, Try.ntmps51
    go_wp2_with (first | ((with_reducible refine gate_dst (N := 1) rfl ?_); refine My.bx 1 #[.string a0_0, .int .i64 a0_1, .int .i64 a0_2, .int .i64 a0_3, .int .i64 a0_4, .int .i64 a0_5, .int .i64 a0_6] 51 ?_; intro gb114 hg w8 hbox hb; have BK114 := My.am (hbox); have GE114 := My.nge hg (My.bl_ HB); replace HB := My.st HB hb; clear hb hbox hg; have hq9 := My.cz7 BK114) | ((with_reducible refine gate_callee (f := 30) rfl ?_); refine goesL_ (some 5) rfl rfl Try.func30 (by kernel_rfl) rfl #[.string a0_0] rfl My.gx ?_; (with_reducible refine (act_Name.calls k a0_0 true _ A2.out).mono ?_); rintro e w' ⟨rfl, ⟨nd, rfl⟩⟩; refine ⟨_, rfl, ?_⟩) | (go_at_call 76; (with_reducible refine (pot_Check.calls a0_1 a0_2 a0_3 t116 _ A4.out).mono ?_); rintro e w10 ⟨rfl, hb⟩; replace BK114 := My.ab BK114 hb; replace HB := My.st HB hb; (try clear hb); have hq11 := My.cz7 BK114) | (go_at_call 76; (with_reducible refine (pot_Check.calls a0_4 a0_5 a0_6 t117 _ A6.out).mono ?_); rintro e w12 ⟨rfl, hb⟩; replace BK114 := My.ab BK114 hb; replace HB := My.st HB hb; (try clear hb)))
    go_ret
    exact ⟨My.r2, (My.bl_ HB)⟩
   rw [if_neg c7] at H
   have c7b0 : (t117 == 0) = false := beq_eq_false_iff_ne.mpr c7
   have c7b1 : (t117 != 0) = true := bne_iff_ne.mpr c7
   obtain rfl := Option.some.inj H
   go_enter Try.func51, Try.ntmps51
   go_wp2_with (first | ((with_reducible refine gate_dst (N := 1) rfl ?_); refine My.bx 1 #[.string a0_0, .int .i64 a0_1, .int .i64 a0_2, .int .i64 a0_3, .int .i64 a0_4, .int .i64 a0_5, .int .i64 a0_6] 51 ?_; intro gb114 hg w13 hbox hb; have BK114 := My.am (hbox); have GE114 := My.nge hg (My.bl_ HB); replace HB := My.st HB hb; clear hb hbox hg; have hq14 := My.cz7 BK114) | ((with_reducible refine gate_callee (f := 30) rfl ?_); refine goesL_ (some 5) rfl rfl Try.func30 (by kernel_rfl) rfl #[.string a0_0] rfl My.gx ?_; (with_reducible refine (act_Name.calls k a0_0 true _ A2.out).mono ?_); rintro e w' ⟨rfl, ⟨nd, rfl⟩⟩; refine ⟨_, rfl, ?_⟩) | (go_at_call 76; (with_reducible refine (pot_Check.calls a0_1 a0_2 a0_3 t116 _ A4.out).mono ?_); rintro e w15 ⟨rfl, hb⟩; replace BK114 := My.ab BK114 hb; replace HB := My.st HB hb; (try clear hb); have hq16 := My.cz7 BK114) | (go_at_call 76; (with_reducible refine (pot_Check.calls a0_4 a0_5 a0_6 t117 _ A6.out).mono ?_); rintro e w17 ⟨rfl, hb⟩; replace BK114 := My.ab BK114 hb; replace HB := My.st HB hb; (try clear hb)))
   go_ret
   exact ⟨My.r2, (My.bl_ HB)⟩
  ·rw [if_neg c5] at H
   have c5b0 : (t116 == 0) = false := beq_eq_false_iff_ne.mpr c5
   have c5b1 : (t116 != 0) = true := bne_iff_ne.mpr c5
   obtain rfl := Option.some.inj H
   go_enter Try.func51, Try.ntmps51
   go_wp2_with (first | ((with_reducible refine gate_dst (N := 1) rfl ?_); refine My.bx 1 #[.string a0_0, .int .i64 a0_1, .int .i64 a0_2, .int .i64 a0_3, .int .i64 a0_4, .int .i64 a0_5, .int .i64 a0_6] 51 ?_; intro gb114 hg w18 hbox hb; have BK114 := My.am (hbox); have GE114 := My.nge hg (My.bl_ HB); replace HB := My.st HB hb; clear hb hbox hg; have hq19 := My.cz7 BK114) | ((with_reducible refine gate_callee (f := 30) rfl ?_); refine goesL_ (some 5) rfl rfl Try.func30 (by kernel_rfl) rfl #[.string a0_0] rfl My.gx ?_; (with_reducible refine (act_Name.calls k a0_0 true _ A2.out).mono ?_); rintro e w' ⟨rfl, ⟨nd, rfl⟩⟩; refine ⟨_, rfl, ?_⟩) | (go_at_call 76; (with_reducible refine (pot_Check.calls a0_1 a0_2 a0_3 t116 _ A4.out).mono ?_); rintro e w20 ⟨rfl, hb⟩; replace BK114 := My.ab BK114 hb; replace HB := My.st HB hb; (try clear hb)))
   go_ret
   exact ⟨My.r2, (My.bl_ HB)⟩
 ·replace c3 := Bool.eq_false_iff.mpr c3
  subst c3
  rw [if_neg (show ¬ (false = true) by decide)] at H
  obtain rfl := Option.some.inj H
  go_enter Try.func51, Try.ntmps51
  go_wp2_with (first | ((with_reducible refine gate_dst (N := 1) rfl ?_); refine My.bx 1 #[.string a0_0, .int .i64 a0_1, .int .i64 a0_2, .int .i64 a0_3, .int .i64 a0_4, .int .i64 a0_5, .int .i64 a0_6] 51 ?_; intro gb114 hg w21 hbox hb; have BK114 := My.am (hbox); have GE114 := My.nge hg (My.bl_ HB); replace HB := My.st HB hb; clear hb hbox hg; have hq22 := My.cz7 BK114) | ((with_reducible refine gate_callee (f := 30) rfl ?_); refine goesL_ (some 5) rfl rfl Try.func30 (by kernel_rfl) rfl #[.string a0_0] rfl My.gx ?_; (with_reducible refine (act_Name.calls k a0_0 false _ A2.out).mono ?_); rintro e w' ⟨rfl, ⟨nd, rfl⟩⟩; refine ⟨_, rfl, ?_⟩))
  go_ret
  exact ⟨My.r2, (My.bl_ HB)⟩

/-! ### act_ways: function 60 -/
def act_ways.f (a0 : Int) : Option (Int × Int) := if a0 = 3 then (some ((-1), 1)) else (if a0 = 1 then (some ((-1), 0)) else (if a0 = 4 then (some (1, (-1))) else (if a0 = 2 then (some (1, 0)) else (some (0, 0)))))
theorem act_ways.calls (a0 : Int) (r1 : Int) (r2 : Int) (w : World) (h : act_ways.f a0 = some (r1, r2)) :
  Calls Try.prog 60 #[.int .i64 a0] w fun e w' => e = .returned (.agg #[.int .i64 r1, .int .i64 r2]) ∧ Below w.heap.size w w' := by
 have hu96 := Try.underlying96
 have HB := My.am (Below.refl w.heap.size w)
 unfold act_ways.f at h
 have H := h
 clear h
 by_cases c2 : a0 = 3
 ·rw [if_pos c2] at H
  have c2b0 : (a0 == 3) = true := beq_iff_eq.mpr c2
  have c2b1 : (a0 != 3) = false := bne_eq_false_iff_eq.mpr c2
  clear c2
  simp only [Option.some.injEq, Prod.mk.injEq] at H
  obtain ⟨rfl, rfl⟩ := H
  go_enter Try.func60, Try.ntmps60
  go_wp2_with (first | ((with_reducible refine gate_dst (N := 2) rfl ?_); refine My.bx 2 #[.int .i64 0, .int .i64 0] 96 ?_; intro gb118 hg w3 hbox hb; have BK118 := My.am (hbox); have GE118 := My.nge hg (My.bl_ HB); replace HB := My.st HB hb; clear hb hbox hg) | ((with_reducible refine gate_dst (N := 3) rfl ?_); refine My.bx 3 #[.int .i64 0, .int .i64 0] 96 ?_; intro gb119 hg w4 hbox hb; have BK119 := My.am (hbox); have GE119 := My.nge hg (My.bl_ HB); replace HB := My.st HB hb; obtain ⟨NB118_119, NB119_118, BK118⟩ := My.nb hg hb BK118; clear hb hbox hg; have hnb5 := NB119_118.out; have hnc5 := NB118_119.out; have hq6 := My.cz2 BK119; have hq7 := My.cz2 BK118))
  refine bodyPost_ret (results_cell_row rfl _ _ gb118 96 #[.int .i64 (-1), .int .i64 1] (0, 0) _ rfl ((My.sv_ BK118)) Try.underlying96 rfl (by kernel_rfl)) rfl ?_
  exact ⟨My.r2, (My.bl_ HB)⟩
 ·rw [if_neg c2] at H
  have c2b0 : (a0 == 3) = false := beq_eq_false_iff_ne.mpr c2
  have c2b1 : (a0 != 3) = true := bne_iff_ne.mpr c2
  by_cases c8 : a0 = 1
  ·rw [if_pos c8] at H
   have c8b0 : (a0 == 1) = true := beq_iff_eq.mpr c8
   have c8b1 : (a0 != 1) = false := bne_eq_false_iff_eq.mpr c8
   clear c8
   simp only [Option.some.injEq, Prod.mk.injEq] at H
   obtain ⟨rfl, rfl⟩ := H
   go_enter Try.func60, Try.ntmps60
   go_wp2_with (first | ((with_reducible refine gate_dst (N := 2) rfl ?_); refine My.bx 2 #[.int .i64 0, .int .i64 0] 96 ?_; intro gb118 hg w9 hbox hb; have BK118 := My.am (hbox); have GE118 := My.nge hg (My.bl_ HB); replace HB := My.st HB hb; clear hb hbox hg) | ((with_reducible refine gate_dst (N := 3) rfl ?_); refine My.bx 3 #[.int .i64 0, .int .i64 0] 96 ?_; intro gb119 hg w10 hbox hb; have BK119 := My.am (hbox); have GE119 := My.nge hg (My.bl_ HB); replace HB := My.st HB hb; obtain ⟨NB118_119, NB119_118, BK118⟩ := My.nb hg hb BK118; clear hb hbox hg; have hnb11 := NB119_118.out; have hnc11 := NB118_119.out; have hq12 := My.cz2 BK119; have hq13 := My.cz2 BK118))
   refine bodyPost_ret (results_cell_row rfl _ _ gb118 96 #[.int .i64 (-1), .int .i64 0] (0, 0) _ rfl ((My.sv_ BK118)) Try.underlying96 rfl (by kernel_rfl)) rfl ?_
   exact ⟨My.r2, (My.bl_ HB)⟩
  rw [if_neg c8] at H
  have c8b0 : (a0 == 1) = false := beq_eq_false_iff_ne.mpr c8
  have c8b1 : (a0 != 1) = true := bne_iff_ne.mpr c8
  by_cases c14 : a0 = 4
  ·rw [if_pos c14] at H
   have c14b0 : (a0 == 4) = true := beq_iff_eq.mpr c14
   have c14b1 : (a0 != 4) = false := bne_eq_false_iff_eq.mpr c14
   clear c14
   simp only [Option.some.injEq, Prod.mk.injEq] at H
   obtain ⟨rfl, rfl⟩ := H
   go_enter Try.func60, Try.ntmps60
   go_wp2_with (first | ((with_reducible refine gate_dst (N := 2) rfl ?_); refine My.bx 2 #[.int .i64 0, .int .i64 0] 96 ?_; intro gb118 hg w15 hbox hb; have BK118 := My.am (hbox); have GE118 := My.nge hg (My.bl_ HB); replace HB := My.st HB hb; clear hb hbox hg) | ((with_reducible refine gate_dst (N := 3) rfl ?_); refine My.bx 3 #[.int .i64 0, .int .i64 0] 96 ?_; intro gb119 hg w16 hbox hb; have BK119 := My.am (hbox); have GE119 := My.nge hg (My.bl_ HB); replace HB := My.st HB hb; obtain ⟨NB118_119, NB119_118, BK118⟩ := My.nb hg hb BK118; clear hb hbox hg; have hnb17 := NB119_118.out; have hnc17 := NB118_119.out; have hq18 := My.cz2 BK119; have hq19 := My.cz2 BK118))
   refine bodyPost_ret (results_cell_row rfl _ _ gb118 96 #[.int .i64 1, .int .i64 (-1)] (0, 0) _ rfl ((My.sv_ BK118)) Try.underlying96 rfl (by kernel_rfl)) rfl ?_
   exact ⟨My.r2, (My.bl_ HB)⟩
  rw [if_neg c14] at H
  have c14b0 : (a0 == 4) = false := beq_eq_false_iff_ne.mpr c14
  have c14b1 : (a0 != 4) = true := bne_iff_ne.mpr c14
  by_cases c20 : a0 = 2
  ·rw [if_pos c20] at H
   have c20b0 : (a0 == 2) = true := beq_iff_eq.mpr c20
   have c20b1 : (a0 != 2) = false := bne_eq_false_iff_eq.mpr c20
   clear c20
   simp only [Option.some.injEq, Prod.mk.injEq] at H
   obtain ⟨rfl, rfl⟩ := H
   go_enter Try.func60, Try.ntmps60
   go_wp2_with (first | ((with_reducible refine gate_dst (N := 2) rfl ?_); refine My.bx 2 #[.int .i64 0, .int .i64 0] 96 ?_; intro gb118 hg w21 hbox hb; have BK118 := My.am (hbox); have GE118 := My.nge hg (My.bl_ HB); replace HB := My.st HB hb; clear hb hbox hg) | ((with_reducible refine gate_dst (N := 3) rfl ?_); refine My.bx 3 #[.int .i64 0, .int .i64 0] 96 ?_; intro gb119 hg w22 hbox hb; have BK119 := My.am (hbox); have GE119 := My.nge hg (My.bl_ HB); replace HB := My.st HB hb; obtain ⟨NB118_119, NB119_118, BK118⟩ := My.nb hg hb BK118; clear hb hbox hg; have hnb23 := NB119_118.out; have hnc23 := NB118_119.out; have hq24 := My.cz2 BK119; have hq25 := My.cz2 BK118))
   refine bodyPost_ret (results_cell_row rfl _ _ gb118 96 #[.int .i64 1, .int .i64 0] (0, 0) _ rfl ((My.sv_ BK118)) Try.underlying96 rfl (by kernel_rfl)) rfl ?_
   exact ⟨My.r2, (My.bl_ HB)⟩
  rw [if_neg c20] at H
  have c20b0 : (a0 == 2) = false := beq_eq_false_iff_ne.mpr c20
  have c20b1 : (a0 != 2) = true := bne_iff_ne.mpr c20
  simp only [Option.some.injEq, Prod.mk.injEq] at H
  obtain ⟨rfl, rfl⟩ := H
  go_enter Try.func60, Try.ntmps60
  go_wp2_with (first | ((with_reducible refine gate_dst (N := 2) rfl ?_); refine My.bx 2 #[.int .i64 0, .int .i64 0] 96 ?_; intro gb118 hg w26 hbox hb; have BK118 := My.am (hbox); have GE118 := My.nge hg (My.bl_ HB); replace HB := My.st HB hb; clear hb hbox hg) | ((with_reducible refine gate_dst (N := 3) rfl ?_); refine My.bx 3 #[.int .i64 0, .int .i64 0] 96 ?_; intro gb119 hg w27 hbox hb; have BK119 := My.am (hbox); have GE119 := My.nge hg (My.bl_ HB); replace HB := My.st HB hb; obtain ⟨NB118_119, NB119_118, BK118⟩ := My.nb hg hb BK118; clear hb hbox hg; have hnb28 := NB119_118.out; have hnc28 := NB118_119.out; have hq29 := My.cz2 BK119; have hq30 := My.cz2 BK118))
  refine bodyPost_ret (results_cell_row rfl _ _ gb118 96 #[.int .i64 0, .int .i64 0] (0, 0) _ rfl ((My.sv_ BK118)) Try.underlying96 rfl (by kernel_rfl)) rfl ?_
  exact ⟨My.r2, (My.bl_ HB)⟩

/-! ### act_Delta: function 29 -/
def act_Delta.f (k : Nat) (a0_0 : Int) (a0_1 : ByteArray) (a0_2 : Int) : Option (Int × Int) := (act_Check.f k a0_0 a0_1 a0_2).bind fun t121 => (if t121 = 0 then ((act_ways.f a0_0).bind fun bt122 => (some (wrap64 (bt122.1 * a0_2), wrap64 (bt122.2 * a0_2)))) else (some (0, 0)))
theorem act_Delta.mono : ∀ a0 a1 a2 k, LeO (act_Delta.f k a0 a1 a2) (act_Delta.f (k + 1) a0 a1 a2) := by
 intro a0 a1 a2 k
 unfold act_Delta.f
 repeat' (with_reducible first | exact act_Check.mono _ _ _ _ | exact LeO.refl _ | exact LeO.none _ | apply LeO.ite | refine LeO.bind ?_ (fun _ => ?_))
theorem act_Delta.calls (k : Nat) (a0_0 : Int) (a0_1 : ByteArray) (a0_2 : Int) (r1 : Int) (r2 : Int) (w : World) (h : act_Delta.f k a0_0 a0_1 a0_2 = some (r1, r2)) :
  Calls Try.prog 29 #[.agg #[.int .i64 a0_0, .string a0_1, .int .i64 a0_2]] w fun e w' => e = .returned (.tuple #[.int .i64 r1, .int .i64 r2]) ∧ Below w.heap.size w w' := by
 have hu27 := Try.underlying27
 have hu96 := Try.underlying96
 have HB := My.am (Below.refl w.heap.size w)
 unfold act_Delta.f at h
 have H := h
 clear h
 replace H := Option.bind_eq_some_iff.mp H
 obtain ⟨t121, A20, H⟩ := H
 try dsimp only at H
 have A2 := My.am A20
 clear A20
 by_cases c3 : t121 = 0
 ·rw [if_pos c3] at H
  have c3b0 : (t121 == 0) = true := beq_iff_eq.mpr c3
  have c3b1 : (t121 != 0) = false := bne_eq_false_iff_eq.mpr c3
  clear c3
  replace H := Option.bind_eq_some_iff.mp H
  obtain ⟨⟨t122, t123⟩, A40, H⟩ := H
  try dsimp only at H
  have A4 := My.am A40
  clear A40
  simp only [Option.some.injEq, Prod.mk.injEq] at H
  obtain ⟨rfl, rfl⟩ := H
  go_enter Try.func29, Try.ntmps29
  go_wp2_with (first | ((with_reducible refine gate_dst (N := 1) rfl ?_); refine My.bx 1 #[.int .i64 a0_0, .string a0_1, .int .i64 a0_2] 27 ?_; intro gb120 hg w5 hbox hb; have BK120 := My.am (hbox); have GE120 := My.nge hg (My.bl_ HB); replace HB := My.st HB hb; clear hb hbox hg; have hq6 := My.cz3 BK120) | (go_at_call 39; (with_reducible refine (act_Check.calls k a0_0 a0_1 a0_2 t121 _ A2.out).mono ?_); rintro e w7 ⟨rfl, hb⟩; replace BK120 := My.ab BK120 hb; replace HB := My.st HB hb; (try clear hb); have hq8 := My.cz3 BK120) | (go_at_call 60; (with_reducible refine (act_ways.calls a0_0 t122 t123 _ A4.out).mono ?_); rintro e w9 ⟨rfl, hb⟩; replace BK120 := My.ab BK120 hb; replace HB := My.st HB hb; (try clear hb)) | ((with_reducible refine gate_dst (N := 4) rfl ?_); refine My.bx 4 #[.int .i64 0, .int .i64 0] 96 ?_; intro gb124 hg w10 hbox hb; have BK124 := My.am (hbox); have GE124 := My.nge hg (My.bl_ HB); replace HB := My.st HB hb; obtain ⟨NB120_124, NB124_120, BK120⟩ := My.nb hg hb BK120; clear hb hbox hg; have hnb11 := NB124_120.out; have hnc11 := NB120_124.out; have hq12 := My.cz2 BK124; have hq13 := My.cz3 BK120))
  repeat (go_quiet (first | ((with_reducible refine gate_dst (N := 1) rfl ?_); refine My.bx 1 #[.int .i64 a0_0, .string a0_1, .int .i64 a0_2] 27 ?_; intro gb120 hg w5 hbox hb; have BK120 := My.am (hbox); have GE120 := My.nge hg (My.bl_ HB); replace HB := My.st HB hb; clear hb hbox hg; have hq6 := My.cz3 BK120) | (go_at_call 39; (with_reducible refine (act_Check.calls k a0_0 a0_1 a0_2 t121 _ A2.out).mono ?_); rintro e w7 ⟨rfl, hb⟩; replace BK120 := My.ab BK120 hb; replace HB := My.st HB hb; (try clear hb); have hq8 := My.cz3 BK120) | (go_at_call 60; (with_reducible refine (act_ways.calls a0_0 t122 t123 _ A4.out).mono ?_); rintro e w9 ⟨rfl, hb⟩; replace BK120 := My.ab BK120 hb; replace HB := My.st HB hb; (try clear hb)) | ((with_reducible refine gate_dst (N := 4) rfl ?_); refine My.bx 4 #[.int .i64 0, .int .i64 0] 96 ?_; intro gb124 hg w10 hbox hb; have BK124 := My.am (hbox); have GE124 := My.nge hg (My.bl_ HB); replace HB := My.st HB hb; obtain ⟨NB120_124, NB124_120, BK120⟩ := My.nb hg hb BK120; clear hb hbox hg; have hnb11 := NB124_120.out; have hnc11 := NB120_124.out; have hq12 := My.cz2 BK124; have hq13 := My.cz3 BK120)); try go_wp2_with (first | ((with_reducible refine gate_dst (N := 1) rfl ?_); refine My.bx 1 #[.int .i64 a0_0, .string a0_1, .int .i64 a0_2] 27 ?_; intro gb120 hg w5 hbox hb; have BK120 := My.am (hbox); have GE120 := My.nge hg (My.bl_ HB); replace HB := My.st HB hb; clear hb hbox hg; have hq6 := My.cz3 BK120) | (go_at_call 39; (with_reducible refine (act_Check.calls k a0_0 a0_1 a0_2 t121 _ A2.out).mono ?_); rintro e w7 ⟨rfl, hb⟩; replace BK120 := My.ab BK120 hb; replace HB := My.st HB hb; (try clear hb); have hq8 := My.cz3 BK120) | (go_at_call 60; (with_reducible refine (act_ways.calls a0_0 t122 t123 _ A4.out).mono ?_); rintro e w9 ⟨rfl, hb⟩; replace BK120 := My.ab BK120 hb; replace HB := My.st HB hb; (try clear hb)) | ((with_reducible refine gate_dst (N := 4) rfl ?_); refine My.bx 4 #[.int .i64 0, .int .i64 0] 96 ?_; intro gb124 hg w10 hbox hb; have BK124 := My.am (hbox); have GE124 := My.nge hg (My.bl_ HB); replace HB := My.st HB hb; obtain ⟨NB120_124, NB124_120, BK120⟩ := My.nb hg hb BK120; clear hb hbox hg; have hnb11 := NB124_120.out; have hnc11 := NB120_124.out; have hq12 := My.cz2 BK124; have hq13 := My.cz3 BK120)))
  go_ret2
  exact ⟨My.r2, (My.bl_ HB)⟩
 ·rw [if_neg c3] at H
  have c3b0 : (t121 == 0) = false := beq_eq_false_iff_ne.mpr c3
  have c3b1 : (t121 != 0) = true := bne_iff_ne.mpr c3
  simp only [Option.some.injEq, Prod.mk.injEq] at H
  obtain ⟨rfl, rfl⟩ := H
  go_enter Try.func29, Try.ntmps29
  go_wp2_with (first | ((with_reducible refine gate_dst (N := 1) rfl ?_); refine My.bx 1 #[.int .i64 a0_0, .string a0_1, .int .i64 a0_2] 27 ?_; intro gb120 hg w14 hbox hb; have BK120 := My.am (hbox); have GE120 := My.nge hg (My.bl_ HB); replace HB := My.st HB hb; clear hb hbox hg; have hq15 := My.cz3 BK120) | (go_at_call 39; (with_reducible refine (act_Check.calls k a0_0 a0_1 a0_2 t121 _ A2.out).mono ?_); rintro e w16 ⟨rfl, hb⟩; replace BK120 := My.ab BK120 hb; replace HB := My.st HB hb; (try clear hb)))
  repeat (go_quiet (first | ((with_reducible refine gate_dst (N := 1) rfl ?_); refine My.bx 1 #[.int .i64 a0_0, .string a0_1, .int .i64 a0_2] 27 ?_; intro gb120 hg w14 hbox hb; have BK120 := My.am (hbox); have GE120 := My.nge hg (My.bl_ HB); replace HB := My.st HB hb; clear hb hbox hg; have hq15 := My.cz3 BK120) | (go_at_call 39; (with_reducible refine (act_Check.calls k a0_0 a0_1 a0_2 t121 _ A2.out).mono ?_); rintro e w16 ⟨rfl, hb⟩; replace BK120 := My.ab BK120 hb; replace HB := My.st HB hb; (try clear hb))); try go_wp2_with (first | ((with_reducible refine gate_dst (N := 1) rfl ?_); refine My.bx 1 #[.int .i64 a0_0, .string a0_1, .int .i64 a0_2] 27 ?_; intro gb120 hg w14 hbox hb; have BK120 := My.am (hbox); have GE120 := My.nge hg (My.bl_ HB); replace HB := My.st HB hb; clear hb hbox hg; have hq15 := My.cz3 BK120) | (go_at_call 39; (with_reducible refine (act_Check.calls k a0_0 a0_1 a0_2 t121 _ A2.out).mono ?_); rintro e w16 ⟨rfl, hb⟩; replace HB := My.st HB hb; (try clear hb))))
  go_ret2
  exact ⟨My.r2, (My.bl_ HB)⟩

/-! ### ledger_pending: function 52 -/
section
open Go.Proofs.Ytikanbdhpafbiaa.My
def ledger_pending.fn (k : Nat) : List S64 → (ByteArray → Q4) → Option (ByteArray → Q4)
 | [], f => some f
 | m :: r, f => if m.f2 = 1 then ((act_Delta.f k m.f1.f0 m.f1.f1 m.f1.f2).bind fun t => ledger_pending.fn k r (fun z => if z = m.f1.f1 then (wrap64 ((f m.f1.f1).1 + mx t.1 0), wrap64 ((f m.f1.f1).2.1 + mx (wrap64 (-t.1)) 0), wrap64 ((f m.f1.f1).2.2.1 + mx t.2 0), wrap64 ((f m.f1.f1).2.2.2 + mx (wrap64 (-t.2)) 0)) else f z)) else ledger_pending.fn k r f
theorem ledger_pending.mono : ∀ (l : List S64) (f : ByteArray → Q4) (k : Nat), LeO (ledger_pending.fn k l f) (ledger_pending.fn (k + 1) l f)
 | [], _, _ => LeO.refl _
 | m :: r, f, k => by
  simp only [ledger_pending.fn]
  exact LeO.ite (LeO.bind (act_Delta.mono _ _ _ _) (fun _ => ledger_pending.mono r _ k)) (ledger_pending.mono r f k)
attribute [local go_sem] run_makeMap
theorem ledger_pending.calls (k : Nat) (A0 A1 : Option Addr) (n0 c0 c1 : Nat) (l1 : List S64) (r : ByteArray → Q4) (w : World) (hr1 : Kd.C k64 w A1 l1.length l1) (hsz : ∀ m ∈ l1, m.f1.f1.size ≤ maxLen) (hl : l1.length ≤ 1000000) (h : ledger_pending.fn k l1 (fun _ => (0, 0, 0, 0)) = some r) :
  Calls Try.prog 52 #[.agg #[.slice A0 n0 c0, .slice A1 l1.length c1]] w fun e w' => ∃ b, e = .returned (.map (some b)) ∧ MapFn Try.prog w' 9 b l1.length r ∧ w.heap.size ≤ b ∧ Below w.heap.size w w' := by
 have hu25 := Try.underlying25
 have hu64 := Try.underlying64
 have hu86 := Try.underlying86
 have hu27 := Try.underlying27
 have HR := My.am hr1
 have H0 := My.am h
 have HSZ := My.am hsz
 clear hr1 h hsz
 go_enter Try.func52, Try.ntmps52
 go_wp2
 have HM0 := My.am (MapFn.made (w.alloc (.cells #[.slice A0 n0 c0, .slice A1 l1.length c1] 25)) Try.prog 9)
 have HB0 := My.am (below_alloc (below_alloc (Below.refl w.heap.size w) (.cells #[.slice A0 n0 c0, .slice A1 l1.length c1] 25)) (.map #[] 0))
 simp only [World.size_alloc] at HM0
 generalize ((w.alloc (.cells #[.slice A0 n0 c0, .slice A1 l1.length c1] 25)).alloc (.map #[] 0)) = w2 at HM0 HB0 ⊢
 go_loopg [13] (l1.length + 1) (fun kq v13 wr => ∃ (j : Nat) (f : ByteArray → Q4), kq + j = l1.length + 1 ∧ v13 = .int .i64 (j : Int) ∧ j ≤ l1.length ∧ Aside0 (ledger_pending.fn k (l1.drop j) f = some r) ∧ Aside0 (MapFn Try.prog wr 9 (w.heap.size + 1) j f) ∧ Aside0 (Below w.heap.size w wr))
 case atStart => exact ⟨0, _, rfl, rfl, Nat.zero_le _, ⟨by rw [List.drop_zero]; exact H0.out⟩, HM0, HB0⟩
 case round =>
  obtain ⟨j, f, hkj, rfl, hj, HF, HM, HB⟩ := hrel
  clear HM0 HB0 H0
  by_cases c : j < l1.length
  rotate_left
  ·obtain rfl : j = l1.length := by omega
   have d1 : decide ((l1.length : Int) < (l1.length : Int)) = false := by simp
   have hf := HF.out
   rw [List.drop_length] at hf
   simp only [ledger_pending.fn, Option.some.injEq] at hf
   subst hf
   clear HF
   go_wp2
   exact bodyPost_ret (v := .map (some (w.heap.size + 1))) (by simp [results, Try.results52, go_sem]) rfl ⟨_, rfl, HM.out, by omega, HB.out⟩
  have z0 : (0 : Int) ≤ (j : Int) := by omega
  have z2 : (j : Int) < (l1.length : Int) := by omega
  have d1 : decide ((j : Int) < (l1.length : Int)) = true := decide_eq_true z2
  have hC := Kd.C_below HR.out HB.out
  obtain ⟨ad, rfl, x0, x1, x2, x3, x4⟩ := at_T64 hC (j : Int) z0 z2
  rw [Int.toNat_natCast] at x0 x1 x2 x3 x4
  clear hC
  have hd : l1.drop j = rd_T64 l1 (j : Int) :: l1.drop (j + 1) := by
   rw [List.drop_eq_getElem_cons c]
   congr 1
   unfold rd_T64
   rw [Int.toNat_natCast, List.getD_eq_getElem?_getD, List.getElem?_eq_getElem c]
   rfl
  have hf := HF.out
  rw [hd] at hf
  simp only [ledger_pending.fn] at hf
  have hmem : rd_T64 l1 (j : Int) ∈ l1 := by
   have h_ : rd_T64 l1 (j : Int) ∈ l1.drop j := by
    rw [hd]
    exact List.mem_cons_self
   exact List.mem_of_mem_drop h_
  have hms : (rd_T64 l1 (j : Int)).f1.f1.size ≤ maxLen := HSZ.out _ hmem
  clear hmem
  by_cases c2 : (rd_T64 l1 (j : Int)).f2 = 1
  rotate_left
  ·rw [if_neg c2] at hf
   have c2b : ((rd_T64 l1 (j : Int)).f2 != 1) = true := bne_iff_ne.2 c2
   have HF2 := My.am hf
   clear c2 hf hd
   go_wp2
   go_roundg (l1.length - j)
   case measure => omega
   case rel => exact ⟨j + 1, _, by omega, by go_num, by omega, HF2, ⟨(HM.out.alloc _).mono (Nat.le_succ _)⟩, ⟨below_alloc HB.out _⟩⟩
  rw [if_pos c2] at hf
  have c2b : ((rd_T64 l1 (j : Int)).f2 != 1) = false := bne_eq_false_iff_eq.2 c2
  obtain ⟨⟨t1, t2⟩, hdel, hf2⟩ := Option.bind_eq_some_iff.1 hf
  have HD := My.am hdel
  have HF2 := My.am hf2
  clear hf hdel hf2
  obtain ⟨⟨p0, p1, p2, p3⟩, hq⟩ : ∃ q : Q4, f (rd_T64 l1 (j : Int)).f1.f1 = q := ⟨_, rfl⟩
  have hlk := MapFn.lookup (t := 84) (HM.out.alloc (.cells #[.string (rd_T64 l1 (j : Int)).f0, .int .i64 (rd_T64 l1 (j : Int)).f1.f0, .string (rd_T64 l1 (j : Int)).f1.f1, .int .i64 (rd_T64 l1 (j : Int)).f1.f2, .int .i64 (rd_T64 l1 (j : Int)).f2] 64)) Try.underlying9 Try.underlying84 (by kernel_rfl) hms
  rw [hq] at hlk
  simp only [v4] at hlk
  rw [hq] at HF2
  dsimp only at HF2
  have HQ := My.am hq
  clear c2 hq
  go_upto_region 8 with ((go_at_call 29; refine (act_Delta.calls k _ _ _ t1 t2 _ HD.out).mono ?_; rintro e w3 ⟨rfl, hb⟩; have y0 := blk_below (blk_alloc (blk_new wr _) _) hb; have y1 := blk_below (blk_new (wr.alloc _) _) hb; simp only [World.size_alloc] at y1; have HM3 := My.am (((HM.out.alloc _).alloc _).kept (row := none) ⟨hb.os, hb.tape, hb.output, hb.size, fun i hi _ => hb.block i hi⟩ (by simp)); have Y0 := My.am y0; have hlt := HM.out.lt; have Y1 := My.am y1; clear y0 y1; have HB3 := My.am (below_step (below_alloc (below_alloc HB.out _) _) hb); clear hb hlk))
  have a0 := (blk_cell Y1.out 0).trans rfl
  have fz0 := blk_frozen Y1.out 0
  go_upto_region 9 with (fail)
  generalize hx0 : (if t1 < 0 then 0 else t1) = x0
  generalize hq0 : wrap64 (p0 + x0) = q0
  have HM4 := My.am (HM3.out.setCell (a := ⟨wr.heap.size + 1, 0, none⟩) (by simp; omega) (.int .i64 q0))
  have Y04 : Aside0 _ := ⟨(Below.heap_setCell w3 ⟨wr.heap.size + 1, 0, none⟩ (.int .i64 q0) _ (by simp)).trans Y0.out⟩
  have Y14 := My.am (blk_put (cs' := #[.int .i64 q0, .int .i64 p1, .int .i64 p2, .int .i64 p3]) Y1.out 0 (.int .i64 q0) rfl)
  have HB4 := My.am (HB3.out.setCell (p := ⟨wr.heap.size + 1, 0, none⟩) (by simp; omega) (.int .i64 q0))
  generalize w3.setCell ⟨wr.heap.size + 1, 0, none⟩ (.int .i64 q0) = w4 at HM4 Y04 Y14 HB4 ⊢
  rw [← hx0] at hq0
  have Q0 := My.am hq0
  clear a0 fz0 Y0 Y1 HM3 HB3 hq0 hx0
  have a1 := (blk_cell Y14.out 1).trans rfl
  have fz1 := blk_frozen Y14.out 1
  go_upto_region 10 with (fail)
  generalize hx1 : (if wrap64 (-t1) < 0 then 0 else wrap64 (-t1)) = x1
  generalize hq1 : wrap64 (p1 + x1) = q1
  have HM5 := My.am (HM4.out.setCell (a := ⟨wr.heap.size + 1, 1, none⟩) (by simp; omega) (.int .i64 q1))
  have Y05 : Aside0 _ := ⟨(Below.heap_setCell w4 ⟨wr.heap.size + 1, 1, none⟩ (.int .i64 q1) _ (by simp)).trans Y04.out⟩
  have Y15 := My.am (blk_put (cs' := #[.int .i64 q0, .int .i64 q1, .int .i64 p2, .int .i64 p3]) Y14.out 1 (.int .i64 q1) rfl)
  have HB5 := My.am (HB4.out.setCell (p := ⟨wr.heap.size + 1, 1, none⟩) (by simp; omega) (.int .i64 q1))
  generalize w4.setCell ⟨wr.heap.size + 1, 1, none⟩ (.int .i64 q1) = w5 at HM5 Y05 Y15 HB5 ⊢
  rw [← hx1] at hq1
  have Q1 := My.am hq1
  clear a1 fz1 Y04 Y14 HM4 HB4 hq1 hx1
  have a2 := (blk_cell Y15.out 2).trans rfl
  have fz2 := blk_frozen Y15.out 2
  go_upto_region 11 with (fail)
  generalize hx2 : (if t2 < 0 then 0 else t2) = x2
  generalize hq2 : wrap64 (p2 + x2) = q2
  have HM6 := My.am (HM5.out.setCell (a := ⟨wr.heap.size + 1, 2, none⟩) (by simp; omega) (.int .i64 q2))
  have Y06 : Aside0 _ := ⟨(Below.heap_setCell w5 ⟨wr.heap.size + 1, 2, none⟩ (.int .i64 q2) _ (by simp)).trans Y05.out⟩
  have Y16 := My.am (blk_put (cs' := #[.int .i64 q0, .int .i64 q1, .int .i64 q2, .int .i64 p3]) Y15.out 2 (.int .i64 q2) rfl)
  have HB6 := My.am (HB5.out.setCell (p := ⟨wr.heap.size + 1, 2, none⟩) (by simp; omega) (.int .i64 q2))
  generalize w5.setCell ⟨wr.heap.size + 1, 2, none⟩ (.int .i64 q2) = w6 at HM6 Y06 Y16 HB6 ⊢
  rw [← hx2] at hq2
  have Q2 := My.am hq2
  clear a2 fz2 Y05 Y15 HM5 HB5 hq2 hx2
  have a3 := (blk_cell Y16.out 3).trans rfl
  have fz3 := blk_frozen Y16.out 3
  go_upto_region 12 with (fail)
  generalize hx3 : (if wrap64 (-t2) < 0 then 0 else wrap64 (-t2)) = x3
  generalize hq3 : wrap64 (p3 + x3) = q3
  have HM7 := My.am (HM6.out.setCell (a := ⟨wr.heap.size + 1, 3, none⟩) (by simp; omega) (.int .i64 q3))
  have Y07 : Aside0 _ := ⟨(Below.heap_setCell w6 ⟨wr.heap.size + 1, 3, none⟩ (.int .i64 q3) _ (by simp)).trans Y06.out⟩
  have Y17 := My.am (blk_put (cs' := #[.int .i64 q0, .int .i64 q1, .int .i64 q2, .int .i64 q3]) Y16.out 3 (.int .i64 q3) rfl)
  have HB7 := My.am (HB6.out.setCell (p := ⟨wr.heap.size + 1, 3, none⟩) (by simp; omega) (.int .i64 q3))
  generalize w6.setCell ⟨wr.heap.size + 1, 3, none⟩ (.int .i64 q3) = w7 at HM7 Y07 Y17 HB7 ⊢
  rw [← hx3] at hq3
  have Q3 := My.am hq3
  clear a3 fz3 Y06 Y16 HM6 HB6 hq3 hx3
  have b2 := (blk_cell Y07.out 2).trans rfl
  have a0 := (blk_cell Y17.out 0).trans rfl
  have a1 := (blk_cell Y17.out 1).trans rfl
  have a2 := (blk_cell Y17.out 2).trans rfl
  have a3 := (blk_cell Y17.out 3).trans rfl
  go_wp2_with (at_mapUpdate; refine wpList_mapUpdate_fn rfl _ _ _ 84 86 rfl Try.underlying9 Try.underlying84 rfl HM7.out (by unfold maxLen; omega) (rd_T64 l1 (j : Int)).f1.f1 (q0, q1, q2, q3) rfl rfl hms ?_; intro w8 HM8 hg8)
  clear a0 a1 a2 a3 b2
  have hn : (fun z => if z = (rd_T64 l1 (j : Int)).f1.f1 then (q0, q1, q2, q3) else f z) = (fun z => if z = (rd_T64 l1 (j : Int)).f1.f1 then (wrap64 (p0 + mx t1 0), wrap64 (p1 + mx (wrap64 (-t1)) 0), wrap64 (p2 + mx t2 0), wrap64 (p3 + mx (wrap64 (-t2)) 0)) else f z) := by rw [← Q0.out, ← Q1.out, ← Q2.out, ← Q3.out]; rfl
  have HM9 := My.am (hn ▸ HM8)
  have HB9 := My.am (HB7.out.grown hg8 HB7.out.size (fun q hq => by cases hq; omega))
  clear HM8 hg8 hn
  go_roundg (l1.length - j)
  case measure => omega
  case rel => exact ⟨j + 1, _, by omega, by go_num, by omega, HF2, HM9, HB9⟩
end


end Go.Proofs.Ytikanbdhpafbiaa.PO
