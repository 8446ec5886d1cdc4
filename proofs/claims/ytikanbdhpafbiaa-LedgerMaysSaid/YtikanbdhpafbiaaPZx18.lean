-- Written by a program of this session (wip/tools/mp.py over the kit's printer); Lean checks it.
import Derived.Test.YtikanbdhpafbiaaPZx0
import Derived.Test.YtikanbdhpafbiaaPZx4
import Derived.Test.YtikanbdhpafbiaaPZx7
import Derived.Test.YtikanbdhpafbiaaPZx8
import Derived.Test.YtikanbdhpafbiaaPZx9
import Derived.Test.YtikanbdhpafbiaaPZx13
import Derived.Test.YtikanbdhpafbiaaPZx17
namespace Go.Proofs.Ytikanbdhpafbiaa.PZ
open Go.RowKit Go.Proofs.YtikanbdhpafbiaaW.PrintWords Go.Proofs.YtikanbdhpafbiaaW.PrintLast Go.Proofs.YtikanbdhpafbiaaW.PrintMore
attribute [local go_sem] max2_int min2_int max_two min_two max_three min_three max_four min_four   -- for this text's walks alone
set_option linter.unusedVariables false
set_option maxHeartbeats 8000000
set_option maxRecDepth 100000
set_option linter.unusedSimpArgs false

attribute [local go_sem high] eqA49
/-! ### ledger_Find: function 21 -/
def ledger_Find.f (k : Nat) (l0_0 : List (S51)) (l0_1 : List (S64)) (a1 : ByteArray) : Option (ByteArray × Int × Int × Int × Int × Int × Int × Bool) := (ledger_May.f k l0_0 l0_1).bind fun t372 => (if t372 = 0 then ((ledger_book_account.f k l0_0 l0_1 a1).bind fun bt373 => (if bt373.2 = true then (if 0 ≤ bt373.1 then (if bt373.1 < (l0_0.length : Int) then (some ((rd_T51 l0_0 bt373.1).f0, (rd_T51 l0_0 bt373.1).f1.f0, (rd_T51 l0_0 bt373.1).f1.f1, (rd_T51 l0_0 bt373.1).f1.f2, (rd_T51 l0_0 bt373.1).f2.f0, (rd_T51 l0_0 bt373.1).f2.f1, (rd_T51 l0_0 bt373.1).f2.f2, true)) else (none)) else (none)) else (some ((⟨#[]⟩ : ByteArray), 0, 0, 0, 0, 0, 0, false)))) else (some ((⟨#[]⟩ : ByteArray), 0, 0, 0, 0, 0, 0, false)))
theorem ledger_Find.mono : ∀ a0 a1 a2 k, LeO (ledger_Find.f k a0 a1 a2) (ledger_Find.f (k + 1) a0 a1 a2) := by
 intro a0 a1 a2 k
 unfold ledger_Find.f
 repeat' (with_reducible first | exact ledger_May.mono _ _ _ | exact ledger_book_account.mono _ _ _ _ | exact LeO.refl _ | exact LeO.none _ | apply LeO.ite | refine LeO.bind ?_ (fun _ => ?_))
theorem ledger_Find.calls (k : Nat) (A0_0 : Option Addr) (c0_0 : Nat) (l0_0 : List (S51)) (A0_1 : Option Addr) (c0_1 : Nat) (l0_1 : List (S64)) (a1 : ByteArray) (r1 : ByteArray) (r2 : Int) (r3 : Int) (r4 : Int) (r5 : Int) (r6 : Int) (r7 : Int) (r8 : Bool) (w : World) (hr0_0 : Kd.C k51 w A0_0 l0_0.length l0_0) (hc0_0 : l0_0.length ≤ c0_0) (hr0_1 : Kd.C k64 w A0_1 l0_1.length l0_1) (hc0_1 : l0_1.length ≤ c0_1) (h : ledger_Find.f k l0_0 l0_1 a1 = some (r1, r2, r3, r4, r5, r6, r7, r8)) :
  Calls Try.prog 21 #[.agg #[.slice A0_0 l0_0.length c0_0, .slice A0_1 l0_1.length c0_1], .string a1] w fun e w' => e = .returned (.tuple #[.agg #[.string r1, .int .i64 r2, .int .i64 r3, .int .i64 r4, .int .i64 r5, .int .i64 r6, .int .i64 r7], .bool r8]) ∧ Below w.heap.size w w' := by
 have hu25 := Try.underlying25
 have hu51 := Try.underlying51
 have hu71 := Try.underlying71
 have HR0_0 := My.am hr0_0
 have HC0_0 := My.am hc0_0
 clear hr0_0 hc0_0
 have HR0_1 := My.am hr0_1
 have HC0_1 := My.am hc0_1
 clear hr0_1 hc0_1
 have HB := My.am (Below.refl w.heap.size w)
 unfold ledger_Find.f at h
 have H := h
 clear h
 replace H := Option.bind_eq_some_iff.mp H
 obtain ⟨t372, A30, H⟩ := H
 try dsimp only at H
 have A3 := My.am A30
 clear A30
 by_cases c4 : t372 = 0
 ·rw [if_pos c4] at H
  have c4b0 : (t372 == 0) = true := beq_iff_eq.mpr c4
  have c4b1 : (t372 != 0) = false := bne_eq_false_iff_eq.mpr c4
  clear c4
  replace H := Option.bind_eq_some_iff.mp H
  obtain ⟨⟨t373, t374⟩, A50, H⟩ := H
  try dsimp only at H
  have A5 := My.am A50
  clear A50
  by_cases c6 : t374 = true
  ·subst c6
   rw [if_pos rfl] at H
   by_cases c7 : 0 ≤ t373
   ·rw [if_pos c7] at H
    have c7b0 := decide_eq_true c7
    clear c7
    by_cases c8 : t373 < (l0_0.length : Int)
    ·rw [if_pos c8] at H
     have c8b0 := decide_eq_true c8
     clear c8
     simp only [Option.some.injEq, Prod.mk.injEq] at H
     obtain ⟨rfl, rfl, rfl, rfl, rfl, rfl, rfl, rfl⟩ := H
     go_enter Try.func21, Try.ntmps21
     go_wp2_with (first | ((with_reducible refine gate_dst (N := 2) rfl ?_); refine My.bx 2 #[.slice A0_0 l0_0.length c0_0, .slice A0_1 l0_1.length c0_1] 25 ?_; intro gb370 hg w9 hbox hb; have BK370 := My.am (hbox); have GE370 := My.nge hg (My.bl_ HB); replace HB := My.st HB hb; clear hb hbox hg) | ((with_reducible refine gate_dst (N := 4) rfl ?_); refine My.bx 4 #[.string (⟨#[]⟩ : ByteArray), .int .i64 0, .int .i64 0, .int .i64 0, .int .i64 0, .int .i64 0, .int .i64 0] 51 ?_; intro gb371 hg w10 hbox hb; have BK371 := My.am (hbox); have GE371 := My.nge hg (My.bl_ HB); replace HB := My.st HB hb; obtain ⟨NB370_371, NB371_370, BK370⟩ := My.nb hg hb BK370; clear hb hbox hg; have hnb11 := NB370_371.out; have hnc11 := NB371_370.out; have hq12 := My.cz2 BK370) | ((with_reducible refine gate_callee (f := 20) rfl ?_); refine goesL_ (some 9) rfl rfl Try.func20 (by kernel_rfl) rfl #[.agg #[.slice A0_0 l0_0.length c0_0, .slice A0_1 l0_1.length c0_1]] rfl My.gx ?_; (with_reducible refine (ledger_May.calls k _ _ l0_0 _ _ l0_1 t372 _ ?side1 ?side2 ?side3 ?side4 A3.out).mono ?_); (case side1 => exact My.sd_ HR0_0 HB); (case side2 => exact HC0_0.out); (case side3 => exact My.sd_ HR0_1 HB); (case side4 => exact HC0_1.out); rintro e w13 ⟨rfl, hb⟩; refine ⟨_, rfl, ?_⟩; replace BK370 := My.ab BK370 hb; replace BK371 := My.ab BK371 hb; replace HB := My.st HB hb; (try clear hb); have hq14 := My.cz2 BK370) | ((with_reducible refine gate_callee (f := 32) rfl ?_); refine goesL_ (some 16) rfl rfl Try.func32 (by kernel_rfl) rfl #[.agg #[.slice A0_0 l0_0.length c0_0, .slice A0_1 l0_1.length c0_1], .string a1] rfl My.gx ?_; (with_reducible refine (ledger_book_account.calls k _ _ l0_0 _ _ l0_1 a1 t373 true _ ?side1 ?side2 ?side3 ?side4 A5.out).mono ?_); (case side1 => exact My.sd_ HR0_0 HB); (case side2 => exact HC0_0.out); (case side3 => exact My.sd_ HR0_1 HB); (case side4 => exact HC0_1.out); rintro e w15 ⟨rfl, hb⟩; refine ⟨_, rfl, ?_⟩; replace BK370 := My.ab BK370 hb; replace BK371 := My.ab BK371 hb; replace HB := My.st HB hb; (try clear hb); have hq16 := My.cz2 BK370; have p375 : 0 ≤ (t373 : Int) := My.as_; have q375 : t373 < (l0_0.length : Int) := My.as_; obtain ⟨ad375, e375, hx375_0, hx375_1, hx375_2, hx375_3, hx375_4, hx375_5, hx375_6⟩ := My.up7 HB (at_T51 HR0_0.out t373 p375 q375); cases e375; replace p375 := eq_true p375; replace q375 := eq_true q375; have hq17 := My.cz7 BK371))
     refine bodyPost_ret (results_ct rfl _ _ gb371 51 #[.string ((rd_T51 l0_0 t373).f0), .int .i64 ((rd_T51 l0_0 t373).f1.f0), .int .i64 ((rd_T51 l0_0 t373).f1.f1), .int .i64 ((rd_T51 l0_0 t373).f1.f2), .int .i64 ((rd_T51 l0_0 t373).f2.f0), .int .i64 ((rd_T51 l0_0 t373).f2.f1), .int .i64 ((rd_T51 l0_0 t373).f2.f2)] (0, 0) _ rfl ((My.sv_ BK371)) Try.underlying51 rfl (by kernel_rfl)) rfl ?_
     exact ⟨My.r2, (My.bl_ HB)⟩
    rw [if_neg c8] at H
    exact absurd H (by simp)
   rw [if_neg c7] at H
   exact absurd H (by simp)
  ·replace c6 := Bool.eq_false_iff.mpr c6
   subst c6
   rw [if_neg (show ¬ (false = true) by decide)] at H
   simp only [Option.some.injEq, Prod.mk.injEq] at H
   obtain ⟨rfl, rfl, rfl, rfl, rfl, rfl, rfl, rfl⟩ := H
   go_enter Try.func21, Try.ntmps21
   go_wp2_with (first | ((with_reducible refine gate_dst (N := 2) rfl ?_); refine My.bx 2 #[.slice A0_0 l0_0.length c0_0, .slice A0_1 l0_1.length c0_1] 25 ?_; intro gb370 hg w18 hbox hb; have BK370 := My.am (hbox); have GE370 := My.nge hg (My.bl_ HB); replace HB := My.st HB hb; clear hb hbox hg) | ((with_reducible refine gate_dst (N := 4) rfl ?_); refine My.bx 4 #[.string (⟨#[]⟩ : ByteArray), .int .i64 0, .int .i64 0, .int .i64 0, .int .i64 0, .int .i64 0, .int .i64 0] 51 ?_; intro gb371 hg w19 hbox hb; have BK371 := My.am (hbox); have GE371 := My.nge hg (My.bl_ HB); replace HB := My.st HB hb; obtain ⟨NB370_371, NB371_370, BK370⟩ := My.nb hg hb BK370; clear hb hbox hg; have hnb20 := NB370_371.out; have hnc20 := NB371_370.out; have hq21 := My.cz2 BK370) | ((with_reducible refine gate_callee (f := 20) rfl ?_); refine goesL_ (some 9) rfl rfl Try.func20 (by kernel_rfl) rfl #[.agg #[.slice A0_0 l0_0.length c0_0, .slice A0_1 l0_1.length c0_1]] rfl My.gx ?_; (with_reducible refine (ledger_May.calls k _ _ l0_0 _ _ l0_1 t372 _ ?side1 ?side2 ?side3 ?side4 A3.out).mono ?_); (case side1 => exact My.sd_ HR0_0 HB); (case side2 => exact HC0_0.out); (case side3 => exact My.sd_ HR0_1 HB); (case side4 => exact HC0_1.out); rintro e w22 ⟨rfl, hb⟩; refine ⟨_, rfl, ?_⟩; replace BK370 := My.ab BK370 hb; replace BK371 := My.ab BK371 hb; replace HB := My.st HB hb; (try clear hb); have hq23 := My.cz2 BK370) | ((with_reducible refine gate_callee (f := 32) rfl ?_); refine goesL_ (some 16) rfl rfl Try.func32 (by kernel_rfl) rfl #[.agg #[.slice A0_0 l0_0.length c0_0, .slice A0_1 l0_1.length c0_1], .string a1] rfl My.gx ?_; (with_reducible refine (ledger_book_account.calls k _ _ l0_0 _ _ l0_1 a1 t373 false _ ?side1 ?side2 ?side3 ?side4 A5.out).mono ?_); (case side1 => exact My.sd_ HR0_0 HB); (case side2 => exact HC0_0.out); (case side3 => exact My.sd_ HR0_1 HB); (case side4 => exact HC0_1.out); rintro e w24 ⟨rfl, hb⟩; refine ⟨_, rfl, ?_⟩; replace BK370 := My.ab BK370 hb; replace BK371 := My.ab BK371 hb; replace HB := My.st HB hb; (try clear hb); have hq25 := My.cz7 BK371))
   refine bodyPost_ret (results_ct rfl _ _ gb371 51 #[.string (⟨#[]⟩ : ByteArray), .int .i64 0, .int .i64 0, .int .i64 0, .int .i64 0, .int .i64 0, .int .i64 0] (0, 0) _ rfl ((My.sv_ BK371)) Try.underlying51 rfl (by kernel_rfl)) rfl ?_
   exact ⟨My.r2, (My.bl_ HB)⟩
 ·rw [if_neg c4] at H
  have c4b0 : (t372 == 0) = false := beq_eq_false_iff_ne.mpr c4
  have c4b1 : (t372 != 0) = true := bne_iff_ne.mpr c4
  simp only [Option.some.injEq, Prod.mk.injEq] at H
  obtain ⟨rfl, rfl, rfl, rfl, rfl, rfl, rfl, rfl⟩ := H
  go_enter Try.func21, Try.ntmps21
  go_wp2_with (first | ((with_reducible refine gate_dst (N := 2) rfl ?_); refine My.bx 2 #[.slice A0_0 l0_0.length c0_0, .slice A0_1 l0_1.length c0_1] 25 ?_; intro gb370 hg w26 hbox hb; have BK370 := My.am (hbox); have GE370 := My.nge hg (My.bl_ HB); replace HB := My.st HB hb; clear hb hbox hg) | ((with_reducible refine gate_dst (N := 4) rfl ?_); refine My.bx 4 #[.string (⟨#[]⟩ : ByteArray), .int .i64 0, .int .i64 0, .int .i64 0, .int .i64 0, .int .i64 0, .int .i64 0] 51 ?_; intro gb371 hg w27 hbox hb; have BK371 := My.am (hbox); have GE371 := My.nge hg (My.bl_ HB); replace HB := My.st HB hb; obtain ⟨NB370_371, NB371_370, BK370⟩ := My.nb hg hb BK370; clear hb hbox hg; have hnb28 := NB370_371.out; have hnc28 := NB371_370.out; have hq29 := My.cz2 BK370) | ((with_reducible refine gate_callee (f := 20) rfl ?_); refine goesL_ (some 9) rfl rfl Try.func20 (by kernel_rfl) rfl #[.agg #[.slice A0_0 l0_0.length c0_0, .slice A0_1 l0_1.length c0_1]] rfl My.gx ?_; (with_reducible refine (ledger_May.calls k _ _ l0_0 _ _ l0_1 t372 _ ?side1 ?side2 ?side3 ?side4 A3.out).mono ?_); (case side1 => exact My.sd_ HR0_0 HB); (case side2 => exact HC0_0.out); (case side3 => exact My.sd_ HR0_1 HB); (case side4 => exact HC0_1.out); rintro e w30 ⟨rfl, hb⟩; refine ⟨_, rfl, ?_⟩; replace BK371 := My.ab BK371 hb; replace HB := My.st HB hb; (try clear hb); have hq31 := My.cz7 BK371))
  refine bodyPost_ret (results_ct rfl _ _ gb371 51 #[.string (⟨#[]⟩ : ByteArray), .int .i64 0, .int .i64 0, .int .i64 0, .int .i64 0, .int .i64 0, .int .i64 0] (0, 0) _ rfl ((My.sv_ BK371)) Try.underlying51 rfl (by kernel_rfl)) rfl ?_
  exact ⟨My.r2, (My.bl_ HB)⟩

/-! ### ledger_State: function 26 -/
def ledger_State.f (k : Nat) (l0_0 : List (S51)) (l0_1 : List (S64)) (a1 : ByteArray) : Option (Int) := (ledger_May.f k l0_0 l0_1).bind fun t377 => (if t377 = 0 then ((ledger_book_mark.f k l0_0 l0_1 a1).bind fun bt378 => (if bt378.2 = true then (if 0 ≤ bt378.1 then (if bt378.1 < (l0_1.length : Int) then (some ((rd_T64 l0_1 bt378.1).f2)) else (none)) else (none)) else (some 0))) else (some 0))
theorem ledger_State.mono : ∀ a0 a1 a2 k, LeO (ledger_State.f k a0 a1 a2) (ledger_State.f (k + 1) a0 a1 a2) := by
 intro a0 a1 a2 k
 unfold ledger_State.f
 repeat' (with_reducible first | exact ledger_May.mono _ _ _ | exact ledger_book_mark.mono _ _ _ _ | exact LeO.refl _ | exact LeO.none _ | apply LeO.ite | refine LeO.bind ?_ (fun _ => ?_))
theorem ledger_State.calls (k : Nat) (A0_0 : Option Addr) (c0_0 : Nat) (l0_0 : List (S51)) (A0_1 : Option Addr) (c0_1 : Nat) (l0_1 : List (S64)) (a1 : ByteArray) (r : Int) (w : World) (hr0_0 : Kd.C k51 w A0_0 l0_0.length l0_0) (hc0_0 : l0_0.length ≤ c0_0) (hr0_1 : Kd.C k64 w A0_1 l0_1.length l0_1) (hc0_1 : l0_1.length ≤ c0_1) (h : ledger_State.f k l0_0 l0_1 a1 = some r) :
  Calls Try.prog 26 #[.agg #[.slice A0_0 l0_0.length c0_0, .slice A0_1 l0_1.length c0_1], .string a1] w fun e w' => e = .returned (.int .i64 r) ∧ Below w.heap.size w w' := by
 have hu25 := Try.underlying25
 have hu71 := Try.underlying71
 have HR0_0 := My.am hr0_0
 have HC0_0 := My.am hc0_0
 clear hr0_0 hc0_0
 have HR0_1 := My.am hr0_1
 have HC0_1 := My.am hc0_1
 clear hr0_1 hc0_1
 have HB := My.am (Below.refl w.heap.size w)
 unfold ledger_State.f at h
 have H := h
 clear h
 replace H := Option.bind_eq_some_iff.mp H
 obtain ⟨t377, A30, H⟩ := H
 try dsimp only at H
 have A3 := My.am A30
 clear A30
 by_cases c4 : t377 = 0
 ·rw [if_pos c4] at H
  have c4b0 : (t377 == 0) = true := beq_iff_eq.mpr c4
  have c4b1 : (t377 != 0) = false := bne_eq_false_iff_eq.mpr c4
  clear c4
  replace H := Option.bind_eq_some_iff.mp H
  obtain ⟨⟨t378, t379⟩, A50, H⟩ := H
  try dsimp only at H
  have A5 := My.am A50
  clear A50
  by_cases c6 : t379 = true
  ·subst c6
   rw [if_pos rfl] at H
   by_cases c7 : 0 ≤ t378
   ·rw [if_pos c7] at H
    have c7b0 := decide_eq_true c7
    clear c7
    by_cases c8 : t378 < (l0_1.length : Int)
    ·rw [if_pos c8] at H
     have c8b0 := decide_eq_true c8
     clear c8
     obtain rfl := Option.some.inj H
     go_enter Try.func26, Try.ntmps26
     go_wp2_with (first | ((with_reducible refine gate_dst (N := 2) rfl ?_); refine My.bx 2 #[.slice A0_0 l0_0.length c0_0, .slice A0_1 l0_1.length c0_1] 25 ?_; intro gb376 hg w9 hbox hb; have BK376 := My.am (hbox); have GE376 := My.nge hg (My.bl_ HB); replace HB := My.st HB hb; clear hb hbox hg; have hq10 := My.cz2 BK376) | ((with_reducible refine gate_callee (f := 20) rfl ?_); refine goesL_ (some 8) rfl rfl Try.func20 (by kernel_rfl) rfl #[.agg #[.slice A0_0 l0_0.length c0_0, .slice A0_1 l0_1.length c0_1]] rfl My.gx ?_; (with_reducible refine (ledger_May.calls k _ _ l0_0 _ _ l0_1 t377 _ ?side1 ?side2 ?side3 ?side4 A3.out).mono ?_); (case side1 => exact My.sd_ HR0_0 HB); (case side2 => exact HC0_0.out); (case side3 => exact My.sd_ HR0_1 HB); (case side4 => exact HC0_1.out); rintro e w11 ⟨rfl, hb⟩; refine ⟨_, rfl, ?_⟩; replace BK376 := My.ab BK376 hb; replace HB := My.st HB hb; (try clear hb); have hq12 := My.cz2 BK376) | ((with_reducible refine gate_callee (f := 40) rfl ?_); refine goesL_ (some 14) rfl rfl Try.func40 (by kernel_rfl) rfl #[.agg #[.slice A0_0 l0_0.length c0_0, .slice A0_1 l0_1.length c0_1], .string a1] rfl My.gx ?_; (with_reducible refine (ledger_book_mark.calls k _ _ l0_0 _ _ l0_1 a1 t378 true _ ?side1 ?side2 ?side3 ?side4 A5.out).mono ?_); (case side1 => exact My.sd_ HR0_0 HB); (case side2 => exact HC0_0.out); (case side3 => exact My.sd_ HR0_1 HB); (case side4 => exact HC0_1.out); rintro e w13 ⟨rfl, hb⟩; refine ⟨_, rfl, ?_⟩; replace BK376 := My.ab BK376 hb; replace HB := My.st HB hb; (try clear hb); have hq14 := My.cz2 BK376; have p380 : 0 ≤ (t378 : Int) := My.as_; have q380 : t378 < (l0_1.length : Int) := My.as_; obtain ⟨ad380, e380, hx380_0, hx380_1, hx380_2, hx380_3, hx380_4⟩ := My.up5 HB (at_T64 HR0_1.out t378 p380 q380); cases e380; replace p380 := eq_true p380; replace q380 := eq_true q380))
     go_ret
     exact ⟨My.r2, (My.bl_ HB)⟩
    rw [if_neg c8] at H
    exact absurd H (by simp)
   rw [if_neg c7] at H
   exact absurd H (by simp)
  ·replace c6 := Bool.eq_false_iff.mpr c6
   subst c6
   rw [if_neg (show ¬ (false = true) by decide)] at H
   obtain rfl := Option.some.inj H
   go_enter Try.func26, Try.ntmps26
   go_wp2_with (first | ((with_reducible refine gate_dst (N := 2) rfl ?_); refine My.bx 2 #[.slice A0_0 l0_0.length c0_0, .slice A0_1 l0_1.length c0_1] 25 ?_; intro gb376 hg w15 hbox hb; have BK376 := My.am (hbox); have GE376 := My.nge hg (My.bl_ HB); replace HB := My.st HB hb; clear hb hbox hg; have hq16 := My.cz2 BK376) | ((with_reducible refine gate_callee (f := 20) rfl ?_); refine goesL_ (some 8) rfl rfl Try.func20 (by kernel_rfl) rfl #[.agg #[.slice A0_0 l0_0.length c0_0, .slice A0_1 l0_1.length c0_1]] rfl My.gx ?_; (with_reducible refine (ledger_May.calls k _ _ l0_0 _ _ l0_1 t377 _ ?side1 ?side2 ?side3 ?side4 A3.out).mono ?_); (case side1 => exact My.sd_ HR0_0 HB); (case side2 => exact HC0_0.out); (case side3 => exact My.sd_ HR0_1 HB); (case side4 => exact HC0_1.out); rintro e w17 ⟨rfl, hb⟩; refine ⟨_, rfl, ?_⟩; replace BK376 := My.ab BK376 hb; replace HB := My.st HB hb; (try clear hb); have hq18 := My.cz2 BK376) | ((with_reducible refine gate_callee (f := 40) rfl ?_); refine goesL_ (some 14) rfl rfl Try.func40 (by kernel_rfl) rfl #[.agg #[.slice A0_0 l0_0.length c0_0, .slice A0_1 l0_1.length c0_1], .string a1] rfl My.gx ?_; (with_reducible refine (ledger_book_mark.calls k _ _ l0_0 _ _ l0_1 a1 t378 false _ ?side1 ?side2 ?side3 ?side4 A5.out).mono ?_); (case side1 => exact My.sd_ HR0_0 HB); (case side2 => exact HC0_0.out); (case side3 => exact My.sd_ HR0_1 HB); (case side4 => exact HC0_1.out); rintro e w19 ⟨rfl, hb⟩; refine ⟨_, rfl, ?_⟩; replace BK376 := My.ab BK376 hb; replace HB := My.st HB hb; (try clear hb)))
   go_ret
   exact ⟨My.r2, (My.bl_ HB)⟩
 ·rw [if_neg c4] at H
  have c4b0 : (t377 == 0) = false := beq_eq_false_iff_ne.mpr c4
  have c4b1 : (t377 != 0) = true := bne_iff_ne.mpr c4
  obtain rfl := Option.some.inj H
  go_enter Try.func26, Try.ntmps26
  go_wp2_with (first | ((with_reducible refine gate_dst (N := 2) rfl ?_); refine My.bx 2 #[.slice A0_0 l0_0.length c0_0, .slice A0_1 l0_1.length c0_1] 25 ?_; intro gb376 hg w20 hbox hb; have BK376 := My.am (hbox); have GE376 := My.nge hg (My.bl_ HB); replace HB := My.st HB hb; clear hb hbox hg; have hq21 := My.cz2 BK376) | ((with_reducible refine gate_callee (f := 20) rfl ?_); refine goesL_ (some 8) rfl rfl Try.func20 (by kernel_rfl) rfl #[.agg #[.slice A0_0 l0_0.length c0_0, .slice A0_1 l0_1.length c0_1]] rfl My.gx ?_; (with_reducible refine (ledger_May.calls k _ _ l0_0 _ _ l0_1 t377 _ ?side1 ?side2 ?side3 ?side4 A3.out).mono ?_); (case side1 => exact My.sd_ HR0_0 HB); (case side2 => exact HC0_0.out); (case side3 => exact My.sd_ HR0_1 HB); (case side4 => exact HC0_1.out); rintro e w22 ⟨rfl, hb⟩; refine ⟨_, rfl, ?_⟩; replace HB := My.st HB hb; (try clear hb)))
  go_ret
  exact ⟨My.r2, (My.bl_ HB)⟩

/-! ### ententelaw07_awake: function 9 -/
def ententelaw07_awake.f (k : Nat)  : Option (Bool) := (ledger_Open.f k ([] : List (S51)) ([] : List (S64)) (⟨#[99, 97, 115, 104]⟩ : ByteArray) 10).bind fun bt381 => ((ledger_Do.f k bt381.1 bt381.2.1 (⟨#[107]⟩ : ByteArray) 1 (⟨#[99, 97, 115, 104]⟩ : ByteArray) 4).bind fun bt390 => ((ledger_Do.f k bt390.1 bt390.2.1 (⟨#[107]⟩ : ByteArray) 1 (⟨#[99, 97, 115, 104]⟩ : ByteArray) 4).bind fun bt398 => ((ledger_Do.f k bt390.1 bt390.2.1 (⟨#[107]⟩ : ByteArray) 1 (⟨#[99, 97, 115, 104]⟩ : ByteArray) 5).bind fun bt406 => ((ledger_Undo.f k bt390.1 bt390.2.1 (⟨#[107]⟩ : ByteArray)).bind fun bt414 => ((ledger_Find.f k bt390.1 bt390.2.1 (⟨#[99, 97, 115, 104]⟩ : ByteArray)).bind fun bt422 => (if bt381.2.2 = 0 then (if bt390.2.2 = 0 then (if bt398.2.2 = 0 then ((ententeref07_Same.f k bt390.1 bt390.2.1 bt398.1 bt398.2.1).bind fun t431 => (if t431 = true then (if bt406.2.2 = 72 then (if bt414.2.2 = 0 then ((ledger_State.f k bt414.1 bt414.2.1 (⟨#[107]⟩ : ByteArray)).bind fun t432 => (if t432 = 2 then (if bt422.2.2.2.2.2.2.2 = true then (if (bt422.2.1 == 6 && (bt422.2.2.1 == 0 && (bt422.2.2.2.1 == 4))) = true then ((ledger_May.f k (([(⟨(⟨#[]⟩ : ByteArray), (⟨0, 0, 0⟩ : S49), (⟨0, 0, 0⟩ : S49)⟩ : S51)] : List (S51))) ([] : List (S64))).bind fun t436 => (some (t436 == 2))) else (none)) else (none)) else (none))) else (none)) else (none)) else (none))) else (none)) else (none)) else (none)))))))
theorem ententelaw07_awake.mono : ∀ k, LeO (ententelaw07_awake.f k ) (ententelaw07_awake.f (k + 1) ) := by
 intro  k
 unfold ententelaw07_awake.f
 repeat' (with_reducible first | exact ententeref07_Same.mono _ _ _ _ _ | exact ledger_Do.mono _ _ _ _ _ _ _ | exact ledger_Find.mono _ _ _ _ | exact ledger_May.mono _ _ _ | exact ledger_Open.mono _ _ _ _ _ | exact ledger_State.mono _ _ _ _ | exact ledger_Undo.mono _ _ _ _ | exact LeO.refl _ | exact LeO.none _ | apply LeO.ite | refine LeO.bind ?_ (fun _ => ?_))
theorem ententelaw07_awake.calls (k : Nat)  (r : Bool) (w : World) (h : ententelaw07_awake.f k  = some r) :
  Calls Try.prog 9 #[] w fun e w' => e = .returned (.bool r) ∧ Below w.heap.size w w' := by
 have hu25 := Try.underlying25
 have hu27 := Try.underlying27
 have hu51 := Try.underlying51
 have hu49 := Try.underlying49
 have HB := My.am (Below.refl w.heap.size w)
 unfold ententelaw07_awake.f at h
 have H := h
 clear h
 replace H := Option.bind_eq_some_iff.mp H
 obtain ⟨⟨t381, t384, t387⟩, A10, H⟩ := H
 try dsimp only at H
 have A1 := My.am A10
 clear A10
 replace H := Option.bind_eq_some_iff.mp H
 obtain ⟨⟨t390, t393, t396⟩, A20, H⟩ := H
 try dsimp only at H
 have A2 := My.am A20
 clear A20
 replace H := Option.bind_eq_some_iff.mp H
 obtain ⟨⟨t398, t401, t404⟩, A30, H⟩ := H
 try dsimp only at H
 have A3 := My.am A30
 clear A30
 replace H := Option.bind_eq_some_iff.mp H
 obtain ⟨⟨t406, t409, t412⟩, A40, H⟩ := H
 try dsimp only at H
 have A4 := My.am A40
 clear A40
 replace H := Option.bind_eq_some_iff.mp H
 obtain ⟨⟨t414, t417, t420⟩, A50, H⟩ := H
 try dsimp only at H
 have A5 := My.am A50
 clear A50
 replace H := Option.bind_eq_some_iff.mp H
 obtain ⟨⟨t422, t423, t424, t425, t426, t427, t428, t429⟩, A60, H⟩ := H
 try dsimp only at H
 have A6 := My.am A60
 clear A60
 by_cases c7 : t387 = 0
 ·rw [if_pos c7] at H
  have c7b0 : (t387 == 0) = true := beq_iff_eq.mpr c7
  have c7b1 : (t387 != 0) = false := bne_eq_false_iff_eq.mpr c7
  clear c7
  by_cases c8 : t396 = 0
  ·rw [if_pos c8] at H
   have c8b0 : (t396 == 0) = true := beq_iff_eq.mpr c8
   have c8b1 : (t396 != 0) = false := bne_eq_false_iff_eq.mpr c8
   clear c8
   by_cases c9 : t404 = 0
   rotate_left
   ·exact My.nn c9 H
   rw [if_pos c9] at H
   have c9b0 : (t404 == 0) = true := beq_iff_eq.mpr c9
   have c9b1 : (t404 != 0) = false := bne_eq_false_iff_eq.mpr c9
   clear c9
   replace H := Option.bind_eq_some_iff.mp H
   obtain ⟨t431, A100, H⟩ := H
   try dsimp only at H
   have A10 := My.am A100
   clear A100
   by_cases c11 : t431 = true
   rotate_left
   ·replace c11 := Bool.eq_false_iff.mpr c11
    subst c11
    rw [if_neg (show ¬ (false = true) by decide)] at H
    exact absurd H (by simp)
   subst c11
   rw [if_pos rfl] at H
   by_cases c12 : t412 = 72
   rotate_left
   ·exact My.nn c12 H
   rw [if_pos c12] at H
   have c12b0 : (t412 == 72) = true := beq_iff_eq.mpr c12
   have c12b1 : (t412 != 72) = false := bne_eq_false_iff_eq.mpr c12
   clear c12
   by_cases c13 : t420 = 0
   rotate_left
   ·exact My.nn c13 H
   rw [if_pos c13] at H
   have c13b0 : (t420 == 0) = true := beq_iff_eq.mpr c13
   have c13b1 : (t420 != 0) = false := bne_eq_false_iff_eq.mpr c13
   clear c13
   replace H := Option.bind_eq_some_iff.mp H
   obtain ⟨t432, A140, H⟩ := H
   try dsimp only at H
   have A14 := My.am A140
   clear A140
   by_cases c15 : t432 = 2
   rotate_left
   ·exact My.nn c15 H
   rw [if_pos c15] at H
   have c15b0 : (t432 == 2) = true := beq_iff_eq.mpr c15
   have c15b1 : (t432 != 2) = false := bne_eq_false_iff_eq.mpr c15
   clear c15
   by_cases c16 : t429 = true
   rotate_left
   ·replace c16 := Bool.eq_false_iff.mpr c16
    subst c16
    rw [if_neg (show ¬ (false = true) by decide)] at H
    exact absurd H (by simp)
   subst c16
   rw [if_pos rfl] at H
   by_cases c17 : (t423 == 6 && (t424 == 0 && (t425 == 4))) = true
   rotate_left
   ·exact My.nn c17 H
   rw [if_pos c17] at H
   have c17b0 : (t423 == 6 && (t424 == 0 && (t425 == 4))) = true := c17
   (try (have c17b1 : decide (t423 = 6 && (t424 == 0 && (t425 == 4))) = true := by simpa using c17))
   (try (have c17b2 : (t423 == 6 && (t424 == 0 && (t425 == 4))) = true := by simpa using c17))
   clear c17
   obtain ⟨y433, hy433⟩ : ∃ y_ : List (S51), y_ = (([(⟨(⟨#[]⟩ : ByteArray), (⟨0, 0, 0⟩ : S49), (⟨0, 0, 0⟩ : S49)⟩ : S51)] : List (S51))) := ⟨_, rfl⟩
   replace H : ((ledger_May.f k y433 ([] : List (S64))).bind fun t436 => (some (t436 == 2))) = some r := by first | (rw [hy433]; with_reducible exact H) | (have H2_ := (Option.bind_some _ _).symm.trans H; rw [hy433]; with_reducible exact H2_) | (have H2_ := (Option.bind_some _ _).symm.trans H; with_reducible exact H2_) | with_reducible exact H | (rw [hy433]; exact H) | exact H
   have Ny433 := My.am hy433
   clear hy433
   replace H := Option.bind_eq_some_iff.mp H
   obtain ⟨t436, A180, H⟩ := H
   try dsimp only at H
   have A18 := My.am A180
   clear A180
   obtain rfl := Option.some.inj H
   go_enter Try.func9, Try.ntmps9
   go_wp2_with (first | ((with_reducible refine gate_callee (f := 10) rfl ?_); refine goesL_ (some 16) rfl rfl Try.func10 (by kernel_rfl) rfl #[.agg #[.slice none 0 0, .slice none 0 0], .string (⟨#[99, 97, 115, 104]⟩ : ByteArray), .int .i64 10] rfl My.gx ?_; (refine (ledger_Open.calls k _ _ ([] : List (S51)) _ _ ([] : List (S64)) (⟨#[99, 97, 115, 104]⟩ : ByteArray) 10 t381 t384 t387 _ ?side1 ?side2 ?side3 ?side4 A1.out).mono ?_); (case side1 => exact Kd.C_nil _ _); (case side2 => exact Nat.le_refl _); (case side3 => exact Kd.C_nil _ _); (case side4 => exact Nat.le_refl _); rintro e w19 ⟨v382, v385, rfl, ho0, ho1, hb⟩; refine ⟨_, rfl, ?_⟩; have HO383 := My.am (Kd.R_lower ho0 (below_size (My.bl_ HB))); have HO386 := My.am (Kd.R_lower ho1 (below_size (My.bl_ HB))); replace HB := My.st HB hb; (try clear hb); (try clear ho0); (try clear ho1)) | ((with_reducible refine gate_dst (N := 1) rfl ?_); (try (refine gate_guard (by rfl) ?_; dsimp only)); refine My.bx 1 #[.slice none 0 0, .slice none 0 0] 25 ?_; intro gb388 hg w20 hbox hb; replace HO383 := My.am (Kd.R_below (My.dr HO383.out) hb); replace HO386 := My.am (Kd.R_below (My.dr HO386.out) hb); have BK388 := My.am (hbox); have GE388 := My.nge hg (My.bl_ HB); replace HB := My.st HB hb; clear hb hbox hg; obtain ⟨Ao21, co21, eo21⟩ := Kd.R_slice HO383.out; subst eo21; have hq22 := My.cz2 BK388; obtain ⟨Ao23, co23, eo23⟩ := Kd.R_slice HO386.out; subst eo23) | ((with_reducible refine gate_dst (N := 3) rfl ?_); (try (refine gate_guard (by rfl) ?_; dsimp only)); refine My.bx 3 #[.int .i64 0, .string (⟨#[]⟩ : ByteArray), .int .i64 0] 27 ?_; intro gb389 hg w24 hbox hb; replace HO383 := My.am (Kd.R_below (by (with_reducible repeat (first | apply Kd.R_alloc | apply Kd.R_drewN | apply Kd.R_drew)); exact (My.rf2 gb388 (.slice Ao21 t381.length co21) (.slice Ao23 t384.length co23) (Kd.R_types HO383.out BK388.out (by decide)))) hb); replace HO386 := My.am (Kd.R_below (by (with_reducible repeat (first | apply Kd.R_alloc | apply Kd.R_drewN | apply Kd.R_drew)); exact (My.rf2 gb388 (.slice Ao21 t381.length co21) (.slice Ao23 t384.length co23) (Kd.R_types HO386.out BK388.out (by decide)))) hb); have BK389 := My.am (hbox); have GE389 := My.nge hg (My.bl_ HB); replace HB := My.st HB hb; have NB388_389 := My.am ((by rw [hg]; exact Nat.ne_of_lt (blk_lt (g := gb388) (o := .cells #[.slice Ao21 t381.length co21, .slice Ao23 t384.length co23] 25 (0, 0)) ((My.sv_ BK388))) : gb388 ≠ gb389)); have NB389_388 := My.am ((by rw [hg]; exact Nat.ne_of_gt (blk_lt (g := gb388) (o := .cells #[.slice Ao21 t381.length co21, .slice Ao23 t384.length co23] 25 (0, 0)) ((My.sv_ BK388))) : gb389 ≠ gb388)); replace BK388 := My.am (blk_below (g := gb388) (o := .cells #[.slice Ao21 t381.length co21, .slice Ao23 t384.length co23] 25 (0, 0)) ((My.sv_ BK388)) hb); clear hb hbox hg; have hnb25 := NB389_388.out; have hnc25 := NB388_389.out; have hq26 := My.cz3 BK389; have hq27 := My.cz2 BK388) | ((with_reducible refine gate_callee (f := 12) rfl ?_); refine goesL_ (some 23) rfl rfl Try.func12 (by kernel_rfl) rfl #[.agg #[.slice Ao21 t381.length co21, .slice Ao23 t384.length co23], .string (⟨#[107]⟩ : ByteArray), .agg #[.int .i64 1, .string (⟨#[99, 97, 115, 104]⟩ : ByteArray), .int .i64 4]] rfl My.gx ?_; (with_reducible refine (ledger_Do.calls k _ _ t381 _ _ t384 (⟨#[107]⟩ : ByteArray) 1 (⟨#[99, 97, 115, 104]⟩ : ByteArray) 4 t390 t393 t396 _ ?side1 ?side2 ?side3 ?side4 A2.out).mono ?_); (case side1 => refine (Kd.R_reads' (e := 51) (base := w.heap.size) (ok := fun k_ => True) (n := t381.length) (c := co21) ?_).2.2; exact (by (with_reducible repeat (first | apply Kd.R_alloc | apply Kd.R_drewN | apply Kd.R_drew)); exact (My.rf3 gb389 (.int .i64 1) (.string (⟨#[99, 97, 115, 104]⟩ : ByteArray)) (.int .i64 4) (Kd.R_types HO383.out BK389.out (by decide))))); (case side2 => exact (Kd.R_reads' HO383.out).2.1); (case side3 => refine (Kd.R_reads' (e := 64) (base := w.heap.size) (ok := fun k_ => True) (n := t384.length) (c := co23) ?_).2.2; exact (by (with_reducible repeat (first | apply Kd.R_alloc | apply Kd.R_drewN | apply Kd.R_drew)); exact (My.rf3 gb389 (.int .i64 1) (.string (⟨#[99, 97, 115, 104]⟩ : ByteArray)) (.int .i64 4) (Kd.R_types HO386.out BK389.out (by decide))))); (case side4 => exact (Kd.R_reads' HO386.out).2.1); rintro e w28 ⟨v391, v394, rfl, ho0, ho1, hb⟩; refine ⟨_, rfl, ?_⟩; have HO392 := My.am (Kd.R_lower (Kd.R_new' ho0 (Kd.R_lt (by (with_reducible repeat (first | apply Kd.R_alloc | apply Kd.R_drewN | apply Kd.R_drew)); exact (My.rf3 gb389 (.int .i64 1) (.string (⟨#[99, 97, 115, 104]⟩ : ByteArray)) (.int .i64 4) (Kd.R_types HO383.out BK389.out (by decide)))))) (below_size (My.bl_ HB))); replace HO383 := My.am (Kd.R_elder' (by (with_reducible repeat (first | apply Kd.R_alloc | apply Kd.R_drewN | apply Kd.R_drew)); exact (My.rf3 gb389 (.int .i64 1) (.string (⟨#[99, 97, 115, 104]⟩ : ByteArray)) (.int .i64 4) (Kd.R_types HO383.out BK389.out (by decide)))) (Kd.R_base ho0) hb); have HO395 := My.am (Kd.R_lower (Kd.R_new' ho1 (Kd.R_lt (by (with_reducible repeat (first | apply Kd.R_alloc | apply Kd.R_drewN | apply Kd.R_drew)); exact (My.rf3 gb389 (.int .i64 1) (.string (⟨#[99, 97, 115, 104]⟩ : ByteArray)) (.int .i64 4) (Kd.R_types HO386.out BK389.out (by decide)))))) (below_size (My.bl_ HB))); replace HO386 := My.am (Kd.R_elder' (by (with_reducible repeat (first | apply Kd.R_alloc | apply Kd.R_drewN | apply Kd.R_drew)); exact (My.rf3 gb389 (.int .i64 1) (.string (⟨#[99, 97, 115, 104]⟩ : ByteArray)) (.int .i64 4) (Kd.R_types HO386.out BK389.out (by decide)))) (Kd.R_base ho1) hb); replace BK388 := My.am (blk_below (g := gb388) (o := .cells #[.slice Ao21 t381.length co21, .slice Ao23 t384.length co23] 25 (0, 0)) ((My.sv_ BK388)) hb); replace BK389 := My.am (blk_below (g := gb389) (o := .cells #[.int .i64 1, .string (⟨#[99, 97, 115, 104]⟩ : ByteArray), .int .i64 4] 27 (0, 0)) ((My.sv_ BK389)) hb); replace HB := My.st HB hb; (try clear hb); (try clear ho0); (try clear ho1)) | ((with_reducible refine gate_dst (N := 4) rfl ?_); (try (refine gate_guard (by rfl) ?_; dsimp only)); refine My.bx 4 #[.slice none 0 0, .slice none 0 0] 25 ?_; intro gb397 hg w29 hbox hb; replace HO383 := My.am (Kd.R_below (My.dr HO383.out) hb); replace HO386 := My.am (Kd.R_below (My.dr HO386.out) hb); replace HO392 := My.am (Kd.R_below (My.dr HO392.out) hb); replace HO395 := My.am (Kd.R_below (My.dr HO395.out) hb); have BK397 := My.am (hbox); have GE397 := My.nge hg (My.bl_ HB); replace HB := My.st HB hb; obtain ⟨NB388_397, NB397_388, BK388⟩ := My.nb hg hb BK388; obtain ⟨NB389_397, NB397_389, BK389⟩ := My.nb hg hb BK389; clear hb hbox hg; obtain ⟨Ao30, co30, eo30⟩ := Kd.R_slice HO392.out; subst eo30; have hnb31 := NB397_388.out; have hnc31 := NB388_397.out; have hnb32 := NB397_389.out; have hnc32 := NB389_397.out; have hq33 := My.cz2 BK397; obtain ⟨Ao34, co34, eo34⟩ := Kd.R_slice HO395.out; subst eo34; have hq35 := My.cz3 BK389) | ((with_reducible refine gate_callee (f := 12) rfl ?_); refine goesL_ (some 29) rfl rfl Try.func12 (by kernel_rfl) rfl #[.agg #[.slice Ao30 t390.length co30, .slice Ao34 t393.length co34], .string (⟨#[107]⟩ : ByteArray), .agg #[.int .i64 1, .string (⟨#[99, 97, 115, 104]⟩ : ByteArray), .int .i64 4]] rfl My.gx ?_; (with_reducible refine (ledger_Do.calls k _ _ t390 _ _ t393 (⟨#[107]⟩ : ByteArray) 1 (⟨#[99, 97, 115, 104]⟩ : ByteArray) 4 t398 t401 t404 _ ?side1 ?side2 ?side3 ?side4 A3.out).mono ?_); (case side1 => refine (Kd.R_reads' (e := 51) (base := w.heap.size) (ok := fun k_ => (True ∧ some k_ ≠ (.slice Ao21 t381.length co21 : Value).ownBlock)) (n := t390.length) (c := co30) ?_).2.2; exact (by (with_reducible repeat (first | apply Kd.R_alloc | apply Kd.R_drewN | apply Kd.R_drew)); exact (My.rf2 gb397 (.slice Ao30 t390.length co30) (.slice Ao34 t393.length co34) (Kd.R_types HO392.out BK397.out (by decide))))); (case side2 => exact (Kd.R_reads' HO392.out).2.1); (case side3 => refine (Kd.R_reads' (e := 64) (base := w.heap.size) (ok := fun k_ => (True ∧ some k_ ≠ (.slice Ao23 t384.length co23 : Value).ownBlock)) (n := t393.length) (c := co34) ?_).2.2; exact (by (with_reducible repeat (first | apply Kd.R_alloc | apply Kd.R_drewN | apply Kd.R_drew)); exact (My.rf2 gb397 (.slice Ao30 t390.length co30) (.slice Ao34 t393.length co34) (Kd.R_types HO395.out BK397.out (by decide))))); (case side4 => exact (Kd.R_reads' HO395.out).2.1); rintro e w36 ⟨v399, v402, rfl, ho0, ho1, hb⟩; refine ⟨_, rfl, ?_⟩; have HO400 := My.am (Kd.R_lower (Kd.R_new' (Kd.R_new' ho0 (Kd.R_lt (by (with_reducible repeat (first | apply Kd.R_alloc | apply Kd.R_drewN | apply Kd.R_drew)); exact (My.rf2 gb397 (.slice Ao30 t390.length co30) (.slice Ao34 t393.length co34) (Kd.R_types HO383.out BK397.out (by decide)))))) (Kd.R_lt (by (with_reducible repeat (first | apply Kd.R_alloc | apply Kd.R_drewN | apply Kd.R_drew)); exact (My.rf2 gb397 (.slice Ao30 t390.length co30) (.slice Ao34 t393.length co34) (Kd.R_types HO392.out BK397.out (by decide)))))) (below_size (My.bl_ HB))); replace HO383 := My.am (Kd.R_elder' (by (with_reducible repeat (first | apply Kd.R_alloc | apply Kd.R_drewN | apply Kd.R_drew)); exact (My.rf2 gb397 (.slice Ao30 t390.length co30) (.slice Ao34 t393.length co34) (Kd.R_types HO383.out BK397.out (by decide)))) (Kd.R_base ho0) hb); replace HO392 := My.am (Kd.R_elder' (by (with_reducible repeat (first | apply Kd.R_alloc | apply Kd.R_drewN | apply Kd.R_drew)); exact (My.rf2 gb397 (.slice Ao30 t390.length co30) (.slice Ao34 t393.length co34) (Kd.R_types HO392.out BK397.out (by decide)))) (Kd.R_base ho0) hb); have HO403 := My.am (Kd.R_lower (Kd.R_new' (Kd.R_new' ho1 (Kd.R_lt (by (with_reducible repeat (first | apply Kd.R_alloc | apply Kd.R_drewN | apply Kd.R_drew)); exact (My.rf2 gb397 (.slice Ao30 t390.length co30) (.slice Ao34 t393.length co34) (Kd.R_types HO386.out BK397.out (by decide)))))) (Kd.R_lt (by (with_reducible repeat (first | apply Kd.R_alloc | apply Kd.R_drewN | apply Kd.R_drew)); exact (My.rf2 gb397 (.slice Ao30 t390.length co30) (.slice Ao34 t393.length co34) (Kd.R_types HO395.out BK397.out (by decide)))))) (below_size (My.bl_ HB))); replace HO386 := My.am (Kd.R_elder' (by (with_reducible repeat (first | apply Kd.R_alloc | apply Kd.R_drewN | apply Kd.R_drew)); exact (My.rf2 gb397 (.slice Ao30 t390.length co30) (.slice Ao34 t393.length co34) (Kd.R_types HO386.out BK397.out (by decide)))) (Kd.R_base ho1) hb); replace HO395 := My.am (Kd.R_elder' (by (with_reducible repeat (first | apply Kd.R_alloc | apply Kd.R_drewN | apply Kd.R_drew)); exact (My.rf2 gb397 (.slice Ao30 t390.length co30) (.slice Ao34 t393.length co34) (Kd.R_types HO395.out BK397.out (by decide)))) (Kd.R_base ho1) hb); replace BK388 := My.am (blk_below (g := gb388) (o := .cells #[.slice Ao21 t381.length co21, .slice Ao23 t384.length co23] 25 (0, 0)) ((My.sv_ BK388)) hb); replace BK389 := My.am (blk_below (g := gb389) (o := .cells #[.int .i64 1, .string (⟨#[99, 97, 115, 104]⟩ : ByteArray), .int .i64 4] 27 (0, 0)) ((My.sv_ BK389)) hb); replace BK397 := My.am (blk_below (g := gb397) (o := .cells #[.slice Ao30 t390.length co30, .slice Ao34 t393.length co34] 25 (0, 0)) ((My.sv_ BK397)) hb); replace HB := My.st HB hb; (try clear hb); (try clear ho0); (try clear ho1)) | ((with_reducible refine gate_dst (N := 6) rfl ?_); (try (refine gate_guard (by rfl) ?_; dsimp only)); refine My.bx 6 #[.slice none 0 0, .slice none 0 0] 25 ?_; intro gb405 hg w37 hbox hb; replace HO383 := My.am (Kd.R_below (My.dr HO383.out) hb); replace HO386 := My.am (Kd.R_below (My.dr HO386.out) hb); replace HO392 := My.am (Kd.R_below (My.dr HO392.out) hb); replace HO395 := My.am (Kd.R_below (My.dr HO395.out) hb); replace HO400 := My.am (Kd.R_below (My.dr HO400.out) hb); replace HO403 := My.am (Kd.R_below (My.dr HO403.out) hb); have BK405 := My.am (hbox); have GE405 := My.nge hg (My.bl_ HB); replace HB := My.st HB hb; obtain ⟨NB388_405, NB405_388, BK388⟩ := My.nb hg hb BK388; obtain ⟨NB389_405, NB405_389, BK389⟩ := My.nb hg hb BK389; obtain ⟨NB397_405, NB405_397, BK397⟩ := My.nb hg hb BK397; clear hb hbox hg; obtain ⟨Ao38, co38, eo38⟩ := Kd.R_slice HO400.out; subst eo38; have hnb39 := NB405_388.out; have hnc39 := NB388_405.out; have hnb40 := NB405_389.out; have hnc40 := NB389_405.out; have hnb41 := NB405_397.out; have hnc41 := NB397_405.out; have hq42 := My.cz2 BK405; obtain ⟨Ao43, co43, eo43⟩ := Kd.R_slice HO403.out; subst eo43; have hq44 := My.cz3 BK389; have hq45 := My.cz2 BK397) | ((with_reducible refine gate_callee (f := 12) rfl ?_); refine goesL_ (some 36) rfl rfl Try.func12 (by kernel_rfl) rfl #[.agg #[.slice Ao30 t390.length co30, .slice Ao34 t393.length co34], .string (⟨#[107]⟩ : ByteArray), .agg #[.int .i64 1, .string (⟨#[99, 97, 115, 104]⟩ : ByteArray), .int .i64 5]] rfl My.gx ?_; (with_reducible refine (ledger_Do.calls k _ _ t390 _ _ t393 (⟨#[107]⟩ : ByteArray) 1 (⟨#[99, 97, 115, 104]⟩ : ByteArray) 5 t406 t409 t412 _ ?side1 ?side2 ?side3 ?side4 A4.out).mono ?_); (case side1 => refine (Kd.R_reads' (e := 51) (base := w.heap.size) (ok := fun k_ => ((True ∧ some k_ ≠ (.slice Ao21 t381.length co21 : Value).ownBlock) ∧ some k_ ≠ (.slice Ao38 t398.length co38 : Value).ownBlock)) (n := t390.length) (c := co30) ?_).2.2; exact (by (with_reducible repeat (first | apply Kd.R_alloc | apply Kd.R_drewN | apply Kd.R_drew)); exact (Kd.R_mono (Kd.R_mono (Kd.R_far (p := ⟨gb389, 2, none⟩) (Kd.R_far (p := ⟨gb405, 1, none⟩) (Kd.R_far (p := ⟨gb405, 0, none⟩) (Kd.R_types (Kd.R_types HO392.out BK405.out (by decide)) BK389.out (by decide)) (fun _ hk => hk.1.2) (.slice Ao38 t398.length co38)) (fun _ hk => hk.1.2) (.slice Ao43 t401.length co43)) (fun _ hk => hk.2) (.int .i64 5)) (fun _ h_ => h_.1)) (fun _ h_ => h_.1)))); (case side2 => exact (Kd.R_reads' HO392.out).2.1); (case side3 => refine (Kd.R_reads' (e := 64) (base := w.heap.size) (ok := fun k_ => ((True ∧ some k_ ≠ (.slice Ao23 t384.length co23 : Value).ownBlock) ∧ some k_ ≠ (.slice Ao43 t401.length co43 : Value).ownBlock)) (n := t393.length) (c := co34) ?_).2.2; exact (by (with_reducible repeat (first | apply Kd.R_alloc | apply Kd.R_drewN | apply Kd.R_drew)); exact (Kd.R_mono (Kd.R_mono (Kd.R_far (p := ⟨gb389, 2, none⟩) (Kd.R_far (p := ⟨gb405, 1, none⟩) (Kd.R_far (p := ⟨gb405, 0, none⟩) (Kd.R_types (Kd.R_types HO395.out BK405.out (by decide)) BK389.out (by decide)) (fun _ hk => hk.1.2) (.slice Ao38 t398.length co38)) (fun _ hk => hk.1.2) (.slice Ao43 t401.length co43)) (fun _ hk => hk.2) (.int .i64 5)) (fun _ h_ => h_.1)) (fun _ h_ => h_.1)))); (case side4 => exact (Kd.R_reads' HO395.out).2.1); rintro e w46 ⟨v407, v410, rfl, ho0, ho1, hb⟩; refine ⟨_, rfl, ?_⟩; have HO408 := My.am (Kd.R_lower (Kd.R_new' (Kd.R_new' (Kd.R_new' ho0 (Kd.R_lt (by (with_reducible repeat (first | apply Kd.R_alloc | apply Kd.R_drewN | apply Kd.R_drew)); exact (Kd.R_mono (Kd.R_mono (Kd.R_far (p := ⟨gb389, 2, none⟩) (Kd.R_far (p := ⟨gb405, 1, none⟩) (Kd.R_far (p := ⟨gb405, 0, none⟩) (Kd.R_types (Kd.R_types HO383.out BK405.out (by decide)) BK389.out (by decide)) (fun _ hk => hk.1.2) (.slice Ao38 t398.length co38)) (fun _ hk => hk.1.2) (.slice Ao43 t401.length co43)) (fun _ hk => hk.2) (.int .i64 5)) (fun _ h_ => h_.1)) (fun _ h_ => h_.1))))) (Kd.R_lt (by (with_reducible repeat (first | apply Kd.R_alloc | apply Kd.R_drewN | apply Kd.R_drew)); exact (Kd.R_mono (Kd.R_mono (Kd.R_far (p := ⟨gb389, 2, none⟩) (Kd.R_far (p := ⟨gb405, 1, none⟩) (Kd.R_far (p := ⟨gb405, 0, none⟩) (Kd.R_types (Kd.R_types HO392.out BK405.out (by decide)) BK389.out (by decide)) (fun _ hk => hk.1.2) (.slice Ao38 t398.length co38)) (fun _ hk => hk.1.2) (.slice Ao43 t401.length co43)) (fun _ hk => hk.2) (.int .i64 5)) (fun _ h_ => h_.1)) (fun _ h_ => h_.1))))) (Kd.R_lt (by (with_reducible repeat (first | apply Kd.R_alloc | apply Kd.R_drewN | apply Kd.R_drew)); exact (Kd.R_mono (Kd.R_mono (Kd.R_far (p := ⟨gb389, 2, none⟩) (Kd.R_far (p := ⟨gb405, 1, none⟩) (Kd.R_far (p := ⟨gb405, 0, none⟩) (Kd.R_types (Kd.R_types HO400.out BK405.out (by decide)) BK389.out (by decide)) (fun _ hk => hk.1.2) (.slice Ao38 t398.length co38)) (fun _ hk => hk.1.2) (.slice Ao43 t401.length co43)) (fun _ hk => hk.2) (.int .i64 5)) (fun _ h_ => h_.1)) (fun _ h_ => h_.1))))) (below_size (My.bl_ HB))); replace HO383 := My.am (Kd.R_elder' (by (with_reducible repeat (first | apply Kd.R_alloc | apply Kd.R_drewN | apply Kd.R_drew)); exact (Kd.R_mono (Kd.R_mono (Kd.R_far (p := ⟨gb389, 2, none⟩) (Kd.R_far (p := ⟨gb405, 1, none⟩) (Kd.R_far (p := ⟨gb405, 0, none⟩) (Kd.R_types (Kd.R_types HO383.out BK405.out (by decide)) BK389.out (by decide)) (fun _ hk => hk.1.2) (.slice Ao38 t398.length co38)) (fun _ hk => hk.1.2) (.slice Ao43 t401.length co43)) (fun _ hk => hk.2) (.int .i64 5)) (fun _ h_ => h_.1)) (fun _ h_ => h_.1))) (Kd.R_base ho0) hb); replace HO392 := My.am (Kd.R_elder' (by (with_reducible repeat (first | apply Kd.R_alloc | apply Kd.R_drewN | apply Kd.R_drew)); exact (Kd.R_mono (Kd.R_mono (Kd.R_far (p := ⟨gb389, 2, none⟩) (Kd.R_far (p := ⟨gb405, 1, none⟩) (Kd.R_far (p := ⟨gb405, 0, none⟩) (Kd.R_types (Kd.R_types HO392.out BK405.out (by decide)) BK389.out (by decide)) (fun _ hk => hk.1.2) (.slice Ao38 t398.length co38)) (fun _ hk => hk.1.2) (.slice Ao43 t401.length co43)) (fun _ hk => hk.2) (.int .i64 5)) (fun _ h_ => h_.1)) (fun _ h_ => h_.1))) (Kd.R_base ho0) hb); replace HO400 := My.am (Kd.R_elder' (by (with_reducible repeat (first | apply Kd.R_alloc | apply Kd.R_drewN | apply Kd.R_drew)); exact (Kd.R_mono (Kd.R_mono (Kd.R_far (p := ⟨gb389, 2, none⟩) (Kd.R_far (p := ⟨gb405, 1, none⟩) (Kd.R_far (p := ⟨gb405, 0, none⟩) (Kd.R_types (Kd.R_types HO400.out BK405.out (by decide)) BK389.out (by decide)) (fun _ hk => hk.1.2) (.slice Ao38 t398.length co38)) (fun _ hk => hk.1.2) (.slice Ao43 t401.length co43)) (fun _ hk => hk.2) (.int .i64 5)) (fun _ h_ => h_.1)) (fun _ h_ => h_.1))) (Kd.R_base ho0) hb); have HO411 := My.am (Kd.R_lower (Kd.R_new' (Kd.R_new' (Kd.R_new' ho1 (Kd.R_lt (by (with_reducible repeat (first | apply Kd.R_alloc | apply Kd.R_drewN | apply Kd.R_drew)); exact (Kd.R_mono (Kd.R_mono (Kd.R_far (p := ⟨gb389, 2, none⟩) (Kd.R_far (p := ⟨gb405, 1, none⟩) (Kd.R_far (p := ⟨gb405, 0, none⟩) (Kd.R_types (Kd.R_types HO386.out BK405.out (by decide)) BK389.out (by decide)) (fun _ hk => hk.1.2) (.slice Ao38 t398.length co38)) (fun _ hk => hk.1.2) (.slice Ao43 t401.length co43)) (fun _ hk => hk.2) (.int .i64 5)) (fun _ h_ => h_.1)) (fun _ h_ => h_.1))))) (Kd.R_lt (by (with_reducible repeat (first | apply Kd.R_alloc | apply Kd.R_drewN | apply Kd.R_drew)); exact (Kd.R_mono (Kd.R_mono (Kd.R_far (p := ⟨gb389, 2, none⟩) (Kd.R_far (p := ⟨gb405, 1, none⟩) (Kd.R_far (p := ⟨gb405, 0, none⟩) (Kd.R_types (Kd.R_types HO395.out BK405.out (by decide)) BK389.out (by decide)) (fun _ hk => hk.1.2) (.slice Ao38 t398.length co38)) (fun _ hk => hk.1.2) (.slice Ao43 t401.length co43)) (fun _ hk => hk.2) (.int .i64 5)) (fun _ h_ => h_.1)) (fun _ h_ => h_.1))))) (Kd.R_lt (by (with_reducible repeat (first | apply Kd.R_alloc | apply Kd.R_drewN | apply Kd.R_drew)); exact (Kd.R_mono (Kd.R_mono (Kd.R_far (p := ⟨gb389, 2, none⟩) (Kd.R_far (p := ⟨gb405, 1, none⟩) (Kd.R_far (p := ⟨gb405, 0, none⟩) (Kd.R_types (Kd.R_types HO403.out BK405.out (by decide)) BK389.out (by decide)) (fun _ hk => hk.1.2) (.slice Ao38 t398.length co38)) (fun _ hk => hk.1.2) (.slice Ao43 t401.length co43)) (fun _ hk => hk.2) (.int .i64 5)) (fun _ h_ => h_.1)) (fun _ h_ => h_.1))))) (below_size (My.bl_ HB))); replace HO386 := My.am (Kd.R_elder' (by (with_reducible repeat (first | apply Kd.R_alloc | apply Kd.R_drewN | apply Kd.R_drew)); exact (Kd.R_mono (Kd.R_mono (Kd.R_far (p := ⟨gb389, 2, none⟩) (Kd.R_far (p := ⟨gb405, 1, none⟩) (Kd.R_far (p := ⟨gb405, 0, none⟩) (Kd.R_types (Kd.R_types HO386.out BK405.out (by decide)) BK389.out (by decide)) (fun _ hk => hk.1.2) (.slice Ao38 t398.length co38)) (fun _ hk => hk.1.2) (.slice Ao43 t401.length co43)) (fun _ hk => hk.2) (.int .i64 5)) (fun _ h_ => h_.1)) (fun _ h_ => h_.1))) (Kd.R_base ho1) hb); replace HO395 := My.am (Kd.R_elder' (by (with_reducible repeat (first | apply Kd.R_alloc | apply Kd.R_drewN | apply Kd.R_drew)); exact (Kd.R_mono (Kd.R_mono (Kd.R_far (p := ⟨gb389, 2, none⟩) (Kd.R_far (p := ⟨gb405, 1, none⟩) (Kd.R_far (p := ⟨gb405, 0, none⟩) (Kd.R_types (Kd.R_types HO395.out BK405.out (by decide)) BK389.out (by decide)) (fun _ hk => hk.1.2) (.slice Ao38 t398.length co38)) (fun _ hk => hk.1.2) (.slice Ao43 t401.length co43)) (fun _ hk => hk.2) (.int .i64 5)) (fun _ h_ => h_.1)) (fun _ h_ => h_.1))) (Kd.R_base ho1) hb); replace HO403 := My.am (Kd.R_elder' (by (with_reducible repeat (first | apply Kd.R_alloc | apply Kd.R_drewN | apply Kd.R_drew)); exact (Kd.R_mono (Kd.R_mono (Kd.R_far (p := ⟨gb389, 2, none⟩) (Kd.R_far (p := ⟨gb405, 1, none⟩) (Kd.R_far (p := ⟨gb405, 0, none⟩) (Kd.R_types (Kd.R_types HO403.out BK405.out (by decide)) BK389.out (by decide)) (fun _ hk => hk.1.2) (.slice Ao38 t398.length co38)) (fun _ hk => hk.1.2) (.slice Ao43 t401.length co43)) (fun _ hk => hk.2) (.int .i64 5)) (fun _ h_ => h_.1)) (fun _ h_ => h_.1))) (Kd.R_base ho1) hb); replace BK388 := My.am (blk_below (g := gb388) (o := .cells #[.slice Ao21 t381.length co21, .slice Ao23 t384.length co23] 25 (0, 0)) ((My.sv_ BK388)) hb); replace BK389 := My.am (blk_below (g := gb389) (o := .cells #[.int .i64 1, .string (⟨#[99, 97, 115, 104]⟩ : ByteArray), .int .i64 5] 27 (0, 0)) ((My.sv_ BK389)) hb); replace BK397 := My.am (blk_below (g := gb397) (o := .cells #[.slice Ao30 t390.length co30, .slice Ao34 t393.length co34] 25 (0, 0)) ((My.sv_ BK397)) hb); replace BK405 := My.am (blk_below (g := gb405) (o := .cells #[.slice Ao38 t398.length co38, .slice Ao43 t401.length co43] 25 (0, 0)) ((My.sv_ BK405)) hb); replace HB := My.st HB hb; (try clear hb); (try clear ho0); (try clear ho1)) | ((with_reducible refine gate_dst (N := 8) rfl ?_); (try (refine gate_guard (by rfl) ?_; dsimp only)); refine My.bx 8 #[.slice none 0 0, .slice none 0 0] 25 ?_; intro gb413 hg w47 hbox hb; replace HO383 := My.am (Kd.R_below (My.dr HO383.out) hb); replace HO386 := My.am (Kd.R_below (My.dr HO386.out) hb); replace HO392 := My.am (Kd.R_below (My.dr HO392.out) hb); replace HO395 := My.am (Kd.R_below (My.dr HO395.out) hb); replace HO400 := My.am (Kd.R_below (My.dr HO400.out) hb); replace HO403 := My.am (Kd.R_below (My.dr HO403.out) hb); replace HO408 := My.am (Kd.R_below (My.dr HO408.out) hb); replace HO411 := My.am (Kd.R_below (My.dr HO411.out) hb); have BK413 := My.am (hbox); have GE413 := My.nge hg (My.bl_ HB); replace HB := My.st HB hb; obtain ⟨NB388_413, NB413_388, BK388⟩ := My.nb hg hb BK388; obtain ⟨NB389_413, NB413_389, BK389⟩ := My.nb hg hb BK389; obtain ⟨NB397_413, NB413_397, BK397⟩ := My.nb hg hb BK397; obtain ⟨NB405_413, NB413_405, BK405⟩ := My.nb hg hb BK405; clear hb hbox hg; obtain ⟨Ao48, co48, eo48⟩ := Kd.R_slice HO408.out; subst eo48; have hnb49 := NB413_388.out; have hnc49 := NB388_413.out; have hnb50 := NB413_389.out; have hnc50 := NB389_413.out; have hnb51 := NB413_397.out; have hnc51 := NB397_413.out; have hnb52 := NB413_405.out; have hnc52 := NB405_413.out; have hq53 := My.cz2 BK413; obtain ⟨Ao54, co54, eo54⟩ := Kd.R_slice HO411.out; subst eo54; have hq55 := My.cz2 BK397) | ((with_reducible refine gate_callee (f := 14) rfl ?_); refine goesL_ (some 41) rfl rfl Try.func14 (by kernel_rfl) rfl #[.agg #[.slice Ao30 t390.length co30, .slice Ao34 t393.length co34], .string (⟨#[107]⟩ : ByteArray)] rfl My.gx ?_; (with_reducible refine (ledger_Undo.calls k _ _ t390 _ _ t393 (⟨#[107]⟩ : ByteArray) t414 t417 t420 _ ?side1 ?side2 ?side3 ?side4 A5.out).mono ?_); (case side1 => refine (Kd.R_reads' (e := 51) (base := w.heap.size) (ok := fun k_ => (((True ∧ some k_ ≠ (.slice Ao21 t381.length co21 : Value).ownBlock) ∧ some k_ ≠ (.slice Ao38 t398.length co38 : Value).ownBlock) ∧ some k_ ≠ (.slice Ao48 t406.length co48 : Value).ownBlock)) (n := t390.length) (c := co30) ?_).2.2; exact (by (with_reducible repeat (first | apply Kd.R_alloc | apply Kd.R_drewN | apply Kd.R_drew)); exact (My.rf2 gb413 (.slice Ao48 t406.length co48) (.slice Ao54 t409.length co54) (Kd.R_types HO392.out BK413.out (by decide))))); (case side2 => exact (Kd.R_reads' HO392.out).2.1); (case side3 => refine (Kd.R_reads' (e := 64) (base := w.heap.size) (ok := fun k_ => (((True ∧ some k_ ≠ (.slice Ao23 t384.length co23 : Value).ownBlock) ∧ some k_ ≠ (.slice Ao43 t401.length co43 : Value).ownBlock) ∧ some k_ ≠ (.slice Ao54 t409.length co54 : Value).ownBlock)) (n := t393.length) (c := co34) ?_).2.2; exact (by (with_reducible repeat (first | apply Kd.R_alloc | apply Kd.R_drewN | apply Kd.R_drew)); exact (My.rf2 gb413 (.slice Ao48 t406.length co48) (.slice Ao54 t409.length co54) (Kd.R_types HO395.out BK413.out (by decide))))); (case side4 => exact (Kd.R_reads' HO395.out).2.1); rintro e w56 ⟨v415, v418, rfl, ho0, ho1, hb⟩; refine ⟨_, rfl, ?_⟩; have HO416 := My.am (Kd.R_lower (Kd.R_new' (Kd.R_new' (Kd.R_new' (Kd.R_new' ho0 (Kd.R_lt (by (with_reducible repeat (first | apply Kd.R_alloc | apply Kd.R_drewN | apply Kd.R_drew)); exact (My.rf2 gb413 (.slice Ao48 t406.length co48) (.slice Ao54 t409.length co54) (Kd.R_types HO383.out BK413.out (by decide)))))) (Kd.R_lt (by (with_reducible repeat (first | apply Kd.R_alloc | apply Kd.R_drewN | apply Kd.R_drew)); exact (My.rf2 gb413 (.slice Ao48 t406.length co48) (.slice Ao54 t409.length co54) (Kd.R_types HO392.out BK413.out (by decide)))))) (Kd.R_lt (by (with_reducible repeat (first | apply Kd.R_alloc | apply Kd.R_drewN | apply Kd.R_drew)); exact (My.rf2 gb413 (.slice Ao48 t406.length co48) (.slice Ao54 t409.length co54) (Kd.R_types HO400.out BK413.out (by decide)))))) (Kd.R_lt (by (with_reducible repeat (first | apply Kd.R_alloc | apply Kd.R_drewN | apply Kd.R_drew)); exact (My.rf2 gb413 (.slice Ao48 t406.length co48) (.slice Ao54 t409.length co54) (Kd.R_types HO408.out BK413.out (by decide)))))) (below_size (My.bl_ HB))); replace HO383 := My.am (Kd.R_elder' (by (with_reducible repeat (first | apply Kd.R_alloc | apply Kd.R_drewN | apply Kd.R_drew)); exact (My.rf2 gb413 (.slice Ao48 t406.length co48) (.slice Ao54 t409.length co54) (Kd.R_types HO383.out BK413.out (by decide)))) (Kd.R_base ho0) hb); replace HO392 := My.am (Kd.R_elder' (by (with_reducible repeat (first | apply Kd.R_alloc | apply Kd.R_drewN | apply Kd.R_drew)); exact (My.rf2 gb413 (.slice Ao48 t406.length co48) (.slice Ao54 t409.length co54) (Kd.R_types HO392.out BK413.out (by decide)))) (Kd.R_base ho0) hb); replace HO400 := My.am (Kd.R_elder' (by (with_reducible repeat (first | apply Kd.R_alloc | apply Kd.R_drewN | apply Kd.R_drew)); exact (My.rf2 gb413 (.slice Ao48 t406.length co48) (.slice Ao54 t409.length co54) (Kd.R_types HO400.out BK413.out (by decide)))) (Kd.R_base ho0) hb); replace HO408 := My.am (Kd.R_elder' (by (with_reducible repeat (first | apply Kd.R_alloc | apply Kd.R_drewN | apply Kd.R_drew)); exact (My.rf2 gb413 (.slice Ao48 t406.length co48) (.slice Ao54 t409.length co54) (Kd.R_types HO408.out BK413.out (by decide)))) (Kd.R_base ho0) hb); have HO419 := My.am (Kd.R_lower (Kd.R_new' (Kd.R_new' (Kd.R_new' (Kd.R_new' ho1 (Kd.R_lt (by (with_reducible repeat (first | apply Kd.R_alloc | apply Kd.R_drewN | apply Kd.R_drew)); exact (My.rf2 gb413 (.slice Ao48 t406.length co48) (.slice Ao54 t409.length co54) (Kd.R_types HO386.out BK413.out (by decide)))))) (Kd.R_lt (by (with_reducible repeat (first | apply Kd.R_alloc | apply Kd.R_drewN | apply Kd.R_drew)); exact (My.rf2 gb413 (.slice Ao48 t406.length co48) (.slice Ao54 t409.length co54) (Kd.R_types HO395.out BK413.out (by decide)))))) (Kd.R_lt (by (with_reducible repeat (first | apply Kd.R_alloc | apply Kd.R_drewN | apply Kd.R_drew)); exact (My.rf2 gb413 (.slice Ao48 t406.length co48) (.slice Ao54 t409.length co54) (Kd.R_types HO403.out BK413.out (by decide)))))) (Kd.R_lt (by (with_reducible repeat (first | apply Kd.R_alloc | apply Kd.R_drewN | apply Kd.R_drew)); exact (My.rf2 gb413 (.slice Ao48 t406.length co48) (.slice Ao54 t409.length co54) (Kd.R_types HO411.out BK413.out (by decide)))))) (below_size (My.bl_ HB))); replace HO395 := My.am (Kd.R_elder' (by (with_reducible repeat (first | apply Kd.R_alloc | apply Kd.R_drewN | apply Kd.R_drew)); exact (My.rf2 gb413 (.slice Ao48 t406.length co48) (.slice Ao54 t409.length co54) (Kd.R_types HO395.out BK413.out (by decide)))) (Kd.R_base ho1) hb); replace HO403 := My.am (Kd.R_elder' (by (with_reducible repeat (first | apply Kd.R_alloc | apply Kd.R_drewN | apply Kd.R_drew)); exact (My.rf2 gb413 (.slice Ao48 t406.length co48) (.slice Ao54 t409.length co54) (Kd.R_types HO403.out BK413.out (by decide)))) (Kd.R_base ho1) hb); replace BK388 := My.am (blk_below (g := gb388) (o := .cells #[.slice Ao21 t381.length co21, .slice Ao23 t384.length co23] 25 (0, 0)) ((My.sv_ BK388)) hb); replace BK389 := My.am (blk_below (g := gb389) (o := .cells #[.int .i64 1, .string (⟨#[99, 97, 115, 104]⟩ : ByteArray), .int .i64 5] 27 (0, 0)) ((My.sv_ BK389)) hb); replace BK397 := My.am (blk_below (g := gb397) (o := .cells #[.slice Ao30 t390.length co30, .slice Ao34 t393.length co34] 25 (0, 0)) ((My.sv_ BK397)) hb); replace BK405 := My.am (blk_below (g := gb405) (o := .cells #[.slice Ao38 t398.length co38, .slice Ao43 t401.length co43] 25 (0, 0)) ((My.sv_ BK405)) hb); replace BK413 := My.am (blk_below (g := gb413) (o := .cells #[.slice Ao48 t406.length co48, .slice Ao54 t409.length co54] 25 (0, 0)) ((My.sv_ BK413)) hb); replace HB := My.st HB hb; (try clear hb); (try clear ho0); (try clear ho1)) | ((with_reducible refine gate_dst (N := 10) rfl ?_); (try (refine gate_guard (by rfl) ?_; dsimp only)); refine My.bx 10 #[.slice none 0 0, .slice none 0 0] 25 ?_; intro gb421 hg w57 hbox hb; replace HO383 := My.am (Kd.R_below (My.dr HO383.out) hb); replace HO392 := My.am (Kd.R_below (My.dr HO392.out) hb); replace HO395 := My.am (Kd.R_below (My.dr HO395.out) hb); replace HO400 := My.am (Kd.R_below (My.dr HO400.out) hb); replace HO403 := My.am (Kd.R_below (My.dr HO403.out) hb); replace HO408 := My.am (Kd.R_below (My.dr HO408.out) hb); replace HO416 := My.am (Kd.R_below (My.dr HO416.out) hb); replace HO419 := My.am (Kd.R_below (My.dr HO419.out) hb); have BK421 := My.am (hbox); have GE421 := My.nge hg (My.bl_ HB); replace HB := My.st HB hb; obtain ⟨NB388_421, NB421_388, BK388⟩ := My.nb hg hb BK388; obtain ⟨NB389_421, NB421_389, BK389⟩ := My.nb hg hb BK389; obtain ⟨NB397_421, NB421_397, BK397⟩ := My.nb hg hb BK397; obtain ⟨NB405_421, NB421_405, BK405⟩ := My.nb hg hb BK405; obtain ⟨NB413_421, NB421_413, BK413⟩ := My.nb hg hb BK413; clear hb hbox hg; obtain ⟨Ao58, co58, eo58⟩ := Kd.R_slice HO416.out; subst eo58; have hnb59 := NB421_388.out; have hnc59 := NB388_421.out; have hnb60 := NB421_389.out; have hnc60 := NB389_421.out; have hnb61 := NB421_397.out; have hnc61 := NB397_421.out; have hnb62 := NB421_405.out; have hnc62 := NB405_421.out; have hnb63 := NB421_413.out; have hnc63 := NB413_421.out; have hq64 := My.cz2 BK421; obtain ⟨Ao65, co65, eo65⟩ := Kd.R_slice HO419.out; subst eo65; have hq66 := My.cz2 BK397) | ((with_reducible refine gate_callee (f := 21) rfl ?_); refine goesL_ (some 46) rfl rfl Try.func21 (by kernel_rfl) rfl #[.agg #[.slice Ao30 t390.length co30, .slice Ao34 t393.length co34], .string (⟨#[99, 97, 115, 104]⟩ : ByteArray)] rfl My.gx ?_; (with_reducible refine (ledger_Find.calls k _ _ t390 _ _ t393 (⟨#[99, 97, 115, 104]⟩ : ByteArray) t422 t423 t424 t425 t426 t427 t428 true _ ?side1 ?side2 ?side3 ?side4 A6.out).mono ?_); (case side1 => refine (Kd.R_reads' (e := 51) (base := w.heap.size) (ok := fun k_ => ((((True ∧ some k_ ≠ (.slice Ao21 t381.length co21 : Value).ownBlock) ∧ some k_ ≠ (.slice Ao38 t398.length co38 : Value).ownBlock) ∧ some k_ ≠ (.slice Ao48 t406.length co48 : Value).ownBlock) ∧ some k_ ≠ (.slice Ao58 t414.length co58 : Value).ownBlock)) (n := t390.length) (c := co30) ?_).2.2; exact (by (with_reducible repeat (first | apply Kd.R_alloc | apply Kd.R_drewN | apply Kd.R_drew)); exact (My.rf2 gb421 (.slice Ao58 t414.length co58) (.slice Ao65 t417.length co65) (Kd.R_types HO392.out BK421.out (by decide))))); (case side2 => exact (Kd.R_reads' HO392.out).2.1); (case side3 => refine (Kd.R_reads' (e := 64) (base := w.heap.size) (ok := fun k_ => ((((True ∧ some k_ ≠ (.slice Ao23 t384.length co23 : Value).ownBlock) ∧ some k_ ≠ (.slice Ao43 t401.length co43 : Value).ownBlock) ∧ some k_ ≠ (.slice Ao54 t409.length co54 : Value).ownBlock) ∧ some k_ ≠ (.slice Ao65 t417.length co65 : Value).ownBlock)) (n := t393.length) (c := co34) ?_).2.2; exact (by (with_reducible repeat (first | apply Kd.R_alloc | apply Kd.R_drewN | apply Kd.R_drew)); exact (My.rf2 gb421 (.slice Ao58 t414.length co58) (.slice Ao65 t417.length co65) (Kd.R_types HO395.out BK421.out (by decide))))); (case side4 => exact (Kd.R_reads' HO395.out).2.1); rintro e w67 ⟨rfl, hb⟩; refine ⟨_, rfl, ?_⟩; replace HO383 := My.am (Kd.R_below (by (with_reducible repeat (first | apply Kd.R_alloc | apply Kd.R_drewN | apply Kd.R_drew)); exact (My.rf2 gb421 (.slice Ao58 t414.length co58) (.slice Ao65 t417.length co65) (Kd.R_types HO383.out BK421.out (by decide)))) hb); replace HO392 := My.am (Kd.R_below (by (with_reducible repeat (first | apply Kd.R_alloc | apply Kd.R_drewN | apply Kd.R_drew)); exact (My.rf2 gb421 (.slice Ao58 t414.length co58) (.slice Ao65 t417.length co65) (Kd.R_types HO392.out BK421.out (by decide)))) hb); replace HO395 := My.am (Kd.R_below (by (with_reducible repeat (first | apply Kd.R_alloc | apply Kd.R_drewN | apply Kd.R_drew)); exact (My.rf2 gb421 (.slice Ao58 t414.length co58) (.slice Ao65 t417.length co65) (Kd.R_types HO395.out BK421.out (by decide)))) hb); replace HO400 := My.am (Kd.R_below (by (with_reducible repeat (first | apply Kd.R_alloc | apply Kd.R_drewN | apply Kd.R_drew)); exact (My.rf2 gb421 (.slice Ao58 t414.length co58) (.slice Ao65 t417.length co65) (Kd.R_types HO400.out BK421.out (by decide)))) hb); replace HO403 := My.am (Kd.R_below (by (with_reducible repeat (first | apply Kd.R_alloc | apply Kd.R_drewN | apply Kd.R_drew)); exact (My.rf2 gb421 (.slice Ao58 t414.length co58) (.slice Ao65 t417.length co65) (Kd.R_types HO403.out BK421.out (by decide)))) hb); replace HO408 := My.am (Kd.R_below (by (with_reducible repeat (first | apply Kd.R_alloc | apply Kd.R_drewN | apply Kd.R_drew)); exact (My.rf2 gb421 (.slice Ao58 t414.length co58) (.slice Ao65 t417.length co65) (Kd.R_types HO408.out BK421.out (by decide)))) hb); replace HO416 := My.am (Kd.R_below (by (with_reducible repeat (first | apply Kd.R_alloc | apply Kd.R_drewN | apply Kd.R_drew)); exact (My.rf2 gb421 (.slice Ao58 t414.length co58) (.slice Ao65 t417.length co65) (Kd.R_types HO416.out BK421.out (by decide)))) hb); replace HO419 := My.am (Kd.R_below (by (with_reducible repeat (first | apply Kd.R_alloc | apply Kd.R_drewN | apply Kd.R_drew)); exact (My.rf2 gb421 (.slice Ao58 t414.length co58) (.slice Ao65 t417.length co65) (Kd.R_types HO419.out BK421.out (by decide)))) hb); replace BK388 := My.am (blk_below (g := gb388) (o := .cells #[.slice Ao21 t381.length co21, .slice Ao23 t384.length co23] 25 (0, 0)) ((My.sv_ BK388)) hb); replace BK389 := My.am (blk_below (g := gb389) (o := .cells #[.int .i64 1, .string (⟨#[99, 97, 115, 104]⟩ : ByteArray), .int .i64 5] 27 (0, 0)) ((My.sv_ BK389)) hb); replace BK397 := My.am (blk_below (g := gb397) (o := .cells #[.slice Ao30 t390.length co30, .slice Ao34 t393.length co34] 25 (0, 0)) ((My.sv_ BK397)) hb); replace BK405 := My.am (blk_below (g := gb405) (o := .cells #[.slice Ao38 t398.length co38, .slice Ao43 t401.length co43] 25 (0, 0)) ((My.sv_ BK405)) hb); replace BK413 := My.am (blk_below (g := gb413) (o := .cells #[.slice Ao48 t406.length co48, .slice Ao54 t409.length co54] 25 (0, 0)) ((My.sv_ BK413)) hb); replace BK421 := My.am (blk_below (g := gb421) (o := .cells #[.slice Ao58 t414.length co58, .slice Ao65 t417.length co65] 25 (0, 0)) ((My.sv_ BK421)) hb); replace HB := My.st HB hb; (try clear hb)) | ((with_reducible refine gate_dst (N := 12) rfl ?_); (try (refine gate_guard (by rfl) ?_; dsimp only)); refine My.bx 12 #[.string (⟨#[]⟩ : ByteArray), .int .i64 0, .int .i64 0, .int .i64 0, .int .i64 0, .int .i64 0, .int .i64 0] 51 ?_; intro gb430 hg w68 hbox hb; replace HO383 := My.am (Kd.R_below (Kd.R_elderB (My.dr HO383.out) gb430 (Nat.le_of_eq hg.symm)) hb); replace HO392 := My.am (Kd.R_below (Kd.R_elderB (My.dr HO392.out) gb430 (Nat.le_of_eq hg.symm)) hb); replace HO395 := My.am (Kd.R_below (My.dr HO395.out) hb); replace HO400 := My.am (Kd.R_below (Kd.R_elderB (My.dr HO400.out) gb430 (Nat.le_of_eq hg.symm)) hb); replace HO403 := My.am (Kd.R_below (My.dr HO403.out) hb); replace HO408 := My.am (Kd.R_below (Kd.R_elderB (My.dr HO408.out) gb430 (Nat.le_of_eq hg.symm)) hb); replace HO416 := My.am (Kd.R_below (Kd.R_elderB (My.dr HO416.out) gb430 (Nat.le_of_eq hg.symm)) hb); replace HO419 := My.am (Kd.R_below (My.dr HO419.out) hb); have BK430 := My.am (hbox); have GE430 := My.nge hg (My.bl_ HB); replace HB := My.st HB hb; have NB388_430 := My.nlt hg (My.at_ BK388); have NB430_388 := My.ngt hg (My.at_ BK388); have NB389_430 := My.nlt hg (My.at_ BK389); have NB430_389 := My.ngt hg (My.at_ BK389); obtain ⟨NB397_430, NB430_397, BK397⟩ := My.nb hg hb BK397; obtain ⟨NB405_430, NB430_405, BK405⟩ := My.nb hg hb BK405; have NB413_430 := My.nlt hg (My.at_ BK413); have NB430_413 := My.ngt hg (My.at_ BK413); obtain ⟨NB421_430, NB430_421, BK421⟩ := My.nb hg hb BK421; clear hb hbox hg; have hnb69 := NB430_388.out; have hnc69 := NB388_430.out; have hnb70 := NB430_389.out; have hnc70 := NB389_430.out; have hnb71 := NB430_397.out; have hnc71 := NB397_430.out; have hnb72 := NB430_405.out; have hnc72 := NB405_430.out; have hnb73 := NB430_413.out; have hnc73 := NB413_430.out; have hnb74 := NB430_421.out; have hnc74 := NB421_430.out; have hq75 := My.cz7 BK430; have hq76 := My.cz2 BK397; have hq77 := My.cz2 BK405) | (go_at_call 17; (with_reducible refine (ententeref07_Same.calls k _ _ t390 _ _ t393 _ _ t398 _ _ t401 true _ ?side1 ?side2 ?side3 ?side4 ?side5 ?side6 ?side7 ?side8 A10.out).mono ?_); (case side1 => refine (Kd.R_reads' (e := 51) (base := w.heap.size) (ok := fun k_ => (((((True ∧ some k_ ≠ (.slice Ao21 t381.length co21 : Value).ownBlock) ∧ some k_ ≠ (.slice Ao38 t398.length co38 : Value).ownBlock) ∧ some k_ ≠ (.slice Ao48 t406.length co48 : Value).ownBlock) ∧ some k_ ≠ (.slice Ao58 t414.length co58 : Value).ownBlock) ∧ k_ ≠ gb430)) (n := t390.length) (c := co30) ?_).2.2; exact (by (with_reducible repeat (first | apply Kd.R_alloc | apply Kd.R_drewN | apply Kd.R_drew)); exact (My.rf7 gb430 (.string t422) (.int .i64 t423) (.int .i64 t424) (.int .i64 t425) (.int .i64 t426) (.int .i64 t427) (.int .i64 t428) (Kd.R_mono HO392.out (fun k_ hk => (⟨hk, hk.2⟩ : _ ∧ k_ ≠ gb430)))))); (case side2 => exact (Kd.R_reads' HO392.out).2.1); (case side3 => refine (Kd.R_reads' (e := 64) (base := w.heap.size) (ok := fun k_ => ((((True ∧ some k_ ≠ (.slice Ao23 t384.length co23 : Value).ownBlock) ∧ some k_ ≠ (.slice Ao43 t401.length co43 : Value).ownBlock) ∧ some k_ ≠ (.slice Ao54 t409.length co54 : Value).ownBlock) ∧ some k_ ≠ (.slice Ao65 t417.length co65 : Value).ownBlock)) (n := t393.length) (c := co34) ?_).2.2; exact (by (with_reducible repeat (first | apply Kd.R_alloc | apply Kd.R_drewN | apply Kd.R_drew)); exact (My.rf7 gb430 (.string t422) (.int .i64 t423) (.int .i64 t424) (.int .i64 t425) (.int .i64 t426) (.int .i64 t427) (.int .i64 t428) (Kd.R_types HO395.out BK430.out (by decide))))); (case side4 => exact (Kd.R_reads' HO395.out).2.1); (case side5 => refine (Kd.R_reads' (e := 51) (base := w.heap.size) (ok := fun k_ => (((((True ∧ some k_ ≠ (.slice Ao21 t381.length co21 : Value).ownBlock) ∧ some k_ ≠ (.slice Ao30 t390.length co30 : Value).ownBlock) ∧ some k_ ≠ (.slice Ao48 t406.length co48 : Value).ownBlock) ∧ some k_ ≠ (.slice Ao58 t414.length co58 : Value).ownBlock) ∧ k_ ≠ gb430)) (n := t398.length) (c := co38) ?_).2.2; exact (by (with_reducible repeat (first | apply Kd.R_alloc | apply Kd.R_drewN | apply Kd.R_drew)); exact (My.rf7 gb430 (.string t422) (.int .i64 t423) (.int .i64 t424) (.int .i64 t425) (.int .i64 t426) (.int .i64 t427) (.int .i64 t428) (Kd.R_mono HO400.out (fun k_ hk => (⟨hk, hk.2⟩ : _ ∧ k_ ≠ gb430)))))); (case side6 => exact (Kd.R_reads' HO400.out).2.1); (case side7 => refine (Kd.R_reads' (e := 64) (base := w.heap.size) (ok := fun k_ => ((((True ∧ some k_ ≠ (.slice Ao23 t384.length co23 : Value).ownBlock) ∧ some k_ ≠ (.slice Ao34 t393.length co34 : Value).ownBlock) ∧ some k_ ≠ (.slice Ao54 t409.length co54 : Value).ownBlock) ∧ some k_ ≠ (.slice Ao65 t417.length co65 : Value).ownBlock)) (n := t401.length) (c := co43) ?_).2.2; exact (by (with_reducible repeat (first | apply Kd.R_alloc | apply Kd.R_drewN | apply Kd.R_drew)); exact (My.rf7 gb430 (.string t422) (.int .i64 t423) (.int .i64 t424) (.int .i64 t425) (.int .i64 t426) (.int .i64 t427) (.int .i64 t428) (Kd.R_types HO403.out BK430.out (by decide))))); (case side8 => exact (Kd.R_reads' HO403.out).2.1); rintro e w78 ⟨rfl, hb⟩; replace HO383 := My.am (Kd.R_below (by (with_reducible repeat (first | apply Kd.R_alloc | apply Kd.R_drewN | apply Kd.R_drew)); exact (My.rf7 gb430 (.string t422) (.int .i64 t423) (.int .i64 t424) (.int .i64 t425) (.int .i64 t426) (.int .i64 t427) (.int .i64 t428) (Kd.R_mono HO383.out (fun k_ hk => (⟨hk, hk.2⟩ : _ ∧ k_ ≠ gb430))))) hb); replace HO392 := My.am (Kd.R_below (by (with_reducible repeat (first | apply Kd.R_alloc | apply Kd.R_drewN | apply Kd.R_drew)); exact (My.rf7 gb430 (.string t422) (.int .i64 t423) (.int .i64 t424) (.int .i64 t425) (.int .i64 t426) (.int .i64 t427) (.int .i64 t428) (Kd.R_mono HO392.out (fun k_ hk => (⟨hk, hk.2⟩ : _ ∧ k_ ≠ gb430))))) hb); replace HO400 := My.am (Kd.R_below (by (with_reducible repeat (first | apply Kd.R_alloc | apply Kd.R_drewN | apply Kd.R_drew)); exact (My.rf7 gb430 (.string t422) (.int .i64 t423) (.int .i64 t424) (.int .i64 t425) (.int .i64 t426) (.int .i64 t427) (.int .i64 t428) (Kd.R_mono HO400.out (fun k_ hk => (⟨hk, hk.2⟩ : _ ∧ k_ ≠ gb430))))) hb); replace HO408 := My.am (Kd.R_below (by (with_reducible repeat (first | apply Kd.R_alloc | apply Kd.R_drewN | apply Kd.R_drew)); exact (My.rf7 gb430 (.string t422) (.int .i64 t423) (.int .i64 t424) (.int .i64 t425) (.int .i64 t426) (.int .i64 t427) (.int .i64 t428) (Kd.R_mono HO408.out (fun k_ hk => (⟨hk, hk.2⟩ : _ ∧ k_ ≠ gb430))))) hb); replace HO416 := My.am (Kd.R_below (by (with_reducible repeat (first | apply Kd.R_alloc | apply Kd.R_drewN | apply Kd.R_drew)); exact (My.rf7 gb430 (.string t422) (.int .i64 t423) (.int .i64 t424) (.int .i64 t425) (.int .i64 t426) (.int .i64 t427) (.int .i64 t428) (Kd.R_mono HO416.out (fun k_ hk => (⟨hk, hk.2⟩ : _ ∧ k_ ≠ gb430))))) hb); replace HO419 := My.am (Kd.R_below (by (with_reducible repeat (first | apply Kd.R_alloc | apply Kd.R_drewN | apply Kd.R_drew)); exact (My.rf7 gb430 (.string t422) (.int .i64 t423) (.int .i64 t424) (.int .i64 t425) (.int .i64 t426) (.int .i64 t427) (.int .i64 t428) (Kd.R_types HO419.out BK430.out (by decide)))) hb); replace BK421 := My.am (blk_below (g := gb421) (o := .cells #[.slice Ao58 t414.length co58, .slice Ao65 t417.length co65] 25 (0, 0)) ((My.sv_ BK421)) hb); replace BK430 := My.am (blk_below (g := gb430) (o := .cells #[.string t422, .int .i64 t423, .int .i64 t424, .int .i64 t425, .int .i64 t426, .int .i64 t427, .int .i64 t428] 51 (0, 0)) ((My.sv_ BK430)) hb); replace HB := My.st HB hb; (try clear hb); have hq79 := My.cz2 BK421) | (go_at_call 26; (with_reducible refine (ledger_State.calls k _ _ t414 _ _ t417 (⟨#[107]⟩ : ByteArray) t432 _ ?side1 ?side2 ?side3 ?side4 A14.out).mono ?_); (case side1 => repeat (first | exact (Kd.R_reads' HO416.out).2.2 | (with_reducible refine Kd.C_alloc ?_ _) | (with_reducible refine Kd.C_drewN ?_ _) | (with_reducible refine Kd.C_drew ?_))); (case side2 => exact (Kd.R_reads' HO416.out).2.1); (case side3 => repeat (first | exact (Kd.R_reads' HO419.out).2.2 | (with_reducible refine Kd.C_alloc ?_ _) | (with_reducible refine Kd.C_drewN ?_ _) | (with_reducible refine Kd.C_drew ?_))); (case side4 => exact (Kd.R_reads' HO419.out).2.1); rintro e w80 ⟨rfl, hb⟩; replace HO383 := My.am (Kd.R_below (My.dr HO383.out) hb); replace HO392 := My.am (Kd.R_below (My.dr HO392.out) hb); replace HO400 := My.am (Kd.R_below (My.dr HO400.out) hb); replace HO408 := My.am (Kd.R_below (My.dr HO408.out) hb); replace HO416 := My.am (Kd.R_below (My.dr HO416.out) hb); replace BK430 := My.ab BK430 hb; replace HB := My.st HB hb; (try clear hb); have hq81 := My.cz7 BK430) | ((with_reducible refine gate_dst (N := 88) rfl ?_); (try (refine gate_guard (by rfl) ?_; dsimp only)); refine Kd.R_lit k51 _ 51 ?hg (N := 88) ?hd (xs := ([(⟨(⟨#[]⟩ : ByteArray), (⟨0, 0, 0⟩ : S49), (⟨0, 0, 0⟩ : S49)⟩ : S51)] : List (S51))) (inner := [.string (⟨#[]⟩ : ByteArray), .int .i64 0, .int .i64 0, .int .i64 0, .int .i64 0, .int .i64 0, .int .i64 0]) (ok := fun _ => True) (okp := fun _ => True) ?hr ?hp (fun _ hk => hk) trivial (Below.refl _ _) (Nat.le_refl _) (by simp) ?_; (case hd => rfl); (case hg => rfl); (case hr => first | (go_simp; done) | (go_simp; rfl)); (case hp => exact (Reps.c7 (show Kd.M k51 _ _ _ (⟨(⟨#[]⟩ : ByteArray), (⟨0, 0, 0⟩ : S49), (⟨0, 0, 0⟩ : S49)⟩ : S51) [.string (⟨#[]⟩ : ByteArray), .int .i64 0, .int .i64 0, .int .i64 0, .int .i64 0, .int .i64 0, .int .i64 0] from (k51_mkM _ _ _ (⟨(⟨#[]⟩ : ByteArray), (⟨0, 0, 0⟩ : S49), (⟨0, 0, 0⟩ : S49)⟩ : S51) )) (Reps.none _ _))); intro v434 w82 ho83 hb hg_ hnew_; clear hg_ hnew_; (first | rw [← Ny433.out] at ho83 | (simp only [Int.reduceToNat] at ho83; rw [← Ny433.out] at ho83)); have HO435 := My.am (Kd.R_lower (Kd.R_newB (Kd.R_new' (Kd.R_new' (Kd.R_new' (Kd.R_new' (Kd.R_new' ho83 (Kd.R_lt (My.dr HO383.out))) (Kd.R_lt (My.dr HO392.out))) (Kd.R_lt (My.dr HO400.out))) (Kd.R_lt (My.dr HO408.out))) (Kd.R_lt (My.dr HO416.out))) (My.at_ BK430)) (below_size (My.bl_ HB))); replace HB := My.st HB hb; clear hb ho83; obtain ⟨Ao84, co84, eo84⟩ := Kd.R_slice HO435.out; subst eo84) | (go_at_call 20; (refine (ledger_May.calls k _ _ y433 _ _ ([] : List (S64)) t436 _ ?side1 ?side2 ?side3 ?side4 A18.out).mono ?_); (case side1 => repeat (first | exact (Kd.R_reads' HO435.out).2.2 | (with_reducible refine Kd.C_alloc ?_ _) | (with_reducible refine Kd.C_drewN ?_ _) | (with_reducible refine Kd.C_drew ?_))); (case side2 => exact (Kd.R_reads' HO435.out).2.1); (case side3 => exact Kd.C_nil _ _); (case side4 => exact Nat.le_refl _); rintro e w85 ⟨rfl, hb⟩; replace HB := My.st HB hb; (try clear hb)))
   go_ret
   exact ⟨My.r2, (My.bl_ HB)⟩
  ·exact My.nn c8 H
 ·exact My.nn c7 H

/-! ### ententeref07_Account: function 37 -/
def ententeref07_Account.l0 : Nat → ByteArray → Int → List (S51) → List (S64) → Option (Int)
 | 0, _, _, _, _ => none
 | k + 1, x1, x5, x438000, x438001 => if x5 < (x438000.length : Int) then (if 0 ≤ x5 then (if ((rd_T51 x438000 x5).f0).toList = x1.toList then (some x5) else (ententeref07_Account.l0 k x1 (wrap64 (x5 + 1)) x438000 x438001)) else (none)) else (some (-1))
def ententeref07_Account.f (k : Nat) (l0_0 : List (S51)) (l0_1 : List (S64)) (a1 : ByteArray) : Option (Int) := ententeref07_Account.l0 k a1 0 l0_0 l0_1
theorem ententeref07_Account.mono_l : ∀ k, (∀ y0 y1 y2 y3, LeO (ententeref07_Account.l0 k y0 y1 y2 y3) (ententeref07_Account.l0 (k + 1) y0 y1 y2 y3))
 | 0 => fun _ _ _ _ r h => by simp [ententeref07_Account.l0] at h
 | k + 1 => by
  have ih0 := ententeref07_Account.mono_l k
  intro y0 y1 y2 y3
  unfold ententeref07_Account.l0
  repeat' (with_reducible first | exact ih0 _ _ _ _ | exact LeO.refl _ | exact LeO.none _ | apply LeO.ite | refine LeO.bind ?_ (fun _ => ?_))
theorem ententeref07_Account.mono : ∀ a0 a1 a2 k, LeO (ententeref07_Account.f k a0 a1 a2) (ententeref07_Account.f (k + 1) a0 a1 a2) := by
 intro a0 a1 a2 k
 have ih0 := ententeref07_Account.mono_l k
 unfold ententeref07_Account.f
 repeat' (with_reducible first | exact ih0 _ _ _ _ | exact LeO.refl _ | exact LeO.none _ | apply LeO.ite | refine LeO.bind ?_ (fun _ => ?_))
theorem ententeref07_Account.calls (k : Nat) (A0_0 : Option Addr) (c0_0 : Nat) (l0_0 : List (S51)) (A0_1 : Option Addr) (c0_1 : Nat) (l0_1 : List (S64)) (a1 : ByteArray) (r : Int) (w : World) (hr0_0 : Kd.C k51 w A0_0 l0_0.length l0_0) (hc0_0 : l0_0.length ≤ c0_0) (hr0_1 : Kd.C k64 w A0_1 l0_1.length l0_1) (hc0_1 : l0_1.length ≤ c0_1) (h : ententeref07_Account.f k l0_0 l0_1 a1 = some r) :
  Calls Try.prog 37 #[.agg #[.slice A0_0 l0_0.length c0_0, .slice A0_1 l0_1.length c0_1], .string a1] w fun e w' => e = .returned (.int .i64 r) ∧ Below w.heap.size w w' := by
 have hu25 := Try.underlying25
 have HR0_0 := My.am hr0_0
 have HC0_0 := My.am hc0_0
 clear hr0_0 hc0_0
 have HR0_1 := My.am hr0_1
 have HC0_1 := My.am hc0_1
 clear hr0_1 hc0_1
 have HB := My.am (Below.refl w.heap.size w)
 have H : (ententeref07_Account.l0 k a1 0 l0_0 l0_1) = some r := h
 clear h
 have H' := My.am H
 clear H
 go_enter Try.func37, Try.ntmps37
 go_wp2_with (first | ((with_reducible refine gate_dst (N := 2) rfl ?_); refine My.bx 2 #[.slice A0_0 l0_0.length c0_0, .slice A0_1 l0_1.length c0_1] 25 ?_; intro gb437 hg w3 hbox hb; have BK437 := My.am (hbox); have GE437 := My.nge hg (My.bl_ HB); replace HB := My.st HB hb; clear hb hbox hg))
 go_loopg [5] k (fun kq v5 w' => ∃ (x5_1 : Int), v5 = .int .i64 x5_1 ∧ Aside0 (ententeref07_Account.l0 kq a1 x5_1 l0_0 l0_1 = some r) ∧ Aside0 (kq ≤ k) ∧ Aside0 (w'.heap[gb437]? = some (.cells #[(.slice A0_0 l0_0.length c0_0), (.slice A0_1 l0_1.length c0_1)] 25 (0, 0))) ∧ Aside0 (Below w.heap.size w w'))
 case atStart => exact ⟨(0), My.r1, H', ⟨Nat.le_refl _⟩, ⟨(My.at_ BK437)⟩, ⟨(My.bl_ HB)⟩⟩
 case round =>
  clear H'
  obtain ⟨x5_1, rfl, HA, HK1, BK437, HB⟩ := hrel
  cases gk with
  | zero => exact absurd HA.out (by simp [ententeref07_Account.l0])
  | succ k1 =>
   have H := HA.out
   clear HA
   simp only [ententeref07_Account.l0] at H
   by_cases c4 : x5_1 < (l0_0.length : Int)
   rotate_left
   ·rw [if_neg c4] at H
    have c4b0 := decide_eq_false c4
    clear c4
    obtain rfl := Option.some.inj H
    have hq9 := My.cz2 BK437
    go_wp2
    go_ret
    exact ⟨My.r2, (My.bl_ HB)⟩

   rw [if_pos c4] at H
   have c4b0 := decide_eq_true c4
   clear c4
   replace H := My.ds H
   obtain ⟨c5b0, H⟩ := H
   by_cases c6 : ((rd_T51 l0_0 x5_1).f0).toList = a1.toList
   ·rw [if_pos c6] at H
    have c6b0 : (((rd_T51 l0_0 x5_1).f0).toList == a1.toList) = true := beq_iff_eq.mpr c6
    have c6b1 : (((rd_T51 l0_0 x5_1).f0).toList != a1.toList) = false := bne_eq_false_iff_eq.mpr c6
    clear c6
    obtain rfl := Option.some.inj H
    have hq7 := My.cz2 BK437
    have p438 : 0 ≤ (x5_1 : Int) := My.as_
    have q438 : x5_1 < (l0_0.length : Int) := My.as_
    obtain ⟨ad438, e438, hx438_0, hx438_1, hx438_2, hx438_3, hx438_4, hx438_5, hx438_6⟩ := My.up7 HB (at_T51 HR0_0.out x5_1 p438 q438)
    cases e438
    replace p438 := eq_true p438
    replace q438 := eq_true q438
    go_wp2
    go_ret
    exact ⟨My.r2, (My.bl_ HB)⟩
   rw [if_neg c6] at H
   have c6b0 : (((rd_T51 l0_0 x5_1).f0).toList == a1.toList) = false := beq_eq_false_iff_ne.mpr c6
   have c6b1 : (((rd_T51 l0_0 x5_1).f0).toList != a1.toList) = true := bne_iff_ne.mpr c6
   have H' := My.am H
   clear H
   have hq8 := My.cz2 BK437
   have p438 : 0 ≤ (x5_1 : Int) := My.as_
   have q438 : x5_1 < (l0_0.length : Int) := My.as_
   obtain ⟨ad438, e438, hx438_0, hx438_1, hx438_2, hx438_3, hx438_4, hx438_5, hx438_6⟩ := My.up7 HB (at_T51 HR0_0.out x5_1 p438 q438)
   cases e438
   replace p438 := eq_true p438
   replace q438 := eq_true q438
   go_wp2
   go_roundg k1
   case measure => have := HK1.out; omega
   case rel => exact ⟨(wrap64 (x5_1 + 1)), My.r1, H', ⟨by have := HK1.out; omega⟩, ⟨(My.at_ BK437)⟩, ⟨(My.bl_ HB)⟩⟩
/-! ### ententeref07_key: function 43 -/
def ententeref07_key.f (a0 : ByteArray) : Option (Bool) := if (a0.size : Int) ≥ 1 then (some (decide ((a0.size : Int) ≤ 100))) else (some false)
theorem ententeref07_key.calls (a0 : ByteArray) (r : Bool) (w : World) (h : ententeref07_key.f a0 = some r) :
  Calls Try.prog 43 #[.string a0] w fun e w' => e = .returned (.bool r) ∧ Drawn0 w w' := by
 unfold ententeref07_key.f at h
 have H := h
 clear h
 by_cases c2 : (a0.size : Int) ≥ 1
 ·rw [if_pos c2] at H
  have c2b0 : decide (1 ≤ (a0.size : Int)) = true := decide_eq_true c2
  have c2b1 : decide (1 ≤ a0.size) = true := decide_eq_true (by omega)
  clear c2
  obtain rfl := Option.some.inj H
  go_enter Try.func43, Try.ntmps43
  go_wp2
  go_ret
  exact ⟨by first | rfl | (simp; done) | (simp [*]; done), by repeat (first | exact Drawn0.refl _ | apply Drawn0.step)⟩
 ·rw [if_neg c2] at H
  have c2b0 : decide (1 ≤ (a0.size : Int)) = false := decide_eq_false c2
  have c2b1 : decide (1 ≤ a0.size) = false := decide_eq_false (by omega)
  clear c2
  obtain rfl := Option.some.inj H
  go_enter Try.func43, Try.ntmps43
  go_wp2
  go_ret
  exact ⟨by first | rfl | (simp; done) | (simp [*]; done), by repeat (first | exact Drawn0.refl _ | apply Drawn0.step)⟩

end Go.Proofs.Ytikanbdhpafbiaa.PZ
