-- Written by a program of this session (wip/tools/mp.py over the kit's printer); Lean checks it.
import Derived.Test.YtikanbdhpafbiaaPOx0
import Derived.Test.YtikanbdhpafbiaaPOx4
import Derived.Test.YtikanbdhpafbiaaPOx6
import Derived.Test.YtikanbdhpafbiaaPOx7
import Derived.Test.YtikanbdhpafbiaaPOx8
import Derived.Test.YtikanbdhpafbiaaPOx12
import Derived.Test.YtikanbdhpafbiaaPOx16
namespace Go.Proofs.Ytikanbdhpafbiaa.PO
open Go.RowKit Go.Proofs.YtikanbdhpafbiaaW.PrintWords Go.Proofs.YtikanbdhpafbiaaW.PrintLast Go.Proofs.YtikanbdhpafbiaaW.PrintMore
attribute [local go_sem] max2_int min2_int max_two min_two max_three min_three max_four min_four   -- for this text's walks alone
set_option linter.unusedVariables false
set_option maxHeartbeats 8000000
set_option maxRecDepth 100000
set_option linter.unusedSimpArgs false

attribute [local go_sem high] eqA49
/-! ### ledger_Find: function 21 -/
def ledger_Find.f (k : Nat) (l0_0 : List (S51)) (l0_1 : List (S64)) (a1 : ByteArray) : Option (ByteArray × Int × Int × Int × Int × Int × Int × Bool) := (ledger_May.f k l0_0 l0_1).bind fun t370 => (if t370 = 0 then ((ledger_book_account.f k l0_0 l0_1 a1).bind fun bt371 => (if bt371.2 = true then (if 0 ≤ bt371.1 then (if bt371.1 < (l0_0.length : Int) then (some ((rd_T51 l0_0 bt371.1).f0, (rd_T51 l0_0 bt371.1).f1.f0, (rd_T51 l0_0 bt371.1).f1.f1, (rd_T51 l0_0 bt371.1).f1.f2, (rd_T51 l0_0 bt371.1).f2.f0, (rd_T51 l0_0 bt371.1).f2.f1, (rd_T51 l0_0 bt371.1).f2.f2, true)) else (none)) else (none)) else (some ((⟨#[]⟩ : ByteArray), 0, 0, 0, 0, 0, 0, false)))) else (some ((⟨#[]⟩ : ByteArray), 0, 0, 0, 0, 0, 0, false)))
theorem ledger_Find.mono : ∀ a0 a1 a2 k, LeO (ledger_Find.f k a0 a1 a2) (ledger_Find.f (k + 1) a0 a1 a2) := by
 intro a0 a1 a2 k
 unfold ledger_Find.f
 repeat' (with_reducible first | exact ledger_May.mono _ _ _ | exact ledger_book_account.mono _ _ _ _ | exact LeO.refl _ | exact LeO.none _ | apply LeO.ite | refine LeO.bind ?_ (fun _ => ?_))
theorem ledger_Find.calls (k : Nat) (A0_0 : Option Addr) (c0_0 : Nat) (l0_0 : List (S51)) (A0_1 : Option Addr) (c0_1 : Nat) (l0_1 : List (S64)) (a1 : ByteArray) (r1 : ByteArray) (r2 : Int) (r3 : Int) (r4 : Int) (r5 : Int) (r6 : Int) (r7 : Int) (r8 : Bool) (w : World) (hr0_0 : Kd.C k51 w A0_0 l0_0.length l0_0) (hc0_0 : l0_0.length ≤ c0_0) (hr0_1 : Kd.C k64 w A0_1 l0_1.length l0_1) (hc0_1 : l0_1.length ≤ c0_1) (h : ledger_Find.f k l0_0 l0_1 a1 = some (r1, r2, r3, r4, r5, r6, r7, r8)) :
  Calls Try.prog 21 #[.agg #[.slice A0_0 l0_0.length c0_0, .slice A0_1 l0_1.length c0_1], .string a1] w fun e w' => e = .returned (.tuple #[.agg #[.string r1, .int .i64 r2, .int .i64 r3, .int .i64 r4, .int .i64 r5, .int .i64 r6, .int .i64 r7], .bool r8]) ∧ Below w.heap.size w w' := by
 have hu25 := Try.underlying25
 have hu51 := Try.underlying51
 have hu71 := Try.underlying71
 have HR0_0 := My.am hr0_0
 have HC0_0 := My.am hc0_0
 clear hr0_0 hc0_0
 have HR0_1 := My.am hr0_1
 have HC0_1 := My.am hc0_1
 clear hr0_1 hc0_1
 have HB := My.am (Below.refl w.heap.size w)
 unfold ledger_Find.f at h
 have H := h
 clear h
 replace H := Option.bind_eq_some_iff.mp H
 obtain ⟨t370, A30, H⟩ := H
 try dsimp only at H
 have A3 := My.am A30
 clear A30
 by_cases c4 : t370 = 0
 ·rw [if_pos c4] at H
  have c4b0 : (t370 == 0) = true := beq_iff_eq.mpr c4
  have c4b1 : (t370 != 0) = false := bne_eq_false_iff_eq.mpr c4
  clear c4
  replace H := Option.bind_eq_some_iff.mp H
  obtain ⟨⟨t371, t372⟩, A50, H⟩ := H
  try dsimp only at H
  have A5 := My.am A50
  clear A50
  by_cases c6 : t372 = true
  ·subst c6
   rw [if_pos rfl] at H
   by_cases c7 : 0 ≤ t371
   ·rw [if_pos c7] at H
    have c7b0 := decide_eq_true c7
    clear c7
    by_cases c8 : t371 < (l0_0.length : Int)
    ·rw [if_pos c8] at H
     have c8b0 := decide_eq_true c8
     clear c8
     simp only [Option.some.injEq, Prod.mk.injEq] at H
     obtain ⟨rfl, rfl, rfl, rfl, rfl, rfl, rfl, rfl⟩ := H
     go_enter Try.func21, Try.ntmps21
     go_wp2_with (first | ((with_reducible refine gate_dst (N := 2) rfl ?_); refine My.bx 2 #[.slice A0_0 l0_0.length c0_0, .slice A0_1 l0_1.length c0_1] 25 ?_; intro gb368 hg w9 hbox hb; have BK368 := My.am (hbox); have GE368 := My.nge hg (My.bl_ HB); replace HB := My.st HB hb; clear hb hbox hg) | ((with_reducible refine gate_dst (N := 4) rfl ?_); refine My.bx 4 #[.string (⟨#[]⟩ : ByteArray), .int .i64 0, .int .i64 0, .int .i64 0, .int .i64 0, .int .i64 0, .int .i64 0] 51 ?_; intro gb369 hg w10 hbox hb; have BK369 := My.am (hbox); have GE369 := My.nge hg (My.bl_ HB); replace HB := My.st HB hb; obtain ⟨NB368_369, NB369_368, BK368⟩ := My.nb hg hb BK368; clear hb hbox hg; have hnb11 := NB368_369.out; have hnc11 := NB369_368.out; have hq12 := My.cz2 BK368) | ((with_reducible refine gate_callee (f := 20) rfl ?_); refine goesL_ (some 9) rfl rfl Try.func20 (by kernel_rfl) rfl #[.agg #[.slice A0_0 l0_0.length c0_0, .slice A0_1 l0_1.length c0_1]] rfl My.gx ?_; (with_reducible refine (ledger_May.calls k _ _ l0_0 _ _ l0_1 t370 _ ?side1 ?side2 ?side3 ?side4 A3.out).mono ?_); (case side1 => exact My.sd_ HR0_0 HB); (case side2 => exact HC0_0.out); (case side3 => exact My.sd_ HR0_1 HB); (case side4 => exact HC0_1.out); rintro e w13 ⟨rfl, hb⟩; refine ⟨_, rfl, ?_⟩; replace BK368 := My.ab BK368 hb; replace BK369 := My.ab BK369 hb; replace HB := My.st HB hb; (try clear hb); have hq14 := My.cz2 BK368) | ((with_reducible refine gate_callee (f := 32) rfl ?_); refine goesL_ (some 16) rfl rfl Try.func32 (by kernel_rfl) rfl #[.agg #[.slice A0_0 l0_0.length c0_0, .slice A0_1 l0_1.length c0_1], .string a1] rfl My.gx ?_; (with_reducible refine (ledger_book_account.calls k _ _ l0_0 _ _ l0_1 a1 t371 true _ ?side1 ?side2 ?side3 ?side4 A5.out).mono ?_); (case side1 => exact My.sd_ HR0_0 HB); (case side2 => exact HC0_0.out); (case side3 => exact My.sd_ HR0_1 HB); (case side4 => exact HC0_1.out); rintro e w15 ⟨rfl, hb⟩; refine ⟨_, rfl, ?_⟩; replace BK368 := My.ab BK368 hb; replace BK369 := My.ab BK369 hb; replace HB := My.st HB hb; (try clear hb); have hq16 := My.cz2 BK368; have p373 : 0 ≤ (t371 : Int) := My.as_; have q373 : t371 < (l0_0.length : Int) := My.as_; obtain ⟨ad373, e373, hx373_0, hx373_1, hx373_2, hx373_3, hx373_4, hx373_5, hx373_6⟩ := My.up7 HB (at_T51 HR0_0.out t371 p373 q373); cases e373; replace p373 := eq_true p373; replace q373 := eq_true q373; have hq17 := My.cz7 BK369))
     refine bodyPost_ret (results_ct rfl _ _ gb369 51 #[.string ((rd_T51 l0_0 t371).f0), .int .i64 ((rd_T51 l0_0 t371).f1.f0), .int .i64 ((rd_T51 l0_0 t371).f1.f1), .int .i64 ((rd_T51 l0_0 t371).f1.f2), .int .i64 ((rd_T51 l0_0 t371).f2.f0), .int .i64 ((rd_T51 l0_0 t371).f2.f1), .int .i64 ((rd_T51 l0_0 t371).f2.f2)] (0, 0) _ rfl ((My.sv_ BK369)) Try.underlying51 rfl (by kernel_rfl)) rfl ?_
     exact ⟨My.r2, (My.bl_ HB)⟩
    rw [if_neg c8] at H
    exact absurd H (by simp)
   rw [if_neg c7] at H
   exact absurd H (by simp)
  ·replace c6 := Bool.eq_false_iff.mpr c6
   subst c6
   rw [if_neg (show ¬ (false = true) by decide)] at H
   simp only [Option.some.injEq, Prod.mk.injEq] at H
   obtain ⟨rfl, rfl, rfl, rfl, rfl, rfl, rfl, rfl⟩ := H
   go_enter Try.func21, Try.ntmps21
   go_wp2_with (first | ((with_reducible refine gate_dst (N := 2) rfl ?_); refine My.bx 2 #[.slice A0_0 l0_0.length c0_0, .slice A0_1 l0_1.length c0_1] 25 ?_; intro gb368 hg w18 hbox hb; have BK368 := My.am (hbox); have GE368 := My.nge hg (My.bl_ HB); replace HB := My.st HB hb; clear hb hbox hg) | ((with_reducible refine gate_dst (N := 4) rfl ?_); refine My.bx 4 #[.string (⟨#[]⟩ : ByteArray), .int .i64 0, .int .i64 0, .int .i64 0, .int .i64 0, .int .i64 0, .int .i64 0] 51 ?_; intro gb369 hg w19 hbox hb; have BK369 := My.am (hbox); have GE369 := My.nge hg (My.bl_ HB); replace HB := My.st HB hb; obtain ⟨NB368_369, NB369_368, BK368⟩ := My.nb hg hb BK368; clear hb hbox hg; have hnb20 := NB368_369.out; have hnc20 := NB369_368.out; have hq21 := My.cz2 BK368) | ((with_reducible refine gate_callee (f := 20) rfl ?_); refine goesL_ (some 9) rfl rfl Try.func20 (by kernel_rfl) rfl #[.agg #[.slice A0_0 l0_0.length c0_0, .slice A0_1 l0_1.length c0_1]] rfl My.gx ?_; (with_reducible refine (ledger_May.calls k _ _ l0_0 _ _ l0_1 t370 _ ?side1 ?side2 ?side3 ?side4 A3.out).mono ?_); (case side1 => exact My.sd_ HR0_0 HB); (case side2 => exact HC0_0.out); (case side3 => exact My.sd_ HR0_1 HB); (case side4 => exact HC0_1.out); rintro e w22 ⟨rfl, hb⟩; refine ⟨_, rfl, ?_⟩; replace BK368 := My.ab BK368 hb; replace BK369 := My.ab BK369 hb; replace HB := My.st HB hb; (try clear hb); have hq23 := My.cz2 BK368) | ((with_reducible refine gate_callee (f := 32) rfl ?_); refine goesL_ (some 16) rfl rfl Try.func32 (by kernel_rfl) rfl #[.agg #[.slice A0_0 l0_0.length c0_0, .slice A0_1 l0_1.length c0_1], .string a1] rfl My.gx ?_; (with_reducible refine (ledger_book_account.calls k _ _ l0_0 _ _ l0_1 a1 t371 false _ ?side1 ?side2 ?side3 ?side4 A5.out).mono ?_); (case side1 => exact My.sd_ HR0_0 HB); (case side2 => exact HC0_0.out); (case side3 => exact My.sd_ HR0_1 HB); (case side4 => exact HC0_1.out); rintro e w24 ⟨rfl, hb⟩; refine ⟨_, rfl, ?_⟩; replace BK368 := My.ab BK368 hb; replace BK369 := My.ab BK369 hb; replace HB := My.st HB hb; (try clear hb); have hq25 := My.cz7 BK369))
   refine bodyPost_ret (results_ct rfl _ _ gb369 51 #[.string (⟨#[]⟩ : ByteArray), .int .i64 0, .int .i64 0, .int .i64 0, .int .i64 0, .int .i64 0, .int .i64 0] (0, 0) _ rfl ((My.sv_ BK369)) Try.underlying51 rfl (by kernel_rfl)) rfl ?_
   exact ⟨My.r2, (My.bl_ HB)⟩
 ·rw [if_neg c4] at H
  have c4b0 : (t370 == 0) = false := beq_eq_false_iff_ne.mpr c4
  have c4b1 : (t370 != 0) = true := bne_iff_ne.mpr c4
  simp only [Option.some.injEq, Prod.mk.injEq] at H
  obtain ⟨rfl, rfl, rfl, rfl, rfl, rfl, rfl, rfl⟩ := H
  go_enter Try.func21, Try.ntmps21
  go_wp2_with (first | ((with_reducible refine gate_dst (N := 2) rfl ?_); refine My.bx 2 #[.slice A0_0 l0_0.length c0_0, .slice A0_1 l0_1.length c0_1] 25 ?_; intro gb368 hg w26 hbox hb; have BK368 := My.am (hbox); have GE368 := My.nge hg (My.bl_ HB); replace HB := My.st HB hb; clear hb hbox hg) | ((with_reducible refine gate_dst (N := 4) rfl ?_); refine My.bx 4 #[.string (⟨#[]⟩ : ByteArray), .int .i64 0, .int .i64 0, .int .i64 0, .int .i64 0, .int .i64 0, .int .i64 0] 51 ?_; intro gb369 hg w27 hbox hb; have BK369 := My.am (hbox); have GE369 := My.nge hg (My.bl_ HB); replace HB := My.st HB hb; obtain ⟨NB368_369, NB369_368, BK368⟩ := My.nb hg hb BK368; clear hb hbox hg; have hnb28 := NB368_369.out; have hnc28 := NB369_368.out; have hq29 := My.cz2 BK368) | ((with_reducible refine gate_callee (f := 20) rfl ?_); refine goesL_ (some 9) rfl rfl Try.func20 (by kernel_rfl) rfl #[.agg #[.slice A0_0 l0_0.length c0_0, .slice A0_1 l0_1.length c0_1]] rfl My.gx ?_; (with_reducible refine (ledger_May.calls k _ _ l0_0 _ _ l0_1 t370 _ ?side1 ?side2 ?side3 ?side4 A3.out).mono ?_); (case side1 => exact My.sd_ HR0_0 HB); (case side2 => exact HC0_0.out); (case side3 => exact My.sd_ HR0_1 HB); (case side4 => exact HC0_1.out); rintro e w30 ⟨rfl, hb⟩; refine ⟨_, rfl, ?_⟩; replace BK369 := My.ab BK369 hb; replace HB := My.st HB hb; (try clear hb); have hq31 := My.cz7 BK369))
  refine bodyPost_ret (results_ct rfl _ _ gb369 51 #[.string (⟨#[]⟩ : ByteArray), .int .i64 0, .int .i64 0, .int .i64 0, .int .i64 0, .int .i64 0, .int .i64 0] (0, 0) _ rfl ((My.sv_ BK369)) Try.underlying51 rfl (by kernel_rfl)) rfl ?_
  exact ⟨My.r2, (My.bl_ HB)⟩

/-! ### ledger_State: function 26 -/
def ledger_State.f (k : Nat) (l0_0 : List (S51)) (l0_1 : List (S64)) (a1 : ByteArray) : Option (Int) := (ledger_May.f k l0_0 l0_1).bind fun t375 => (if t375 = 0 then ((ledger_book_mark.f k l0_0 l0_1 a1).bind fun bt376 => (if bt376.2 = true then (if 0 ≤ bt376.1 then (if bt376.1 < (l0_1.length : Int) then (some ((rd_T64 l0_1 bt376.1).f2)) else (none)) else (none)) else (some 0))) else (some 0))
theorem ledger_State.mono : ∀ a0 a1 a2 k, LeO (ledger_State.f k a0 a1 a2) (ledger_State.f (k + 1) a0 a1 a2) := by
 intro a0 a1 a2 k
 unfold ledger_State.f
 repeat' (with_reducible first | exact ledger_May.mono _ _ _ | exact ledger_book_mark.mono _ _ _ _ | exact LeO.refl _ | exact LeO.none _ | apply LeO.ite | refine LeO.bind ?_ (fun _ => ?_))
theorem ledger_State.calls (k : Nat) (A0_0 : Option Addr) (c0_0 : Nat) (l0_0 : List (S51)) (A0_1 : Option Addr) (c0_1 : Nat) (l0_1 : List (S64)) (a1 : ByteArray) (r : Int) (w : World) (hr0_0 : Kd.C k51 w A0_0 l0_0.length l0_0) (hc0_0 : l0_0.length ≤ c0_0) (hr0_1 : Kd.C k64 w A0_1 l0_1.length l0_1) (hc0_1 : l0_1.length ≤ c0_1) (h : ledger_State.f k l0_0 l0_1 a1 = some r) :
  Calls Try.prog 26 #[.agg #[.slice A0_0 l0_0.length c0_0, .slice A0_1 l0_1.length c0_1], .string a1] w fun e w' => e = .returned (.int .i64 r) ∧ Below w.heap.size w w' := by
 have hu25 := Try.underlying25
 have hu71 := Try.underlying71
 have HR0_0 := My.am hr0_0
 have HC0_0 := My.am hc0_0
 clear hr0_0 hc0_0
 have HR0_1 := My.am hr0_1
 have HC0_1 := My.am hc0_1
 clear hr0_1 hc0_1
 have HB := My.am (Below.refl w.heap.size w)
 unfold ledger_State.f at h
 have H := h
 clear h
 replace H := Option.bind_eq_some_iff.mp H
 obtain ⟨t375, A30, H⟩ := H
 try dsimp only at H
 have A3 := My.am A30
 clear A30
 by_cases c4 : t375 = 0
 ·rw [if_pos c4] at H
  have c4b0 : (t375 == 0) = true := beq_iff_eq.mpr c4
  have c4b1 : (t375 != 0) = false := bne_eq_false_iff_eq.mpr c4
  clear c4
  replace H := Option.bind_eq_some_iff.mp H
  obtain ⟨⟨t376, t377⟩, A50, H⟩ := H
  try dsimp only at H
  have A5 := My.am A50
  clear A50
  by_cases c6 : t377 = true
  ·subst c6
   rw [if_pos rfl] at H
   by_cases c7 : 0 ≤ t376
   ·rw [if_pos c7] at H
    have c7b0 := decide_eq_true c7
    clear c7
    by_cases c8 : t376 < (l0_1.length : Int)
    ·rw [if_pos c8] at H
     have c8b0 := decide_eq_true c8
     clear c8
     obtain rfl := Option.some.inj H
     go_enter Try.func26, Try.ntmps26
     go_wp2_with (first | ((with_reducible refine gate_dst (N := 2) rfl ?_); refine My.bx 2 #[.slice A0_0 l0_0.length c0_0, .slice A0_1 l0_1.length c0_1] 25 ?_; intro gb374 hg w9 hbox hb; have BK374 := My.am (hbox); have GE374 := My.nge hg (My.bl_ HB); replace HB := My.st HB hb; clear hb hbox hg; have hq10 := My.cz2 BK374) | ((with_reducible refine gate_callee (f := 20) rfl ?_); refine goesL_ (some 8) rfl rfl Try.func20 (by kernel_rfl) rfl #[.agg #[.slice A0_0 l0_0.length c0_0, .slice A0_1 l0_1.length c0_1]] rfl My.gx ?_; (with_reducible refine (ledger_May.calls k _ _ l0_0 _ _ l0_1 t375 _ ?side1 ?side2 ?side3 ?side4 A3.out).mono ?_); (case side1 => exact My.sd_ HR0_0 HB); (case side2 => exact HC0_0.out); (case side3 => exact My.sd_ HR0_1 HB); (case side4 => exact HC0_1.out); rintro e w11 ⟨rfl, hb⟩; refine ⟨_, rfl, ?_⟩; replace BK374 := My.ab BK374 hb; replace HB := My.st HB hb; (try clear hb); have hq12 := My.cz2 BK374) | ((with_reducible refine gate_callee (f := 40) rfl ?_); refine goesL_ (some 14) rfl rfl Try.func40 (by kernel_rfl) rfl #[.agg #[.slice A0_0 l0_0.length c0_0, .slice A0_1 l0_1.length c0_1], .string a1] rfl My.gx ?_; (with_reducible refine (ledger_book_mark.calls k _ _ l0_0 _ _ l0_1 a1 t376 true _ ?side1 ?side2 ?side3 ?side4 A5.out).mono ?_); (case side1 => exact My.sd_ HR0_0 HB); (case side2 => exact HC0_0.out); (case side3 => exact My.sd_ HR0_1 HB); (case side4 => exact HC0_1.out); rintro e w13 ⟨rfl, hb⟩; refine ⟨_, rfl, ?_⟩; replace BK374 := My.ab BK374 hb; replace HB := My.st HB hb; (try clear hb); have hq14 := My.cz2 BK374; have p378 : 0 ≤ (t376 : Int) := My.as_; have q378 : t376 < (l0_1.length : Int) := My.as_; obtain ⟨ad378, e378, hx378_0, hx378_1, hx378_2, hx378_3, hx378_4⟩ := My.up5 HB (at_T64 HR0_1.out t376 p378 q378); cases e378; replace p378 := eq_true p378; replace q378 := eq_true q378))
     go_ret
     exact ⟨My.r2, (My.bl_ HB)⟩
    rw [if_neg c8] at H
    exact absurd H (by simp)
   rw [if_neg c7] at H
   exact absurd H (by simp)
  ·replace c6 := Bool.eq_false_iff.mpr c6
   subst c6
   rw [if_neg (show ¬ (false = true) by decide)] at H
   obtain rfl := Option.some.inj H
   go_enter Try.func26, Try.ntmps26
   go_wp2_with (first | ((with_reducible refine gate_dst (N := 2) rfl ?_); refine My.bx 2 #[.slice A0_0 l0_0.length c0_0, .slice A0_1 l0_1.length c0_1] 25 ?_; intro gb374 hg w15 hbox hb; have BK374 := My.am (hbox); have GE374 := My.nge hg (My.bl_ HB); replace HB := My.st HB hb; clear hb hbox hg; have hq16 := My.cz2 BK374) | ((with_reducible refine gate_callee (f := 20) rfl ?_); refine goesL_ (some 8) rfl rfl Try.func20 (by kernel_rfl) rfl #[.agg #[.slice A0_0 l0_0.length c0_0, .slice A0_1 l0_1.length c0_1]] rfl My.gx ?_; (with_reducible refine (ledger_May.calls k _ _ l0_0 _ _ l0_1 t375 _ ?side1 ?side2 ?side3 ?side4 A3.out).mono ?_); (case side1 => exact My.sd_ HR0_0 HB); (case side2 => exact HC0_0.out); (case side3 => exact My.sd_ HR0_1 HB); (case side4 => exact HC0_1.out); rintro e w17 ⟨rfl, hb⟩; refine ⟨_, rfl, ?_⟩; replace BK374 := My.ab BK374 hb; replace HB := My.st HB hb; (try clear hb); have hq18 := My.cz2 BK374) | ((with_reducible refine gate_callee (f := 40) rfl ?_); refine goesL_ (some 14) rfl rfl Try.func40 (by kernel_rfl) rfl #[.agg #[.slice A0_0 l0_0.length c0_0, .slice A0_1 l0_1.length c0_1], .string a1] rfl My.gx ?_; (with_reducible refine (ledger_book_mark.calls k _ _ l0_0 _ _ l0_1 a1 t376 false _ ?side1 ?side2 ?side3 ?side4 A5.out).mono ?_); (case side1 => exact My.sd_ HR0_0 HB); (case side2 => exact HC0_0.out); (case side3 => exact My.sd_ HR0_1 HB); (case side4 => exact HC0_1.out); rintro e w19 ⟨rfl, hb⟩; refine ⟨_, rfl, ?_⟩; replace BK374 := My.ab BK374 hb; replace HB := My.st HB hb; (try clear hb)))
   go_ret
   exact ⟨My.r2, (My.bl_ HB)⟩
 ·rw [if_neg c4] at H
  have c4b0 : (t375 == 0) = false := beq_eq_false_iff_ne.mpr c4
  have c4b1 : (t375 != 0) = true := bne_iff_ne.mpr c4
  obtain rfl := Option.some.inj H
  go_enter Try.func26, Try.ntmps26
  go_wp2_with (first | ((with_reducible refine gate_dst (N := 2) rfl ?_); refine My.bx 2 #[.slice A0_0 l0_0.length c0_0, .slice A0_1 l0_1.length c0_1] 25 ?_; intro gb374 hg w20 hbox hb; have BK374 := My.am (hbox); have GE374 := My.nge hg (My.bl_ HB); replace HB := My.st HB hb; clear hb hbox hg; have hq21 := My.cz2 BK374) | ((with_reducible refine gate_callee (f := 20) rfl ?_); refine goesL_ (some 8) rfl rfl Try.func20 (by kernel_rfl) rfl #[.agg #[.slice A0_0 l0_0.length c0_0, .slice A0_1 l0_1.length c0_1]] rfl My.gx ?_; (with_reducible refine (ledger_May.calls k _ _ l0_0 _ _ l0_1 t375 _ ?side1 ?side2 ?side3 ?side4 A3.out).mono ?_); (case side1 => exact My.sd_ HR0_0 HB); (case side2 => exact HC0_0.out); (case side3 => exact My.sd_ HR0_1 HB); (case side4 => exact HC0_1.out); rintro e w22 ⟨rfl, hb⟩; refine ⟨_, rfl, ?_⟩; replace HB := My.st HB hb; (try clear hb)))
  go_ret
  exact ⟨My.r2, (My.bl_ HB)⟩

/-! ### ententelaw07_awake: function 9 -/
def ententelaw07_awake.f (k : Nat)  : Option (Bool) := (ledger_Open.f k ([] : List (S51)) ([] : List (S64)) (⟨#[99, 97, 115, 104]⟩ : ByteArray) 10).bind fun bt379 => ((ledger_Do.f k bt379.1 bt379.2.1 (⟨#[107]⟩ : ByteArray) 1 (⟨#[99, 97, 115, 104]⟩ : ByteArray) 4).bind fun bt388 => ((ledger_Do.f k bt388.1 bt388.2.1 (⟨#[107]⟩ : ByteArray) 1 (⟨#[99, 97, 115, 104]⟩ : ByteArray) 4).bind fun bt396 => ((ledger_Do.f k bt388.1 bt388.2.1 (⟨#[107]⟩ : ByteArray) 1 (⟨#[99, 97, 115, 104]⟩ : ByteArray) 5).bind fun bt404 => ((ledger_Undo.f k bt388.1 bt388.2.1 (⟨#[107]⟩ : ByteArray)).bind fun bt412 => ((ledger_Find.f k bt388.1 bt388.2.1 (⟨#[99, 97, 115, 104]⟩ : ByteArray)).bind fun bt420 => (if bt379.2.2 = 0 then (if bt388.2.2 = 0 then (if bt396.2.2 = 0 then ((ententeref07_Same.f k bt388.1 bt388.2.1 bt396.1 bt396.2.1).bind fun t429 => (if t429 = true then (if bt404.2.2 = 72 then (if bt412.2.2 = 0 then ((ledger_State.f k bt412.1 bt412.2.1 (⟨#[107]⟩ : ByteArray)).bind fun t430 => (if t430 = 2 then (if bt420.2.2.2.2.2.2.2 = true then (if (bt420.2.1 == 6 && (bt420.2.2.1 == 0 && (bt420.2.2.2.1 == 4))) = true then ((ledger_May.f k (([(⟨(⟨#[]⟩ : ByteArray), (⟨0, 0, 0⟩ : S49), (⟨0, 0, 0⟩ : S49)⟩ : S51)] : List (S51))) ([] : List (S64))).bind fun t434 => (some (t434 == 2))) else (none)) else (none)) else (none))) else (none)) else (none)) else (none))) else (none)) else (none)) else (none)))))))
theorem ententelaw07_awake.mono : ∀ k, LeO (ententelaw07_awake.f k ) (ententelaw07_awake.f (k + 1) ) := by
 intro  k
 unfold ententelaw07_awake.f
 repeat' (with_reducible first | exact ententeref07_Same.mono _ _ _ _ _ | exact ledger_Do.mono _ _ _ _ _ _ _ | exact ledger_Find.mono _ _ _ _ | exact ledger_May.mono _ _ _ | exact ledger_Open.mono _ _ _ _ _ | exact ledger_State.mono _ _ _ _ | exact ledger_Undo.mono _ _ _ _ | exact LeO.refl _ | exact LeO.none _ | apply LeO.ite | refine LeO.bind ?_ (fun _ => ?_))
theorem ententelaw07_awake.calls (k : Nat)  (r : Bool) (w : World) (h : ententelaw07_awake.f k  = some r) :
  Calls Try.prog 9 #[] w fun e w' => e = .returned (.bool r) ∧ Below w.heap.size w w' := by
 have hu25 := Try.underlying25
 have hu27 := Try.underlying27
 have hu51 := Try.underlying51
 have hu49 := Try.underlying49
 have HB := My.am (Below.refl w.heap.size w)
 unfold ententelaw07_awake.f at h
 have H := h
 clear h
 replace H := Option.bind_eq_some_iff.mp H
 obtain ⟨⟨t379, t382, t385⟩, A10, H⟩ := H
 try dsimp only at H
 have A1 := My.am A10
 clear A10
 replace H := Option.bind_eq_some_iff.mp H
 obtain ⟨⟨t388, t391, t394⟩, A20, H⟩ := H
 try dsimp only at H
 have A2 := My.am A20
 clear A20
 replace H := Option.bind_eq_some_iff.mp H
 obtain ⟨⟨t396, t399, t402⟩, A30, H⟩ := H
 try dsimp only at H
 have A3 := My.am A30
 clear A30
 replace H := Option.bind_eq_some_iff.mp H
 obtain ⟨⟨t404, t407, t410⟩, A40, H⟩ := H
 try dsimp only at H
 have A4 := My.am A40
 clear A40
 replace H := Option.bind_eq_some_iff.mp H
 obtain ⟨⟨t412, t415, t418⟩, A50, H⟩ := H
 try dsimp only at H
 have A5 := My.am A50
 clear A50
 replace H := Option.bind_eq_some_iff.mp H
 obtain ⟨⟨t420, t421, t422, t423, t424, t425, t426, t427⟩, A60, H⟩ := H
 try dsimp only at H
 have A6 := My.am A60
 clear A60
 by_cases c7 : t385 = 0
 ·rw [if_pos c7] at H
  have c7b0 : (t385 == 0) = true := beq_iff_eq.mpr c7
  have c7b1 : (t385 != 0) = false := bne_eq_false_iff_eq.mpr c7
  clear c7
  by_cases c8 : t394 = 0
  ·rw [if_pos c8] at H
   have c8b0 : (t394 == 0) = true := beq_iff_eq.mpr c8
   have c8b1 : (t394 != 0) = false := bne_eq_false_iff_eq.mpr c8
   clear c8
   by_cases c9 : t402 = 0
   rotate_left
   ·exact My.nn c9 H
   rw [if_pos c9] at H
   have c9b0 : (t402 == 0) = true := beq_iff_eq.mpr c9
   have c9b1 : (t402 != 0) = false := bne_eq_false_iff_eq.mpr c9
   clear c9
   replace H := Option.bind_eq_some_iff.mp H
   obtain ⟨t429, A100, H⟩ := H
   try dsimp only at H
   have A10 := My.am A100
   clear A100
   by_cases c11 : t429 = true
   rotate_left
   ·replace c11 := Bool.eq_false_iff.mpr c11
    subst c11
    rw [if_neg (show ¬ (false = true) by decide)] at H
    exact absurd H (by simp)
   subst c11
   rw [if_pos rfl] at H
   by_cases c12 : t410 = 72
   rotate_left
   ·exact My.nn c12 H
   rw [if_pos c12] at H
   have c12b0 : (t410 == 72) = true := beq_iff_eq.mpr c12
   have c12b1 : (t410 != 72) = false := bne_eq_false_iff_eq.mpr c12
   clear c12
   by_cases c13 : t418 = 0
   rotate_left
   ·exact My.nn c13 H
   rw [if_pos c13] at H
   have c13b0 : (t418 == 0) = true := beq_iff_eq.mpr c13
   have c13b1 : (t418 != 0) = false := bne_eq_false_iff_eq.mpr c13
   clear c13
   replace H := Option.bind_eq_some_iff.mp H
   obtain ⟨t430, A140, H⟩ := H
   try dsimp only at H
   have A14 := My.am A140
   clear A140
   by_cases c15 : t430 = 2
   rotate_left
   ·exact My.nn c15 H
   rw [if_pos c15] at H
   have c15b0 : (t430 == 2) = true := beq_iff_eq.mpr c15
   have c15b1 : (t430 != 2) = false := bne_eq_false_iff_eq.mpr c15
   clear c15
   by_cases c16 : t427 = true
   rotate_left
   ·replace c16 := Bool.eq_false_iff.mpr c16
    subst c16
    rw [if_neg (show ¬ (false = true) by decide)] at H
    exact absurd H (by simp)
   subst c16
   rw [if_pos rfl] at H
   by_cases c17 : (t421 == 6 && (t422 == 0 && (t423 == 4))) = true
   rotate_left
   ·exact My.nn c17 H
   rw [if_pos c17] at H
   have c17b0 : (t421 == 6 && (t422 == 0 && (t423 == 4))) = true := c17
   (try (have c17b1 : decide (t421 = 6 && (t422 == 0 && (t423 == 4))) = true := by simpa using c17))
   (try (have c17b2 : (t421 == 6 && (t422 == 0 && (t423 == 4))) = true := by simpa using c17))
   clear c17
   obtain ⟨y431, hy431⟩ : ∃ y_ : List (S51), y_ = (([(⟨(⟨#[]⟩ : ByteArray), (⟨0, 0, 0⟩ : S49), (⟨0, 0, 0⟩ : S49)⟩ : S51)] : List (S51))) := ⟨_, rfl⟩
   replace H : ((ledger_May.f k y431 ([] : List (S64))).bind fun t434 => (some (t434 == 2))) = some r := by first | (rw [hy431]; with_reducible exact H) | (have H2_ := (Option.bind_some _ _).symm.trans H; rw [hy431]; with_reducible exact H2_) | (have H2_ := (Option.bind_some _ _).symm.trans H; with_reducible exact H2_) | with_reducible exact H | (rw [hy431]; exact H) | exact H
   have Ny431 := My.am hy431
   clear hy431
   replace H := Option.bind_eq_some_iff.mp H
   obtain ⟨t434, A180, H⟩ := H
   try dsimp only at H
   have A18 := My.am A180
   clear A180
   obtain rfl := Option.some.inj H
   go_enter Try.func9, Try.ntmps9
   go_wp2_with (first | ((with_reducible refine gate_callee (f := 10) rfl ?_); refine goesL_ (some 16) rfl rfl Try.func10 (by kernel_rfl) rfl #[.agg #[.slice none 0 0, .slice none 0 0], .string (⟨#[99, 97, 115, 104]⟩ : ByteArray), .int .i64 10] rfl My.gx ?_; (refine (ledger_Open.calls k _ _ ([] : List (S51)) _ _ ([] : List (S64)) (⟨#[99, 97, 115, 104]⟩ : ByteArray) 10 t379 t382 t385 _ ?side1 ?side2 ?side3 ?side4 A1.out).mono ?_); (case side1 => exact Kd.C_nil _ _); (case side2 => exact Nat.le_refl _); (case side3 => exact Kd.C_nil _ _); (case side4 => exact Nat.le_refl _); rintro e w19 ⟨v380, v383, rfl, ho0, ho1, hb⟩; refine ⟨_, rfl, ?_⟩; have HO381 := My.am (Kd.R_lower ho0 (below_size (My.bl_ HB))); have HO384 := My.am (Kd.R_lower ho1 (below_size (My.bl_ HB))); replace HB := My.st HB hb; (try clear hb); (try clear ho0); (try clear ho1)) | ((with_reducible refine gate_dst (N := 1) rfl ?_); (try (refine gate_guard (by rfl) ?_; dsimp only)); refine My.bx 1 #[.slice none 0 0, .slice none 0 0] 25 ?_; intro gb386 hg w20 hbox hb; replace HO381 := My.am (Kd.R_below (My.dr HO381.out) hb); replace HO384 := My.am (Kd.R_below (My.dr HO384.out) hb); have BK386 := My.am (hbox); have GE386 := My.nge hg (My.bl_ HB); replace HB := My.st HB hb; clear hb hbox hg; obtain ⟨Ao21, co21, eo21⟩ := Kd.R_slice HO381.out; subst eo21; have hq22 := My.cz2 BK386; obtain ⟨Ao23, co23, eo23⟩ := Kd.R_slice HO384.out; subst eo23) | ((with_reducible refine gate_dst (N := 3) rfl ?_); (try (refine gate_guard (by rfl) ?_; dsimp only)); refine My.bx 3 #[.int .i64 0, .string (⟨#[]⟩ : ByteArray), .int .i64 0] 27 ?_; intro gb387 hg w24 hbox hb; replace HO381 := My.am (Kd.R_below (My.dR (My.rf2 gb386 (.slice Ao21 t379.length co21) (.slice Ao23 t382.length co23) (Kd.R_types HO381.out BK386.out (by decide)))) hb); replace HO384 := My.am (Kd.R_below (My.dR (My.rf2 gb386 (.slice Ao21 t379.length co21) (.slice Ao23 t382.length co23) (Kd.R_types HO384.out BK386.out (by decide)))) hb); have BK387 := My.am (hbox); have GE387 := My.nge hg (My.bl_ HB); replace HB := My.st HB hb; have NB386_387 := My.am ((by rw [hg]; exact Nat.ne_of_lt (blk_lt (g := gb386) (o := .cells #[.slice Ao21 t379.length co21, .slice Ao23 t382.length co23] 25 (0, 0)) ((My.sv_ BK386))) : gb386 ≠ gb387)); have NB387_386 := My.am ((by rw [hg]; exact Nat.ne_of_gt (blk_lt (g := gb386) (o := .cells #[.slice Ao21 t379.length co21, .slice Ao23 t382.length co23] 25 (0, 0)) ((My.sv_ BK386))) : gb387 ≠ gb386)); replace BK386 := My.am (blk_below (g := gb386) (o := .cells #[.slice Ao21 t379.length co21, .slice Ao23 t382.length co23] 25 (0, 0)) ((My.sv_ BK386)) hb); clear hb hbox hg; have hnb25 := NB387_386.out; have hnc25 := NB386_387.out; have hq26 := My.cz3 BK387; have hq27 := My.cz2 BK386) | ((with_reducible refine gate_callee (f := 12) rfl ?_); refine goesL_ (some 23) rfl rfl Try.func12 (by kernel_rfl) rfl #[.agg #[.slice Ao21 t379.length co21, .slice Ao23 t382.length co23], .string (⟨#[107]⟩ : ByteArray), .agg #[.int .i64 1, .string (⟨#[99, 97, 115, 104]⟩ : ByteArray), .int .i64 4]] rfl My.gx ?_; (with_reducible refine (ledger_Do.calls k _ _ t379 _ _ t382 (⟨#[107]⟩ : ByteArray) 1 (⟨#[99, 97, 115, 104]⟩ : ByteArray) 4 t388 t391 t394 _ ?side1 ?side2 ?side3 ?side4 A2.out).mono ?_); (case side1 => refine (Kd.R_reads' (e := 51) (base := w.heap.size) (ok := fun k_ => True) (n := t379.length) (c := co21) ?_).2.2; exact (My.dR (My.rf3 gb387 (.int .i64 1) (.string (⟨#[99, 97, 115, 104]⟩ : ByteArray)) (.int .i64 4) (Kd.R_types HO381.out BK387.out (by decide))))); (case side2 => exact (Kd.R_reads' HO381.out).2.1); (case side3 => refine (Kd.R_reads' (e := 64) (base := w.heap.size) (ok := fun k_ => True) (n := t382.length) (c := co23) ?_).2.2; exact (My.dR (My.rf3 gb387 (.int .i64 1) (.string (⟨#[99, 97, 115, 104]⟩ : ByteArray)) (.int .i64 4) (Kd.R_types HO384.out BK387.out (by decide))))); (case side4 => exact (Kd.R_reads' HO384.out).2.1); rintro e w28 ⟨v389, v392, rfl, ho0, ho1, hb⟩; refine ⟨_, rfl, ?_⟩; have HO390 := My.am (Kd.R_lower (Kd.R_new' ho0 (Kd.R_lt (My.dR (My.rf3 gb387 (.int .i64 1) (.string (⟨#[99, 97, 115, 104]⟩ : ByteArray)) (.int .i64 4) (Kd.R_types HO381.out BK387.out (by decide)))))) (below_size (My.bl_ HB))); replace HO381 := My.am (Kd.R_elder' (My.dR (My.rf3 gb387 (.int .i64 1) (.string (⟨#[99, 97, 115, 104]⟩ : ByteArray)) (.int .i64 4) (Kd.R_types HO381.out BK387.out (by decide)))) (Kd.R_base ho0) hb); have HO393 := My.am (Kd.R_lower (Kd.R_new' ho1 (Kd.R_lt (My.dR (My.rf3 gb387 (.int .i64 1) (.string (⟨#[99, 97, 115, 104]⟩ : ByteArray)) (.int .i64 4) (Kd.R_types HO384.out BK387.out (by decide)))))) (below_size (My.bl_ HB))); replace HO384 := My.am (Kd.R_elder' (My.dR (My.rf3 gb387 (.int .i64 1) (.string (⟨#[99, 97, 115, 104]⟩ : ByteArray)) (.int .i64 4) (Kd.R_types HO384.out BK387.out (by decide)))) (Kd.R_base ho1) hb); replace BK386 := My.am (blk_below (g := gb386) (o := .cells #[.slice Ao21 t379.length co21, .slice Ao23 t382.length co23] 25 (0, 0)) ((My.sv_ BK386)) hb); replace BK387 := My.am (blk_below (g := gb387) (o := .cells #[.int .i64 1, .string (⟨#[99, 97, 115, 104]⟩ : ByteArray), .int .i64 4] 27 (0, 0)) ((My.sv_ BK387)) hb); replace HB := My.st HB hb; (try clear hb); (try clear ho0); (try clear ho1)) | ((with_reducible refine gate_dst (N := 4) rfl ?_); (try (refine gate_guard (by rfl) ?_; dsimp only)); refine My.bx 4 #[.slice none 0 0, .slice none 0 0] 25 ?_; intro gb395 hg w29 hbox hb; replace HO381 := My.am (Kd.R_below (My.dr HO381.out) hb); replace HO384 := My.am (Kd.R_below (My.dr HO384.out) hb); replace HO390 := My.am (Kd.R_below (My.dr HO390.out) hb); replace HO393 := My.am (Kd.R_below (My.dr HO393.out) hb); have BK395 := My.am (hbox); have GE395 := My.nge hg (My.bl_ HB); replace HB := My.st HB hb; obtain ⟨NB386_395, NB395_386, BK386⟩ := My.nb hg hb BK386; obtain ⟨NB387_395, NB395_387, BK387⟩ := My.nb hg hb BK387; clear hb hbox hg; obtain ⟨Ao30, co30, eo30⟩ := Kd.R_slice HO390.out; subst eo30; have hnb31 := NB395_386.out; have hnc31 := NB386_395.out; have hnb32 := NB395_387.out; have hnc32 := NB387_395.out; have hq33 := My.cz2 BK395; obtain ⟨Ao34, co34, eo34⟩ := Kd.R_slice HO393.out; subst eo34; have hq35 := My.cz3 BK387) | ((with_reducible refine gate_callee (f := 12) rfl ?_); refine goesL_ (some 29) rfl rfl Try.func12 (by kernel_rfl) rfl #[.agg #[.slice Ao30 t388.length co30, .slice Ao34 t391.length co34], .string (⟨#[107]⟩ : ByteArray), .agg #[.int .i64 1, .string (⟨#[99, 97, 115, 104]⟩ : ByteArray), .int .i64 4]] rfl My.gx ?_; (with_reducible refine (ledger_Do.calls k _ _ t388 _ _ t391 (⟨#[107]⟩ : ByteArray) 1 (⟨#[99, 97, 115, 104]⟩ : ByteArray) 4 t396 t399 t402 _ ?side1 ?side2 ?side3 ?side4 A3.out).mono ?_); (case side1 => refine (Kd.R_reads' (e := 51) (base := w.heap.size) (ok := fun k_ => (True ∧ some k_ ≠ (.slice Ao21 t379.length co21 : Value).ownBlock)) (n := t388.length) (c := co30) ?_).2.2; exact (My.dR (My.rf2 gb395 (.slice Ao30 t388.length co30) (.slice Ao34 t391.length co34) (Kd.R_types HO390.out BK395.out (by decide))))); (case side2 => exact (Kd.R_reads' HO390.out).2.1); (case side3 => refine (Kd.R_reads' (e := 64) (base := w.heap.size) (ok := fun k_ => (True ∧ some k_ ≠ (.slice Ao23 t382.length co23 : Value).ownBlock)) (n := t391.length) (c := co34) ?_).2.2; exact (My.dR (My.rf2 gb395 (.slice Ao30 t388.length co30) (.slice Ao34 t391.length co34) (Kd.R_types HO393.out BK395.out (by decide))))); (case side4 => exact (Kd.R_reads' HO393.out).2.1); rintro e w36 ⟨v397, v400, rfl, ho0, ho1, hb⟩; refine ⟨_, rfl, ?_⟩; have HO398 := My.am (Kd.R_lower (Kd.R_new' (Kd.R_new' ho0 (Kd.R_lt (My.dR (My.rf2 gb395 (.slice Ao30 t388.length co30) (.slice Ao34 t391.length co34) (Kd.R_types HO381.out BK395.out (by decide)))))) (Kd.R_lt (My.dR (My.rf2 gb395 (.slice Ao30 t388.length co30) (.slice Ao34 t391.length co34) (Kd.R_types HO390.out BK395.out (by decide)))))) (below_size (My.bl_ HB))); replace HO381 := My.am (Kd.R_elder' (My.dR (My.rf2 gb395 (.slice Ao30 t388.length co30) (.slice Ao34 t391.length co34) (Kd.R_types HO381.out BK395.out (by decide)))) (Kd.R_base ho0) hb); replace HO390 := My.am (Kd.R_elder' (My.dR (My.rf2 gb395 (.slice Ao30 t388.length co30) (.slice Ao34 t391.length co34) (Kd.R_types HO390.out BK395.out (by decide)))) (Kd.R_base ho0) hb); have HO401 := My.am (Kd.R_lower (Kd.R_new' (Kd.R_new' ho1 (Kd.R_lt (My.dR (My.rf2 gb395 (.slice Ao30 t388.length co30) (.slice Ao34 t391.length co34) (Kd.R_types HO384.out BK395.out (by decide)))))) (Kd.R_lt (My.dR (My.rf2 gb395 (.slice Ao30 t388.length co30) (.slice Ao34 t391.length co34) (Kd.R_types HO393.out BK395.out (by decide)))))) (below_size (My.bl_ HB))); replace HO384 := My.am (Kd.R_elder' (My.dR (My.rf2 gb395 (.slice Ao30 t388.length co30) (.slice Ao34 t391.length co34) (Kd.R_types HO384.out BK395.out (by decide)))) (Kd.R_base ho1) hb); replace HO393 := My.am (Kd.R_elder' (My.dR (My.rf2 gb395 (.slice Ao30 t388.length co30) (.slice Ao34 t391.length co34) (Kd.R_types HO393.out BK395.out (by decide)))) (Kd.R_base ho1) hb); replace BK386 := My.am (blk_below (g := gb386) (o := .cells #[.slice Ao21 t379.length co21, .slice Ao23 t382.length co23] 25 (0, 0)) ((My.sv_ BK386)) hb); replace BK387 := My.am (blk_below (g := gb387) (o := .cells #[.int .i64 1, .string (⟨#[99, 97, 115, 104]⟩ : ByteArray), .int .i64 4] 27 (0, 0)) ((My.sv_ BK387)) hb); replace BK395 := My.am (blk_below (g := gb395) (o := .cells #[.slice Ao30 t388.length co30, .slice Ao34 t391.length co34] 25 (0, 0)) ((My.sv_ BK395)) hb); replace HB := My.st HB hb; (try clear hb); (try clear ho0); (try clear ho1)) | ((with_reducible refine gate_dst (N := 6) rfl ?_); (try (refine gate_guard (by rfl) ?_; dsimp only)); refine My.bx 6 #[.slice none 0 0, .slice none 0 0] 25 ?_; intro gb403 hg w37 hbox hb; replace HO381 := My.am (Kd.R_below (My.dr HO381.out) hb); replace HO384 := My.am (Kd.R_below (My.dr HO384.out) hb); replace HO390 := My.am (Kd.R_below (My.dr HO390.out) hb); replace HO393 := My.am (Kd.R_below (My.dr HO393.out) hb); replace HO398 := My.am (Kd.R_below (My.dr HO398.out) hb); replace HO401 := My.am (Kd.R_below (My.dr HO401.out) hb); have BK403 := My.am (hbox); have GE403 := My.nge hg (My.bl_ HB); replace HB := My.st HB hb; obtain ⟨NB386_403, NB403_386, BK386⟩ := My.nb hg hb BK386; obtain ⟨NB387_403, NB403_387, BK387⟩ := My.nb hg hb BK387; obtain ⟨NB395_403, NB403_395, BK395⟩ := My.nb hg hb BK395; clear hb hbox hg; obtain ⟨Ao38, co38, eo38⟩ := Kd.R_slice HO398.out; subst eo38; have hnb39 := NB403_386.out; have hnc39 := NB386_403.out; have hnb40 := NB403_387.out; have hnc40 := NB387_403.out; have hnb41 := NB403_395.out; have hnc41 := NB395_403.out; have hq42 := My.cz2 BK403; obtain ⟨Ao43, co43, eo43⟩ := Kd.R_slice HO401.out; subst eo43; have hq44 := My.cz3 BK387; have hq45 := My.cz2 BK395) | ((with_reducible refine gate_callee (f := 12) rfl ?_); refine goesL_ (some 36) rfl rfl Try.func12 (by kernel_rfl) rfl #[.agg #[.slice Ao30 t388.length co30, .slice Ao34 t391.length co34], .string (⟨#[107]⟩ : ByteArray), .agg #[.int .i64 1, .string (⟨#[99, 97, 115, 104]⟩ : ByteArray), .int .i64 5]] rfl My.gx ?_; (with_reducible refine (ledger_Do.calls k _ _ t388 _ _ t391 (⟨#[107]⟩ : ByteArray) 1 (⟨#[99, 97, 115, 104]⟩ : ByteArray) 5 t404 t407 t410 _ ?side1 ?side2 ?side3 ?side4 A4.out).mono ?_); (case side1 => refine (Kd.R_reads' (e := 51) (base := w.heap.size) (ok := fun k_ => ((True ∧ some k_ ≠ (.slice Ao21 t379.length co21 : Value).ownBlock) ∧ some k_ ≠ (.slice Ao38 t396.length co38 : Value).ownBlock)) (n := t388.length) (c := co30) ?_).2.2; exact (My.dR (Kd.R_mono (Kd.R_mono (Kd.R_far (p := ⟨gb387, 2, none⟩) (Kd.R_far (p := ⟨gb403, 1, none⟩) (Kd.R_far (p := ⟨gb403, 0, none⟩) (Kd.R_types (Kd.R_types HO390.out BK403.out (by decide)) BK387.out (by decide)) (fun _ hk => hk.1.2) (.slice Ao38 t396.length co38)) (fun _ hk => hk.1.2) (.slice Ao43 t399.length co43)) (fun _ hk => hk.2) (.int .i64 5)) (fun _ h_ => h_.1)) (fun _ h_ => h_.1)))); (case side2 => exact (Kd.R_reads' HO390.out).2.1); (case side3 => refine (Kd.R_reads' (e := 64) (base := w.heap.size) (ok := fun k_ => ((True ∧ some k_ ≠ (.slice Ao23 t382.length co23 : Value).ownBlock) ∧ some k_ ≠ (.slice Ao43 t399.length co43 : Value).ownBlock)) (n := t391.length) (c := co34) ?_).2.2; exact (My.dR (Kd.R_mono (Kd.R_mono (Kd.R_far (p := ⟨gb387, 2, none⟩) (Kd.R_far (p := ⟨gb403, 1, none⟩) (Kd.R_far (p := ⟨gb403, 0, none⟩) (Kd.R_types (Kd.R_types HO393.out BK403.out (by decide)) BK387.out (by decide)) (fun _ hk => hk.1.2) (.slice Ao38 t396.length co38)) (fun _ hk => hk.1.2) (.slice Ao43 t399.length co43)) (fun _ hk => hk.2) (.int .i64 5)) (fun _ h_ => h_.1)) (fun _ h_ => h_.1)))); (case side4 => exact (Kd.R_reads' HO393.out).2.1); rintro e w46 ⟨v405, v408, rfl, ho0, ho1, hb⟩; refine ⟨_, rfl, ?_⟩; have HO406 := My.am (Kd.R_lower (Kd.R_new' (Kd.R_new' (Kd.R_new' ho0 (Kd.R_lt (My.dR (Kd.R_mono (Kd.R_mono (Kd.R_far (p := ⟨gb387, 2, none⟩) (Kd.R_far (p := ⟨gb403, 1, none⟩) (Kd.R_far (p := ⟨gb403, 0, none⟩) (Kd.R_types (Kd.R_types HO381.out BK403.out (by decide)) BK387.out (by decide)) (fun _ hk => hk.1.2) (.slice Ao38 t396.length co38)) (fun _ hk => hk.1.2) (.slice Ao43 t399.length co43)) (fun _ hk => hk.2) (.int .i64 5)) (fun _ h_ => h_.1)) (fun _ h_ => h_.1))))) (Kd.R_lt (My.dR (Kd.R_mono (Kd.R_mono (Kd.R_far (p := ⟨gb387, 2, none⟩) (Kd.R_far (p := ⟨gb403, 1, none⟩) (Kd.R_far (p := ⟨gb403, 0, none⟩) (Kd.R_types (Kd.R_types HO390.out BK403.out (by decide)) BK387.out (by decide)) (fun _ hk => hk.1.2) (.slice Ao38 t396.length co38)) (fun _ hk => hk.1.2) (.slice Ao43 t399.length co43)) (fun _ hk => hk.2) (.int .i64 5)) (fun _ h_ => h_.1)) (fun _ h_ => h_.1))))) (Kd.R_lt (My.dR (Kd.R_mono (Kd.R_mono (Kd.R_far (p := ⟨gb387, 2, none⟩) (Kd.R_far (p := ⟨gb403, 1, none⟩) (Kd.R_far (p := ⟨gb403, 0, none⟩) (Kd.R_types (Kd.R_types HO398.out BK403.out (by decide)) BK387.out (by decide)) (fun _ hk => hk.1.2) (.slice Ao38 t396.length co38)) (fun _ hk => hk.1.2) (.slice Ao43 t399.length co43)) (fun _ hk => hk.2) (.int .i64 5)) (fun _ h_ => h_.1)) (fun _ h_ => h_.1))))) (below_size (My.bl_ HB))); replace HO381 := My.am (Kd.R_elder' (My.dR (Kd.R_mono (Kd.R_mono (Kd.R_far (p := ⟨gb387, 2, none⟩) (Kd.R_far (p := ⟨gb403, 1, none⟩) (Kd.R_far (p := ⟨gb403, 0, none⟩) (Kd.R_types (Kd.R_types HO381.out BK403.out (by decide)) BK387.out (by decide)) (fun _ hk => hk.1.2) (.slice Ao38 t396.length co38)) (fun _ hk => hk.1.2) (.slice Ao43 t399.length co43)) (fun _ hk => hk.2) (.int .i64 5)) (fun _ h_ => h_.1)) (fun _ h_ => h_.1))) (Kd.R_base ho0) hb); replace HO390 := My.am (Kd.R_elder' (My.dR (Kd.R_mono (Kd.R_mono (Kd.R_far (p := ⟨gb387, 2, none⟩) (Kd.R_far (p := ⟨gb403, 1, none⟩) (Kd.R_far (p := ⟨gb403, 0, none⟩) (Kd.R_types (Kd.R_types HO390.out BK403.out (by decide)) BK387.out (by decide)) (fun _ hk => hk.1.2) (.slice Ao38 t396.length co38)) (fun _ hk => hk.1.2) (.slice Ao43 t399.length co43)) (fun _ hk => hk.2) (.int .i64 5)) (fun _ h_ => h_.1)) (fun _ h_ => h_.1))) (Kd.R_base ho0) hb); replace HO398 := My.am (Kd.R_elder' (My.dR (Kd.R_mono (Kd.R_mono (Kd.R_far (p := ⟨gb387, 2, none⟩) (Kd.R_far (p := ⟨gb403, 1, none⟩) (Kd.R_far (p := ⟨gb403, 0, none⟩) (Kd.R_types (Kd.R_types HO398.out BK403.out (by decide)) BK387.out (by decide)) (fun _ hk => hk.1.2) (.slice Ao38 t396.length co38)) (fun _ hk => hk.1.2) (.slice Ao43 t399.length co43)) (fun _ hk => hk.2) (.int .i64 5)) (fun _ h_ => h_.1)) (fun _ h_ => h_.1))) (Kd.R_base ho0) hb); have HO409 := My.am (Kd.R_lower (Kd.R_new' (Kd.R_new' (Kd.R_new' ho1 (Kd.R_lt (My.dR (Kd.R_mono (Kd.R_mono (Kd.R_far (p := ⟨gb387, 2, none⟩) (Kd.R_far (p := ⟨gb403, 1, none⟩) (Kd.R_far (p := ⟨gb403, 0, none⟩) (Kd.R_types (Kd.R_types HO384.out BK403.out (by decide)) BK387.out (by decide)) (fun _ hk => hk.1.2) (.slice Ao38 t396.length co38)) (fun _ hk => hk.1.2) (.slice Ao43 t399.length co43)) (fun _ hk => hk.2) (.int .i64 5)) (fun _ h_ => h_.1)) (fun _ h_ => h_.1))))) (Kd.R_lt (My.dR (Kd.R_mono (Kd.R_mono (Kd.R_far (p := ⟨gb387, 2, none⟩) (Kd.R_far (p := ⟨gb403, 1, none⟩) (Kd.R_far (p := ⟨gb403, 0, none⟩) (Kd.R_types (Kd.R_types HO393.out BK403.out (by decide)) BK387.out (by decide)) (fun _ hk => hk.1.2) (.slice Ao38 t396.length co38)) (fun _ hk => hk.1.2) (.slice Ao43 t399.length co43)) (fun _ hk => hk.2) (.int .i64 5)) (fun _ h_ => h_.1)) (fun _ h_ => h_.1))))) (Kd.R_lt (My.dR (Kd.R_mono (Kd.R_mono (Kd.R_far (p := ⟨gb387, 2, none⟩) (Kd.R_far (p := ⟨gb403, 1, none⟩) (Kd.R_far (p := ⟨gb403, 0, none⟩) (Kd.R_types (Kd.R_types HO401.out BK403.out (by decide)) BK387.out (by decide)) (fun _ hk => hk.1.2) (.slice Ao38 t396.length co38)) (fun _ hk => hk.1.2) (.slice Ao43 t399.length co43)) (fun _ hk => hk.2) (.int .i64 5)) (fun _ h_ => h_.1)) (fun _ h_ => h_.1))))) (below_size (My.bl_ HB))); replace HO384 := My.am (Kd.R_elder' (My.dR (Kd.R_mono (Kd.R_mono (Kd.R_far (p := ⟨gb387, 2, none⟩) (Kd.R_far (p := ⟨gb403, 1, none⟩) (Kd.R_far (p := ⟨gb403, 0, none⟩) (Kd.R_types (Kd.R_types HO384.out BK403.out (by decide)) BK387.out (by decide)) (fun _ hk => hk.1.2) (.slice Ao38 t396.length co38)) (fun _ hk => hk.1.2) (.slice Ao43 t399.length co43)) (fun _ hk => hk.2) (.int .i64 5)) (fun _ h_ => h_.1)) (fun _ h_ => h_.1))) (Kd.R_base ho1) hb); replace HO393 := My.am (Kd.R_elder' (My.dR (Kd.R_mono (Kd.R_mono (Kd.R_far (p := ⟨gb387, 2, none⟩) (Kd.R_far (p := ⟨gb403, 1, none⟩) (Kd.R_far (p := ⟨gb403, 0, none⟩) (Kd.R_types (Kd.R_types HO393.out BK403.out (by decide)) BK387.out (by decide)) (fun _ hk => hk.1.2) (.slice Ao38 t396.length co38)) (fun _ hk => hk.1.2) (.slice Ao43 t399.length co43)) (fun _ hk => hk.2) (.int .i64 5)) (fun _ h_ => h_.1)) (fun _ h_ => h_.1))) (Kd.R_base ho1) hb); replace HO401 := My.am (Kd.R_elder' (My.dR (Kd.R_mono (Kd.R_mono (Kd.R_far (p := ⟨gb387, 2, none⟩) (Kd.R_far (p := ⟨gb403, 1, none⟩) (Kd.R_far (p := ⟨gb403, 0, none⟩) (Kd.R_types (Kd.R_types HO401.out BK403.out (by decide)) BK387.out (by decide)) (fun _ hk => hk.1.2) (.slice Ao38 t396.length co38)) (fun _ hk => hk.1.2) (.slice Ao43 t399.length co43)) (fun _ hk => hk.2) (.int .i64 5)) (fun _ h_ => h_.1)) (fun _ h_ => h_.1))) (Kd.R_base ho1) hb); replace BK386 := My.am (blk_below (g := gb386) (o := .cells #[.slice Ao21 t379.length co21, .slice Ao23 t382.length co23] 25 (0, 0)) ((My.sv_ BK386)) hb); replace BK387 := My.am (blk_below (g := gb387) (o := .cells #[.int .i64 1, .string (⟨#[99, 97, 115, 104]⟩ : ByteArray), .int .i64 5] 27 (0, 0)) ((My.sv_ BK387)) hb); replace BK395 := My.am (blk_below (g := gb395) (o := .cells #[.slice Ao30 t388.length co30, .slice Ao34 t391.length co34] 25 (0, 0)) ((My.sv_ BK395)) hb); replace BK403 := My.am (blk_below (g := gb403) (o := .cells #[.slice Ao38 t396.length co38, .slice Ao43 t399.length co43] 25 (0, 0)) ((My.sv_ BK403)) hb); replace HB := My.st HB hb; (try clear hb); (try clear ho0); (try clear ho1)) | ((with_reducible refine gate_dst (N := 8) rfl ?_); (try (refine gate_guard (by rfl) ?_; dsimp only)); refine My.bx 8 #[.slice none 0 0, .slice none 0 0] 25 ?_; intro gb411 hg w47 hbox hb; replace HO381 := My.am (Kd.R_below (My.dr HO381.out) hb); replace HO384 := My.am (Kd.R_below (My.dr HO384.out) hb); replace HO390 := My.am (Kd.R_below (My.dr HO390.out) hb); replace HO393 := My.am (Kd.R_below (My.dr HO393.out) hb); replace HO398 := My.am (Kd.R_below (My.dr HO398.out) hb); replace HO401 := My.am (Kd.R_below (My.dr HO401.out) hb); replace HO406 := My.am (Kd.R_below (My.dr HO406.out) hb); replace HO409 := My.am (Kd.R_below (My.dr HO409.out) hb); have BK411 := My.am (hbox); have GE411 := My.nge hg (My.bl_ HB); replace HB := My.st HB hb; obtain ⟨NB386_411, NB411_386, BK386⟩ := My.nb hg hb BK386; obtain ⟨NB387_411, NB411_387, BK387⟩ := My.nb hg hb BK387; obtain ⟨NB395_411, NB411_395, BK395⟩ := My.nb hg hb BK395; obtain ⟨NB403_411, NB411_403, BK403⟩ := My.nb hg hb BK403; clear hb hbox hg; obtain ⟨Ao48, co48, eo48⟩ := Kd.R_slice HO406.out; subst eo48; have hnb49 := NB411_386.out; have hnc49 := NB386_411.out; have hnb50 := NB411_387.out; have hnc50 := NB387_411.out; have hnb51 := NB411_395.out; have hnc51 := NB395_411.out; have hnb52 := NB411_403.out; have hnc52 := NB403_411.out; have hq53 := My.cz2 BK411; obtain ⟨Ao54, co54, eo54⟩ := Kd.R_slice HO409.out; subst eo54; have hq55 := My.cz2 BK395) | ((with_reducible refine gate_callee (f := 14) rfl ?_); refine goesL_ (some 41) rfl rfl Try.func14 (by kernel_rfl) rfl #[.agg #[.slice Ao30 t388.length co30, .slice Ao34 t391.length co34], .string (⟨#[107]⟩ : ByteArray)] rfl My.gx ?_; (with_reducible refine (ledger_Undo.calls k _ _ t388 _ _ t391 (⟨#[107]⟩ : ByteArray) t412 t415 t418 _ ?side1 ?side2 ?side3 ?side4 A5.out).mono ?_); (case side1 => refine (Kd.R_reads' (e := 51) (base := w.heap.size) (ok := fun k_ => (((True ∧ some k_ ≠ (.slice Ao21 t379.length co21 : Value).ownBlock) ∧ some k_ ≠ (.slice Ao38 t396.length co38 : Value).ownBlock) ∧ some k_ ≠ (.slice Ao48 t404.length co48 : Value).ownBlock)) (n := t388.length) (c := co30) ?_).2.2; exact (My.dR (My.rf2 gb411 (.slice Ao48 t404.length co48) (.slice Ao54 t407.length co54) (Kd.R_types HO390.out BK411.out (by decide))))); (case side2 => exact (Kd.R_reads' HO390.out).2.1); (case side3 => refine (Kd.R_reads' (e := 64) (base := w.heap.size) (ok := fun k_ => (((True ∧ some k_ ≠ (.slice Ao23 t382.length co23 : Value).ownBlock) ∧ some k_ ≠ (.slice Ao43 t399.length co43 : Value).ownBlock) ∧ some k_ ≠ (.slice Ao54 t407.length co54 : Value).ownBlock)) (n := t391.length) (c := co34) ?_).2.2; exact (My.dR (My.rf2 gb411 (.slice Ao48 t404.length co48) (.slice Ao54 t407.length co54) (Kd.R_types HO393.out BK411.out (by decide))))); (case side4 => exact (Kd.R_reads' HO393.out).2.1); rintro e w56 ⟨v413, v416, rfl, ho0, ho1, hb⟩; refine ⟨_, rfl, ?_⟩; have HO414 := My.am (Kd.R_lower (Kd.R_new' (Kd.R_new' (Kd.R_new' (Kd.R_new' ho0 (Kd.R_lt (My.dR (My.rf2 gb411 (.slice Ao48 t404.length co48) (.slice Ao54 t407.length co54) (Kd.R_types HO381.out BK411.out (by decide)))))) (Kd.R_lt (My.dR (My.rf2 gb411 (.slice Ao48 t404.length co48) (.slice Ao54 t407.length co54) (Kd.R_types HO390.out BK411.out (by decide)))))) (Kd.R_lt (My.dR (My.rf2 gb411 (.slice Ao48 t404.length co48) (.slice Ao54 t407.length co54) (Kd.R_types HO398.out BK411.out (by decide)))))) (Kd.R_lt (My.dR (My.rf2 gb411 (.slice Ao48 t404.length co48) (.slice Ao54 t407.length co54) (Kd.R_types HO406.out BK411.out (by decide)))))) (below_size (My.bl_ HB))); replace HO381 := My.am (Kd.R_elder' (My.dR (My.rf2 gb411 (.slice Ao48 t404.length co48) (.slice Ao54 t407.length co54) (Kd.R_types HO381.out BK411.out (by decide)))) (Kd.R_base ho0) hb); replace HO390 := My.am (Kd.R_elder' (My.dR (My.rf2 gb411 (.slice Ao48 t404.length co48) (.slice Ao54 t407.length co54) (Kd.R_types HO390.out BK411.out (by decide)))) (Kd.R_base ho0) hb); replace HO398 := My.am (Kd.R_elder' (My.dR (My.rf2 gb411 (.slice Ao48 t404.length co48) (.slice Ao54 t407.length co54) (Kd.R_types HO398.out BK411.out (by decide)))) (Kd.R_base ho0) hb); replace HO406 := My.am (Kd.R_elder' (My.dR (My.rf2 gb411 (.slice Ao48 t404.length co48) (.slice Ao54 t407.length co54) (Kd.R_types HO406.out BK411.out (by decide)))) (Kd.R_base ho0) hb); have HO417 := My.am (Kd.R_lower (Kd.R_new' (Kd.R_new' (Kd.R_new' (Kd.R_new' ho1 (Kd.R_lt (My.dR (My.rf2 gb411 (.slice Ao48 t404.length co48) (.slice Ao54 t407.length co54) (Kd.R_types HO384.out BK411.out (by decide)))))) (Kd.R_lt (My.dR (My.rf2 gb411 (.slice Ao48 t404.length co48) (.slice Ao54 t407.length co54) (Kd.R_types HO393.out BK411.out (by decide)))))) (Kd.R_lt (My.dR (My.rf2 gb411 (.slice Ao48 t404.length co48) (.slice Ao54 t407.length co54) (Kd.R_types HO401.out BK411.out (by decide)))))) (Kd.R_lt (My.dR (My.rf2 gb411 (.slice Ao48 t404.length co48) (.slice Ao54 t407.length co54) (Kd.R_types HO409.out BK411.out (by decide)))))) (below_size (My.bl_ HB))); replace HO393 := My.am (Kd.R_elder' (My.dR (My.rf2 gb411 (.slice Ao48 t404.length co48) (.slice Ao54 t407.length co54) (Kd.R_types HO393.out BK411.out (by decide)))) (Kd.R_base ho1) hb); replace HO401 := My.am (Kd.R_elder' (My.dR (My.rf2 gb411 (.slice Ao48 t404.length co48) (.slice Ao54 t407.length co54) (Kd.R_types HO401.out BK411.out (by decide)))) (Kd.R_base ho1) hb); replace BK386 := My.am (blk_below (g := gb386) (o := .cells #[.slice Ao21 t379.length co21, .slice Ao23 t382.length co23] 25 (0, 0)) ((My.sv_ BK386)) hb); replace BK387 := My.am (blk_below (g := gb387) (o := .cells #[.int .i64 1, .string (⟨#[99, 97, 115, 104]⟩ : ByteArray), .int .i64 5] 27 (0, 0)) ((My.sv_ BK387)) hb); replace BK395 := My.am (blk_below (g := gb395) (o := .cells #[.slice Ao30 t388.length co30, .slice Ao34 t391.length co34] 25 (0, 0)) ((My.sv_ BK395)) hb); replace BK403 := My.am (blk_below (g := gb403) (o := .cells #[.slice Ao38 t396.length co38, .slice Ao43 t399.length co43] 25 (0, 0)) ((My.sv_ BK403)) hb); replace BK411 := My.am (blk_below (g := gb411) (o := .cells #[.slice Ao48 t404.length co48, .slice Ao54 t407.length co54] 25 (0, 0)) ((My.sv_ BK411)) hb); replace HB := My.st HB hb; (try clear hb); (try clear ho0); (try clear ho1)) | ((with_reducible refine gate_dst (N := 10) rfl ?_); (try (refine gate_guard (by rfl) ?_; dsimp only)); refine My.bx 10 #[.slice none 0 0, .slice none 0 0] 25 ?_; intro gb419 hg w57 hbox hb; replace HO381 := My.am (Kd.R_below (My.dr HO381.out) hb); replace HO390 := My.am (Kd.R_below (My.dr HO390.out) hb); replace HO393 := My.am (Kd.R_below (My.dr HO393.out) hb); replace HO398 := My.am (Kd.R_below (My.dr HO398.out) hb); replace HO401 := My.am (Kd.R_below (My.dr HO401.out) hb); replace HO406 := My.am (Kd.R_below (My.dr HO406.out) hb); replace HO414 := My.am (Kd.R_below (My.dr HO414.out) hb); replace HO417 := My.am (Kd.R_below (My.dr HO417.out) hb); have BK419 := My.am (hbox); have GE419 := My.nge hg (My.bl_ HB); replace HB := My.st HB hb; obtain ⟨NB386_419, NB419_386, BK386⟩ := My.nb hg hb BK386; obtain ⟨NB387_419, NB419_387, BK387⟩ := My.nb hg hb BK387; obtain ⟨NB395_419, NB419_395, BK395⟩ := My.nb hg hb BK395; obtain ⟨NB403_419, NB419_403, BK403⟩ := My.nb hg hb BK403; obtain ⟨NB411_419, NB419_411, BK411⟩ := My.nb hg hb BK411; clear hb hbox hg; obtain ⟨Ao58, co58, eo58⟩ := Kd.R_slice HO414.out; subst eo58; have hnb59 := NB419_386.out; have hnc59 := NB386_419.out; have hnb60 := NB419_387.out; have hnc60 := NB387_419.out; have hnb61 := NB419_395.out; have hnc61 := NB395_419.out; have hnb62 := NB419_403.out; have hnc62 := NB403_419.out; have hnb63 := NB419_411.out; have hnc63 := NB411_419.out; have hq64 := My.cz2 BK419; obtain ⟨Ao65, co65, eo65⟩ := Kd.R_slice HO417.out; subst eo65; have hq66 := My.cz2 BK395) | ((with_reducible refine gate_callee (f := 21) rfl ?_); refine goesL_ (some 46) rfl rfl Try.func21 (by kernel_rfl) rfl #[.agg #[.slice Ao30 t388.length co30, .slice Ao34 t391.length co34], .string (⟨#[99, 97, 115, 104]⟩ : ByteArray)] rfl My.gx ?_; (with_reducible refine (ledger_Find.calls k _ _ t388 _ _ t391 (⟨#[99, 97, 115, 104]⟩ : ByteArray) t420 t421 t422 t423 t424 t425 t426 true _ ?side1 ?side2 ?side3 ?side4 A6.out).mono ?_); (case side1 => refine (Kd.R_reads' (e := 51) (base := w.heap.size) (ok := fun k_ => ((((True ∧ some k_ ≠ (.slice Ao21 t379.length co21 : Value).ownBlock) ∧ some k_ ≠ (.slice Ao38 t396.length co38 : Value).ownBlock) ∧ some k_ ≠ (.slice Ao48 t404.length co48 : Value).ownBlock) ∧ some k_ ≠ (.slice Ao58 t412.length co58 : Value).ownBlock)) (n := t388.length) (c := co30) ?_).2.2; exact (My.dR (My.rf2 gb419 (.slice Ao58 t412.length co58) (.slice Ao65 t415.length co65) (Kd.R_types HO390.out BK419.out (by decide))))); (case side2 => exact (Kd.R_reads' HO390.out).2.1); (case side3 => refine (Kd.R_reads' (e := 64) (base := w.heap.size) (ok := fun k_ => ((((True ∧ some k_ ≠ (.slice Ao23 t382.length co23 : Value).ownBlock) ∧ some k_ ≠ (.slice Ao43 t399.length co43 : Value).ownBlock) ∧ some k_ ≠ (.slice Ao54 t407.length co54 : Value).ownBlock) ∧ some k_ ≠ (.slice Ao65 t415.length co65 : Value).ownBlock)) (n := t391.length) (c := co34) ?_).2.2; exact (My.dR (My.rf2 gb419 (.slice Ao58 t412.length co58) (.slice Ao65 t415.length co65) (Kd.R_types HO393.out BK419.out (by decide))))); (case side4 => exact (Kd.R_reads' HO393.out).2.1); rintro e w67 ⟨rfl, hb⟩; refine ⟨_, rfl, ?_⟩; replace HO381 := My.am (Kd.R_below (My.dR (My.rf2 gb419 (.slice Ao58 t412.length co58) (.slice Ao65 t415.length co65) (Kd.R_types HO381.out BK419.out (by decide)))) hb); replace HO390 := My.am (Kd.R_below (My.dR (My.rf2 gb419 (.slice Ao58 t412.length co58) (.slice Ao65 t415.length co65) (Kd.R_types HO390.out BK419.out (by decide)))) hb); replace HO393 := My.am (Kd.R_below (My.dR (My.rf2 gb419 (.slice Ao58 t412.length co58) (.slice Ao65 t415.length co65) (Kd.R_types HO393.out BK419.out (by decide)))) hb); replace HO398 := My.am (Kd.R_below (My.dR (My.rf2 gb419 (.slice Ao58 t412.length co58) (.slice Ao65 t415.length co65) (Kd.R_types HO398.out BK419.out (by decide)))) hb); replace HO401 := My.am (Kd.R_below (My.dR (My.rf2 gb419 (.slice Ao58 t412.length co58) (.slice Ao65 t415.length co65) (Kd.R_types HO401.out BK419.out (by decide)))) hb); replace HO406 := My.am (Kd.R_below (My.dR (My.rf2 gb419 (.slice Ao58 t412.length co58) (.slice Ao65 t415.length co65) (Kd.R_types HO406.out BK419.out (by decide)))) hb); replace HO414 := My.am (Kd.R_below (My.dR (My.rf2 gb419 (.slice Ao58 t412.length co58) (.slice Ao65 t415.length co65) (Kd.R_types HO414.out BK419.out (by decide)))) hb); replace HO417 := My.am (Kd.R_below (My.dR (My.rf2 gb419 (.slice Ao58 t412.length co58) (.slice Ao65 t415.length co65) (Kd.R_types HO417.out BK419.out (by decide)))) hb); replace BK386 := My.am (blk_below (g := gb386) (o := .cells #[.slice Ao21 t379.length co21, .slice Ao23 t382.length co23] 25 (0, 0)) ((My.sv_ BK386)) hb); replace BK387 := My.am (blk_below (g := gb387) (o := .cells #[.int .i64 1, .string (⟨#[99, 97, 115, 104]⟩ : ByteArray), .int .i64 5] 27 (0, 0)) ((My.sv_ BK387)) hb); replace BK395 := My.am (blk_below (g := gb395) (o := .cells #[.slice Ao30 t388.length co30, .slice Ao34 t391.length co34] 25 (0, 0)) ((My.sv_ BK395)) hb); replace BK403 := My.am (blk_below (g := gb403) (o := .cells #[.slice Ao38 t396.length co38, .slice Ao43 t399.length co43] 25 (0, 0)) ((My.sv_ BK403)) hb); replace BK411 := My.am (blk_below (g := gb411) (o := .cells #[.slice Ao48 t404.length co48, .slice Ao54 t407.length co54] 25 (0, 0)) ((My.sv_ BK411)) hb); replace BK419 := My.am (blk_below (g := gb419) (o := .cells #[.slice Ao58 t412.length co58, .slice Ao65 t415.length co65] 25 (0, 0)) ((My.sv_ BK419)) hb); replace HB := My.st HB hb; (try clear hb)) | ((with_reducible refine gate_dst (N := 12) rfl ?_); (try (refine gate_guard (by rfl) ?_; dsimp only)); refine My.bx 12 #[.string (⟨#[]⟩ : ByteArray), .int .i64 0, .int .i64 0, .int .i64 0, .int .i64 0, .int .i64 0, .int .i64 0] 51 ?_; intro gb428 hg w68 hbox hb; replace HO381 := My.am (Kd.R_below (Kd.R_elderB (My.dr HO381.out) gb428 (Nat.le_of_eq hg.symm)) hb); replace HO390 := My.am (Kd.R_below (Kd.R_elderB (My.dr HO390.out) gb428 (Nat.le_of_eq hg.symm)) hb); replace HO393 := My.am (Kd.R_below (My.dr HO393.out) hb); replace HO398 := My.am (Kd.R_below (Kd.R_elderB (My.dr HO398.out) gb428 (Nat.le_of_eq hg.symm)) hb); replace HO401 := My.am (Kd.R_below (My.dr HO401.out) hb); replace HO406 := My.am (Kd.R_below (Kd.R_elderB (My.dr HO406.out) gb428 (Nat.le_of_eq hg.symm)) hb); replace HO414 := My.am (Kd.R_below (Kd.R_elderB (My.dr HO414.out) gb428 (Nat.le_of_eq hg.symm)) hb); replace HO417 := My.am (Kd.R_below (My.dr HO417.out) hb); have BK428 := My.am (hbox); have GE428 := My.nge hg (My.bl_ HB); replace HB := My.st HB hb; have NB386_428 := My.nlt hg (My.at_ BK386); have NB428_386 := My.ngt hg (My.at_ BK386); have NB387_428 := My.nlt hg (My.at_ BK387); have NB428_387 := My.ngt hg (My.at_ BK387); obtain ⟨NB395_428, NB428_395, BK395⟩ := My.nb hg hb BK395; obtain ⟨NB403_428, NB428_403, BK403⟩ := My.nb hg hb BK403; have NB411_428 := My.nlt hg (My.at_ BK411); have NB428_411 := My.ngt hg (My.at_ BK411); obtain ⟨NB419_428, NB428_419, BK419⟩ := My.nb hg hb BK419; clear hb hbox hg; have hnb69 := NB428_386.out; have hnc69 := NB386_428.out; have hnb70 := NB428_387.out; have hnc70 := NB387_428.out; have hnb71 := NB428_395.out; have hnc71 := NB395_428.out; have hnb72 := NB428_403.out; have hnc72 := NB403_428.out; have hnb73 := NB428_411.out; have hnc73 := NB411_428.out; have hnb74 := NB428_419.out; have hnc74 := NB419_428.out; have hq75 := My.cz7 BK428; have hq76 := My.cz2 BK395; have hq77 := My.cz2 BK403) | (go_at_call 17; (with_reducible refine (ententeref07_Same.calls k _ _ t388 _ _ t391 _ _ t396 _ _ t399 true _ ?side1 ?side2 ?side3 ?side4 ?side5 ?side6 ?side7 ?side8 A10.out).mono ?_); (case side1 => refine (Kd.R_reads' (e := 51) (base := w.heap.size) (ok := fun k_ => (((((True ∧ some k_ ≠ (.slice Ao21 t379.length co21 : Value).ownBlock) ∧ some k_ ≠ (.slice Ao38 t396.length co38 : Value).ownBlock) ∧ some k_ ≠ (.slice Ao48 t404.length co48 : Value).ownBlock) ∧ some k_ ≠ (.slice Ao58 t412.length co58 : Value).ownBlock) ∧ k_ ≠ gb428)) (n := t388.length) (c := co30) ?_).2.2; exact (My.dR (My.rf7 gb428 (.string t420) (.int .i64 t421) (.int .i64 t422) (.int .i64 t423) (.int .i64 t424) (.int .i64 t425) (.int .i64 t426) (Kd.R_mono HO390.out (fun k_ hk => (⟨hk, hk.2⟩ : _ ∧ k_ ≠ gb428)))))); (case side2 => exact (Kd.R_reads' HO390.out).2.1); (case side3 => refine (Kd.R_reads' (e := 64) (base := w.heap.size) (ok := fun k_ => ((((True ∧ some k_ ≠ (.slice Ao23 t382.length co23 : Value).ownBlock) ∧ some k_ ≠ (.slice Ao43 t399.length co43 : Value).ownBlock) ∧ some k_ ≠ (.slice Ao54 t407.length co54 : Value).ownBlock) ∧ some k_ ≠ (.slice Ao65 t415.length co65 : Value).ownBlock)) (n := t391.length) (c := co34) ?_).2.2; exact (My.dR (My.rf7 gb428 (.string t420) (.int .i64 t421) (.int .i64 t422) (.int .i64 t423) (.int .i64 t424) (.int .i64 t425) (.int .i64 t426) (Kd.R_types HO393.out BK428.out (by decide))))); (case side4 => exact (Kd.R_reads' HO393.out).2.1); (case side5 => refine (Kd.R_reads' (e := 51) (base := w.heap.size) (ok := fun k_ => (((((True ∧ some k_ ≠ (.slice Ao21 t379.length co21 : Value).ownBlock) ∧ some k_ ≠ (.slice Ao30 t388.length co30 : Value).ownBlock) ∧ some k_ ≠ (.slice Ao48 t404.length co48 : Value).ownBlock) ∧ some k_ ≠ (.slice Ao58 t412.length co58 : Value).ownBlock) ∧ k_ ≠ gb428)) (n := t396.length) (c := co38) ?_).2.2; exact (My.dR (My.rf7 gb428 (.string t420) (.int .i64 t421) (.int .i64 t422) (.int .i64 t423) (.int .i64 t424) (.int .i64 t425) (.int .i64 t426) (Kd.R_mono HO398.out (fun k_ hk => (⟨hk, hk.2⟩ : _ ∧ k_ ≠ gb428)))))); (case side6 => exact (Kd.R_reads' HO398.out).2.1); (case side7 => refine (Kd.R_reads' (e := 64) (base := w.heap.size) (ok := fun k_ => ((((True ∧ some k_ ≠ (.slice Ao23 t382.length co23 : Value).ownBlock) ∧ some k_ ≠ (.slice Ao34 t391.length co34 : Value).ownBlock) ∧ some k_ ≠ (.slice Ao54 t407.length co54 : Value).ownBlock) ∧ some k_ ≠ (.slice Ao65 t415.length co65 : Value).ownBlock)) (n := t399.length) (c := co43) ?_).2.2; exact (My.dR (My.rf7 gb428 (.string t420) (.int .i64 t421) (.int .i64 t422) (.int .i64 t423) (.int .i64 t424) (.int .i64 t425) (.int .i64 t426) (Kd.R_types HO401.out BK428.out (by decide))))); (case side8 => exact (Kd.R_reads' HO401.out).2.1); rintro e w78 ⟨rfl, hb⟩; replace HO381 := My.am (Kd.R_below (My.dR (My.rf7 gb428 (.string t420) (.int .i64 t421) (.int .i64 t422) (.int .i64 t423) (.int .i64 t424) (.int .i64 t425) (.int .i64 t426) (Kd.R_mono HO381.out (fun k_ hk => (⟨hk, hk.2⟩ : _ ∧ k_ ≠ gb428))))) hb); replace HO390 := My.am (Kd.R_below (My.dR (My.rf7 gb428 (.string t420) (.int .i64 t421) (.int .i64 t422) (.int .i64 t423) (.int .i64 t424) (.int .i64 t425) (.int .i64 t426) (Kd.R_mono HO390.out (fun k_ hk => (⟨hk, hk.2⟩ : _ ∧ k_ ≠ gb428))))) hb); replace HO398 := My.am (Kd.R_below (My.dR (My.rf7 gb428 (.string t420) (.int .i64 t421) (.int .i64 t422) (.int .i64 t423) (.int .i64 t424) (.int .i64 t425) (.int .i64 t426) (Kd.R_mono HO398.out (fun k_ hk => (⟨hk, hk.2⟩ : _ ∧ k_ ≠ gb428))))) hb); replace HO406 := My.am (Kd.R_below (My.dR (My.rf7 gb428 (.string t420) (.int .i64 t421) (.int .i64 t422) (.int .i64 t423) (.int .i64 t424) (.int .i64 t425) (.int .i64 t426) (Kd.R_mono HO406.out (fun k_ hk => (⟨hk, hk.2⟩ : _ ∧ k_ ≠ gb428))))) hb); replace HO414 := My.am (Kd.R_below (My.dR (My.rf7 gb428 (.string t420) (.int .i64 t421) (.int .i64 t422) (.int .i64 t423) (.int .i64 t424) (.int .i64 t425) (.int .i64 t426) (Kd.R_mono HO414.out (fun k_ hk => (⟨hk, hk.2⟩ : _ ∧ k_ ≠ gb428))))) hb); replace HO417 := My.am (Kd.R_below (My.dR (My.rf7 gb428 (.string t420) (.int .i64 t421) (.int .i64 t422) (.int .i64 t423) (.int .i64 t424) (.int .i64 t425) (.int .i64 t426) (Kd.R_types HO417.out BK428.out (by decide)))) hb); replace BK419 := My.am (blk_below (g := gb419) (o := .cells #[.slice Ao58 t412.length co58, .slice Ao65 t415.length co65] 25 (0, 0)) ((My.sv_ BK419)) hb); replace BK428 := My.am (blk_below (g := gb428) (o := .cells #[.string t420, .int .i64 t421, .int .i64 t422, .int .i64 t423, .int .i64 t424, .int .i64 t425, .int .i64 t426] 51 (0, 0)) ((My.sv_ BK428)) hb); replace HB := My.st HB hb; (try clear hb); have hq79 := My.cz2 BK419) | (go_at_call 26; (with_reducible refine (ledger_State.calls k _ _ t412 _ _ t415 (⟨#[107]⟩ : ByteArray) t430 _ ?side1 ?side2 ?side3 ?side4 A14.out).mono ?_); (case side1 => repeat (first | exact (Kd.R_reads' HO414.out).2.2 | (with_reducible refine Kd.C_alloc ?_ _) | (with_reducible refine Kd.C_drewN ?_ _) | (with_reducible refine Kd.C_drew ?_))); (case side2 => exact (Kd.R_reads' HO414.out).2.1); (case side3 => repeat (first | exact (Kd.R_reads' HO417.out).2.2 | (with_reducible refine Kd.C_alloc ?_ _) | (with_reducible refine Kd.C_drewN ?_ _) | (with_reducible refine Kd.C_drew ?_))); (case side4 => exact (Kd.R_reads' HO417.out).2.1); rintro e w80 ⟨rfl, hb⟩; replace HO381 := My.am (Kd.R_below (My.dr HO381.out) hb); replace HO390 := My.am (Kd.R_below (My.dr HO390.out) hb); replace HO398 := My.am (Kd.R_below (My.dr HO398.out) hb); replace HO406 := My.am (Kd.R_below (My.dr HO406.out) hb); replace HO414 := My.am (Kd.R_below (My.dr HO414.out) hb); replace BK428 := My.ab BK428 hb; replace HB := My.st HB hb; (try clear hb); have hq81 := My.cz7 BK428) | ((with_reducible refine gate_dst (N := 88) rfl ?_); (try (refine gate_guard (by rfl) ?_; dsimp only)); refine Kd.R_lit k51 _ 51 ?hg (N := 88) ?hd (xs := ([(⟨(⟨#[]⟩ : ByteArray), (⟨0, 0, 0⟩ : S49), (⟨0, 0, 0⟩ : S49)⟩ : S51)] : List (S51))) (inner := [.string (⟨#[]⟩ : ByteArray), .int .i64 0, .int .i64 0, .int .i64 0, .int .i64 0, .int .i64 0, .int .i64 0]) (ok := fun _ => True) (okp := fun _ => True) ?hr ?hp (fun _ hk => hk) trivial (Below.refl _ _) (Nat.le_refl _) (by simp) ?_; (case hd => rfl); (case hg => rfl); (case hr => first | (go_simp; done) | (go_simp; rfl)); (case hp => exact (Reps.c7 (show Kd.M k51 _ _ _ (⟨(⟨#[]⟩ : ByteArray), (⟨0, 0, 0⟩ : S49), (⟨0, 0, 0⟩ : S49)⟩ : S51) [.string (⟨#[]⟩ : ByteArray), .int .i64 0, .int .i64 0, .int .i64 0, .int .i64 0, .int .i64 0, .int .i64 0] from (k51_mkM _ _ _ (⟨(⟨#[]⟩ : ByteArray), (⟨0, 0, 0⟩ : S49), (⟨0, 0, 0⟩ : S49)⟩ : S51) )) (Reps.none _ _))); intro v432 w82 ho83 hb hg_ hnew_; clear hg_ hnew_; (first | rw [← Ny431.out] at ho83 | (simp only [Int.reduceToNat] at ho83; rw [← Ny431.out] at ho83)); have HO433 := My.am (Kd.R_lower (Kd.R_newB (Kd.R_new' (Kd.R_new' (Kd.R_new' (Kd.R_new' (Kd.R_new' ho83 (Kd.R_lt (My.dr HO381.out))) (Kd.R_lt (My.dr HO390.out))) (Kd.R_lt (My.dr HO398.out))) (Kd.R_lt (My.dr HO406.out))) (Kd.R_lt (My.dr HO414.out))) (My.at_ BK428)) (below_size (My.bl_ HB))); replace HB := My.st HB hb; clear hb ho83; obtain ⟨Ao84, co84, eo84⟩ := Kd.R_slice HO433.out; subst eo84) | (go_at_call 20; (refine (ledger_May.calls k _ _ y431 _ _ ([] : List (S64)) t434 _ ?side1 ?side2 ?side3 ?side4 A18.out).mono ?_); (case side1 => repeat (first | exact (Kd.R_reads' HO433.out).2.2 | (with_reducible refine Kd.C_alloc ?_ _) | (with_reducible refine Kd.C_drewN ?_ _) | (with_reducible refine Kd.C_drew ?_))); (case side2 => exact (Kd.R_reads' HO433.out).2.1); (case side3 => exact Kd.C_nil _ _); (case side4 => exact Nat.le_refl _); rintro e w85 ⟨rfl, hb⟩; replace HB := My.st HB hb; (try clear hb)))
   go_ret
   exact ⟨My.r2, (My.bl_ HB)⟩
  ·exact My.nn c8 H
 ·exact My.nn c7 H

/-! ### ententelaw07_few: function 18 -/
def ententelaw07_few.l0 : Nat → List (S29) → Int → Option (Bool)
 | 0, _, _ => none
 | k + 1, x0, x3 => if x3 < (x0.length : Int) then (if 0 ≤ x3 then (if (((rd_T29 x0 x3).f1).size : Int) > 1000 then (some false) else (ententelaw07_few.l0 k x0 (wrap64 (x3 + 1)))) else (none)) else (some true)
def ententelaw07_few.f (k : Nat) (l0 : List (S29)) : Option (Bool) := if (l0.length : Int) > 120 then (some false) else (ententelaw07_few.l0 k l0 0)
theorem ententelaw07_few.calls (k : Nat) (A0 : Option Addr) (c0 : Nat) (l0 : List (S29)) (r : Bool) (w : World) (hr0 : Kd.C k29 w A0 l0.length l0) (hc0 : l0.length ≤ c0) (h : ententelaw07_few.f k l0 = some r) :
  Calls Try.prog 18 #[.slice A0 l0.length c0] w fun e w' => e = .returned (.bool r) ∧ Drawn0 w w' := by
 have HR0 := My.am hr0
 have HC0 := My.am hc0
 clear hr0 hc0
 unfold ententelaw07_few.f at h
 have H := h
 clear h
 by_cases c2 : (l0.length : Int) > 120
 ·rw [if_pos c2] at H
  have c2b0 : decide (120 < (l0.length : Int)) = true := decide_eq_true c2
  have c2b1 : decide (120 < l0.length) = true := decide_eq_true (by omega)
  clear c2
  obtain rfl := Option.some.inj H
  go_enter Try.func18, Try.ntmps18
  go_wp2
  go_ret
  exact ⟨by first | rfl | (simp; done) | (simp [*]; done), by repeat (first | exact Drawn0.refl _ | apply Drawn0.step)⟩
 ·rw [if_neg c2] at H
  have c2b0 : decide (120 < (l0.length : Int)) = false := decide_eq_false c2
  have c2b1 : decide (120 < l0.length) = false := decide_eq_false (by omega)
  clear c2
  have H' := My.am H
  clear H
  go_enter Try.func18, Try.ntmps18
  go_wp2
  go_loopg [3] k (fun kq v3 w' => ∃ (x3_1 : Int), v3 = .int .i64 x3_1 ∧ Aside0 (ententelaw07_few.l0 kq l0 x3_1 = some r) ∧ Aside0 (kq ≤ k) ∧ Drawn0 w w')
  case atStart => exact ⟨(0), My.r1, H', ⟨Nat.le_refl _⟩, by repeat (first | exact Drawn0.refl _ | apply Drawn0.step)⟩
  case round =>
   clear H'
   try clear c2
   try clear c2b0
   try clear c2b1
   obtain ⟨x3_1, rfl, HA, HK1, ⟨m1, rfl⟩⟩ := hrel
   cases gk with
   | zero => exact absurd HA.out (by simp [ententelaw07_few.l0])
   | succ k1 =>
    have H := HA.out
    clear HA
    simp only [ententelaw07_few.l0] at H
    by_cases c3 : x3_1 < (l0.length : Int)
    rotate_left
    ·rw [if_neg c3] at H
     have c3b0 := decide_eq_false c3
     clear c3
     obtain rfl := Option.some.inj H
     go_wp2
     go_ret
     exact ⟨by first | rfl | (simp; done) | (simp [*]; done), by repeat (first | exact Drawn0.refl _ | apply Drawn0.step)⟩

    rw [if_pos c3] at H
    have c3b0 := decide_eq_true c3
    clear c3
    replace H := My.ds H
    obtain ⟨c4b0, H⟩ := H
    by_cases c5 : (((rd_T29 l0 x3_1).f1).size : Int) > 1000
    ·rw [if_pos c5] at H
     have c5b0 : decide (1000 < (((rd_T29 l0 x3_1).f1).size : Int)) = true := decide_eq_true c5
     have c5b1 : decide (1000 < ((rd_T29 l0 x3_1).f1).size) = true := decide_eq_true (by omega)
     clear c5
     obtain rfl := Option.some.inj H
     have p435 : 0 ≤ (x3_1 : Int) := My.as_
     have q435 : x3_1 < (l0.length : Int) := My.as_
     obtain ⟨ad435, e435, hx435_0, hx435_1, hx435_2, hx435_3, hx435_4⟩ := at_T29 HR0.out x3_1 p435 q435
     cases e435
     replace p435 := eq_true p435
     replace q435 := eq_true q435
     go_wp2
     go_ret
     exact ⟨by first | rfl | (simp; done) | (simp [*]; done), by repeat (first | exact Drawn0.refl _ | apply Drawn0.step)⟩
    rw [if_neg c5] at H
    have c5b0 : decide (1000 < (((rd_T29 l0 x3_1).f1).size : Int)) = false := decide_eq_false c5
    have c5b1 : decide (1000 < ((rd_T29 l0 x3_1).f1).size) = false := decide_eq_false (by omega)
    clear c5
    have H' := My.am H
    clear H
    have p435 : 0 ≤ (x3_1 : Int) := My.as_
    have q435 : x3_1 < (l0.length : Int) := My.as_
    obtain ⟨ad435, e435, hx435_0, hx435_1, hx435_2, hx435_3, hx435_4⟩ := at_T29 HR0.out x3_1 p435 q435
    cases e435
    replace p435 := eq_true p435
    replace q435 := eq_true q435
    go_wp2
    go_roundg k1
    case measure => have := HK1.out; omega
    case rel => exact ⟨(wrap64 (x3_1 + 1)), My.r1, H', ⟨by have := HK1.out; omega⟩, by repeat (first | exact Drawn0.refl _ | apply Drawn0.step)⟩
/-! ### pot_either_int64: function 91 -/
def pot_either_int64.f (a0 : Bool) (a1 : Int) (a2 : Int) : Option (Int) := if a0 = true then (some a1) else (some a2)
theorem pot_either_int64.calls (a0 : Bool) (a1 : Int) (a2 : Int) (r : Int) (w : World) (h : pot_either_int64.f a0 a1 a2 = some r) :
  Calls Try.prog 91 #[.bool a0, .int .i64 a1, .int .i64 a2] w fun e w' => e = .returned (.int .i64 r) ∧ Drawn0 w w' := by
 unfold pot_either_int64.f at h
 have H := h
 clear h
 by_cases c4 : a0 = true
 ·subst c4
  rw [if_pos rfl] at H
  obtain rfl := Option.some.inj H
  go_enter Try.func91, Try.ntmps91
  go_wp2
  go_ret
  exact ⟨by first | rfl | (simp; done) | (simp [*]; done), by repeat (first | exact Drawn0.refl _ | apply Drawn0.step)⟩
 ·replace c4 := Bool.eq_false_iff.mpr c4
  subst c4
  rw [if_neg (show ¬ (false = true) by decide)] at H
  obtain rfl := Option.some.inj H
  go_enter Try.func91, Try.ntmps91
  go_wp2
  go_ret
  exact ⟨by first | rfl | (simp; done) | (simp [*]; done), by repeat (first | exact Drawn0.refl _ | apply Drawn0.step)⟩

/-! ### pot_Keep: function 75 -/
def pot_Keep.f (k : Nat) (a0_0 : Int) (a0_1 : Int) (a0_2 : Int) (a1 : Bool) (a2 : Int) : Option (Int × Int × Int × Int) := (pot_either_int64.f a1 a0_2 a0_1).bind fun t438 => ((pot_either_int64.f a1 0 (-1)).bind fun t439 => ((pot_either_int64.f a1 (-1) 0).bind fun t440 => ((pot_moved.f k a0_0 a0_1 a0_2 a2 t438 0 t439 t440).bind fun bt441 => (some (bt441.1, bt441.2.1, bt441.2.2.1, bt441.2.2.2)))))
def pot_Keep.T1 : Bool × List (List Nat × List Nat) := (true, [([], []), ([], []), ([], []), ([], []), ([3], [3]), ([], []), ([5], [5]), ([2, 4, 6], [2, 4, 6]), ([], []), ([8, 7], [8]), ([], []), ([10, 9], [10]), ([0, 1, 7, 9, 11, 11], [0, 1, 7, 9, 11]), ([12], [12]), ([12], [12]), ([13, 12, 0, 1, 2, 3, 4, 5, 6, 7, 8, 9, 10, 11, 12, 13, 14], [13]), ([14, 15, 0, 1, 2, 3, 4, 5, 6, 7, 8, 9, 10, 11, 12, 13, 14, 15], [14])])
def pot_Keep.B1 : List Nat := [0, 0, 0, 0, 8, 0, 32, 124, 0, 508, 0, 2044, 4095, 8191, 8191, 32767, 65535]
theorem pot_Keep.tab1 : rtab .any (opsOf Try.f75 1) = pot_Keep.T1 := by kernel_rfl
theorem pot_Keep.bits1 : waitsOk pot_Keep.T1.2 pot_Keep.B1 = true := by kernel_rfl
theorem pot_Keep.calls (k : Nat) (a0_0 : Int) (a0_1 : Int) (a0_2 : Int) (a1 : Bool) (a2 : Int) (r1 : Int) (r2 : Int) (r3 : Int) (r4 : Int) (w : World) (h : pot_Keep.f k a0_0 a0_1 a0_2 a1 a2 = some (r1, r2, r3, r4)) :
  Calls Try.prog 75 #[.agg #[.int .i64 a0_0, .int .i64 a0_1, .int .i64 a0_2], .bool a1, .int .i64 a2] w fun e w' => e = .returned (.tuple #[.agg #[.int .i64 r1, .int .i64 r2, .int .i64 r3], .int .i64 r4]) ∧ Below w.heap.size w w' := by
 have hu49 := Try.underlying49
 have HB := My.am (Below.refl w.heap.size w)
 unfold pot_Keep.f at h
 have H := h
 clear h
 replace H := Option.bind_eq_some_iff.mp H
 obtain ⟨t438, A40, H⟩ := H
 try dsimp only at H
 have A4 := My.am A40
 clear A40
 replace H := Option.bind_eq_some_iff.mp H
 obtain ⟨t439, A50, H⟩ := H
 try dsimp only at H
 have A5 := My.am A50
 clear A50
 replace H := Option.bind_eq_some_iff.mp H
 obtain ⟨t440, A60, H⟩ := H
 try dsimp only at H
 have A6 := My.am A60
 clear A60
 replace H := Option.bind_eq_some_iff.mp H
 obtain ⟨⟨t441, t442, t443, t444⟩, A70, H⟩ := H
 try dsimp only at H
 have A7 := My.am A70
 clear A70
 simp only [Option.some.injEq, Prod.mk.injEq] at H
 obtain ⟨rfl, rfl, rfl, rfl⟩ := H
 go_enter Try.func75, Try.ntmps75
 try go_wp2_with (first | ((with_reducible refine gate_dst (N := 3) rfl ?_); refine My.bx 3 #[.int .i64 a0_0, .int .i64 a0_1, .int .i64 a0_2] 49 ?_; intro gb436 hg w8 hbox hb; have BK436 := My.am (hbox); have GE436 := My.nge hg (My.bl_ HB); replace HB := My.st HB hb; clear hb hbox hg) | ((with_reducible refine gate_dst (N := 6) rfl ?_); refine My.bx 6 #[.int .i64 0, .int .i64 0, .int .i64 0] 49 ?_; intro gb437 hg w9 hbox hb; have BK437 := My.am (hbox); have GE437 := My.nge hg (My.bl_ HB); replace HB := My.st HB hb; obtain ⟨NB436_437, NB437_436, BK436⟩ := My.nb hg hb BK436; clear hb hbox hg))
 replace BK436 := My.am (blk_drew BK436.out)
 replace BK437 := My.am (blk_drew BK437.out)
 replace HB := My.am (below_drew1 HB.out)
 refine start_ (n := 17) (S := fun w' => w'.cell? ⟨gb436, 0, none⟩ = some (.int .i64 a0_0) ∧ w'.cell? ⟨gb436, 1, none⟩ = some (.int .i64 a0_1) ∧ w'.cell? ⟨gb436, 2, none⟩ = some (.int .i64 a0_2)) (ds := []) #[false, false, false, false, false, false, false, false, false, false, false, false, false, false, false, false, false] (by kernel_rfl) rfl rfl ⟨My.b_ BK436 0, My.b_ BK436 1, My.b_ BK436 2⟩ (fun hHeld => ?_); refine with_tabW pot_Keep.tab1 pot_Keep.bits1 (fun HT_ HW_ => ?_)
 generalize w9.drew = w10 at BK436 BK437 HB hHeld ⊢
 refine My.pv_ 1 9 17 2 HT_.out ?_
 refine My.pv_ 2 10 17 6 HT_.out ?_
 refine My.pv_ 3 11 17 14 HT_.out ?_
 refine My.pv_ 5 13 17 46 HT_.out ?_
 refine My.pv_ 8 16 17 302 HT_.out ?_
 refine My.pv_ 10 18 17 1326 HT_.out ?_
 refine My.tv_ 0 8 17 1327 HT_.out HW_.out hHeld rfl rfl (by rintro w' ⟨s0, s1, s2⟩; go_simp; with_reducible rfl) ?_
 refine My.tv_ 4 12 17 1343 HT_.out HW_.out hHeld rfl rfl (by rintro w' ⟨s0, s1, s2⟩; go_simp; with_reducible rfl) ?_
 refine My.tv_ 6 14 17 1407 HT_.out HW_.out hHeld rfl rfl (by rintro w' ⟨s0, s1, s2⟩; go_simp; with_reducible rfl) ?_
 refine one_ (i := 7) (N := some 15) (My.Mb 17 1535) rfl rfl (one_of HT_.out (by kernel_rfl)) (by decide) (fun K hK => ?_)
 refine goes_ Try.func91 (by kernel_rfl) rfl #[.bool a1, .int .i64 a0_2, .int .i64 a0_1] (by rfl) rfl rfl My.gx ?_
 with_reducible refine (pot_either_int64.calls a1 a0_2 a0_1 t438 _ A4.out).mono ?_
 rintro e w' ⟨rfl, ⟨nd, rfl⟩⟩
 refine ⟨_, rfl, ?_⟩
 refine hK.out _ _ ⟨My.b_ BK436 0, My.b_ BK436 1, My.b_ BK436 2⟩ (fun hHeld => ?_)
 clear hK K
 refine My.nm 15 ?_
 refine one_ (i := 9) (N := some 17) (My.Mb 17 2047) rfl rfl (one_of HT_.out (by kernel_rfl)) (by decide) (fun K hK => ?_)
 refine goes_ Try.func91 (by kernel_rfl) rfl #[.bool a1, .int .i64 0, .int .i64 (-1)] (by rfl) rfl rfl My.gx ?_
 with_reducible refine (pot_either_int64.calls a1 0 (-1) t439 _ A5.out).mono ?_
 rintro e w' ⟨rfl, ⟨nd, rfl⟩⟩
 refine ⟨_, rfl, ?_⟩
 refine hK.out _ _ ⟨My.b_ BK436 0, My.b_ BK436 1, My.b_ BK436 2⟩ (fun hHeld => ?_)
 clear hK K
 refine My.nm 17 ?_
 refine one_ (i := 11) (N := some 19) (My.Mb 17 4095) rfl rfl (one_of HT_.out (by kernel_rfl)) (by decide) (fun K hK => ?_)
 refine goes_ Try.func91 (by kernel_rfl) rfl #[.bool a1, .int .i64 (-1), .int .i64 0] (by rfl) rfl rfl My.gx ?_
 with_reducible refine (pot_either_int64.calls a1 (-1) 0 t440 _ A6.out).mono ?_
 rintro e w' ⟨rfl, ⟨nd, rfl⟩⟩
 refine ⟨_, rfl, ?_⟩
 refine hK.out _ _ ⟨My.b_ BK436 0, My.b_ BK436 1, My.b_ BK436 2⟩ (fun hHeld => ?_)
 clear hK K
 refine My.nm 19 ?_
 refine one_ (i := 12) (N := some 20) (My.Mb 17 8191) rfl rfl (one_of HT_.out (by kernel_rfl)) (by decide) (fun K hK => ?_)
 refine goes_ Try.func85 (by kernel_rfl) rfl #[.agg #[.int .i64 a0_0, .int .i64 a0_1, .int .i64 a0_2], .int .i64 a2, .int .i64 t438, .int .i64 0, .int .i64 t439, .int .i64 t440] (by rfl) rfl rfl My.gx ?_
 with_reducible refine (pot_moved.calls k a0_0 a0_1 a0_2 a2 t438 0 t439 t440 t441 t442 t443 t444 _ A7.out).mono ?_
 rintro e w11 ⟨rfl, hb⟩
 refine ⟨_, rfl, ?_⟩
 replace BK436 := My.ab BK436 hb
 replace BK437 := My.ab BK437 hb
 replace HB := My.st HB hb
 (try clear hb)
 (try clear hb2)
 (try clear hk)
 (try clear hi)
 refine hK.out _ _ ⟨My.b_ BK436 0, My.b_ BK436 1, My.b_ BK436 2⟩ (fun hHeld => ?_)
 clear hK K
 refine My.nm 20 ?_
 refine My.pu_ 13 21 17 HT_.out ?_
 refine My.pu_ 14 22 17 HT_.out ?_
 refine one_ (i := 15) (N := none) (My.Mb 17 65535) rfl rfl (one_of HT_.out (by kernel_rfl)) (by decide) (fun K hK => ?_)
 have hs12 : w11.cell? ⟨gb437, 0, none⟩ = some (.int .i64 0) := My.b_ BK437 0
 have hfs12 := blk_frozen BK437.out 0
 have hns12_0 := NB436_437.out
 have hms12_0 := NB437_436.out
 have hs13 : w11.cell? ⟨gb437, 1, none⟩ = some (.int .i64 0) := My.b_ BK437 1
 have hfs13 := blk_frozen BK437.out 1
 have hns13_0 := NB436_437.out
 have hms13_0 := NB437_436.out
 have hs14 : w11.cell? ⟨gb437, 2, none⟩ = some (.int .i64 0) := My.b_ BK437 2
 have hfs14 := blk_frozen BK437.out 2
 have hns14_0 := NB436_437.out
 have hms14_0 := NB437_436.out
 refine skip_ (w1 := ?_) (by rfl) rfl ?_ ?_
 rotate_left
 ·go_simp
  rfl
 refine hK.out _ _ ⟨(My.c3 NB436_437.out hHeld.1), (My.c3 NB436_437.out hHeld.2.1), (My.c3 NB436_437.out hHeld.2.2)⟩ (fun hHeld => ?_)
 clear hK K
 refine My.pu_ 16 7 17 HT_.out ?_
 refine done_ (done_of HT_.out (by kernel_rfl)) ?_
 try go_wp2
 refine bodyPost_ret (results_ct rfl _ _ gb437 49 #[.int .i64 t441, .int .i64 t442, .int .i64 t443] (0, 0) _ rfl ((My.sv_ BK437)) Try.underlying49 rfl (by kernel_rfl)) rfl ?_
 exact ⟨My.r2, (My.bl_ HB)⟩

end Go.Proofs.Ytikanbdhpafbiaa.PO
