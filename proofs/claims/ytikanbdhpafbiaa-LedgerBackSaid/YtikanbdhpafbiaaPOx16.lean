-- Written by a program of this session (wip/tools/mp.py over the kit's printer); Lean checks it.
import Derived.Test.YtikanbdhpafbiaaPOx0
import Derived.Test.YtikanbdhpafbiaaPOx4
import Derived.Test.YtikanbdhpafbiaaPOx6
import Derived.Test.YtikanbdhpafbiaaPOx7
import Derived.Test.YtikanbdhpafbiaaPOx8
import Derived.Test.YtikanbdhpafbiaaPOx15
namespace Go.Proofs.Ytikanbdhpafbiaa.PO
open Go.RowKit Go.Proofs.YtikanbdhpafbiaaW.PrintWords Go.Proofs.YtikanbdhpafbiaaW.PrintLast Go.Proofs.YtikanbdhpafbiaaW.PrintMore
attribute [local go_sem] max2_int min2_int max_two min_two max_three min_three max_four min_four   -- for this text's walks alone
set_option linter.unusedVariables false
set_option maxHeartbeats 8000000
set_option maxRecDepth 100000
set_option linter.unusedSimpArgs false

attribute [local go_sem high] eqA51 eqA64
/-! ### ledger_ended_any: function 123 -/
def ledger_ended_any.j0 (D : Nat → ByteArray → Int → Int → Int → Int → Int → Int → Int → ByteArray → Int → Option (ByteArray × Int × Int × Int × Int × Int × Int × Int)) : Nat → ByteArray → Int → Int → Bool → List (S51) → List (S64) → Option ((List (S51)) × (List (S64)) × Int)
 | 0, _, _, _, _, _, _ => none
 | k + 1, x1, x2, x3, x20, x333000, x333001 => if x20 = true then (some (([] : List (S51)), ([] : List (S64)), 2)) else ((ledger_book_mark.f k x333000 x333001 x1).bind fun bt336 => (if bt336.2 = true then (if 0 ≤ bt336.1 then (if bt336.1 < (x333001.length : Int) then (if ((rd_T64 x333001 bt336.1).f2) = x2 then ((ledger_copied.f x333000 x333001).bind fun bt340 => (some (bt340.1, bt340.2, 0))) else (if ((rd_T64 x333001 bt336.1).f2) = 1 then ((ledger_changed_any.f D k x333000 x333001 ((rd_T64 x333001 bt336.1).f0) ((rd_T64 x333001 bt336.1).f1.f0) ((rd_T64 x333001 bt336.1).f1.f1) ((rd_T64 x333001 bt336.1).f1.f2) x2 x3).bind fun bt346 => (some (bt346.1, bt346.2.1, bt346.2.2))) else (some (([] : List (S51)), ([] : List (S64)), 72)))) else (none)) else (none)) else (some (([] : List (S51)), ([] : List (S64)), 70))))
def ledger_ended_any.f (D : Nat → ByteArray → Int → Int → Int → Int → Int → Int → Int → ByteArray → Int → Option (ByteArray × Int × Int × Int × Int × Int × Int × Int)) (k : Nat) (l0_0 : List (S51)) (l0_1 : List (S64)) (a1 : ByteArray) (a2 : Int) (a3 : Int) : Option ((List (S51)) × (List (S64)) × Int) := (ledger_May.f k l0_0 l0_1).bind fun t334 => (if t334 = 0 then ((ledger_key.f a1).bind fun t335 => (ledger_ended_any.j0 D k a1 a2 a3 (!t335) l0_0 l0_1)) else (ledger_ended_any.j0 D k a1 a2 a3 true l0_0 l0_1))
theorem ledger_ended_any.mono_l (D : Nat → ByteArray → Int → Int → Int → Int → Int → Int → Int → ByteArray → Int → Option (ByteArray × Int × Int × Int × Int × Int × Int × Int)) (hM : ∀ m0 m1 m2 m3 m4 m5 m6 m7 m8 m9 k, LeO (D k m0 m1 m2 m3 m4 m5 m6 m7 m8 m9) (D (k + 1) m0 m1 m2 m3 m4 m5 m6 m7 m8 m9)) : ∀ k, (∀ y0 y1 y2 y3 y4 y5, LeO (ledger_ended_any.j0 D k y0 y1 y2 y3 y4 y5) (ledger_ended_any.j0 D (k + 1) y0 y1 y2 y3 y4 y5))
 | 0 => fun _ _ _ _ _ _ r h => by simp [ledger_ended_any.j0] at h
 | k + 1 => by
  have ih0 := ledger_ended_any.mono_l D hM k
  intro y0 y1 y2 y3 y4 y5
  unfold ledger_ended_any.j0
  repeat' (with_reducible first | exact ih0 _ _ _ _ _ _ | exact ledger_May.mono _ _ _ | exact ledger_book_mark.mono _ _ _ _ | exact ledger_changed_any.mono D hM _ _ _ _ _ _ _ _ _ | exact LeO.refl _ | exact LeO.none _ | apply LeO.ite | refine LeO.bind ?_ (fun _ => ?_))
theorem ledger_ended_any.mono (D : Nat → ByteArray → Int → Int → Int → Int → Int → Int → Int → ByteArray → Int → Option (ByteArray × Int × Int × Int × Int × Int × Int × Int)) (hM : ∀ m0 m1 m2 m3 m4 m5 m6 m7 m8 m9 k, LeO (D k m0 m1 m2 m3 m4 m5 m6 m7 m8 m9) (D (k + 1) m0 m1 m2 m3 m4 m5 m6 m7 m8 m9)) : ∀ a0 a1 a2 a3 a4 k, LeO (ledger_ended_any.f D k a0 a1 a2 a3 a4) (ledger_ended_any.f D (k + 1) a0 a1 a2 a3 a4) := by
 intro a0 a1 a2 a3 a4 k
 have ih0 := ledger_ended_any.mono_l D hM k
 unfold ledger_ended_any.f
 repeat' (with_reducible first | exact ih0 _ _ _ _ _ _ | exact ledger_May.mono _ _ _ | exact ledger_book_mark.mono _ _ _ _ | exact ledger_changed_any.mono D hM _ _ _ _ _ _ _ _ _ | exact LeO.refl _ | exact LeO.none _ | apply LeO.ite | refine LeO.bind ?_ (fun _ => ?_))
theorem ledger_ended_any.calls (f_ : FuncId) (fn_ : Func) (hf_ : Try.prog.funcs[f_]? = some fn_) (hname_ : (fn_.name == "runtime.NumGoroutine") = false) (hb_ : fn_.body.isSome = true) (D : Nat → ByteArray → Int → Int → Int → Int → Int → Int → Int → ByteArray → Int → Option (ByteArray × Int × Int × Int × Int × Int × Int × Int)) (hD : ∀ (k : Nat) (a0_0 : ByteArray) (a0_1 : Int) (a0_2 : Int) (a0_3 : Int) (a0_4 : Int) (a0_5 : Int) (a0_6 : Int) (a1_0 : Int) (a1_1 : ByteArray) (a1_2 : Int) (r1 : ByteArray) (r2 : Int) (r3 : Int) (r4 : Int) (r5 : Int) (r6 : Int) (r7 : Int) (r8 : Int) (w : World), D k a0_0 a0_1 a0_2 a0_3 a0_4 a0_5 a0_6 a1_0 a1_1 a1_2 = some (r1, r2, r3, r4, r5, r6, r7, r8) → Calls Try.prog f_ #[.agg #[.string a0_0, .int .i64 a0_1, .int .i64 a0_2, .int .i64 a0_3, .int .i64 a0_4, .int .i64 a0_5, .int .i64 a0_6], .agg #[.int .i64 a1_0, .string a1_1, .int .i64 a1_2]] w fun e w' => e = .returned (.tuple #[.agg #[.string r1, .int .i64 r2, .int .i64 r3, .int .i64 r4, .int .i64 r5, .int .i64 r6, .int .i64 r7], .int .i64 r8]) ∧ Below w.heap.size w w') (k : Nat) (A0_0 : Option Addr) (c0_0 : Nat) (l0_0 : List (S51)) (A0_1 : Option Addr) (c0_1 : Nat) (l0_1 : List (S64)) (a1 : ByteArray) (a2 : Int) (a3 : Int) (r1 : List (S51)) (r2 : List (S64)) (r3 : Int) (w : World) (hr0_0 : Kd.C k51 w A0_0 l0_0.length l0_0) (hc0_0 : l0_0.length ≤ c0_0) (hr0_1 : Kd.C k64 w A0_1 l0_1.length l0_1) (hc0_1 : l0_1.length ≤ c0_1) (h : ledger_ended_any.f D k l0_0 l0_1 a1 a2 a3 = some (r1, r2, r3)) :
  Calls Try.prog 48 #[.agg #[.slice A0_0 l0_0.length c0_0, .slice A0_1 l0_1.length c0_1], .string a1, .int .i64 a2, .func (.func f_) #[] #[]] w fun e w' => ∃ v0_ v1_ : Value, e = .returned (.tuple #[.agg #[v0_, v1_], .int .i64 r3]) ∧ Kd.R k51 51 w' w.heap.size (fun _ => True) v0_ r1 ∧ Kd.R k64 64 w' w.heap.size (fun _ => True) v1_ r2 ∧ Below w.heap.size w w' := by
 have hu25 := Try.underlying25
 have hu71 := Try.underlying71
 have hu64 := Try.underlying64
 have HR0_0 := My.am hr0_0
 have HC0_0 := My.am hc0_0
 clear hr0_0 hc0_0
 have HR0_1 := My.am hr0_1
 have HC0_1 := My.am hc0_1
 clear hr0_1 hc0_1
 have HB := My.am (Below.refl w.heap.size w)
 unfold ledger_ended_any.f at h
 have H := h
 clear h
 have HC5 := My.am H
 clear H
 go_enter Try.func48, Try.ntmps48
 go_upto_region 1 with (first | ((with_reducible refine gate_dst (N := 4) rfl ?_); refine My.bx 4 #[.slice A0_0 l0_0.length c0_0, .slice A0_1 l0_1.length c0_1] 25 ?_; intro gb332 hg w6 hbox hb; have BK332 := My.am (hbox); have GE332 := My.nge hg (My.bl_ HB); replace HB := My.st HB hb; clear hb hbox hg) | ((with_reducible refine gate_dst (N := 8) rfl ?_); refine My.bx 8 #[.slice none 0 0, .slice none 0 0] 25 ?_; intro gb333 hg w7 hbox hb; have BK333 := My.am (hbox); have GE333 := My.nge hg (My.bl_ HB); replace HB := My.st HB hb; obtain ⟨NB332_333, NB333_332, BK332⟩ := My.nb hg hb BK332; clear hb hbox hg))
 (try simp only [Act.put, List.setIfInBounds_toArray, List.set_cons_zero, List.set_cons_succ])
 go_cut [20] (fun v20 wc => ∃ (kq : Nat) (x20_4 : Bool), v20 = .bool x20_4 ∧ Aside0 (ledger_ended_any.j0 D kq a1 a2 a3 x20_4 l0_0 l0_1 = some (r1, r2, r3)) ∧ Aside0 (kq ≤ k) ∧ Aside0 (wc.heap[gb332]? = some (.cells #[(.slice A0_0 l0_0.length c0_0), (.slice A0_1 l0_1.length c0_1)] 25 (0, 0))) ∧ Aside0 (wc.heap[gb333]? = some (.cells #[(.slice none 0 0), (.slice none 0 0)] 25 (0, 0))) ∧ Aside0 (Below w.heap.size w wc))
 case first =>
  have H := HC5.out
  clear HC5
  replace H := Option.bind_eq_some_iff.mp H
  obtain ⟨t334, A80, H⟩ := H
  try dsimp only at H
  have A8 := My.am A80
  clear A80
  by_cases c9 : t334 = 0
  ·rw [if_pos c9] at H
   have c9b0 : (t334 == 0) = true := beq_iff_eq.mpr c9
   have c9b1 : (t334 != 0) = false := bne_eq_false_iff_eq.mpr c9
   clear c9
   (first | rw [c9b0] | (simp only [i64_w, i32_w]; rw [c9b0]) | skip)
   replace H := Option.bind_eq_some_iff.mp H
   obtain ⟨t335, A100, H⟩ := H
   try dsimp only at H
   have A10 := My.am A100
   clear A100
   have H' := My.am H
   clear H
   have hnb11 := NB332_333.out
   have hnc11 := NB333_332.out
   have hq12 := My.cz2 BK332
   go_wp2_with (first | ((with_reducible refine gate_callee (f := 20) rfl ?_); refine goesL_ (some 14) rfl rfl Try.func20 (by kernel_rfl) rfl #[.agg #[.slice A0_0 l0_0.length c0_0, .slice A0_1 l0_1.length c0_1]] rfl My.gx ?_; (with_reducible refine (ledger_May.calls k _ _ l0_0 _ _ l0_1 t334 _ ?side1 ?side2 ?side3 ?side4 A8.out).mono ?_); (case side1 => exact My.sd_ HR0_0 HB); (case side2 => exact HC0_0.out); (case side3 => exact My.sd_ HR0_1 HB); (case side4 => exact HC0_1.out); rintro e w13 ⟨rfl, hb⟩; refine ⟨_, rfl, ?_⟩; replace BK332 := My.ab BK332 hb; replace BK333 := My.ab BK333 hb; replace HB := My.st HB hb; (try clear hb)) | (go_at_call 38; (with_reducible refine (ledger_key.calls a1 t335 _ A10.out).mono ?_); rintro e w' ⟨rfl, ⟨nd, rfl⟩⟩))
   go_meet
   case rel => exact ⟨_, (!t335), My.r1, H', ⟨My.r4⟩, ⟨(My.at_ BK332)⟩, ⟨(My.at_ BK333)⟩, ⟨(My.bl_ HB)⟩⟩
  ·rw [if_neg c9] at H
   have c9b0 : (t334 == 0) = false := beq_eq_false_iff_ne.mpr c9
   have c9b1 : (t334 != 0) = true := bne_iff_ne.mpr c9
   (first | rw [c9b0] | (simp only [i64_w, i32_w]; rw [c9b0]) | skip)
   have H' := My.am H
   clear H
   have hnb14 := NB332_333.out
   have hnc14 := NB333_332.out
   have hq15 := My.cz2 BK332
   go_wp2_with (first | ((with_reducible refine gate_callee (f := 20) rfl ?_); refine goesL_ (some 14) rfl rfl Try.func20 (by kernel_rfl) rfl #[.agg #[.slice A0_0 l0_0.length c0_0, .slice A0_1 l0_1.length c0_1]] rfl My.gx ?_; (with_reducible refine (ledger_May.calls k _ _ l0_0 _ _ l0_1 t334 _ ?side1 ?side2 ?side3 ?side4 A8.out).mono ?_); (case side1 => exact My.sd_ HR0_0 HB); (case side2 => exact HC0_0.out); (case side3 => exact My.sd_ HR0_1 HB); (case side4 => exact HC0_1.out); rintro e w16 ⟨rfl, hb⟩; refine ⟨_, rfl, ?_⟩; replace BK332 := My.ab BK332 hb; replace BK333 := My.ab BK333 hb; replace HB := My.st HB hb; (try clear hb)))
   go_meet
   case rel => exact ⟨_, (true), My.r1, H', ⟨My.r4⟩, ⟨(My.at_ BK332)⟩, ⟨(My.at_ BK333)⟩, ⟨(My.bl_ HB)⟩⟩
 case rest =>
  clear HC5
  obtain ⟨kq, x20_4, rfl, HA, HJ4, BK332, BK333, HB⟩ := hcut
  cases kq with
  | zero => exact absurd HA.out (by simp [ledger_ended_any.j0])
  | succ kj4 =>
   have H := HA.out
   clear HA
   simp only [ledger_ended_any.j0] at H
   by_cases c17 : x20_4 = true
   ·subst c17
    rw [if_pos rfl] at H
    simp only [Option.some.injEq, Prod.mk.injEq] at H
    obtain ⟨rfl, rfl, rfl⟩ := H
    have hnb18 := NB333_332.out
    have hnc18 := NB332_333.out
    have hq19 := My.cz2 BK333
    go_wp2
    refine bodyPost_ret (results_ct rfl _ _ gb333 25 #[.slice none 0 0, .slice none 0 0] (0, 0) _ rfl ((My.sv_ BK333)) Try.underlying25 rfl (by kernel_rfl)) rfl ?_
    exact ⟨_, _, My.r2, My.r3, My.r3, (My.bl_ HB)⟩
   replace c17 := Bool.eq_false_iff.mpr c17
   subst c17
   rw [if_neg (show ¬ (false = true) by decide)] at H
   replace H := Option.bind_eq_some_iff.mp H
   obtain ⟨⟨t336, t337⟩, A200, H⟩ := H
   try dsimp only at H
   have A20 := My.am A200
   clear A200
   by_cases c21 : t337 = true
   rotate_left
   ·replace c21 := Bool.eq_false_iff.mpr c21
    subst c21
    rw [if_neg (show ¬ (false = true) by decide)] at H
    simp only [Option.some.injEq, Prod.mk.injEq] at H
    obtain ⟨rfl, rfl, rfl⟩ := H
    have hnb63 := NB332_333.out
    have hnc63 := NB333_332.out
    have hq64 := My.cz2 BK332
    go_wp2_with (first | ((with_reducible refine gate_callee (f := 40) rfl ?_); refine goesL_ (some 26) rfl rfl Try.func40 (by kernel_rfl) rfl #[.agg #[.slice A0_0 l0_0.length c0_0, .slice A0_1 l0_1.length c0_1], .string a1] rfl My.gx ?_; (with_reducible refine (ledger_book_mark.calls kj4 _ _ l0_0 _ _ l0_1 a1 t336 false _ ?side1 ?side2 ?side3 ?side4 A20.out).mono ?_); (case side1 => exact My.sd_ HR0_0 HB); (case side2 => exact HC0_0.out); (case side3 => exact My.sd_ HR0_1 HB); (case side4 => exact HC0_1.out); rintro e w65 ⟨rfl, hb⟩; refine ⟨_, rfl, ?_⟩; replace BK333 := My.ab BK333 hb; replace HB := My.st HB hb; (try clear hb); have hq66 := My.cz2 BK333))
    refine bodyPost_ret (results_ct rfl _ _ gb333 25 #[.slice none 0 0, .slice none 0 0] (0, 0) _ rfl ((My.sv_ BK333)) Try.underlying25 rfl (by kernel_rfl)) rfl ?_
    exact ⟨_, _, My.r2, My.r3, My.r3, (My.bl_ HB)⟩

   subst c21
   rw [if_pos rfl] at H
   replace H := My.ds H
   obtain ⟨c22b0, H⟩ := H
   replace H := My.ds H
   obtain ⟨c23b0, H⟩ := H
   by_cases c24 : ((rd_T64 l0_1 t336).f2) = a2
   ·rw [if_pos c24] at H
    have c24b0 : (((rd_T64 l0_1 t336).f2) == a2) = true := beq_iff_eq.mpr c24
    have c24b1 : (((rd_T64 l0_1 t336).f2) != a2) = false := bne_eq_false_iff_eq.mpr c24
    clear c24
    replace H := Option.bind_eq_some_iff.mp H
    obtain ⟨⟨t340, t343⟩, A250, H⟩ := H
    try dsimp only at H
    have A25 := My.am A250
    clear A250
    simp only [Option.some.injEq, Prod.mk.injEq] at H
    obtain ⟨rfl, rfl, rfl⟩ := H
    have hnb26 := NB332_333.out
    have hnc26 := NB333_332.out
    have hq27 := My.cz2 BK332
    go_wp2_with (first | ((with_reducible refine gate_callee (f := 40) rfl ?_); refine goesL_ (some 26) rfl rfl Try.func40 (by kernel_rfl) rfl #[.agg #[.slice A0_0 l0_0.length c0_0, .slice A0_1 l0_1.length c0_1], .string a1] rfl My.gx ?_; (with_reducible refine (ledger_book_mark.calls kj4 _ _ l0_0 _ _ l0_1 a1 t336 true _ ?side1 ?side2 ?side3 ?side4 A20.out).mono ?_); (case side1 => exact My.sd_ HR0_0 HB); (case side2 => exact HC0_0.out); (case side3 => exact My.sd_ HR0_1 HB); (case side4 => exact HC0_1.out); rintro e w28 ⟨rfl, hb⟩; refine ⟨_, rfl, ?_⟩; replace BK332 := My.ab BK332 hb; replace BK333 := My.ab BK333 hb; replace HB := My.st HB hb; (try clear hb); have hq29 := My.cz2 BK332; have p338 : 0 ≤ (t336 : Int) := My.as_; have q338 : t336 < (l0_1.length : Int) := My.as_; obtain ⟨ad338, e338, hx338_0, hx338_1, hx338_2, hx338_3, hx338_4⟩ := My.up5 HB (at_T64 HR0_1.out t336 p338 q338); cases e338; replace p338 := eq_true p338; replace q338 := eq_true q338) | ((with_reducible refine gate_dst (N := 12) rfl ?_); refine My.bx 12 #[.string (⟨#[]⟩ : ByteArray), .int .i64 0, .string (⟨#[]⟩ : ByteArray), .int .i64 0, .int .i64 0] 64 ?_; intro gb339 hg w30 hbox hb; have BK339 := My.am (hbox); have GE339 := My.nge hg (My.bl_ HB); replace HB := My.st HB hb; obtain ⟨NB332_339, NB339_332, BK332⟩ := My.nb hg hb BK332; obtain ⟨NB333_339, NB339_333, BK333⟩ := My.nb hg hb BK333; clear hb hbox hg; have hnb31 := NB339_332.out; have hnc31 := NB332_339.out; have hnb32 := NB339_333.out; have hnc32 := NB333_339.out; have hq33 := My.cz5 BK339; have hq34 := My.cz2 BK332) | ((with_reducible refine gate_callee (f := 33) rfl ?_); refine goesL_ (some 43) rfl rfl Try.func33 (by kernel_rfl) rfl #[.agg #[.slice A0_0 l0_0.length c0_0, .slice (some ad338) l0_1.length c0_1]] rfl My.gx ?_; (with_reducible refine (ledger_copied.calls _ _ l0_0 _ _ l0_1 t340 t343 _ ?side1 ?side2 ?side3 ?side4 A25.out).mono ?_); (case side1 => exact Kd.C_below HR0_0.out (My.bl_ HB)); (case side2 => exact HC0_0.out); (case side3 => exact Kd.C_below HR0_1.out (My.bl_ HB)); (case side4 => exact HC0_1.out); rintro e w35 ⟨v341, v344, rfl, ho0, ho1, hb⟩; refine ⟨_, rfl, ?_⟩; have HO342 := My.am (Kd.R_lower ho0 (below_size (My.bl_ HB))); have HO345 := My.am (Kd.R_lower (Kd.R_newB ho1 (g := gb339) (o := .cells #[.string ((rd_T64 l0_1 t336).f0), .int .i64 ((rd_T64 l0_1 t336).f1.f0), .string ((rd_T64 l0_1 t336).f1.f1), .int .i64 ((rd_T64 l0_1 t336).f1.f2), .int .i64 ((rd_T64 l0_1 t336).f2)] 64 (0, 0)) ((My.sv_ BK339))) (below_size (My.bl_ HB))); replace BK332 := My.am (blk_below (g := gb332) (o := .cells #[.slice A0_0 l0_0.length c0_0, .slice (some ad338) l0_1.length c0_1] 25 (0, 0)) ((My.sv_ BK332)) hb); replace BK333 := My.am (blk_below (g := gb333) (o := .cells #[.slice none 0 0, .slice none 0 0] 25 (0, 0)) ((My.sv_ BK333)) hb); replace BK339 := My.am (blk_below (g := gb339) (o := .cells #[.string ((rd_T64 l0_1 t336).f0), .int .i64 ((rd_T64 l0_1 t336).f1.f0), .string ((rd_T64 l0_1 t336).f1.f1), .int .i64 ((rd_T64 l0_1 t336).f1.f2), .int .i64 ((rd_T64 l0_1 t336).f2)] 64 (0, 0)) ((My.sv_ BK339)) hb); replace HB := My.st HB hb; (try clear hb); (try clear ho0); (try clear ho1); obtain ⟨Ao36, co36, eo36⟩ := Kd.R_slice HO342.out; subst eo36; have hq37 := My.cz2 BK333; obtain ⟨Ao38, co38, eo38⟩ := Kd.R_slice HO345.out; subst eo38))
    refine bodyPost_ret (results_ct rfl _ _ gb333 25 #[.slice Ao36 t340.length co36, .slice Ao38 t343.length co38] (0, 0) _ rfl ((My.sv_ BK333)) Try.underlying25 rfl (by kernel_rfl)) rfl ?_
    exact ⟨_, _, My.r2, My.dR (Kd.R_mono (Kd.R_far (p := ⟨gb333, 1, none⟩) (Kd.R_far (p := ⟨gb333, 0, none⟩) (Kd.R_types HO342.out BK333.out (by decide)) (fun _ hk => hk.2) (.slice Ao36 t340.length co36)) (fun _ hk => hk.2) (.slice Ao38 t343.length co38)) (fun _ hk => trivial)), My.dR (Kd.R_mono (Kd.R_far (p := ⟨gb333, 1, none⟩) (Kd.R_far (p := ⟨gb333, 0, none⟩) (Kd.R_types HO345.out BK333.out (by decide)) (fun _ hk => hk.2) (.slice Ao36 t340.length co36)) (fun _ hk => hk.2) (.slice Ao38 t343.length co38)) (fun _ hk => trivial)), (My.bl_ HB)⟩
   rw [if_neg c24] at H
   have c24b0 : (((rd_T64 l0_1 t336).f2) == a2) = false := beq_eq_false_iff_ne.mpr c24
   have c24b1 : (((rd_T64 l0_1 t336).f2) != a2) = true := bne_iff_ne.mpr c24
   by_cases c39 : ((rd_T64 l0_1 t336).f2) = 1
   ·rw [if_pos c39] at H
    have c39b0 : (((rd_T64 l0_1 t336).f2) == 1) = true := beq_iff_eq.mpr c39
    have c39b1 : (((rd_T64 l0_1 t336).f2) != 1) = false := bne_eq_false_iff_eq.mpr c39
    clear c39
    replace H := Option.bind_eq_some_iff.mp H
    obtain ⟨⟨t346, t349, t352⟩, A400, H⟩ := H
    try dsimp only at H
    have A40 := My.am A400
    clear A400
    simp only [Option.some.injEq, Prod.mk.injEq] at H
    obtain ⟨rfl, rfl, rfl⟩ := H
    have hnb41 := NB332_333.out
    have hnc41 := NB333_332.out
    have hq42 := My.cz2 BK332
    go_upto_region 12 with (first | ((with_reducible refine gate_callee (f := 40) rfl ?_); refine goesL_ (some 26) rfl rfl Try.func40 (by kernel_rfl) rfl #[.agg #[.slice A0_0 l0_0.length c0_0, .slice A0_1 l0_1.length c0_1], .string a1] rfl My.gx ?_; (with_reducible refine (ledger_book_mark.calls kj4 _ _ l0_0 _ _ l0_1 a1 t336 true _ ?side1 ?side2 ?side3 ?side4 A20.out).mono ?_); (case side1 => exact My.sd_ HR0_0 HB); (case side2 => exact HC0_0.out); (case side3 => exact My.sd_ HR0_1 HB); (case side4 => exact HC0_1.out); rintro e w43 ⟨rfl, hb⟩; refine ⟨_, rfl, ?_⟩; replace BK332 := My.ab BK332 hb; replace BK333 := My.ab BK333 hb; replace HB := My.st HB hb; (try clear hb); have hq44 := My.cz2 BK332; have p338 : 0 ≤ (t336 : Int) := My.as_; have q338 : t336 < (l0_1.length : Int) := My.as_; obtain ⟨ad338, e338, hx338_0, hx338_1, hx338_2, hx338_3, hx338_4⟩ := My.up5 HB (at_T64 HR0_1.out t336 p338 q338); cases e338; replace p338 := eq_true p338; replace q338 := eq_true q338) | ((with_reducible refine gate_dst (N := 12) rfl ?_); refine My.bx 12 #[.string (⟨#[]⟩ : ByteArray), .int .i64 0, .string (⟨#[]⟩ : ByteArray), .int .i64 0, .int .i64 0] 64 ?_; intro gb339 hg w45 hbox hb; have BK339 := My.am (hbox); have GE339 := My.nge hg (My.bl_ HB); replace HB := My.st HB hb; obtain ⟨NB332_339, NB339_332, BK332⟩ := My.nb hg hb BK332; obtain ⟨NB333_339, NB339_333, BK333⟩ := My.nb hg hb BK333; clear hb hbox hg; have hnb46 := NB339_332.out; have hnc46 := NB332_339.out; have hnb47 := NB339_333.out; have hnc47 := NB333_339.out; have hq48 := My.cz5 BK339; have hq49 := My.cz2 BK332))
    obtain ⟨wz_, hz_⟩ : ∃ z_, z_ = ((((((w45.setCell ⟨gb339, 0, none⟩ (.string ((rd_T64 l0_1 t336).f0))).setCell ⟨gb339, 1, none⟩ (.int .i64 ((rd_T64 l0_1 t336).f1.f0))).setCell ⟨gb339, 2, none⟩ (.string ((rd_T64 l0_1 t336).f1.f1))).setCell ⟨gb339, 3, none⟩ (.int .i64 ((rd_T64 l0_1 t336).f1.f2))).setCell ⟨gb339, 4, none⟩ (.int .i64 ((rd_T64 l0_1 t336).f2))).setCell ⟨gb339, 4, none⟩ (.int .i64 a2)) := ⟨_, rfl⟩
    replace BK332 : Aside0 (wz_.heap[gb332]? = some (.cells #[.slice A0_0 l0_0.length c0_0, .slice (some ad338) l0_1.length c0_1] 25 (0, 0))) := ⟨by rw [hz_]; exact (My.sv_ BK332)⟩
    replace BK333 : Aside0 (wz_.heap[gb333]? = some (.cells #[.slice none 0 0, .slice none 0 0] 25 (0, 0))) := ⟨by rw [hz_]; exact (My.sv_ BK333)⟩
    replace BK339 : Aside0 (wz_.heap[gb339]? = some (.cells #[.string ((rd_T64 l0_1 t336).f0), .int .i64 ((rd_T64 l0_1 t336).f1.f0), .string ((rd_T64 l0_1 t336).f1.f1), .int .i64 ((rd_T64 l0_1 t336).f1.f2), .int .i64 a2] 64 (0, 0))) := ⟨by rw [hz_]; exact blk_put (cs' := #[.string ((rd_T64 l0_1 t336).f0), .int .i64 ((rd_T64 l0_1 t336).f1.f0), .string ((rd_T64 l0_1 t336).f1.f1), .int .i64 ((rd_T64 l0_1 t336).f1.f2), .int .i64 a2]) (My.put5 BK339.out) 4 _ rfl⟩
    replace HB : Aside0 (Below w.heap.size w wz_) := ⟨by rw [hz_]; exact (My.bl_ HB)⟩
    rw [← hz_]
    clear hz_ hq48 hq49
    have hq1_ := My.cz5 BK339
    have hq2_ := My.cz2 BK332
    go_wp2_with (first | ((with_reducible refine gate_callee (f := 41) rfl ?_); refine goesL_ (some 51) rfl rfl Try.func41 (by kernel_rfl) rfl #[.agg #[.slice A0_0 l0_0.length c0_0, .slice (some ad338) l0_1.length c0_1], .agg #[.string ((rd_T64 l0_1 t336).f0), .int .i64 ((rd_T64 l0_1 t336).f1.f0), .string ((rd_T64 l0_1 t336).f1.f1), .int .i64 ((rd_T64 l0_1 t336).f1.f2), .int .i64 a2], .func (.func f_) #[] #[]] rfl My.gx ?_; (with_reducible refine (ledger_changed_any.calls f_ fn_ hf_ hname_ hb_ D hD kj4 _ _ l0_0 _ _ l0_1 ((rd_T64 l0_1 t336).f0) ((rd_T64 l0_1 t336).f1.f0) ((rd_T64 l0_1 t336).f1.f1) ((rd_T64 l0_1 t336).f1.f2) a2 a3 t346 t349 t352 _ ?side1 ?side2 ?side3 ?side4 A40.out).mono ?_); (case side1 => exact Kd.C_below HR0_0.out (My.bl_ HB)); (case side2 => exact HC0_0.out); (case side3 => exact Kd.C_below HR0_1.out (My.bl_ HB)); (case side4 => exact HC0_1.out); rintro e w50 ⟨v347, v350, rfl, ho0, ho1, hb⟩; refine ⟨_, rfl, ?_⟩; have HO348 := My.am (Kd.R_lower ho0 (below_size (My.bl_ HB))); have HO351 := My.am (Kd.R_lower (Kd.R_newB ho1 (g := gb339) (o := .cells #[.string ((rd_T64 l0_1 t336).f0), .int .i64 ((rd_T64 l0_1 t336).f1.f0), .string ((rd_T64 l0_1 t336).f1.f1), .int .i64 ((rd_T64 l0_1 t336).f1.f2), .int .i64 a2] 64 (0, 0)) ((My.sv_ BK339))) (below_size (My.bl_ HB))); replace BK332 := My.am (blk_below (g := gb332) (o := .cells #[.slice A0_0 l0_0.length c0_0, .slice (some ad338) l0_1.length c0_1] 25 (0, 0)) ((My.sv_ BK332)) hb); replace BK333 := My.am (blk_below (g := gb333) (o := .cells #[.slice none 0 0, .slice none 0 0] 25 (0, 0)) ((My.sv_ BK333)) hb); replace BK339 := My.am (blk_below (g := gb339) (o := .cells #[.string ((rd_T64 l0_1 t336).f0), .int .i64 ((rd_T64 l0_1 t336).f1.f0), .string ((rd_T64 l0_1 t336).f1.f1), .int .i64 ((rd_T64 l0_1 t336).f1.f2), .int .i64 a2] 64 (0, 0)) ((My.sv_ BK339)) hb); replace HB := My.st HB hb; (try clear hb); (try clear ho0); (try clear ho1); obtain ⟨Ao51, co51, eo51⟩ := Kd.R_slice HO348.out; subst eo51; have hq52 := My.cz2 BK333; obtain ⟨Ao53, co53, eo53⟩ := Kd.R_slice HO351.out; subst eo53))
    refine bodyPost_ret (results_ct rfl _ _ gb333 25 #[.slice Ao51 t346.length co51, .slice Ao53 t349.length co53] (0, 0) _ rfl ((My.sv_ BK333)) Try.underlying25 rfl (by kernel_rfl)) rfl ?_
    exact ⟨_, _, My.r2, My.dR (Kd.R_mono (Kd.R_far (p := ⟨gb333, 1, none⟩) (Kd.R_far (p := ⟨gb333, 0, none⟩) (Kd.R_types HO348.out BK333.out (by decide)) (fun _ hk => hk.2) (.slice Ao51 t346.length co51)) (fun _ hk => hk.2) (.slice Ao53 t349.length co53)) (fun _ hk => trivial)), My.dR (Kd.R_mono (Kd.R_far (p := ⟨gb333, 1, none⟩) (Kd.R_far (p := ⟨gb333, 0, none⟩) (Kd.R_types HO351.out BK333.out (by decide)) (fun _ hk => hk.2) (.slice Ao51 t346.length co51)) (fun _ hk => hk.2) (.slice Ao53 t349.length co53)) (fun _ hk => trivial)), (My.bl_ HB)⟩
   rw [if_neg c39] at H
   have c39b0 : (((rd_T64 l0_1 t336).f2) == 1) = false := beq_eq_false_iff_ne.mpr c39
   have c39b1 : (((rd_T64 l0_1 t336).f2) != 1) = true := bne_iff_ne.mpr c39
   simp only [Option.some.injEq, Prod.mk.injEq] at H
   obtain ⟨rfl, rfl, rfl⟩ := H
   have hnb54 := NB332_333.out
   have hnc54 := NB333_332.out
   have hq55 := My.cz2 BK332
   go_wp2_with (first | ((with_reducible refine gate_callee (f := 40) rfl ?_); refine goesL_ (some 26) rfl rfl Try.func40 (by kernel_rfl) rfl #[.agg #[.slice A0_0 l0_0.length c0_0, .slice A0_1 l0_1.length c0_1], .string a1] rfl My.gx ?_; (with_reducible refine (ledger_book_mark.calls kj4 _ _ l0_0 _ _ l0_1 a1 t336 true _ ?side1 ?side2 ?side3 ?side4 A20.out).mono ?_); (case side1 => exact My.sd_ HR0_0 HB); (case side2 => exact HC0_0.out); (case side3 => exact My.sd_ HR0_1 HB); (case side4 => exact HC0_1.out); rintro e w56 ⟨rfl, hb⟩; refine ⟨_, rfl, ?_⟩; replace BK332 := My.ab BK332 hb; replace BK333 := My.ab BK333 hb; replace HB := My.st HB hb; (try clear hb); have hq57 := My.cz2 BK332; have p338 : 0 ≤ (t336 : Int) := My.as_; have q338 : t336 < (l0_1.length : Int) := My.as_; obtain ⟨ad338, e338, hx338_0, hx338_1, hx338_2, hx338_3, hx338_4⟩ := My.up5 HB (at_T64 HR0_1.out t336 p338 q338); cases e338; replace p338 := eq_true p338; replace q338 := eq_true q338) | ((with_reducible refine gate_dst (N := 12) rfl ?_); refine My.bx 12 #[.string (⟨#[]⟩ : ByteArray), .int .i64 0, .string (⟨#[]⟩ : ByteArray), .int .i64 0, .int .i64 0] 64 ?_; intro gb339 hg w58 hbox hb; have BK339 := My.am (hbox); have GE339 := My.nge hg (My.bl_ HB); replace HB := My.st HB hb; obtain ⟨NB332_339, NB339_332, BK332⟩ := My.nb hg hb BK332; obtain ⟨NB333_339, NB339_333, BK333⟩ := My.nb hg hb BK333; clear hb hbox hg; have hnb59 := NB339_332.out; have hnc59 := NB332_339.out; have hnb60 := NB339_333.out; have hnc60 := NB333_339.out; have hq61 := My.cz5 BK339; have hq62 := My.cz2 BK333))
   refine bodyPost_ret (results_ct rfl _ _ gb333 25 #[.slice none 0 0, .slice none 0 0] (0, 0) _ rfl ((My.sv_ BK333)) Try.underlying25 rfl (by kernel_rfl)) rfl ?_
   exact ⟨_, _, My.r2, My.r3, My.r3, (My.bl_ HB)⟩
/-! ### ledger_ended_act_Undo: function 123 -/
def ledger_ended_act_Undo.f (k : Nat) (l0_0 : List (S51)) (l0_1 : List (S64)) (a1 : ByteArray) (a2 : Int) (a3 : Int) : Option ((List (S51)) × (List (S64)) × Int) := ledger_ended_any.f act_Undo.f k l0_0 l0_1 a1 a2 a3
theorem ledger_ended_act_Undo.mono : ∀ a0 a1 a2 a3 a4 k, LeO (ledger_ended_act_Undo.f k a0 a1 a2 a3 a4) (ledger_ended_act_Undo.f (k + 1) a0 a1 a2 a3 a4) := ledger_ended_any.mono _ act_Undo.mono
theorem ledger_ended_act_Undo.calls (k : Nat) (A0_0 : Option Addr) (c0_0 : Nat) (l0_0 : List (S51)) (A0_1 : Option Addr) (c0_1 : Nat) (l0_1 : List (S64)) (a1 : ByteArray) (a2 : Int) (a3 : Int) (r1 : List (S51)) (r2 : List (S64)) (r3 : Int) (w : World) (hr0_0 : Kd.C k51 w A0_0 l0_0.length l0_0) (hc0_0 : l0_0.length ≤ c0_0) (hr0_1 : Kd.C k64 w A0_1 l0_1.length l0_1) (hc0_1 : l0_1.length ≤ c0_1) (h : ledger_ended_act_Undo.f k l0_0 l0_1 a1 a2 a3 = some (r1, r2, r3)) :
  Calls Try.prog 48 #[.agg #[.slice A0_0 l0_0.length c0_0, .slice A0_1 l0_1.length c0_1], .string a1, .int .i64 a2, .func (.func 49) #[] #[]] w fun e w' => ∃ v0_ v1_ : Value, e = .returned (.tuple #[.agg #[v0_, v1_], .int .i64 r3]) ∧ Kd.R k51 51 w' w.heap.size (fun _ => True) v0_ r1 ∧ Kd.R k64 64 w' w.heap.size (fun _ => True) v1_ r2 ∧ Below w.heap.size w w' := ledger_ended_any.calls 49 _ Try.func49 (by kernel_rfl) rfl act_Undo.f act_Undo.calls k A0_0 c0_0 l0_0 A0_1 c0_1 l0_1 a1 a2 a3 r1 r2 r3 w hr0_0 hc0_0 hr0_1 hc0_1 h

/-! ### ledger_Undo: function 14 -/
def ledger_Undo.f (k : Nat) (l0_0 : List (S51)) (l0_1 : List (S64)) (a1 : ByteArray) : Option ((List (S51)) × (List (S64)) × Int) := (ledger_ended_act_Undo.f k l0_0 l0_1 a1 2 0).bind fun bt355 => (some (bt355.1, bt355.2.1, bt355.2.2))
theorem ledger_Undo.mono : ∀ a0 a1 a2 k, LeO (ledger_Undo.f k a0 a1 a2) (ledger_Undo.f (k + 1) a0 a1 a2) := by
 intro a0 a1 a2 k
 unfold ledger_Undo.f
 repeat' (with_reducible first | exact ledger_ended_act_Undo.mono _ _ _ _ _ _ | exact LeO.refl _ | exact LeO.none _ | apply LeO.ite | refine LeO.bind ?_ (fun _ => ?_))
theorem ledger_Undo.calls (k : Nat) (A0_0 : Option Addr) (c0_0 : Nat) (l0_0 : List (S51)) (A0_1 : Option Addr) (c0_1 : Nat) (l0_1 : List (S64)) (a1 : ByteArray) (r1 : List (S51)) (r2 : List (S64)) (r3 : Int) (w : World) (hr0_0 : Kd.C k51 w A0_0 l0_0.length l0_0) (hc0_0 : l0_0.length ≤ c0_0) (hr0_1 : Kd.C k64 w A0_1 l0_1.length l0_1) (hc0_1 : l0_1.length ≤ c0_1) (h : ledger_Undo.f k l0_0 l0_1 a1 = some (r1, r2, r3)) :
  Calls Try.prog 14 #[.agg #[.slice A0_0 l0_0.length c0_0, .slice A0_1 l0_1.length c0_1], .string a1] w fun e w' => ∃ v0_ v1_ : Value, e = .returned (.tuple #[.agg #[v0_, v1_], .int .i64 r3]) ∧ Kd.R k51 51 w' w.heap.size (fun _ => True) v0_ r1 ∧ Kd.R k64 64 w' w.heap.size (fun _ => True) v1_ r2 ∧ Below w.heap.size w w' := by
 have hu25 := Try.underlying25
 have HR0_0 := My.am hr0_0
 have HC0_0 := My.am hc0_0
 clear hr0_0 hc0_0
 have HR0_1 := My.am hr0_1
 have HC0_1 := My.am hc0_1
 clear hr0_1 hc0_1
 have HB := My.am (Below.refl w.heap.size w)
 unfold ledger_Undo.f at h
 have H := h
 clear h
 replace H := Option.bind_eq_some_iff.mp H
 obtain ⟨⟨t355, t358, t361⟩, A30, H⟩ := H
 try dsimp only at H
 have A3 := My.am A30
 clear A30
 simp only [Option.some.injEq, Prod.mk.injEq] at H
 obtain ⟨rfl, rfl, rfl⟩ := H
 go_enter Try.func14, Try.ntmps14
 go_wp2_with (first | ((with_reducible refine gate_dst (N := 2) rfl ?_); refine My.bx 2 #[.slice A0_0 l0_0.length c0_0, .slice A0_1 l0_1.length c0_1] 25 ?_; intro gb353 hg w4 hbox hb; have BK353 := My.am (hbox); have GE353 := My.nge hg (My.bl_ HB); replace HB := My.st HB hb; clear hb hbox hg) | ((with_reducible refine gate_dst (N := 4) rfl ?_); refine My.bx 4 #[.slice none 0 0, .slice none 0 0] 25 ?_; intro gb354 hg w5 hbox hb; have BK354 := My.am (hbox); have GE354 := My.nge hg (My.bl_ HB); replace HB := My.st HB hb; obtain ⟨NB353_354, NB354_353, BK353⟩ := My.nb hg hb BK353; clear hb hbox hg; have hnb6 := NB353_354.out; have hnc6 := NB354_353.out; have hq7 := My.cz2 BK353) | ((with_reducible refine gate_callee (f := 48) rfl ?_); refine goesL_ (some 8) rfl rfl Try.func48 (by kernel_rfl) rfl #[.agg #[.slice A0_0 l0_0.length c0_0, .slice A0_1 l0_1.length c0_1], .string a1, .int .i64 2, .func (.func 49) #[] #[]] rfl My.gx ?_; (with_reducible refine (ledger_ended_act_Undo.calls k _ _ l0_0 _ _ l0_1 a1 2 0 t355 t358 t361 _ ?side1 ?side2 ?side3 ?side4 A3.out).mono ?_); (case side1 => exact My.sd_ HR0_0 HB); (case side2 => exact HC0_0.out); (case side3 => exact My.sd_ HR0_1 HB); (case side4 => exact HC0_1.out); rintro e w8 ⟨v356, v359, rfl, ho0, ho1, hb⟩; refine ⟨_, rfl, ?_⟩; have HO357 := My.am (Kd.R_lower ho0 (below_size (My.bl_ HB))); have HO360 := My.am (Kd.R_lower ho1 (below_size (My.bl_ HB))); replace BK354 := My.ab BK354 hb; replace HB := My.st HB hb; (try clear hb); (try clear ho0); (try clear ho1); obtain ⟨Ao9, co9, eo9⟩ := Kd.R_slice HO357.out; subst eo9; have hq10 := My.cz2 BK354; obtain ⟨Ao11, co11, eo11⟩ := Kd.R_slice HO360.out; subst eo11))
 refine bodyPost_ret (results_ct rfl _ _ gb354 25 #[.slice Ao9 t355.length co9, .slice Ao11 t358.length co11] (0, 0) _ rfl ((My.sv_ BK354)) Try.underlying25 rfl (by kernel_rfl)) rfl ?_
 exact ⟨_, _, My.r2, My.dR (Kd.R_mono (Kd.R_far (p := ⟨gb354, 1, none⟩) (Kd.R_far (p := ⟨gb354, 0, none⟩) (Kd.R_types HO357.out BK354.out (by decide)) (fun _ hk => hk.2) (.slice Ao9 t355.length co9)) (fun _ hk => hk.2) (.slice Ao11 t358.length co11)) (fun _ hk => trivial)), My.dR (Kd.R_mono (Kd.R_far (p := ⟨gb354, 1, none⟩) (Kd.R_far (p := ⟨gb354, 0, none⟩) (Kd.R_types HO360.out BK354.out (by decide)) (fun _ hk => hk.2) (.slice Ao9 t355.length co9)) (fun _ hk => hk.2) (.slice Ao11 t358.length co11)) (fun _ hk => trivial)), (My.bl_ HB)⟩

/-! ### ententeref07_Same: function 17 -/
mutual
def ententeref07_Same.j0 : Nat → Bool → List (S51) → List (S64) → List (S51) → List (S64) → Option (Bool)
 | 0, _, _, _, _, _ => none
 | k + 1, x22, x363000, x363001, x364000, x364001 => if x22 = true then (some false) else (ententeref07_Same.l0 k 0 x363000 x363001 x364000 x364001)
def ententeref07_Same.l0 : Nat → Int → List (S51) → List (S64) → List (S51) → List (S64) → Option (Bool)
 | 0, _, _, _, _, _ => none
 | k + 1, x5, x363000, x363001, x364000, x364001 => if x5 < (x363000.length : Int) then (if 0 ≤ x5 then (if x5 < (x364000.length : Int) then (if (!((((rd_T51 x363000 x5).f0).toList) == (((rd_T51 x364000 x5).f0).toList)) || ((!(((rd_T51 x363000 x5).f1.f0) == ((rd_T51 x364000 x5).f1.f0)) || (!(((rd_T51 x363000 x5).f1.f1) == ((rd_T51 x364000 x5).f1.f1)) || (!(((rd_T51 x363000 x5).f1.f2) == ((rd_T51 x364000 x5).f1.f2))))) || ((!(((rd_T51 x363000 x5).f2.f0) == ((rd_T51 x364000 x5).f2.f0)) || (!(((rd_T51 x363000 x5).f2.f1) == ((rd_T51 x364000 x5).f2.f1)) || (!(((rd_T51 x363000 x5).f2.f2) == ((rd_T51 x364000 x5).f2.f2)))))))) = true then (some false) else (ententeref07_Same.l0 k (wrap64 (x5 + 1)) x363000 x363001 x364000 x364001)) else (none)) else (none)) else (ententeref07_Same.l1 k 0 x363000 x363001 x364000 x364001)
def ententeref07_Same.l1 : Nat → Int → List (S51) → List (S64) → List (S51) → List (S64) → Option (Bool)
 | 0, _, _, _, _, _ => none
 | k + 1, x6, x363000, x363001, x364000, x364001 => if x6 < (x363001.length : Int) then (if 0 ≤ x6 then (if x6 < (x364001.length : Int) then (if (!((((rd_T64 x363001 x6).f0).toList) == (((rd_T64 x364001 x6).f0).toList)) || ((!(((rd_T64 x363001 x6).f1.f0) == ((rd_T64 x364001 x6).f1.f0)) || (!((((rd_T64 x363001 x6).f1.f1).toList) == (((rd_T64 x364001 x6).f1.f1).toList)) || (!(((rd_T64 x363001 x6).f1.f2) == ((rd_T64 x364001 x6).f1.f2))))) || (!(((rd_T64 x363001 x6).f2) == ((rd_T64 x364001 x6).f2))))) = true then (some false) else (ententeref07_Same.l1 k (wrap64 (x6 + 1)) x363000 x363001 x364000 x364001)) else (none)) else (none)) else (some true)
end
def ententeref07_Same.f (k : Nat) (l0_0 : List (S51)) (l0_1 : List (S64)) (l1_0 : List (S51)) (l1_1 : List (S64)) : Option (Bool) := if (l0_0.length : Int) = (l1_0.length : Int) then (ententeref07_Same.j0 k ((l0_1.length : Int) != (l1_1.length : Int)) l0_0 l0_1 l1_0 l1_1) else (ententeref07_Same.j0 k true l0_0 l0_1 l1_0 l1_1)
theorem ententeref07_Same.mono_l : ∀ k, (∀ y0 y1 y2 y3 y4, LeO (ententeref07_Same.j0 k y0 y1 y2 y3 y4) (ententeref07_Same.j0 (k + 1) y0 y1 y2 y3 y4)) ∧ (∀ y0 y1 y2 y3 y4, LeO (ententeref07_Same.l0 k y0 y1 y2 y3 y4) (ententeref07_Same.l0 (k + 1) y0 y1 y2 y3 y4)) ∧ (∀ y0 y1 y2 y3 y4, LeO (ententeref07_Same.l1 k y0 y1 y2 y3 y4) (ententeref07_Same.l1 (k + 1) y0 y1 y2 y3 y4))
 | 0 => ⟨fun _ _ _ _ _ r h => by simp [ententeref07_Same.j0] at h, fun _ _ _ _ _ r h => by simp [ententeref07_Same.l0] at h, fun _ _ _ _ _ r h => by simp [ententeref07_Same.l1] at h⟩
 | k + 1 => by
  obtain ⟨ih0, ih1, ih2⟩ := ententeref07_Same.mono_l k
  refine ⟨?_, ?_, ?_⟩
  ·intro y0 y1 y2 y3 y4
   unfold ententeref07_Same.j0
   repeat' (with_reducible first | exact ih0 _ _ _ _ _ | exact ih1 _ _ _ _ _ | exact ih2 _ _ _ _ _ | exact LeO.refl _ | exact LeO.none _ | apply LeO.ite | refine LeO.bind ?_ (fun _ => ?_))
  ·intro y0 y1 y2 y3 y4
   unfold ententeref07_Same.l0
   repeat' (with_reducible first | exact ih0 _ _ _ _ _ | exact ih1 _ _ _ _ _ | exact ih2 _ _ _ _ _ | exact LeO.refl _ | exact LeO.none _ | apply LeO.ite | refine LeO.bind ?_ (fun _ => ?_))
  intro y0 y1 y2 y3 y4
  unfold ententeref07_Same.l1
  repeat' (with_reducible first | exact ih0 _ _ _ _ _ | exact ih1 _ _ _ _ _ | exact ih2 _ _ _ _ _ | exact LeO.refl _ | exact LeO.none _ | apply LeO.ite | refine LeO.bind ?_ (fun _ => ?_))
theorem ententeref07_Same.mono : ∀ a0 a1 a2 a3 k, LeO (ententeref07_Same.f k a0 a1 a2 a3) (ententeref07_Same.f (k + 1) a0 a1 a2 a3) := by
 intro a0 a1 a2 a3 k
 obtain ⟨ih0, ih1, ih2⟩ := ententeref07_Same.mono_l k
 unfold ententeref07_Same.f
 repeat' (with_reducible first | exact ih0 _ _ _ _ _ | exact ih1 _ _ _ _ _ | exact ih2 _ _ _ _ _ | exact LeO.refl _ | exact LeO.none _ | apply LeO.ite | refine LeO.bind ?_ (fun _ => ?_))
theorem ententeref07_Same.calls (k : Nat) (A0_0 : Option Addr) (c0_0 : Nat) (l0_0 : List (S51)) (A0_1 : Option Addr) (c0_1 : Nat) (l0_1 : List (S64)) (A1_0 : Option Addr) (c1_0 : Nat) (l1_0 : List (S51)) (A1_1 : Option Addr) (c1_1 : Nat) (l1_1 : List (S64)) (r : Bool) (w : World) (hr0_0 : Kd.C k51 w A0_0 l0_0.length l0_0) (hc0_0 : l0_0.length ≤ c0_0) (hr0_1 : Kd.C k64 w A0_1 l0_1.length l0_1) (hc0_1 : l0_1.length ≤ c0_1) (hr1_0 : Kd.C k51 w A1_0 l1_0.length l1_0) (hc1_0 : l1_0.length ≤ c1_0) (hr1_1 : Kd.C k64 w A1_1 l1_1.length l1_1) (hc1_1 : l1_1.length ≤ c1_1) (h : ententeref07_Same.f k l0_0 l0_1 l1_0 l1_1 = some r) :
  Calls Try.prog 17 #[.agg #[.slice A0_0 l0_0.length c0_0, .slice A0_1 l0_1.length c0_1], .agg #[.slice A1_0 l1_0.length c1_0, .slice A1_1 l1_1.length c1_1]] w fun e w' => e = .returned (.bool r) ∧ Below w.heap.size w w' := by
 have hu25 := Try.underlying25
 have hu51 := Try.underlying51
 have hu64 := Try.underlying64
 have HR0_0 := My.am hr0_0
 have HC0_0 := My.am hc0_0
 clear hr0_0 hc0_0
 have HR0_1 := My.am hr0_1
 have HC0_1 := My.am hc0_1
 clear hr0_1 hc0_1
 have HR1_0 := My.am hr1_0
 have HC1_0 := My.am hc1_0
 clear hr1_0 hc1_0
 have HR1_1 := My.am hr1_1
 have HC1_1 := My.am hc1_1
 clear hr1_1 hc1_1
 have HB := My.am (Below.refl w.heap.size w)
 unfold ententeref07_Same.f at h
 have H := h
 clear h
 have HC3 := My.am H
 clear H
 go_enter Try.func17, Try.ntmps17
 go_upto_region 1 with (first | ((with_reducible refine gate_dst (N := 2) rfl ?_); (try (refine gate_guard (by rfl) ?_; dsimp only)); refine My.bx 2 #[.slice A0_0 l0_0.length c0_0, .slice A0_1 l0_1.length c0_1] 25 ?_; intro gb362 hg w4 hbox hb; have BK362 := My.am (hbox); have GE362 := My.nge hg (My.bl_ HB); replace HB := My.st HB hb; clear hb hbox hg) | ((with_reducible refine gate_dst (N := 3) rfl ?_); (try (refine gate_guard (by rfl) ?_; dsimp only)); refine My.bx 3 #[.slice A1_0 l1_0.length c1_0, .slice A1_1 l1_1.length c1_1] 25 ?_; intro gb363 hg w5 hbox hb; have BK363 := My.am (hbox); have GE363 := My.nge hg (My.bl_ HB); replace HB := My.st HB hb; obtain ⟨NB362_363, NB363_362, BK362⟩ := My.nb hg hb BK362; clear hb hbox hg))
 repeat (go_quiet (first | ((with_reducible refine gate_dst (N := 2) rfl ?_); (try (refine gate_guard (by rfl) ?_; dsimp only)); refine My.bx 2 #[.slice A0_0 l0_0.length c0_0, .slice A0_1 l0_1.length c0_1] 25 ?_; intro gb362 hg w4 hbox hb; have BK362 := My.am (hbox); have GE362 := My.nge hg (My.bl_ HB); replace HB := My.st HB hb; clear hb hbox hg) | ((with_reducible refine gate_dst (N := 3) rfl ?_); (try (refine gate_guard (by rfl) ?_; dsimp only)); refine My.bx 3 #[.slice A1_0 l1_0.length c1_0, .slice A1_1 l1_1.length c1_1] 25 ?_; intro gb363 hg w5 hbox hb; have BK363 := My.am (hbox); have GE363 := My.nge hg (My.bl_ HB); replace HB := My.st HB hb; obtain ⟨NB362_363, NB363_362, BK362⟩ := My.nb hg hb BK362; clear hb hbox hg)); go_upto_region 1 with (first | ((with_reducible refine gate_dst (N := 2) rfl ?_); (try (refine gate_guard (by rfl) ?_; dsimp only)); refine My.bx 2 #[.slice A0_0 l0_0.length c0_0, .slice A0_1 l0_1.length c0_1] 25 ?_; intro gb362 hg w4 hbox hb; have BK362 := My.am (hbox); have GE362 := My.nge hg (My.bl_ HB); replace HB := My.st HB hb; clear hb hbox hg) | ((with_reducible refine gate_dst (N := 3) rfl ?_); (try (refine gate_guard (by rfl) ?_; dsimp only)); refine My.bx 3 #[.slice A1_0 l1_0.length c1_0, .slice A1_1 l1_1.length c1_1] 25 ?_; intro gb363 hg w5 hbox hb; have BK363 := My.am (hbox); have GE363 := My.nge hg (My.bl_ HB); replace HB := My.st HB hb; obtain ⟨NB362_363, NB363_362, BK362⟩ := My.nb hg hb BK362; clear hb hbox hg)))
 (try simp only [Act.put, List.setIfInBounds_toArray, List.set_cons_zero, List.set_cons_succ])
 go_cut [22] (fun v22 wc => ∃ (kq : Nat) (x22_2 : Bool), v22 = .bool x22_2 ∧ Aside0 (ententeref07_Same.j0 kq x22_2 l0_0 l0_1 l1_0 l1_1 = some r) ∧ Aside0 (kq ≤ k) ∧ Aside0 (wc.heap[gb362]? = some (.cells #[(.slice A0_0 l0_0.length c0_0), (.slice A0_1 l0_1.length c0_1)] 25 (0, 0))) ∧ Aside0 (wc.heap[gb363]? = some (.cells #[(.slice A1_0 l1_0.length c1_0), (.slice A1_1 l1_1.length c1_1)] 25 (0, 0))) ∧ Aside0 (Below w.heap.size w wc))
 case first =>
  have H := HC3.out
  clear HC3
  by_cases c6 : (l0_0.length : Int) = (l1_0.length : Int)
  ·rw [if_pos c6] at H
   have c6b0 : ((l0_0.length : Int) == (l1_0.length : Int)) = true := beq_iff_eq.mpr c6
   have c6b1 : ((l0_0.length : Int) != (l1_0.length : Int)) = false := bne_eq_false_iff_eq.mpr c6
   have c6b2 : (l0_0.length == l1_0.length) = true := by first | simpa using c6 | (simp at c6 ⊢; omega)
   clear c6
   (first | rw [c6b0] | (simp only [i64_w, i32_w]; rw [c6b0]) | skip)
   have H' := My.am H
   clear H
   have hnb7 := NB362_363.out
   have hnc7 := NB363_362.out
   have hq8 := My.cz2 BK362
   have hq9 := My.cz2 BK363
   go_wp2
   repeat (go_quiet (fail); try go_wp2)
   go_meet
   case rel => exact ⟨_, (((l0_1.length : Int) != (l1_1.length : Int))), My.r1, H', ⟨My.r4⟩, ⟨(My.at_ BK362)⟩, ⟨(My.at_ BK363)⟩, ⟨(My.bl_ HB)⟩⟩
  ·rw [if_neg c6] at H
   have c6b0 : ((l0_0.length : Int) == (l1_0.length : Int)) = false := beq_eq_false_iff_ne.mpr c6
   have c6b1 : ((l0_0.length : Int) != (l1_0.length : Int)) = true := bne_iff_ne.mpr c6
   have c6b2 : (l0_0.length == l1_0.length) = false := by first | simpa using c6 | (simp at c6 ⊢; omega)
   (first | rw [c6b0] | (simp only [i64_w, i32_w]; rw [c6b0]) | skip)
   have H' := My.am H
   clear H
   have hnb10 := NB362_363.out
   have hnc10 := NB363_362.out
   have hq11 := My.cz2 BK362
   have hq12 := My.cz2 BK363
   go_wp2
   repeat (go_quiet (fail); try go_wp2)
   go_meet
   case rel => exact ⟨_, (true), My.r1, H', ⟨My.r4⟩, ⟨(My.at_ BK362)⟩, ⟨(My.at_ BK363)⟩, ⟨(My.bl_ HB)⟩⟩
 case rest =>
  clear HC3
  obtain ⟨kq, x22_2, rfl, HA, HJ2, BK362, BK363, HB⟩ := hcut
  cases kq with
  | zero => exact absurd HA.out (by simp [ententeref07_Same.j0])
  | succ kj2 =>
   have H := HA.out
   clear HA
   simp only [ententeref07_Same.j0] at H
   by_cases c13 : x22_2 = true
   ·subst c13
    rw [if_pos rfl] at H
    obtain rfl := Option.some.inj H
    go_wp2
    repeat (go_quiet (fail); try go_wp2)
    go_ret
    exact ⟨My.r2, (My.bl_ HB)⟩
   replace c13 := Bool.eq_false_iff.mpr c13
   subst c13
   rw [if_neg (show ¬ (false = true) by decide)] at H
   have H' := My.am H
   clear H
   go_wp2
   repeat (go_quiet (fail); try go_wp2)
   go_loopg [5] kj2 (fun kq v5 w' => ∃ (x5_2 : Int), v5 = .int .i64 x5_2 ∧ Aside0 (ententeref07_Same.l0 kq x5_2 l0_0 l0_1 l1_0 l1_1 = some r) ∧ Aside0 (kq ≤ kj2) ∧ Aside0 (w'.heap[gb362]? = some (.cells #[(.slice A0_0 l0_0.length c0_0), (.slice A0_1 l0_1.length c0_1)] 25 (0, 0))) ∧ Aside0 (w'.heap[gb363]? = some (.cells #[(.slice A1_0 l1_0.length c1_0), (.slice A1_1 l1_1.length c1_1)] 25 (0, 0))) ∧ Aside0 (Below w.heap.size w w'))
   case atStart => exact ⟨(0), My.r1, H', ⟨Nat.le_refl _⟩, ⟨(My.at_ BK362)⟩, ⟨(My.at_ BK363)⟩, ⟨(My.bl_ HB)⟩⟩
   case round =>
    clear H'
    try clear c13
    obtain ⟨x5_2, rfl, HA, HK2, BK362, BK363, HB⟩ := hrel
    cases gk with
    | zero => exact absurd HA.out (by simp [ententeref07_Same.l0])
    | succ k2 =>
     have H := HA.out
     clear HA
     simp only [ententeref07_Same.l0] at H
     by_cases c14 : x5_2 < (l0_0.length : Int)
     ·rw [if_pos c14] at H
      have c14b0 := decide_eq_true c14
      clear c14
      replace H := My.ds H
      obtain ⟨c15b0, H⟩ := H
      replace H := My.ds H
      obtain ⟨c16b0, H⟩ := H
      by_cases c17 : (!((((rd_T51 l0_0 x5_2).f0).toList) == (((rd_T51 l1_0 x5_2).f0).toList)) || ((!(((rd_T51 l0_0 x5_2).f1.f0) == ((rd_T51 l1_0 x5_2).f1.f0)) || (!(((rd_T51 l0_0 x5_2).f1.f1) == ((rd_T51 l1_0 x5_2).f1.f1)) || (!(((rd_T51 l0_0 x5_2).f1.f2) == ((rd_T51 l1_0 x5_2).f1.f2))))) || ((!(((rd_T51 l0_0 x5_2).f2.f0) == ((rd_T51 l1_0 x5_2).f2.f0)) || (!(((rd_T51 l0_0 x5_2).f2.f1) == ((rd_T51 l1_0 x5_2).f2.f1)) || (!(((rd_T51 l0_0 x5_2).f2.f2) == ((rd_T51 l1_0 x5_2).f2.f2)))))))) = true
      ·rw [if_pos c17] at H
       have c17b0 : (!((((rd_T51 l0_0 x5_2).f0).toList) == (((rd_T51 l1_0 x5_2).f0).toList)) || ((!(((rd_T51 l0_0 x5_2).f1.f0) == ((rd_T51 l1_0 x5_2).f1.f0)) || (!(((rd_T51 l0_0 x5_2).f1.f1) == ((rd_T51 l1_0 x5_2).f1.f1)) || (!(((rd_T51 l0_0 x5_2).f1.f2) == ((rd_T51 l1_0 x5_2).f1.f2))))) || ((!(((rd_T51 l0_0 x5_2).f2.f0) == ((rd_T51 l1_0 x5_2).f2.f0)) || (!(((rd_T51 l0_0 x5_2).f2.f1) == ((rd_T51 l1_0 x5_2).f2.f1)) || (!(((rd_T51 l0_0 x5_2).f2.f2) == ((rd_T51 l1_0 x5_2).f2.f2)))))))) = true := c17
       clear c17
       obtain rfl := Option.some.inj H
       have hnb18 := NB362_363.out
       have hnc18 := NB363_362.out
       have hq19 := My.cz2 BK362
       have p364 : 0 ≤ (x5_2 : Int) := My.as_
       have q364 : x5_2 < (l0_0.length : Int) := My.as_
       obtain ⟨ad364, e364, hx364_0, hx364_1, hx364_2, hx364_3, hx364_4, hx364_5, hx364_6⟩ := My.up7 HB (at_T51 HR0_0.out x5_2 p364 q364)
       cases e364
       replace p364 := eq_true p364
       replace q364 := eq_true q364
       have hq20 := My.cz2 BK363
       have p365 : 0 ≤ (x5_2 : Int) := My.as_
       have q365 : x5_2 < (l1_0.length : Int) := My.as_
       obtain ⟨ad365, e365, hx365_0, hx365_1, hx365_2, hx365_3, hx365_4, hx365_5, hx365_6⟩ := My.up7 HB (at_T51 HR1_0.out x5_2 p365 q365)
       cases e365
       replace p365 := eq_true p365
       replace q365 := eq_true q365
       go_wp2
       repeat (go_quiet (fail); try go_wp2)
       go_ret
       exact ⟨My.r2, (My.bl_ HB)⟩
      rw [if_neg c17] at H
      have c17b0 : (!((((rd_T51 l0_0 x5_2).f0).toList) == (((rd_T51 l1_0 x5_2).f0).toList)) || ((!(((rd_T51 l0_0 x5_2).f1.f0) == ((rd_T51 l1_0 x5_2).f1.f0)) || (!(((rd_T51 l0_0 x5_2).f1.f1) == ((rd_T51 l1_0 x5_2).f1.f1)) || (!(((rd_T51 l0_0 x5_2).f1.f2) == ((rd_T51 l1_0 x5_2).f1.f2))))) || ((!(((rd_T51 l0_0 x5_2).f2.f0) == ((rd_T51 l1_0 x5_2).f2.f0)) || (!(((rd_T51 l0_0 x5_2).f2.f1) == ((rd_T51 l1_0 x5_2).f2.f1)) || (!(((rd_T51 l0_0 x5_2).f2.f2) == ((rd_T51 l1_0 x5_2).f2.f2)))))))) = false := by simpa using c17
      clear c17
      have H' := My.am H
      clear H
      have hnb21 := NB362_363.out
      have hnc21 := NB363_362.out
      have hq22 := My.cz2 BK362
      have p364 : 0 ≤ (x5_2 : Int) := My.as_
      have q364 : x5_2 < (l0_0.length : Int) := My.as_
      obtain ⟨ad364, e364, hx364_0, hx364_1, hx364_2, hx364_3, hx364_4, hx364_5, hx364_6⟩ := My.up7 HB (at_T51 HR0_0.out x5_2 p364 q364)
      cases e364
      replace p364 := eq_true p364
      replace q364 := eq_true q364
      have hq23 := My.cz2 BK363
      have p365 : 0 ≤ (x5_2 : Int) := My.as_
      have q365 : x5_2 < (l1_0.length : Int) := My.as_
      obtain ⟨ad365, e365, hx365_0, hx365_1, hx365_2, hx365_3, hx365_4, hx365_5, hx365_6⟩ := My.up7 HB (at_T51 HR1_0.out x5_2 p365 q365)
      cases e365
      replace p365 := eq_true p365
      replace q365 := eq_true q365
      go_wp2
      repeat (go_quiet (fail); try go_wp2)
      go_roundg k2
      case measure => have := HJ2.out; have := HK2.out; omega
      case rel => exact ⟨(wrap64 (x5_2 + 1)), My.r1, H', ⟨by have := HJ2.out; have := HK2.out; omega⟩, ⟨(My.at_ BK362)⟩, ⟨(My.at_ BK363)⟩, ⟨(My.bl_ HB)⟩⟩
     rw [if_neg c14] at H
     have c14b0 := decide_eq_false c14
     clear c14
     have H' := My.am H
     clear H
     have hnb24 := NB362_363.out
     have hnc24 := NB363_362.out
     have hq25 := My.cz2 BK362
     go_wp2
     repeat (go_quiet (fail); try go_wp2)
     go_loopg [6] k2 (fun kq v6 w' => ∃ (x6_3 : Int), v6 = .int .i64 x6_3 ∧ Aside0 (ententeref07_Same.l1 kq x6_3 l0_0 l0_1 l1_0 l1_1 = some r) ∧ Aside0 (kq ≤ k2) ∧ Aside0 (w'.heap[gb362]? = some (.cells #[(.slice A0_0 l0_0.length c0_0), (.slice A0_1 l0_1.length c0_1)] 25 (0, 0))) ∧ Aside0 (w'.heap[gb363]? = some (.cells #[(.slice A1_0 l1_0.length c1_0), (.slice A1_1 l1_1.length c1_1)] 25 (0, 0))) ∧ Aside0 (Below w.heap.size w w'))
     case atStart => exact ⟨(0), My.r1, H', ⟨Nat.le_refl _⟩, ⟨(My.at_ BK362)⟩, ⟨(My.at_ BK363)⟩, ⟨(My.bl_ HB)⟩⟩
     case round =>
      clear H'
      try clear c13
      try clear c14
      try clear c14b0
      try clear hq25
      obtain ⟨x6_3, rfl, HA, HK3, BK362, BK363, HB⟩ := hrel
      cases gk with
      | zero => exact absurd HA.out (by simp [ententeref07_Same.l1])
      | succ k3 =>
       have H := HA.out
       clear HA
       simp only [ententeref07_Same.l1] at H
       by_cases c26 : x6_3 < (l0_1.length : Int)
       rotate_left
       ·rw [if_neg c26] at H
        have c26b0 := decide_eq_false c26
        clear c26
        obtain rfl := Option.some.inj H
        have hnb36 := NB362_363.out
        have hnc36 := NB363_362.out
        have hq37 := My.cz2 BK362
        go_wp2
        repeat (go_quiet (fail); try go_wp2)
        go_ret
        exact ⟨My.r2, (My.bl_ HB)⟩

       rw [if_pos c26] at H
       have c26b0 := decide_eq_true c26
       clear c26
       replace H := My.ds H
       obtain ⟨c27b0, H⟩ := H
       replace H := My.ds H
       obtain ⟨c28b0, H⟩ := H
       by_cases c29 : (!((((rd_T64 l0_1 x6_3).f0).toList) == (((rd_T64 l1_1 x6_3).f0).toList)) || ((!(((rd_T64 l0_1 x6_3).f1.f0) == ((rd_T64 l1_1 x6_3).f1.f0)) || (!((((rd_T64 l0_1 x6_3).f1.f1).toList) == (((rd_T64 l1_1 x6_3).f1.f1).toList)) || (!(((rd_T64 l0_1 x6_3).f1.f2) == ((rd_T64 l1_1 x6_3).f1.f2))))) || (!(((rd_T64 l0_1 x6_3).f2) == ((rd_T64 l1_1 x6_3).f2))))) = true
       ·rw [if_pos c29] at H
        have c29b0 : (!((((rd_T64 l0_1 x6_3).f0).toList) == (((rd_T64 l1_1 x6_3).f0).toList)) || ((!(((rd_T64 l0_1 x6_3).f1.f0) == ((rd_T64 l1_1 x6_3).f1.f0)) || (!((((rd_T64 l0_1 x6_3).f1.f1).toList) == (((rd_T64 l1_1 x6_3).f1.f1).toList)) || (!(((rd_T64 l0_1 x6_3).f1.f2) == ((rd_T64 l1_1 x6_3).f1.f2))))) || (!(((rd_T64 l0_1 x6_3).f2) == ((rd_T64 l1_1 x6_3).f2))))) = true := c29
        clear c29
        obtain rfl := Option.some.inj H
        have hnb30 := NB362_363.out
        have hnc30 := NB363_362.out
        have hq31 := My.cz2 BK362
        have p366 : 0 ≤ (x6_3 : Int) := My.as_
        have q366 : x6_3 < (l0_1.length : Int) := My.as_
        obtain ⟨ad366, e366, hx366_0, hx366_1, hx366_2, hx366_3, hx366_4⟩ := My.up5 HB (at_T64 HR0_1.out x6_3 p366 q366)
        cases e366
        replace p366 := eq_true p366
        replace q366 := eq_true q366
        have hq32 := My.cz2 BK363
        have p367 : 0 ≤ (x6_3 : Int) := My.as_
        have q367 : x6_3 < (l1_1.length : Int) := My.as_
        obtain ⟨ad367, e367, hx367_0, hx367_1, hx367_2, hx367_3, hx367_4⟩ := My.up5 HB (at_T64 HR1_1.out x6_3 p367 q367)
        cases e367
        replace p367 := eq_true p367
        replace q367 := eq_true q367
        go_wp2
        repeat (go_quiet (fail); try go_wp2)
        go_ret
        exact ⟨My.r2, (My.bl_ HB)⟩
       rw [if_neg c29] at H
       have c29b0 : (!((((rd_T64 l0_1 x6_3).f0).toList) == (((rd_T64 l1_1 x6_3).f0).toList)) || ((!(((rd_T64 l0_1 x6_3).f1.f0) == ((rd_T64 l1_1 x6_3).f1.f0)) || (!((((rd_T64 l0_1 x6_3).f1.f1).toList) == (((rd_T64 l1_1 x6_3).f1.f1).toList)) || (!(((rd_T64 l0_1 x6_3).f1.f2) == ((rd_T64 l1_1 x6_3).f1.f2))))) || (!(((rd_T64 l0_1 x6_3).f2) == ((rd_T64 l1_1 x6_3).f2))))) = false := by simpa using c29
       clear c29
       have H' := My.am H
       clear H
       have hnb33 := NB362_363.out
       have hnc33 := NB363_362.out
       have hq34 := My.cz2 BK362
       have p366 : 0 ≤ (x6_3 : Int) := My.as_
       have q366 : x6_3 < (l0_1.length : Int) := My.as_
       obtain ⟨ad366, e366, hx366_0, hx366_1, hx366_2, hx366_3, hx366_4⟩ := My.up5 HB (at_T64 HR0_1.out x6_3 p366 q366)
       cases e366
       replace p366 := eq_true p366
       replace q366 := eq_true q366
       have hq35 := My.cz2 BK363
       have p367 : 0 ≤ (x6_3 : Int) := My.as_
       have q367 : x6_3 < (l1_1.length : Int) := My.as_
       obtain ⟨ad367, e367, hx367_0, hx367_1, hx367_2, hx367_3, hx367_4⟩ := My.up5 HB (at_T64 HR1_1.out x6_3 p367 q367)
       cases e367
       replace p367 := eq_true p367
       replace q367 := eq_true q367
       go_wp2
       repeat (go_quiet (fail); try go_wp2)
       go_roundg k3
       case measure => have := HJ2.out; have := HK2.out; have := HK3.out; omega
       case rel => exact ⟨(wrap64 (x6_3 + 1)), My.r1, H', ⟨by have := HJ2.out; have := HK2.out; have := HK3.out; omega⟩, ⟨(My.at_ BK362)⟩, ⟨(My.at_ BK363)⟩, ⟨(My.bl_ HB)⟩⟩
end Go.Proofs.Ytikanbdhpafbiaa.PO
