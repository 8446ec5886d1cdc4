-- Written by a program of this session (wip/tools/mp.py over the kit's printer); Lean checks it.
import Derived.Test.YtikanbdhpafbiaaPk
import Derived.Test.YtikanbdhpafbiaaPOx0
import Derived.Test.YtikanbdhpafbiaaPOx4
import Derived.Test.YtikanbdhpafbiaaPOx5
import Derived.Test.YtikanbdhpafbiaaPOx8
namespace Go.Proofs.Ytikanbdhpafbiaa.PO
open Go.RowKit Go.Proofs.YtikanbdhpafbiaaW.PrintWords Go.Proofs.YtikanbdhpafbiaaW.PrintLast Go.Proofs.YtikanbdhpafbiaaW.PrintMore
attribute [local go_sem] max2_int min2_int max_two min_two max_three min_three max_four min_four   -- for this text's walks alone
set_option linter.unusedVariables false
set_option maxHeartbeats 8000000
set_option maxRecDepth 100000
set_option linter.unusedSimpArgs false

/-! ### act_each_any: function 117 -/
mutual
def act_each_any.j0 (D : Nat → Int → Int → Int → Bool → Int → Option (Int × Int × Int × Int)) : Nat → Bool → ByteArray → Int → Int → Int → Int → Int → Int → Int → ByteArray → Int → Option (ByteArray × Int × Int × Int × Int × Int × Int × Int)
 | 0, _, _, _, _, _, _, _, _, _, _, _ => none
 | k + 1, x29, x190000, x190001, x190002, x190003, x190004, x190005, x190006, x191000, x191001, x191002 => if x29 = true then (some ((⟨#[]⟩ : ByteArray), 0, 0, 0, 0, 0, 0, 60)) else ((act_ways.f x191000).bind fun bt195 => (if bt195.1 = 0 then (act_each_any.j1 D k bt195.2 x190000 x190001 x190002 x190003 x190004 x190005 x190006 x191000 x191001 x191002 x190001 x190002 x190003 x190004 x190005 x190006) else ((D k x190001 x190002 x190003 (decide (bt195.1 < 0)) x191002).bind fun bt197 => (if bt197.2.2.2 = 0 then (act_each_any.j1 D k bt195.2 x190000 x190001 x190002 x190003 x190004 x190005 x190006 x191000 x191001 x191002 bt197.1 bt197.2.1 bt197.2.2.1 x190004 x190005 x190006) else (some ((⟨#[]⟩ : ByteArray), 0, 0, 0, 0, 0, 0, bt197.2.2.2))))))
def act_each_any.j1 (D : Nat → Int → Int → Int → Bool → Int → Option (Int × Int × Int × Int)) : Nat → Int → ByteArray → Int → Int → Int → Int → Int → Int → Int → ByteArray → Int → Int → Int → Int → Int → Int → Int → Option (ByteArray × Int × Int × Int × Int × Int × Int × Int)
 | 0, _, _, _, _, _, _, _, _, _, _, _, _, _, _, _, _, _ => none
 | k + 1, x881, x190000, x190001, x190002, x190003, x190004, x190005, x190006, x191000, x191001, x191002, x195000, x195001, x195002, x195003, x195004, x195005 => if x881 = 0 then (some (x190000, x195000, x195001, x195002, x195003, x195004, x195005, 0)) else ((D k x195003 x195004 x195005 (decide (x881 < 0)) x191002).bind fun bt202 => (if bt202.2.2.2 = 0 then (some (x190000, x195000, x195001, x195002, bt202.1, bt202.2.1, bt202.2.2.1, 0)) else (some ((⟨#[]⟩ : ByteArray), 0, 0, 0, 0, 0, 0, bt202.2.2.2))))
end
def act_each_any.f (D : Nat → Int → Int → Int → Bool → Int → Option (Int × Int × Int × Int)) (k : Nat) (a0_0 : ByteArray) (a0_1 : Int) (a0_2 : Int) (a0_3 : Int) (a0_4 : Int) (a0_5 : Int) (a0_6 : Int) (a1_0 : Int) (a1_1 : ByteArray) (a1_2 : Int) (a2 : Int) : Option (ByteArray × Int × Int × Int × Int × Int × Int × Int) := (act_May.f k a0_0 a0_1 a0_2 a0_3 a0_4 a0_5 a0_6).bind fun t192 => (if t192 = 0 then ((act_Check.f k a1_0 a1_1 a1_2).bind fun t193 => (if t193 = 0 then (act_each_any.j0 D k (a1_1.toList != a0_0.toList) a0_0 a0_1 a0_2 a0_3 a0_4 a0_5 a0_6 a1_0 a1_1 a1_2) else (act_each_any.j0 D k true a0_0 a0_1 a0_2 a0_3 a0_4 a0_5 a0_6 a1_0 a1_1 a1_2))) else (some ((⟨#[]⟩ : ByteArray), 0, 0, 0, 0, 0, 0, t192)))
theorem act_each_any.mono_l (D : Nat → Int → Int → Int → Bool → Int → Option (Int × Int × Int × Int)) (hM : ∀ m0 m1 m2 m3 m4 k, LeO (D k m0 m1 m2 m3 m4) (D (k + 1) m0 m1 m2 m3 m4)) : ∀ k, (∀ y0 y1 y2 y3 y4 y5 y6 y7 y8 y9 y10, LeO (act_each_any.j0 D k y0 y1 y2 y3 y4 y5 y6 y7 y8 y9 y10) (act_each_any.j0 D (k + 1) y0 y1 y2 y3 y4 y5 y6 y7 y8 y9 y10)) ∧ (∀ y0 y1 y2 y3 y4 y5 y6 y7 y8 y9 y10 y11 y12 y13 y14 y15 y16, LeO (act_each_any.j1 D k y0 y1 y2 y3 y4 y5 y6 y7 y8 y9 y10 y11 y12 y13 y14 y15 y16) (act_each_any.j1 D (k + 1) y0 y1 y2 y3 y4 y5 y6 y7 y8 y9 y10 y11 y12 y13 y14 y15 y16))
 | 0 => ⟨fun _ _ _ _ _ _ _ _ _ _ _ r h => by simp [act_each_any.j0] at h, fun _ _ _ _ _ _ _ _ _ _ _ _ _ _ _ _ _ r h => by simp [act_each_any.j1] at h⟩
 | k + 1 => by
  obtain ⟨ih0, ih1⟩ := act_each_any.mono_l D hM k
  refine ⟨?_, ?_⟩
  ·intro y0 y1 y2 y3 y4 y5 y6 y7 y8 y9 y10
   unfold act_each_any.j0
   repeat' (with_reducible first | exact ih0 _ _ _ _ _ _ _ _ _ _ _ | exact ih1 _ _ _ _ _ _ _ _ _ _ _ _ _ _ _ _ _ | exact act_Check.mono _ _ _ _ | exact act_May.mono _ _ _ _ _ _ _ _ | exact hM _ _ _ _ _ _ | exact LeO.refl _ | exact LeO.none _ | apply LeO.ite | refine LeO.bind ?_ (fun _ => ?_))
  intro y0 y1 y2 y3 y4 y5 y6 y7 y8 y9 y10 y11 y12 y13 y14 y15 y16
  unfold act_each_any.j1
  repeat' (with_reducible first | exact ih0 _ _ _ _ _ _ _ _ _ _ _ | exact ih1 _ _ _ _ _ _ _ _ _ _ _ _ _ _ _ _ _ | exact act_Check.mono _ _ _ _ | exact act_May.mono _ _ _ _ _ _ _ _ | exact hM _ _ _ _ _ _ | exact LeO.refl _ | exact LeO.none _ | apply LeO.ite | refine LeO.bind ?_ (fun _ => ?_))
theorem act_each_any.mono (D : Nat → Int → Int → Int → Bool → Int → Option (Int × Int × Int × Int)) (hM : ∀ m0 m1 m2 m3 m4 k, LeO (D k m0 m1 m2 m3 m4) (D (k + 1) m0 m1 m2 m3 m4)) : ∀ a0 a1 a2 a3 a4 a5 a6 a7 a8 a9 a10 k, LeO (act_each_any.f D k a0 a1 a2 a3 a4 a5 a6 a7 a8 a9 a10) (act_each_any.f D (k + 1) a0 a1 a2 a3 a4 a5 a6 a7 a8 a9 a10) := by
 intro a0 a1 a2 a3 a4 a5 a6 a7 a8 a9 a10 k
 obtain ⟨ih0, ih1⟩ := act_each_any.mono_l D hM k
 unfold act_each_any.f
 repeat' (with_reducible first | exact ih0 _ _ _ _ _ _ _ _ _ _ _ | exact ih1 _ _ _ _ _ _ _ _ _ _ _ _ _ _ _ _ _ | exact act_Check.mono _ _ _ _ | exact act_May.mono _ _ _ _ _ _ _ _ | exact hM _ _ _ _ _ _ | exact LeO.refl _ | exact LeO.none _ | apply LeO.ite | refine LeO.bind ?_ (fun _ => ?_))
def act_each_any.T11 : Bool × List (List Nat × List Nat) := (true, [([], []), ([], []), ([1], [1]), ([2], [2]), ([], []), ([4], [4]), ([], []), ([6], [6]), ([0, 3, 5, 7], [0, 3, 5, 7]), ([8], [8]), ([9], [9]), ([9], [9]), ([], []), ([12, 10, 8, 0, 1, 2, 3, 4, 5, 6, 7, 8, 9, 10, 12], [10, 12]), ([11, 13, 0, 1, 2, 3, 4, 5, 6, 7, 8, 9, 10, 11, 12, 13], [11])])
def act_each_any.B11 : List Nat := [0, 0, 2, 6, 0, 16, 0, 64, 255, 511, 1023, 1023, 0, 6143, 16383]
theorem act_each_any.tab11 : rtab .any (opsOf Try.f71 11) = act_each_any.T11 := by kernel_rfl
theorem act_each_any.bits11 : waitsOk act_each_any.T11.2 act_each_any.B11 = true := by kernel_rfl
theorem act_each_any.calls (f_ : FuncId) (fn_ : Func) (hf_ : Try.prog.funcs[f_]? = some fn_) (hname_ : (fn_.name == "runtime.NumGoroutine") = false) (hb_ : fn_.body.isSome = true) (D : Nat → Int → Int → Int → Bool → Int → Option (Int × Int × Int × Int)) (hD : ∀ (k : Nat) (a0_0 : Int) (a0_1 : Int) (a0_2 : Int) (a1 : Bool) (a2 : Int) (r1 : Int) (r2 : Int) (r3 : Int) (r4 : Int) (w : World), D k a0_0 a0_1 a0_2 a1 a2 = some (r1, r2, r3, r4) → Calls Try.prog f_ #[.agg #[.int .i64 a0_0, .int .i64 a0_1, .int .i64 a0_2], .bool a1, .int .i64 a2] w fun e w' => e = .returned (.tuple #[.agg #[.int .i64 r1, .int .i64 r2, .int .i64 r3], .int .i64 r4]) ∧ Below w.heap.size w w') (k : Nat) (a0_0 : ByteArray) (a0_1 : Int) (a0_2 : Int) (a0_3 : Int) (a0_4 : Int) (a0_5 : Int) (a0_6 : Int) (a1_0 : Int) (a1_1 : ByteArray) (a1_2 : Int) (a2 : Int) (r1 : ByteArray) (r2 : Int) (r3 : Int) (r4 : Int) (r5 : Int) (r6 : Int) (r7 : Int) (r8 : Int) (w : World) (h : act_each_any.f D k a0_0 a0_1 a0_2 a0_3 a0_4 a0_5 a0_6 a1_0 a1_1 a1_2 a2 = some (r1, r2, r3, r4, r5, r6, r7, r8)) :
  Calls Try.prog 71 #[.agg #[.string a0_0, .int .i64 a0_1, .int .i64 a0_2, .int .i64 a0_3, .int .i64 a0_4, .int .i64 a0_5, .int .i64 a0_6], .agg #[.int .i64 a1_0, .string a1_1, .int .i64 a1_2], .func (.func f_) #[] #[]] w fun e w' => e = .returned (.tuple #[.agg #[.string r1, .int .i64 r2, .int .i64 r3, .int .i64 r4, .int .i64 r5, .int .i64 r6, .int .i64 r7], .int .i64 r8]) ∧ Below w.heap.size w w' := by
 have hu51 := Try.underlying51
 have hu27 := Try.underlying27
 have hu49 := Try.underlying49
 have hu123 := Try.underlying123
 have HB := My.am (Below.refl w.heap.size w)
 unfold act_each_any.f at h
 have H := h
 clear h
 replace H := Option.bind_eq_some_iff.mp H
 obtain ⟨t192, A40, H⟩ := H
 try dsimp only at H
 have A4 := My.am A40
 clear A40
 by_cases c5 : t192 = 0
 ·rw [if_pos c5] at H
  have c5b0 : (t192 == 0) = true := beq_iff_eq.mpr c5
  have c5b1 : (t192 != 0) = false := bne_eq_false_iff_eq.mpr c5
  clear c5
  have HC6 := My.am H
  clear H
  go_enter Try.func71, Try.ntmps71
  go_upto_region 4 with (first | (with_reducible refine wp_loop_rounds 3 ?_) | (with_reducible rw [rounds_succ]) | ((with_reducible refine gate_dst (N := 3) rfl ?_); refine My.bx 3 #[.string a0_0, .int .i64 a0_1, .int .i64 a0_2, .int .i64 a0_3, .int .i64 a0_4, .int .i64 a0_5, .int .i64 a0_6] 51 ?_; intro gb189 hg w7 hbox hb; have BK189 := My.am (hbox); have GE189 := My.nge hg (My.bl_ HB); replace HB := My.st HB hb; clear hb hbox hg) | ((with_reducible refine gate_dst (N := 4) rfl ?_); refine My.bx 4 #[.int .i64 a1_0, .string a1_1, .int .i64 a1_2] 27 ?_; intro gb190 hg w8 hbox hb; have BK190 := My.am (hbox); have GE190 := My.nge hg (My.bl_ HB); replace HB := My.st HB hb; obtain ⟨NB189_190, NB190_189, BK189⟩ := My.nb hg hb BK189; clear hb hbox hg) | ((with_reducible refine gate_dst (N := 6) rfl ?_); refine My.bx 6 #[.string (⟨#[]⟩ : ByteArray), .int .i64 0, .int .i64 0, .int .i64 0, .int .i64 0, .int .i64 0, .int .i64 0] 51 ?_; intro gb191 hg w9 hbox hb; have BK191 := My.am (hbox); have GE191 := My.nge hg (My.bl_ HB); replace HB := My.st HB hb; obtain ⟨NB189_191, NB191_189, BK189⟩ := My.nb hg hb BK189; obtain ⟨NB190_191, NB191_190, BK190⟩ := My.nb hg hb BK190; clear hb hbox hg; have hnb10 := NB189_190.out; have hnc10 := NB190_189.out; have hnb11 := NB189_191.out; have hnc11 := NB191_189.out; have hq12 := My.cz7 BK189) | ((with_reducible refine gate_callee (f := 51) rfl ?_); refine goesL_ (some 15) rfl rfl Try.func51 (by kernel_rfl) rfl #[.agg #[.string a0_0, .int .i64 a0_1, .int .i64 a0_2, .int .i64 a0_3, .int .i64 a0_4, .int .i64 a0_5, .int .i64 a0_6]] rfl My.gx ?_; (with_reducible refine (act_May.calls k a0_0 a0_1 a0_2 a0_3 a0_4 a0_5 a0_6 t192 _ A4.out).mono ?_); rintro e w13 ⟨rfl, hb⟩; refine ⟨_, rfl, ?_⟩; replace BK189 := My.ab BK189 hb; replace BK190 := My.ab BK190 hb; replace BK191 := My.ab BK191 hb; replace HB := My.st HB hb; (try clear hb)))
  (try simp only [Act.put, List.setIfInBounds_toArray, List.set_cons_zero, List.set_cons_succ])
  go_cut [29] (fun v29 wc => ∃ (kq : Nat) (x29_5 : Bool), v29 = .bool x29_5 ∧ Aside0 (act_each_any.j0 D kq x29_5 a0_0 a0_1 a0_2 a0_3 a0_4 a0_5 a0_6 a1_0 a1_1 a1_2 = some (r1, r2, r3, r4, r5, r6, r7, r8)) ∧ Aside0 (kq ≤ k) ∧ Aside0 (wc.heap[gb189]? = some (.cells #[.string a0_0, .int .i64 a0_1, .int .i64 a0_2, .int .i64 a0_3, .int .i64 a0_4, .int .i64 a0_5, .int .i64 a0_6] 51 (0, 0))) ∧ Aside0 (wc.heap[gb190]? = some (.cells #[.int .i64 a1_0, .string a1_1, .int .i64 a1_2] 27 (0, 0))) ∧ Aside0 (wc.heap[gb191]? = some (.cells #[.string (⟨#[]⟩ : ByteArray), .int .i64 0, .int .i64 0, .int .i64 0, .int .i64 0, .int .i64 0, .int .i64 0] 51 (0, 0))) ∧ Aside0 (Below w.heap.size w wc))
  case first =>
   have H := HC6.out
   clear HC6
   replace H := Option.bind_eq_some_iff.mp H
   obtain ⟨t193, A140, H⟩ := H
   try dsimp only at H
   have A14 := My.am A140
   clear A140
   by_cases c15 : t193 = 0
   ·rw [if_pos c15] at H
    have c15b0 : (t193 == 0) = true := beq_iff_eq.mpr c15
    have c15b1 : (t193 != 0) = false := bne_eq_false_iff_eq.mpr c15
    clear c15
    (first | rw [c15b0] | (simp only [i64_w, i32_w]; rw [c15b0]) | skip)
    have H' := My.am H
    clear H
    have hnb16 := NB190_189.out
    have hnc16 := NB189_190.out
    have hnb17 := NB190_191.out
    have hnc17 := NB191_190.out
    have hq18 := My.cz3 BK190
    go_wp2_with (first | (with_reducible refine wp_loop_rounds 3 ?_) | (with_reducible rw [rounds_succ]) | ((with_reducible refine gate_callee (f := 39) rfl ?_); refine goesL_ (some 21) rfl rfl Try.func39 (by kernel_rfl) rfl #[.agg #[.int .i64 a1_0, .string a1_1, .int .i64 a1_2]] rfl My.gx ?_; (with_reducible refine (act_Check.calls k a1_0 a1_1 a1_2 t193 _ A14.out).mono ?_); rintro e w19 ⟨rfl, hb⟩; refine ⟨_, rfl, ?_⟩; replace BK189 := My.ab BK189 hb; replace BK190 := My.ab BK190 hb; replace BK191 := My.ab BK191 hb; replace HB := My.st HB hb; (try clear hb); have hq20 := My.cz3 BK190; have hnb21 := NB189_191.out; have hnc21 := NB191_189.out; have hq22 := My.cz7 BK189))
    go_meet
    case rel => exact ⟨_, ((a1_1.toList != a0_0.toList)), My.r1, H', ⟨My.r4⟩, ⟨(My.at_ BK189)⟩, ⟨(My.at_ BK190)⟩, ⟨(My.at_ BK191)⟩, ⟨(My.bl_ HB)⟩⟩
   rw [if_neg c15] at H
   have c15b0 : (t193 == 0) = false := beq_eq_false_iff_ne.mpr c15
   have c15b1 : (t193 != 0) = true := bne_iff_ne.mpr c15
   (first | rw [c15b0] | (simp only [i64_w, i32_w]; rw [c15b0]) | skip)
   have H' := My.am H
   clear H
   have hnb23 := NB190_189.out
   have hnc23 := NB189_190.out
   have hnb24 := NB190_191.out
   have hnc24 := NB191_190.out
   have hq25 := My.cz3 BK190
   go_wp2_with (first | (with_reducible refine wp_loop_rounds 3 ?_) | (with_reducible rw [rounds_succ]) | ((with_reducible refine gate_callee (f := 39) rfl ?_); refine goesL_ (some 21) rfl rfl Try.func39 (by kernel_rfl) rfl #[.agg #[.int .i64 a1_0, .string a1_1, .int .i64 a1_2]] rfl My.gx ?_; (with_reducible refine (act_Check.calls k a1_0 a1_1 a1_2 t193 _ A14.out).mono ?_); rintro e w26 ⟨rfl, hb⟩; refine ⟨_, rfl, ?_⟩; replace BK189 := My.ab BK189 hb; replace BK190 := My.ab BK190 hb; replace BK191 := My.ab BK191 hb; replace HB := My.st HB hb; (try clear hb)))
   go_meet
   case rel => exact ⟨_, (true), My.r1, H', ⟨My.r4⟩, ⟨(My.at_ BK189)⟩, ⟨(My.at_ BK190)⟩, ⟨(My.at_ BK191)⟩, ⟨(My.bl_ HB)⟩⟩
  case rest =>
   clear HC6
   try clear c5
   try clear c5b0
   try clear c5b1
   try clear hq12
   obtain ⟨kq, x29_5, rfl, HA, HJ5, BK189, BK190, BK191, HB⟩ := hcut
   cases kq with
   | zero => exact absurd HA.out (by simp [act_each_any.j0])
   | succ kj5 =>
    have H := HA.out
    clear HA
    simp only [act_each_any.j0] at H
    by_cases c27 : x29_5 = true
    ·subst c27
     rw [if_pos rfl] at H
     simp only [Option.some.injEq, Prod.mk.injEq] at H
     obtain ⟨rfl, rfl, rfl, rfl, rfl, rfl, rfl, rfl⟩ := H
     have hnb28 := NB191_189.out
     have hnc28 := NB189_191.out
     have hnb29 := NB191_190.out
     have hnc29 := NB190_191.out
     have hq30 := My.cz7 BK191
     go_wp2_with (first | (with_reducible refine My.park_ ?_; intro X_ hX_) | (with_reducible refine wp_loop_rounds 3 ?_) | (with_reducible rw [rounds_succ]))
     (try rw [hX_.out])
     refine bodyPost_ret (results_ct rfl _ _ gb191 51 #[.string (⟨#[]⟩ : ByteArray), .int .i64 0, .int .i64 0, .int .i64 0, .int .i64 0, .int .i64 0, .int .i64 0] (0, 0) _ rfl ((My.sv_ BK191)) Try.underlying51 rfl (by kernel_rfl)) rfl ?_
     exact ⟨My.r2, (My.bl_ HB)⟩
    replace c27 := Bool.eq_false_iff.mpr c27
    subst c27
    rw [if_neg (show ¬ (false = true) by decide)] at H
    replace H := Option.bind_eq_some_iff.mp H
    obtain ⟨⟨t195, t196⟩, A310, H⟩ := H
    try dsimp only at H
    have A31 := My.am A310
    clear A310
    have HC32 := My.am H
    clear H
    have hnb33 := NB189_190.out
    have hnc33 := NB190_189.out
    have hnb34 := NB189_191.out
    have hnc34 := NB191_189.out
    have hq35 := My.cz7 BK189
    go_upto_block 1 with (first | (with_reducible refine wp_loop_rounds 3 ?_) | (with_reducible rw [rounds_succ]) | ((with_reducible refine gate_dst (N := 9) rfl ?_); refine My.bx 9 #[.int .i64 0, .int .i64 0, .int .i64 0, .int .i64 0, .int .i64 0, .int .i64 0] 123 ?_; intro gb194 hg w36 hbox hb; have BK194 := My.am (hbox); have GE194 := My.nge hg (My.bl_ HB); replace HB := My.st HB hb; obtain ⟨NB189_194, NB194_189, BK189⟩ := My.nb hg hb BK189; obtain ⟨NB190_194, NB194_190, BK190⟩ := My.nb hg hb BK190; obtain ⟨NB191_194, NB194_191, BK191⟩ := My.nb hg hb BK191; clear hb hbox hg; have hnb37 := NB194_189.out; have hnc37 := NB189_194.out; have hnb38 := NB194_190.out; have hnc38 := NB190_194.out; have hnb39 := NB194_191.out; have hnc39 := NB191_194.out; have hq40 := My.cz6 BK194; have hnb41 := NB190_191.out; have hnc41 := NB191_190.out; have hq42 := My.cz3 BK190) | ((with_reducible refine gate_callee (f := 60) rfl ?_); refine goesL_ (some 38) rfl rfl Try.func60 (by kernel_rfl) rfl #[.int .i64 a1_0] rfl My.gx ?_; (with_reducible refine (act_ways.calls a1_0 t195 t196 _ A31.out).mono ?_); rintro e w43 ⟨rfl, hb⟩; refine ⟨_, rfl, ?_⟩; replace BK189 := My.am (blk_below (g := gb189) (o := .cells #[.string a0_0, .int .i64 a0_1, .int .i64 a0_2, .int .i64 a0_3, .int .i64 a0_4, .int .i64 a0_5, .int .i64 a0_6] 51 (0, 0)) ((My.sv_ BK189)) hb); replace BK190 := My.am (blk_below (g := gb190) (o := .cells #[.int .i64 a1_0, .string a1_1, .int .i64 a1_2] 27 (0, 0)) ((My.sv_ BK190)) hb); replace BK191 := My.am (blk_below (g := gb191) (o := .cells #[.string (⟨#[]⟩ : ByteArray), .int .i64 0, .int .i64 0, .int .i64 0, .int .i64 0, .int .i64 0, .int .i64 0] 51 (0, 0)) ((My.sv_ BK191)) hb); replace BK194 := My.am (blk_below (g := gb194) (o := .cells #[.int .i64 a0_1, .int .i64 a0_2, .int .i64 a0_3, .int .i64 a0_4, .int .i64 a0_5, .int .i64 a0_6] 123 (0, 0)) ((My.sv_ BK194)) hb); replace HB := My.st HB hb; (try clear hb)))
    (try simp only [Act.put, List.setIfInBounds_toArray, List.set_cons_zero, List.set_cons_succ])
    go_cut [] (fun wc => ∃ (kq : Nat) (x192000_31 : ByteArray) (x192001_31 : Int) (x192002_31 : Int) (x192003_31 : Int) (x192004_31 : Int) (x192005_31 : Int) (x192006_31 : Int) (x195000_31 : Int) (x195001_31 : Int) (x195002_31 : Int) (x195003_31 : Int) (x195004_31 : Int) (x195005_31 : Int), Aside0 (act_each_any.j1 D kq t196 a0_0 a0_1 a0_2 a0_3 a0_4 a0_5 a0_6 a1_0 a1_1 a1_2 x195000_31 x195001_31 x195002_31 x195003_31 x195004_31 x195005_31 = some (r1, r2, r3, r4, r5, r6, r7, r8)) ∧ Aside0 (kq ≤ kj5) ∧ Aside0 (wc.heap[gb189]? = some (.cells #[.string a0_0, .int .i64 a0_1, .int .i64 a0_2, .int .i64 a0_3, .int .i64 a0_4, .int .i64 a0_5, .int .i64 a0_6] 51 (0, 0))) ∧ Aside0 (wc.heap[gb190]? = some (.cells #[.int .i64 a1_0, .string a1_1, .int .i64 a1_2] 27 (0, 0))) ∧ Aside0 (wc.heap[gb191]? = some (.cells #[.string x192000_31, .int .i64 x192001_31, .int .i64 x192002_31, .int .i64 x192003_31, .int .i64 x192004_31, .int .i64 x192005_31, .int .i64 x192006_31] 51 (0, 0))) ∧ Aside0 (wc.heap[gb194]? = some (.cells #[.int .i64 x195000_31, .int .i64 x195001_31, .int .i64 x195002_31, .int .i64 x195003_31, .int .i64 x195004_31, .int .i64 x195005_31] 123 (0, 0))) ∧ Aside0 (Below w.heap.size w wc))
    case first =>
     have H := HC32.out
     clear HC32
     have ia_ : ∀ w_ : World, (Instr.index 96 (.agg #[.int .i64 t195, .int .i64 t196]) (.int .i64 0)).run Try.prog w_ = .ok (.int .i64 t195) w_ := fun _ => by kernel_rfl
     have ib_ : ∀ w_ : World, (Instr.index 96 (.agg #[.int .i64 t195, .int .i64 t196]) (.int .i64 1)).run Try.prog w_ = .ok (.int .i64 t196) w_ := fun _ => by kernel_rfl
     by_cases c44 : t195 = 0
     ·rw [if_pos c44] at H
      have c44b0 : (t195 == 0) = true := beq_iff_eq.mpr c44
      have c44b1 : (t195 != 0) = false := bne_eq_false_iff_eq.mpr c44
      clear c44
      (first | rw [c44b0] | (simp only [i64_w, i32_w]; rw [c44b0]) | skip)
      have H' := My.am H
      clear H
      go_wp2_with (first | (with_reducible refine wp_loop_rounds 3 ?_) | (with_reducible rw [rounds_succ]))
      go_meet
      case rel => exact ⟨_, ((⟨#[]⟩ : ByteArray)), (0), (0), (0), (0), (0), (0), (a0_1), (a0_2), (a0_3), (a0_4), (a0_5), (a0_6), H', ⟨by have := HJ5.out; first | omega | exact Nat.le_refl _⟩, ⟨(My.at_ BK189)⟩, ⟨(My.at_ BK190)⟩, ⟨(My.at_ BK191)⟩, ⟨(My.at_ BK194)⟩, ⟨(My.bl_ HB)⟩⟩
     rw [if_neg c44] at H
     have c44b0 : (t195 == 0) = false := beq_eq_false_iff_ne.mpr c44
     have c44b1 : (t195 != 0) = true := bne_iff_ne.mpr c44
     (first | rw [c44b0] | (simp only [i64_w, i32_w]; rw [c44b0]) | skip)
     replace H := Option.bind_eq_some_iff.mp H
     obtain ⟨⟨t197, t198, t199, t200⟩, A450, H⟩ := H
     try dsimp only at H
     have A45 := My.am A450
     clear A450
     by_cases c46 : t200 = 0
     ·rw [if_pos c46] at H
      have c46b0 : (t200 == 0) = true := beq_iff_eq.mpr c46
      have c46b1 : (t200 != 0) = false := bne_eq_false_iff_eq.mpr c46
      clear c46
      have H' := My.am H
      clear H
      try go_wp2_with (first | (with_reducible refine wp_loop_rounds 3 ?_) | (with_reducible rw [rounds_succ]))
      replace BK189 := My.am (blk_drew BK189.out)
      replace BK190 := My.am (blk_drew BK190.out)
      replace BK191 := My.am (blk_drew BK191.out)
      replace BK194 := My.am (blk_drew BK194.out)
      replace HB := My.am (below_drew1 HB.out)
      refine start_ (n := 15) (S := fun w' => w'.cell? ⟨gb194, 0, none⟩ = some (.int .i64 a0_1) ∧ w'.cell? ⟨gb194, 1, none⟩ = some (.int .i64 a0_2) ∧ w'.cell? ⟨gb194, 2, none⟩ = some (.int .i64 a0_3) ∧ w'.cell? ⟨gb194, 3, none⟩ = some (.int .i64 a0_4) ∧ w'.cell? ⟨gb194, 4, none⟩ = some (.int .i64 a0_5) ∧ w'.cell? ⟨gb194, 5, none⟩ = some (.int .i64 a0_6) ∧ w'.cell? ⟨gb190, 0, none⟩ = some (.int .i64 a1_0) ∧ w'.cell? ⟨gb190, 1, none⟩ = some (.string a1_1) ∧ w'.cell? ⟨gb190, 2, none⟩ = some (.int .i64 a1_2)) (ds := []) #[false, false, false, false, false, false, false, false, false, false, false, false, false, false, false] (by kernel_rfl) rfl rfl ⟨My.b_ BK194 0, My.b_ BK194 1, My.b_ BK194 2, My.b_ BK194 3, My.b_ BK194 4, My.b_ BK194 5, My.b_ BK190 0, My.b_ BK190 1, My.b_ BK190 2⟩ (fun hHeld => ?_); refine with_tabW act_each_any.tab11 act_each_any.bits11 (fun HT_ HW_ => ?_)
      generalize w43.drew = w47 at BK189 BK190 BK191 BK194 HB hHeld ⊢
      refine My.pu_ 0 46 15 HT_.out ?_
      refine My.pu_ 1 47 15 HT_.out ?_
      refine My.pu_ 2 48 15 HT_.out ?_
      refine My.pv_ 4 50 15 23 HT_.out ?_
      refine My.pv_ 5 51 15 55 HT_.out ?_
      refine My.pv_ 6 52 15 119 HT_.out ?_
      refine My.tv_ 3 49 15 127 HT_.out HW_.out hHeld rfl rfl (by rintro w' ⟨s0, s1, s2, s3, s4, s5, s6, s7, s8⟩; go_simp; with_reducible rfl) ?_
      refine My.ta_ 7 53 15 HT_.out HW_.out hHeld rfl rfl (by rintro w' ⟨s0, s1, s2, s3, s4, s5, s6, s7, s8⟩; go_simp; with_reducible rfl) ?_
      refine join_ (σ := Nat) 2 (My.Mb 15 8191) (fun s_ => [(54, .tuple #[.agg #[.int .i64 t197, .int .i64 t198, .int .i64 t199], .int .i64 t200]), (12, .pointer (some ⟨s_, 0, none⟩)), (45, .tuple #[.agg #[.int .i64 t197, .int .i64 t198, .int .i64 t199], .int .i64 t200]), (55, .agg #[.int .i64 t197, .int .i64 t198, .int .i64 t199]), (56, .int .i64 t200)]) (fun s_ w' => (w'.cell? ⟨gb194, 0, none⟩ = some (.int .i64 a0_1) ∧ w'.cell? ⟨gb194, 1, none⟩ = some (.int .i64 a0_2) ∧ w'.cell? ⟨gb194, 2, none⟩ = some (.int .i64 a0_3) ∧ w'.cell? ⟨gb194, 3, none⟩ = some (.int .i64 a0_4) ∧ w'.cell? ⟨gb194, 4, none⟩ = some (.int .i64 a0_5) ∧ w'.cell? ⟨gb194, 5, none⟩ = some (.int .i64 a0_6) ∧ w'.cell? ⟨gb190, 0, none⟩ = some (.int .i64 a1_0) ∧ w'.cell? ⟨gb190, 1, none⟩ = some (.string a1_1) ∧ w'.cell? ⟨gb190, 2, none⟩ = some (.int .i64 a1_2)) ∧ (w'.heap[gb189]? = some (.cells #[.string a0_0, .int .i64 a0_1, .int .i64 a0_2, .int .i64 a0_3, .int .i64 a0_4, .int .i64 a0_5, .int .i64 a0_6] 51 (0, 0))) ∧ (w'.heap[gb190]? = some (.cells #[.int .i64 a1_0, .string a1_1, .int .i64 a1_2] 27 (0, 0))) ∧ (w'.heap[gb191]? = some (.cells #[.string (⟨#[]⟩ : ByteArray), .int .i64 0, .int .i64 0, .int .i64 0, .int .i64 0, .int .i64 0, .int .i64 0] 51 (0, 0))) ∧ (w'.heap[gb194]? = some (.cells #[.int .i64 a0_1, .int .i64 a0_2, .int .i64 a0_3, .int .i64 a0_4, .int .i64 a0_5, .int .i64 a0_6] 123 (0, 0))) ∧ (w'.heap[s_]? = some (.cells #[.int .i64 0, .int .i64 0, .int .i64 0] 49 (0, 0))) ∧ (w.heap.size ≤ s_) ∧ (w.heap.size ≤ s_) ∧ (gb189 ≠ s_) ∧ (s_ ≠ gb189) ∧ (gb190 ≠ s_) ∧ (s_ ≠ gb190) ∧ (gb191 ≠ s_) ∧ (s_ ≠ gb191) ∧ (gb194 ≠ s_) ∧ (s_ ≠ gb194) ∧ (Below w.heap.size w w')) ?_ ?_
      rotate_left
      ·intro hCont
       refine two_ (i := 8) (j := 12) (Ni := some 54) (Nj := some 12) (My.Mb 15 511) (My.Mb 15 4351) rfl rfl rfl rfl (two_of HT_.out (by kernel_rfl)) (by decide) (by decide) (fun K hK => ?_) (fun K hK => ?_)
       ·skip
        refine My.goesW_ (f := f_) (first := #[]) (cap := #[]) hf_ hname_ hb_ #[.agg #[.int .i64 a0_1, .int .i64 a0_2, .int .i64 a0_3], .bool (decide (t195 < 0)), .int .i64 a1_2] (by rfl) rfl rfl rfl (by (try simp only [List.map_toArray, List.map_cons, List.map_nil, Array.empty_append, Array.append_empty]); first | done | rfl | (simp only [List.length_drop, List.length_take]; rfl)) ?_
        with_reducible refine (hD kj5 a0_1 a0_2 a0_3 (decide (t195 < 0)) a1_2 t197 t198 t199 t200 _ A45.out).mono ?_
        rintro e w48 ⟨rfl, hb⟩
        refine ⟨_, rfl, ?_⟩
        replace BK189 := My.ab BK189 hb
        replace BK190 := My.ab BK190 hb
        replace BK191 := My.ab BK191 hb
        replace BK194 := My.ab BK194 hb
        replace HB := My.st HB hb
        (try clear hb)
        (try clear hb2)
        (try clear hk)
        (try clear hi)
        refine hK.out _ _ ⟨My.b_ BK194 0, My.b_ BK194 1, My.b_ BK194 2, My.b_ BK194 3, My.b_ BK194 4, My.b_ BK194 5, My.b_ BK190 0, My.b_ BK190 1, My.b_ BK190 2⟩ (fun hHeld => ?_)
        clear hK K
        refine My.nm 54 ?_
        refine My.pu_ 9 45 15 HT_.out ?_
        refine My.pu_ 10 55 15 HT_.out ?_
        refine My.pu_ 11 56 15 HT_.out ?_
        refine one_ (i := 12) (N := some 12) (My.Mb 15 8191) rfl rfl (one_of HT_.out (by kernel_rfl)) (by decide) (fun K hK => ?_)
        refine box_step ?hg (N := 12) ?hd (cs := #[.int .i64 0, .int .i64 0, .int .i64 0]) (t := 49) ?hr ?_; (case hd => rfl); (case hg => rfl); (case hr => first | (go_simp; done) | (go_simp; rfl))
        intro gb201 hg w49 hbox hb
        have BK201 := My.am (hbox)
        have GW201 := My.nge hg (My.bl_ HB)
        have GE201 := My.nge hg (My.bl_ HB)
        replace HB := My.st HB hb
        obtain ⟨NB189_201, NB201_189, BK189⟩ := My.nb hg hb BK189
        obtain ⟨NB190_201, NB201_190, BK190⟩ := My.nb hg hb BK190
        obtain ⟨NB191_201, NB201_191, BK191⟩ := My.nb hg hb BK191
        obtain ⟨NB194_201, NB201_194, BK194⟩ := My.nb hg hb BK194
        clear hb hbox hg
        refine hK.out _ _ ⟨My.b_ BK194 0, My.b_ BK194 1, My.b_ BK194 2, My.b_ BK194 3, My.b_ BK194 4, My.b_ BK194 5, My.b_ BK190 0, My.b_ BK190 1, My.b_ BK190 2⟩ (fun hHeld => ?_)
        clear hK K
        refine My.nm 12 ?_
        exact norm_ (by simp only [putAll, Act.put, List.setIfInBounds_toArray, List.set_cons_zero, List.set_cons_succ]) (hCont (gb201) _ ⟨hHeld, (My.at_ BK189), (My.at_ BK190), (My.at_ BK191), (My.at_ BK194), (My.at_ BK201), GW201.out, GE201.out, NB189_201.out, NB201_189.out, NB190_201.out, NB201_190.out, NB191_201.out, NB201_191.out, NB194_201.out, NB201_194.out, (My.bl_ HB)⟩)
       skip
       refine box_step ?hg (N := 12) ?hd (cs := #[.int .i64 0, .int .i64 0, .int .i64 0]) (t := 49) ?hr ?_; (case hd => rfl); (case hg => rfl); (case hr => first | (go_simp; done) | (go_simp; rfl))
       intro gb201 hg w48 hbox hb
       have BK201 := My.am (hbox)
       have GW201 := My.nge hg (My.bl_ HB)
       have GE201 := My.nge hg (My.bl_ HB)
       replace HB := My.st HB hb
       obtain ⟨NB189_201, NB201_189, BK189⟩ := My.nb hg hb BK189
       obtain ⟨NB190_201, NB201_190, BK190⟩ := My.nb hg hb BK190
       obtain ⟨NB191_201, NB201_191, BK191⟩ := My.nb hg hb BK191
       obtain ⟨NB194_201, NB201_194, BK194⟩ := My.nb hg hb BK194
       clear hb hbox hg
       refine hK.out _ _ ⟨My.b_ BK194 0, My.b_ BK194 1, My.b_ BK194 2, My.b_ BK194 3, My.b_ BK194 4, My.b_ BK194 5, My.b_ BK190 0, My.b_ BK190 1, My.b_ BK190 2⟩ (fun hHeld => ?_)
       clear hK K
       refine My.nm 12 ?_
       refine one_ (i := 8) (N := some 54) (My.Mb 15 4607) rfl rfl (one_of HT_.out (by kernel_rfl)) (by decide) (fun K hK => ?_)
       refine My.goesW_ (f := f_) (first := #[]) (cap := #[]) hf_ hname_ hb_ #[.agg #[.int .i64 a0_1, .int .i64 a0_2, .int .i64 a0_3], .bool (decide (t195 < 0)), .int .i64 a1_2] (by rfl) rfl rfl rfl (by (try simp only [List.map_toArray, List.map_cons, List.map_nil, Array.empty_append, Array.append_empty]); first | done | rfl | (simp only [List.length_drop, List.length_take]; rfl)) ?_
       with_reducible refine (hD kj5 a0_1 a0_2 a0_3 (decide (t195 < 0)) a1_2 t197 t198 t199 t200 _ A45.out).mono ?_
       rintro e w49 ⟨rfl, hb⟩
       refine ⟨_, rfl, ?_⟩
       replace BK189 := My.ab BK189 hb
       replace BK190 := My.ab BK190 hb
       replace BK191 := My.ab BK191 hb
       replace BK194 := My.ab BK194 hb
       replace BK201 := My.ab BK201 hb
       replace HB := My.st HB hb
       (try clear hb)
       (try clear hb2)
       (try clear hk)
       (try clear hi)
       refine hK.out _ _ ⟨My.b_ BK194 0, My.b_ BK194 1, My.b_ BK194 2, My.b_ BK194 3, My.b_ BK194 4, My.b_ BK194 5, My.b_ BK190 0, My.b_ BK190 1, My.b_ BK190 2⟩ (fun hHeld => ?_)
       clear hK K
       refine My.nm 54 ?_
       refine My.pv_ 9 45 15 5119 HT_.out ?_
       refine My.pv_ 10 55 15 6143 HT_.out ?_
       refine My.pv_ 11 56 15 8191 HT_.out ?_
       exact norm_ (by simp only [putAll, Act.put, List.setIfInBounds_toArray, List.set_cons_zero, List.set_cons_succ]) (hCont (gb201) _ ⟨hHeld, (My.at_ BK189), (My.at_ BK190), (My.at_ BK191), (My.at_ BK194), (My.at_ BK201), GW201.out, GE201.out, NB189_201.out, NB201_189.out, NB190_201.out, NB201_190.out, NB191_201.out, NB201_191.out, NB194_201.out, NB201_194.out, (My.bl_ HB)⟩)
      rintro gb201 w50 ⟨hS_, h0_, h1_, h2_, h3_, h4_, h5_, h6_, h7_, h8_, h9_, h10_, h11_, h12_, h13_, h14_, h15_⟩
      have n0_ : Aside0 (w50.heap[gb189]? = some (.cells #[.string a0_0, .int .i64 a0_1, .int .i64 a0_2, .int .i64 a0_3, .int .i64 a0_4, .int .i64 a0_5, .int .i64 a0_6] 51 (0, 0))) := ⟨h0_⟩
      have n1_ : Aside0 (w50.heap[gb190]? = some (.cells #[.int .i64 a1_0, .string a1_1, .int .i64 a1_2] 27 (0, 0))) := ⟨h1_⟩
      have n2_ : Aside0 (w50.heap[gb191]? = some (.cells #[.string (⟨#[]⟩ : ByteArray), .int .i64 0, .int .i64 0, .int .i64 0, .int .i64 0, .int .i64 0, .int .i64 0] 51 (0, 0))) := ⟨h2_⟩
      have n3_ : Aside0 (w50.heap[gb194]? = some (.cells #[.int .i64 a0_1, .int .i64 a0_2, .int .i64 a0_3, .int .i64 a0_4, .int .i64 a0_5, .int .i64 a0_6] 123 (0, 0))) := ⟨h3_⟩
      have n4_ : Aside0 (w50.heap[gb201]? = some (.cells #[.int .i64 0, .int .i64 0, .int .i64 0] 49 (0, 0))) := ⟨h4_⟩
      have n5_ : Aside0 (w.heap.size ≤ gb201) := ⟨h5_⟩
      have n6_ : Aside0 (w.heap.size ≤ gb201) := ⟨h6_⟩
      have n7_ : Aside0 (gb189 ≠ gb201) := ⟨h7_⟩
      have n8_ : Aside0 (gb201 ≠ gb189) := ⟨h8_⟩
      have n9_ : Aside0 (gb190 ≠ gb201) := ⟨h9_⟩
      have n10_ : Aside0 (gb201 ≠ gb190) := ⟨h10_⟩
      have n11_ : Aside0 (gb191 ≠ gb201) := ⟨h11_⟩
      have n12_ : Aside0 (gb201 ≠ gb191) := ⟨h12_⟩
      have n13_ : Aside0 (gb194 ≠ gb201) := ⟨h13_⟩
      have n14_ : Aside0 (gb201 ≠ gb194) := ⟨h14_⟩
      have n15_ : Aside0 (Below w.heap.size w w50) := ⟨h15_⟩
      clear BK189
      clear BK190
      clear BK191
      clear BK194
      clear HB
      clear h0_ h1_ h2_ h3_ h4_ h5_ h6_ h7_ h8_ h9_ h10_ h11_ h12_ h13_ h14_ h15_
      have BK189 := n0_
      have BK190 := n1_
      have BK191 := n2_
      have BK194 := n3_
      have BK201 := n4_
      have GW201 := n5_
      have GE201 := n6_
      have NB189_201 := n7_
      have NB201_189 := n8_
      have NB190_201 := n9_
      have NB201_190 := n10_
      have NB191_201 := n11_
      have NB201_191 := n12_
      have NB194_201 := n13_
      have NB201_194 := n14_
      have HB := n15_
      clear n0_ n1_ n2_ n3_ n4_ n5_ n6_ n7_ n8_ n9_ n10_ n11_ n12_ n13_ n14_ n15_
      have hHeld : w50.cell? ⟨gb194, 0, none⟩ = some (.int .i64 a0_1) ∧ w50.cell? ⟨gb194, 1, none⟩ = some (.int .i64 a0_2) ∧ w50.cell? ⟨gb194, 2, none⟩ = some (.int .i64 a0_3) ∧ w50.cell? ⟨gb194, 3, none⟩ = some (.int .i64 a0_4) ∧ w50.cell? ⟨gb194, 4, none⟩ = some (.int .i64 a0_5) ∧ w50.cell? ⟨gb194, 5, none⟩ = some (.int .i64 a0_6) ∧ w50.cell? ⟨gb190, 0, none⟩ = some (.int .i64 a1_0) ∧ w50.cell? ⟨gb190, 1, none⟩ = some (.string a1_1) ∧ w50.cell? ⟨gb190, 2, none⟩ = some (.int .i64 a1_2) := hS_
      refine norm_ (a' := ?_) ?_ ?_
      rotate_left
      ·simp only [putAll, Act.put, List.setIfInBounds_toArray, List.set_cons_zero, List.set_cons_succ]
       rfl
      refine one_ (i := 13) (N := none) (My.Mb 15 16383) rfl rfl (one_of HT_.out (by kernel_rfl)) (by decide) (fun K hK => ?_)
      have hs51 : w50.cell? ⟨gb201, 0, none⟩ = some (.int .i64 0) := My.b_ BK201 0
      have hfs51 := blk_frozen BK201.out 0
      have hns51_0 := NB189_201.out
      have hns51_1 := NB190_201.out
      have hns51_2 := NB191_201.out
      have hns51_3 := NB194_201.out
      have hms51_0 := NB201_189.out
      have hms51_1 := NB201_190.out
      have hms51_2 := NB201_191.out
      have hms51_3 := NB201_194.out
      have hs52 : w50.cell? ⟨gb201, 1, none⟩ = some (.int .i64 0) := My.b_ BK201 1
      have hfs52 := blk_frozen BK201.out 1
      have hns52_0 := NB189_201.out
      have hns52_1 := NB190_201.out
      have hns52_2 := NB191_201.out
      have hns52_3 := NB194_201.out
      have hms52_0 := NB201_189.out
      have hms52_1 := NB201_190.out
      have hms52_2 := NB201_191.out
      have hms52_3 := NB201_194.out
      have hs53 : w50.cell? ⟨gb201, 2, none⟩ = some (.int .i64 0) := My.b_ BK201 2
      have hfs53 := blk_frozen BK201.out 2
      have hns53_0 := NB189_201.out
      have hns53_1 := NB190_201.out
      have hns53_2 := NB191_201.out
      have hns53_3 := NB194_201.out
      have hms53_0 := NB201_189.out
      have hms53_1 := NB201_190.out
      have hms53_2 := NB201_191.out
      have hms53_3 := NB201_194.out
      refine skip_ (w1 := ?_) (by rfl) rfl ?_ ?_
      rotate_left
      ·go_simp
       rfl
      refine hK.out _ _ ⟨(My.c3 NB194_201.out hHeld.1), (My.c3 NB194_201.out hHeld.2.1), (My.c3 NB194_201.out hHeld.2.2.1), (My.c3 NB194_201.out hHeld.2.2.2.1), (My.c3 NB194_201.out hHeld.2.2.2.2.1), (My.c3 NB194_201.out hHeld.2.2.2.2.2.1), (My.c3 NB190_201.out hHeld.2.2.2.2.2.2.1), (My.c3 NB190_201.out hHeld.2.2.2.2.2.2.2.1), (My.c3 NB190_201.out hHeld.2.2.2.2.2.2.2.2)⟩ (fun hHeld => ?_)
      clear hK K
      refine My.pu_ 14 13 15 HT_.out ?_
      refine done_ (done_of HT_.out (by kernel_rfl)) ?_
      have hnb54 := NB201_189.out
      have hnc54 := NB189_201.out
      have hnb55 := NB201_190.out
      have hnc55 := NB190_201.out
      have hnb56 := NB201_191.out
      have hnc56 := NB191_201.out
      have hnb57 := NB201_194.out
      have hnc57 := NB194_201.out
      have hq58 := My.cz3 BK201
      have hnb59 := NB194_189.out
      have hnc59 := NB189_194.out
      have hnb60 := NB194_190.out
      have hnc60 := NB190_194.out
      have hnb61 := NB194_191.out
      have hnc61 := NB191_194.out
      have hq62 := My.cz6 BK194
      try go_wp2_with (first | (with_reducible refine wp_loop_rounds 3 ?_) | (with_reducible rw [rounds_succ]))
      go_meet
      case rel => exact ⟨_, ((⟨#[]⟩ : ByteArray)), (0), (0), (0), (0), (0), (0), (t197), (t198), (t199), (a0_4), (a0_5), (a0_6), H', ⟨by have := HJ5.out; first | omega | exact Nat.le_refl _⟩, ⟨(My.sv_ BK189)⟩, ⟨(My.sv_ BK190)⟩, ⟨(My.sv_ BK191)⟩, ⟨(My.sv_ BK194)⟩, ⟨(My.bl_ HB)⟩⟩
     rw [if_neg c46] at H
     have c46b0 : (t200 == 0) = false := beq_eq_false_iff_ne.mpr c46
     have c46b1 : (t200 != 0) = true := bne_iff_ne.mpr c46
     simp only [Option.some.injEq, Prod.mk.injEq] at H
     obtain ⟨rfl, rfl, rfl, rfl, rfl, rfl, rfl, rfl⟩ := H
     try go_wp2_with (first | (with_reducible refine wp_loop_rounds 3 ?_) | (with_reducible rw [rounds_succ]))
     replace BK189 := My.am (blk_drew BK189.out)
     replace BK190 := My.am (blk_drew BK190.out)
     replace BK191 := My.am (blk_drew BK191.out)
     replace BK194 := My.am (blk_drew BK194.out)
     replace HB := My.am (below_drew1 HB.out)
     refine start_ (n := 15) (S := fun w' => w'.cell? ⟨gb194, 0, none⟩ = some (.int .i64 a0_1) ∧ w'.cell? ⟨gb194, 1, none⟩ = some (.int .i64 a0_2) ∧ w'.cell? ⟨gb194, 2, none⟩ = some (.int .i64 a0_3) ∧ w'.cell? ⟨gb194, 3, none⟩ = some (.int .i64 a0_4) ∧ w'.cell? ⟨gb194, 4, none⟩ = some (.int .i64 a0_5) ∧ w'.cell? ⟨gb194, 5, none⟩ = some (.int .i64 a0_6) ∧ w'.cell? ⟨gb190, 0, none⟩ = some (.int .i64 a1_0) ∧ w'.cell? ⟨gb190, 1, none⟩ = some (.string a1_1) ∧ w'.cell? ⟨gb190, 2, none⟩ = some (.int .i64 a1_2)) (ds := []) #[false, false, false, false, false, false, false, false, false, false, false, false, false, false, false] (by kernel_rfl) rfl rfl ⟨My.b_ BK194 0, My.b_ BK194 1, My.b_ BK194 2, My.b_ BK194 3, My.b_ BK194 4, My.b_ BK194 5, My.b_ BK190 0, My.b_ BK190 1, My.b_ BK190 2⟩ (fun hHeld => ?_); refine with_tabW act_each_any.tab11 act_each_any.bits11 (fun HT_ HW_ => ?_)
     generalize w43.drew = w63 at BK189 BK190 BK191 BK194 HB hHeld ⊢
     refine My.pu_ 0 46 15 HT_.out ?_
     refine My.pu_ 1 47 15 HT_.out ?_
     refine My.pu_ 2 48 15 HT_.out ?_
     refine My.pv_ 4 50 15 23 HT_.out ?_
     refine My.pv_ 5 51 15 55 HT_.out ?_
     refine My.pv_ 6 52 15 119 HT_.out ?_
     refine My.tv_ 3 49 15 127 HT_.out HW_.out hHeld rfl rfl (by rintro w' ⟨s0, s1, s2, s3, s4, s5, s6, s7, s8⟩; go_simp; with_reducible rfl) ?_
     refine My.ta_ 7 53 15 HT_.out HW_.out hHeld rfl rfl (by rintro w' ⟨s0, s1, s2, s3, s4, s5, s6, s7, s8⟩; go_simp; with_reducible rfl) ?_
     refine join_ (σ := Nat) 2 (My.Mb 15 8191) (fun s_ => [(54, .tuple #[.agg #[.int .i64 t197, .int .i64 t198, .int .i64 t199], .int .i64 t200]), (12, .pointer (some ⟨s_, 0, none⟩)), (45, .tuple #[.agg #[.int .i64 t197, .int .i64 t198, .int .i64 t199], .int .i64 t200]), (55, .agg #[.int .i64 t197, .int .i64 t198, .int .i64 t199]), (56, .int .i64 t200)]) (fun s_ w' => (w'.cell? ⟨gb194, 0, none⟩ = some (.int .i64 a0_1) ∧ w'.cell? ⟨gb194, 1, none⟩ = some (.int .i64 a0_2) ∧ w'.cell? ⟨gb194, 2, none⟩ = some (.int .i64 a0_3) ∧ w'.cell? ⟨gb194, 3, none⟩ = some (.int .i64 a0_4) ∧ w'.cell? ⟨gb194, 4, none⟩ = some (.int .i64 a0_5) ∧ w'.cell? ⟨gb194, 5, none⟩ = some (.int .i64 a0_6) ∧ w'.cell? ⟨gb190, 0, none⟩ = some (.int .i64 a1_0) ∧ w'.cell? ⟨gb190, 1, none⟩ = some (.string a1_1) ∧ w'.cell? ⟨gb190, 2, none⟩ = some (.int .i64 a1_2)) ∧ (w'.heap[gb189]? = some (.cells #[.string a0_0, .int .i64 a0_1, .int .i64 a0_2, .int .i64 a0_3, .int .i64 a0_4, .int .i64 a0_5, .int .i64 a0_6] 51 (0, 0))) ∧ (w'.heap[gb190]? = some (.cells #[.int .i64 a1_0, .string a1_1, .int .i64 a1_2] 27 (0, 0))) ∧ (w'.heap[gb191]? = some (.cells #[.string (⟨#[]⟩ : ByteArray), .int .i64 0, .int .i64 0, .int .i64 0, .int .i64 0, .int .i64 0, .int .i64 0] 51 (0, 0))) ∧ (w'.heap[gb194]? = some (.cells #[.int .i64 a0_1, .int .i64 a0_2, .int .i64 a0_3, .int .i64 a0_4, .int .i64 a0_5, .int .i64 a0_6] 123 (0, 0))) ∧ (w'.heap[s_]? = some (.cells #[.int .i64 0, .int .i64 0, .int .i64 0] 49 (0, 0))) ∧ (w.heap.size ≤ s_) ∧ (w.heap.size ≤ s_) ∧ (gb189 ≠ s_) ∧ (s_ ≠ gb189) ∧ (gb190 ≠ s_) ∧ (s_ ≠ gb190) ∧ (gb191 ≠ s_) ∧ (s_ ≠ gb191) ∧ (gb194 ≠ s_) ∧ (s_ ≠ gb194) ∧ (Below w.heap.size w w')) ?_ ?_
     rotate_left
     ·intro hCont
      refine two_ (i := 8) (j := 12) (Ni := some 54) (Nj := some 12) (My.Mb 15 511) (My.Mb 15 4351) rfl rfl rfl rfl (two_of HT_.out (by kernel_rfl)) (by decide) (by decide) (fun K hK => ?_) (fun K hK => ?_)
      ·skip
       refine My.goesW_ (f := f_) (first := #[]) (cap := #[]) hf_ hname_ hb_ #[.agg #[.int .i64 a0_1, .int .i64 a0_2, .int .i64 a0_3], .bool (decide (t195 < 0)), .int .i64 a1_2] (by rfl) rfl rfl rfl (by (try simp only [List.map_toArray, List.map_cons, List.map_nil, Array.empty_append, Array.append_empty]); first | done | rfl | (simp only [List.length_drop, List.length_take]; rfl)) ?_
       with_reducible refine (hD kj5 a0_1 a0_2 a0_3 (decide (t195 < 0)) a1_2 t197 t198 t199 t200 _ A45.out).mono ?_
       rintro e w64 ⟨rfl, hb⟩
       refine ⟨_, rfl, ?_⟩
       replace BK189 := My.ab BK189 hb
       replace BK190 := My.ab BK190 hb
       replace BK191 := My.ab BK191 hb
       replace BK194 := My.ab BK194 hb
       replace HB := My.st HB hb
       (try clear hb)
       (try clear hb2)
       (try clear hk)
       (try clear hi)
       refine hK.out _ _ ⟨My.b_ BK194 0, My.b_ BK194 1, My.b_ BK194 2, My.b_ BK194 3, My.b_ BK194 4, My.b_ BK194 5, My.b_ BK190 0, My.b_ BK190 1, My.b_ BK190 2⟩ (fun hHeld => ?_)
       clear hK K
       refine My.nm 54 ?_
       refine My.pu_ 9 45 15 HT_.out ?_
       refine My.pu_ 10 55 15 HT_.out ?_
       refine My.pu_ 11 56 15 HT_.out ?_
       refine one_ (i := 12) (N := some 12) (My.Mb 15 8191) rfl rfl (one_of HT_.out (by kernel_rfl)) (by decide) (fun K hK => ?_)
       refine box_step ?hg (N := 12) ?hd (cs := #[.int .i64 0, .int .i64 0, .int .i64 0]) (t := 49) ?hr ?_; (case hd => rfl); (case hg => rfl); (case hr => first | (go_simp; done) | (go_simp; rfl))
       intro gb201 hg w65 hbox hb
       have BK201 := My.am (hbox)
       have GW201 := My.nge hg (My.bl_ HB)
       have GE201 := My.nge hg (My.bl_ HB)
       replace HB := My.st HB hb
       obtain ⟨NB189_201, NB201_189, BK189⟩ := My.nb hg hb BK189
       obtain ⟨NB190_201, NB201_190, BK190⟩ := My.nb hg hb BK190
       obtain ⟨NB191_201, NB201_191, BK191⟩ := My.nb hg hb BK191
       obtain ⟨NB194_201, NB201_194, BK194⟩ := My.nb hg hb BK194
       clear hb hbox hg
       refine hK.out _ _ ⟨My.b_ BK194 0, My.b_ BK194 1, My.b_ BK194 2, My.b_ BK194 3, My.b_ BK194 4, My.b_ BK194 5, My.b_ BK190 0, My.b_ BK190 1, My.b_ BK190 2⟩ (fun hHeld => ?_)
       clear hK K
       refine My.nm 12 ?_
       exact norm_ (by simp only [putAll, Act.put, List.setIfInBounds_toArray, List.set_cons_zero, List.set_cons_succ]) (hCont (gb201) _ ⟨hHeld, (My.at_ BK189), (My.at_ BK190), (My.at_ BK191), (My.at_ BK194), (My.at_ BK201), GW201.out, GE201.out, NB189_201.out, NB201_189.out, NB190_201.out, NB201_190.out, NB191_201.out, NB201_191.out, NB194_201.out, NB201_194.out, (My.bl_ HB)⟩)
      skip
      refine box_step ?hg (N := 12) ?hd (cs := #[.int .i64 0, .int .i64 0, .int .i64 0]) (t := 49) ?hr ?_; (case hd => rfl); (case hg => rfl); (case hr => first | (go_simp; done) | (go_simp; rfl))
      intro gb201 hg w64 hbox hb
      have BK201 := My.am (hbox)
      have GW201 := My.nge hg (My.bl_ HB)
      have GE201 := My.nge hg (My.bl_ HB)
      replace HB := My.st HB hb
      obtain ⟨NB189_201, NB201_189, BK189⟩ := My.nb hg hb BK189
      obtain ⟨NB190_201, NB201_190, BK190⟩ := My.nb hg hb BK190
      obtain ⟨NB191_201, NB201_191, BK191⟩ := My.nb hg hb BK191
      obtain ⟨NB194_201, NB201_194, BK194⟩ := My.nb hg hb BK194
      clear hb hbox hg
      refine hK.out _ _ ⟨My.b_ BK194 0, My.b_ BK194 1, My.b_ BK194 2, My.b_ BK194 3, My.b_ BK194 4, My.b_ BK194 5, My.b_ BK190 0, My.b_ BK190 1, My.b_ BK190 2⟩ (fun hHeld => ?_)
      clear hK K
      refine My.nm 12 ?_
      refine one_ (i := 8) (N := some 54) (My.Mb 15 4607) rfl rfl (one_of HT_.out (by kernel_rfl)) (by decide) (fun K hK => ?_)
      refine My.goesW_ (f := f_) (first := #[]) (cap := #[]) hf_ hname_ hb_ #[.agg #[.int .i64 a0_1, .int .i64 a0_2, .int .i64 a0_3], .bool (decide (t195 < 0)), .int .i64 a1_2] (by rfl) rfl rfl rfl (by (try simp only [List.map_toArray, List.map_cons, List.map_nil, Array.empty_append, Array.append_empty]); first | done | rfl | (simp only [List.length_drop, List.length_take]; rfl)) ?_
      with_reducible refine (hD kj5 a0_1 a0_2 a0_3 (decide (t195 < 0)) a1_2 t197 t198 t199 t200 _ A45.out).mono ?_
      rintro e w65 ⟨rfl, hb⟩
      refine ⟨_, rfl, ?_⟩
      replace BK189 := My.ab BK189 hb
      replace BK190 := My.ab BK190 hb
      replace BK191 := My.ab BK191 hb
      replace BK194 := My.ab BK194 hb
      replace BK201 := My.ab BK201 hb
      replace HB := My.st HB hb
      (try clear hb)
      (try clear hb2)
      (try clear hk)
      (try clear hi)
      refine hK.out _ _ ⟨My.b_ BK194 0, My.b_ BK194 1, My.b_ BK194 2, My.b_ BK194 3, My.b_ BK194 4, My.b_ BK194 5, My.b_ BK190 0, My.b_ BK190 1, My.b_ BK190 2⟩ (fun hHeld => ?_)
      clear hK K
      refine My.nm 54 ?_
      refine My.pv_ 9 45 15 5119 HT_.out ?_
      refine My.pv_ 10 55 15 6143 HT_.out ?_
      refine My.pv_ 11 56 15 8191 HT_.out ?_
      exact norm_ (by simp only [putAll, Act.put, List.setIfInBounds_toArray, List.set_cons_zero, List.set_cons_succ]) (hCont (gb201) _ ⟨hHeld, (My.at_ BK189), (My.at_ BK190), (My.at_ BK191), (My.at_ BK194), (My.at_ BK201), GW201.out, GE201.out, NB189_201.out, NB201_189.out, NB190_201.out, NB201_190.out, NB191_201.out, NB201_191.out, NB194_201.out, NB201_194.out, (My.bl_ HB)⟩)
     rintro gb201 w66 ⟨hS_, h0_, h1_, h2_, h3_, h4_, h5_, h6_, h7_, h8_, h9_, h10_, h11_, h12_, h13_, h14_, h15_⟩
     have n0_ : Aside0 (w66.heap[gb189]? = some (.cells #[.string a0_0, .int .i64 a0_1, .int .i64 a0_2, .int .i64 a0_3, .int .i64 a0_4, .int .i64 a0_5, .int .i64 a0_6] 51 (0, 0))) := ⟨h0_⟩
     have n1_ : Aside0 (w66.heap[gb190]? = some (.cells #[.int .i64 a1_0, .string a1_1, .int .i64 a1_2] 27 (0, 0))) := ⟨h1_⟩
     have n2_ : Aside0 (w66.heap[gb191]? = some (.cells #[.string (⟨#[]⟩ : ByteArray), .int .i64 0, .int .i64 0, .int .i64 0, .int .i64 0, .int .i64 0, .int .i64 0] 51 (0, 0))) := ⟨h2_⟩
     have n3_ : Aside0 (w66.heap[gb194]? = some (.cells #[.int .i64 a0_1, .int .i64 a0_2, .int .i64 a0_3, .int .i64 a0_4, .int .i64 a0_5, .int .i64 a0_6] 123 (0, 0))) := ⟨h3_⟩
     have n4_ : Aside0 (w66.heap[gb201]? = some (.cells #[.int .i64 0, .int .i64 0, .int .i64 0] 49 (0, 0))) := ⟨h4_⟩
     have n5_ : Aside0 (w.heap.size ≤ gb201) := ⟨h5_⟩
     have n6_ : Aside0 (w.heap.size ≤ gb201) := ⟨h6_⟩
     have n7_ : Aside0 (gb189 ≠ gb201) := ⟨h7_⟩
     have n8_ : Aside0 (gb201 ≠ gb189) := ⟨h8_⟩
     have n9_ : Aside0 (gb190 ≠ gb201) := ⟨h9_⟩
     have n10_ : Aside0 (gb201 ≠ gb190) := ⟨h10_⟩
     have n11_ : Aside0 (gb191 ≠ gb201) := ⟨h11_⟩
     have n12_ : Aside0 (gb201 ≠ gb191) := ⟨h12_⟩
     have n13_ : Aside0 (gb194 ≠ gb201) := ⟨h13_⟩
     have n14_ : Aside0 (gb201 ≠ gb194) := ⟨h14_⟩
     have n15_ : Aside0 (Below w.heap.size w w66) := ⟨h15_⟩
     clear BK189
     clear BK190
     clear BK191
     clear BK194
     clear HB
     clear h0_ h1_ h2_ h3_ h4_ h5_ h6_ h7_ h8_ h9_ h10_ h11_ h12_ h13_ h14_ h15_
     have BK189 := n0_
     have BK190 := n1_
     have BK191 := n2_
     have BK194 := n3_
     have BK201 := n4_
     have GE201 := n6_
     have NB189_201 := n7_
     have NB201_189 := n8_
     have NB190_201 := n9_
     have NB201_190 := n10_
     have NB191_201 := n11_
     have NB201_191 := n12_
     have NB194_201 := n13_
     have NB201_194 := n14_
     have HB := n15_
     clear n0_ n1_ n2_ n3_ n4_ n5_ n6_ n7_ n8_ n9_ n10_ n11_ n12_ n13_ n14_ n15_
     have hHeld : w66.cell? ⟨gb194, 0, none⟩ = some (.int .i64 a0_1) ∧ w66.cell? ⟨gb194, 1, none⟩ = some (.int .i64 a0_2) ∧ w66.cell? ⟨gb194, 2, none⟩ = some (.int .i64 a0_3) ∧ w66.cell? ⟨gb194, 3, none⟩ = some (.int .i64 a0_4) ∧ w66.cell? ⟨gb194, 4, none⟩ = some (.int .i64 a0_5) ∧ w66.cell? ⟨gb194, 5, none⟩ = some (.int .i64 a0_6) ∧ w66.cell? ⟨gb190, 0, none⟩ = some (.int .i64 a1_0) ∧ w66.cell? ⟨gb190, 1, none⟩ = some (.string a1_1) ∧ w66.cell? ⟨gb190, 2, none⟩ = some (.int .i64 a1_2) := hS_
     refine norm_ (a' := ?_) ?_ ?_
     rotate_left
     ·simp only [putAll, Act.put, List.setIfInBounds_toArray, List.set_cons_zero, List.set_cons_succ]
      rfl
     refine one_ (i := 13) (N := none) (My.Mb 15 16383) rfl rfl (one_of HT_.out (by kernel_rfl)) (by decide) (fun K hK => ?_)
     have hs67 : w66.cell? ⟨gb201, 0, none⟩ = some (.int .i64 0) := My.b_ BK201 0
     have hfs67 := blk_frozen BK201.out 0
     have hns67_0 := NB189_201.out
     have hns67_1 := NB190_201.out
     have hns67_2 := NB191_201.out
     have hns67_3 := NB194_201.out
     have hms67_0 := NB201_189.out
     have hms67_1 := NB201_190.out
     have hms67_2 := NB201_191.out
     have hms67_3 := NB201_194.out
     have hs68 : w66.cell? ⟨gb201, 1, none⟩ = some (.int .i64 0) := My.b_ BK201 1
     have hfs68 := blk_frozen BK201.out 1
     have hns68_0 := NB189_201.out
     have hns68_1 := NB190_201.out
     have hns68_2 := NB191_201.out
     have hns68_3 := NB194_201.out
     have hms68_0 := NB201_189.out
     have hms68_1 := NB201_190.out
     have hms68_2 := NB201_191.out
     have hms68_3 := NB201_194.out
     have hs69 : w66.cell? ⟨gb201, 2, none⟩ = some (.int .i64 0) := My.b_ BK201 2
     have hfs69 := blk_frozen BK201.out 2
     have hns69_0 := NB189_201.out
     have hns69_1 := NB190_201.out
     have hns69_2 := NB191_201.out
     have hns69_3 := NB194_201.out
     have hms69_0 := NB201_189.out
     have hms69_1 := NB201_190.out
     have hms69_2 := NB201_191.out
     have hms69_3 := NB201_194.out
     refine skip_ (w1 := ?_) (by rfl) rfl ?_ ?_
     rotate_left
     ·go_simp
      rfl
     refine hK.out _ _ ⟨(My.c3 NB194_201.out hHeld.1), (My.c3 NB194_201.out hHeld.2.1), (My.c3 NB194_201.out hHeld.2.2.1), (My.c3 NB194_201.out hHeld.2.2.2.1), (My.c3 NB194_201.out hHeld.2.2.2.2.1), (My.c3 NB194_201.out hHeld.2.2.2.2.2.1), (My.c3 NB190_201.out hHeld.2.2.2.2.2.2.1), (My.c3 NB190_201.out hHeld.2.2.2.2.2.2.2.1), (My.c3 NB190_201.out hHeld.2.2.2.2.2.2.2.2)⟩ (fun hHeld => ?_)
     clear hK K
     refine My.pu_ 14 13 15 HT_.out ?_
     refine done_ (done_of HT_.out (by kernel_rfl)) ?_
     have hnb70 := NB191_189.out
     have hnc70 := NB189_191.out
     have hnb71 := NB191_190.out
     have hnc71 := NB190_191.out
     have hnb72 := NB191_194.out
     have hnc72 := NB194_191.out
     have hnb73 := NB191_201.out
     have hnc73 := NB201_191.out
     have hq74 := My.cz7 BK191
     try go_wp2_with (first | (with_reducible refine My.park_ ?_; intro X_ hX_) | (with_reducible refine wp_loop_rounds 3 ?_) | (with_reducible rw [rounds_succ]))
     (try rw [hX_.out])
     refine bodyPost_ret (results_ct rfl _ _ gb191 51 #[.string (⟨#[]⟩ : ByteArray), .int .i64 0, .int .i64 0, .int .i64 0, .int .i64 0, .int .i64 0, .int .i64 0] (0, 0) _ rfl ((My.sv_ BK191)) Try.underlying51 rfl (by kernel_rfl)) rfl ?_
     exact ⟨My.r2, (My.bl_ HB)⟩
    case rest =>
     clear HC32
     try clear c5
     obtain ⟨kq, x192000_31, x192001_31, x192002_31, x192003_31, x192004_31, x192005_31, x192006_31, x195000_31, x195001_31, x195002_31, x195003_31, x195004_31, x195005_31, HA, HJ31, BK189, BK190, BK191, BK194, HB⟩ := hcut
     cases kq with
     | zero => exact absurd HA.out (by simp [act_each_any.j1])
     | succ kj31 =>
      have H := HA.out
      clear HA
      simp only [act_each_any.j1] at H
      have ia_ : ∀ w_ : World, (Instr.index 96 (.agg #[.int .i64 t195, .int .i64 t196]) (.int .i64 0)).run Try.prog w_ = .ok (.int .i64 t195) w_ := fun _ => by kernel_rfl
      have ib_ : ∀ w_ : World, (Instr.index 96 (.agg #[.int .i64 t195, .int .i64 t196]) (.int .i64 1)).run Try.prog w_ = .ok (.int .i64 t196) w_ := fun _ => by kernel_rfl
      by_cases c75 : t196 = 0
      ·rw [if_pos c75] at H
       have c75b0 : (t196 == 0) = true := beq_iff_eq.mpr c75
       have c75b1 : (t196 != 0) = false := bne_eq_false_iff_eq.mpr c75
       clear c75
       simp only [Option.some.injEq, Prod.mk.injEq] at H
       obtain ⟨rfl, rfl, rfl, rfl, rfl, rfl, rfl, rfl⟩ := H
       have hnb76 := NB189_190.out
       have hnc76 := NB190_189.out
       have hnb77 := NB189_191.out
       have hnc77 := NB191_189.out
       have hnb78 := NB189_194.out
       have hnc78 := NB194_189.out
       have hq79 := My.cz7 BK189
       have hnb80 := NB194_190.out
       have hnc80 := NB190_194.out
       have hnb81 := NB194_191.out
       have hnc81 := NB191_194.out
       have hq82 := My.cz6 BK194
       have hnb83 := NB191_190.out
       have hnc83 := NB190_191.out
       have hq84 := My.cz7 BK191
       go_wp2_with (first | (with_reducible refine My.park_ ?_; intro X_ hX_) | (with_reducible refine wp_loop_rounds 3 ?_) | (with_reducible rw [rounds_succ]))
       (try rw [hX_.out])
       refine bodyPost_ret (results_ct rfl _ _ gb191 51 #[.string a0_0, .int .i64 x195000_31, .int .i64 x195001_31, .int .i64 x195002_31, .int .i64 x195003_31, .int .i64 x195004_31, .int .i64 x195005_31] (0, 0) _ rfl ((My.sv_ BK191)) Try.underlying51 rfl (by kernel_rfl)) rfl ?_
       exact ⟨My.r2, (My.bl_ HB)⟩
      rw [if_neg c75] at H
      have c75b0 : (t196 == 0) = false := beq_eq_false_iff_ne.mpr c75
      have c75b1 : (t196 != 0) = true := bne_iff_ne.mpr c75
      replace H := Option.bind_eq_some_iff.mp H
      obtain ⟨⟨t202, t203, t204, t205⟩, A850, H⟩ := H
      try dsimp only at H
      have A85 := My.am A850
      clear A850
      by_cases c86 : t205 = 0
      rotate_left
      ·rw [if_neg c86] at H
       have c86b0 : (t205 == 0) = false := beq_eq_false_iff_ne.mpr c86
       have c86b1 : (t205 != 0) = true := bne_iff_ne.mpr c86
       simp only [Option.some.injEq, Prod.mk.injEq] at H
       obtain ⟨rfl, rfl, rfl, rfl, rfl, rfl, rfl, rfl⟩ := H
       try go_wp2_with (first | (with_reducible refine wp_loop_rounds 3 ?_) | (with_reducible rw [rounds_succ]))
       replace BK189 := My.am (blk_drew BK189.out)
       replace BK190 := My.am (blk_drew BK190.out)
       replace BK191 := My.am (blk_drew BK191.out)
       replace BK194 := My.am (blk_drew BK194.out)
       replace HB := My.am (below_drew1 HB.out)
       refine start_ (n := 15) (S := fun w' => w'.cell? ⟨gb194, 0, none⟩ = some (.int .i64 x195000_31) ∧ w'.cell? ⟨gb194, 1, none⟩ = some (.int .i64 x195001_31) ∧ w'.cell? ⟨gb194, 2, none⟩ = some (.int .i64 x195002_31) ∧ w'.cell? ⟨gb194, 3, none⟩ = some (.int .i64 x195003_31) ∧ w'.cell? ⟨gb194, 4, none⟩ = some (.int .i64 x195004_31) ∧ w'.cell? ⟨gb194, 5, none⟩ = some (.int .i64 x195005_31) ∧ w'.cell? ⟨gb190, 0, none⟩ = some (.int .i64 a1_0) ∧ w'.cell? ⟨gb190, 1, none⟩ = some (.string a1_1) ∧ w'.cell? ⟨gb190, 2, none⟩ = some (.int .i64 a1_2)) (ds := []) #[false, false, false, false, false, false, false, false, false, false, false, false, false, false, false] (by kernel_rfl) rfl rfl ⟨My.b_ BK194 0, My.b_ BK194 1, My.b_ BK194 2, My.b_ BK194 3, My.b_ BK194 4, My.b_ BK194 5, My.b_ BK190 0, My.b_ BK190 1, My.b_ BK190 2⟩ (fun hHeld => ?_); refine with_tabW act_each_any.tab11 act_each_any.bits11 (fun HT_ HW_ => ?_)
       generalize wc.drew = w108 at BK189 BK190 BK191 BK194 HB hHeld ⊢
       refine My.pu_ 0 46 15 HT_.out ?_
       refine My.pu_ 1 47 15 HT_.out ?_
       refine My.pu_ 2 48 15 HT_.out ?_
       refine My.pv_ 4 50 15 23 HT_.out ?_
       refine My.pv_ 5 51 15 55 HT_.out ?_
       refine My.pv_ 6 52 15 119 HT_.out ?_
       refine My.tv_ 3 49 15 127 HT_.out HW_.out hHeld rfl rfl (by rintro w' ⟨s0, s1, s2, s3, s4, s5, s6, s7, s8⟩; go_simp; with_reducible rfl) ?_
       refine My.ta_ 7 53 15 HT_.out HW_.out hHeld rfl rfl (by rintro w' ⟨s0, s1, s2, s3, s4, s5, s6, s7, s8⟩; go_simp; with_reducible rfl) ?_
       refine join_ (σ := Nat) 2 (My.Mb 15 8191) (fun s_ => [(54, .tuple #[.agg #[.int .i64 t202, .int .i64 t203, .int .i64 t204], .int .i64 t205]), (12, .pointer (some ⟨s_, 0, none⟩)), (45, .tuple #[.agg #[.int .i64 t202, .int .i64 t203, .int .i64 t204], .int .i64 t205]), (55, .agg #[.int .i64 t202, .int .i64 t203, .int .i64 t204]), (56, .int .i64 t205)]) (fun s_ w' => (w'.cell? ⟨gb194, 0, none⟩ = some (.int .i64 x195000_31) ∧ w'.cell? ⟨gb194, 1, none⟩ = some (.int .i64 x195001_31) ∧ w'.cell? ⟨gb194, 2, none⟩ = some (.int .i64 x195002_31) ∧ w'.cell? ⟨gb194, 3, none⟩ = some (.int .i64 x195003_31) ∧ w'.cell? ⟨gb194, 4, none⟩ = some (.int .i64 x195004_31) ∧ w'.cell? ⟨gb194, 5, none⟩ = some (.int .i64 x195005_31) ∧ w'.cell? ⟨gb190, 0, none⟩ = some (.int .i64 a1_0) ∧ w'.cell? ⟨gb190, 1, none⟩ = some (.string a1_1) ∧ w'.cell? ⟨gb190, 2, none⟩ = some (.int .i64 a1_2)) ∧ (w'.heap[gb189]? = some (.cells #[.string a0_0, .int .i64 a0_1, .int .i64 a0_2, .int .i64 a0_3, .int .i64 a0_4, .int .i64 a0_5, .int .i64 a0_6] 51 (0, 0))) ∧ (w'.heap[gb190]? = some (.cells #[.int .i64 a1_0, .string a1_1, .int .i64 a1_2] 27 (0, 0))) ∧ (w'.heap[gb191]? = some (.cells #[.string x192000_31, .int .i64 x192001_31, .int .i64 x192002_31, .int .i64 x192003_31, .int .i64 x192004_31, .int .i64 x192005_31, .int .i64 x192006_31] 51 (0, 0))) ∧ (w'.heap[gb194]? = some (.cells #[.int .i64 x195000_31, .int .i64 x195001_31, .int .i64 x195002_31, .int .i64 x195003_31, .int .i64 x195004_31, .int .i64 x195005_31] 123 (0, 0))) ∧ (w'.heap[s_]? = some (.cells #[.int .i64 0, .int .i64 0, .int .i64 0] 49 (0, 0))) ∧ (w.heap.size ≤ s_) ∧ (w.heap.size ≤ s_) ∧ (gb189 ≠ s_) ∧ (s_ ≠ gb189) ∧ (gb190 ≠ s_) ∧ (s_ ≠ gb190) ∧ (gb191 ≠ s_) ∧ (s_ ≠ gb191) ∧ (gb194 ≠ s_) ∧ (s_ ≠ gb194) ∧ (Below w.heap.size w w')) ?_ ?_
       rotate_left
       ·intro hCont
        refine two_ (i := 8) (j := 12) (Ni := some 54) (Nj := some 12) (My.Mb 15 511) (My.Mb 15 4351) rfl rfl rfl rfl (two_of HT_.out (by kernel_rfl)) (by decide) (by decide) (fun K hK => ?_) (fun K hK => ?_)
        ·skip
         refine My.goesW_ (f := f_) (first := #[]) (cap := #[]) hf_ hname_ hb_ #[.agg #[.int .i64 x195003_31, .int .i64 x195004_31, .int .i64 x195005_31], .bool (decide (t196 < 0)), .int .i64 a1_2] (by rfl) rfl rfl rfl (by (try simp only [List.map_toArray, List.map_cons, List.map_nil, Array.empty_append, Array.append_empty]); first | done | rfl | (simp only [List.length_drop, List.length_take]; rfl)) ?_
         with_reducible refine (hD kj31 x195003_31 x195004_31 x195005_31 (decide (t196 < 0)) a1_2 t202 t203 t204 t205 _ A85.out).mono ?_
         rintro e w109 ⟨rfl, hb⟩
         refine ⟨_, rfl, ?_⟩
         replace BK189 := My.ab BK189 hb
         replace BK190 := My.ab BK190 hb
         replace BK191 := My.ab BK191 hb
         replace BK194 := My.ab BK194 hb
         replace HB := My.st HB hb
         (try clear hb)
         (try clear hb2)
         (try clear hk)
         (try clear hi)
         refine hK.out _ _ ⟨My.b_ BK194 0, My.b_ BK194 1, My.b_ BK194 2, My.b_ BK194 3, My.b_ BK194 4, My.b_ BK194 5, My.b_ BK190 0, My.b_ BK190 1, My.b_ BK190 2⟩ (fun hHeld => ?_)
         clear hK K
         refine My.nm 54 ?_
         refine My.pu_ 9 45 15 HT_.out ?_
         refine My.pu_ 10 55 15 HT_.out ?_
         refine My.pu_ 11 56 15 HT_.out ?_
         refine one_ (i := 12) (N := some 12) (My.Mb 15 8191) rfl rfl (one_of HT_.out (by kernel_rfl)) (by decide) (fun K hK => ?_)
         refine box_step ?hg (N := 12) ?hd (cs := #[.int .i64 0, .int .i64 0, .int .i64 0]) (t := 49) ?hr ?_; (case hd => rfl); (case hg => rfl); (case hr => first | (go_simp; done) | (go_simp; rfl))
         intro gb206 hg w110 hbox hb
         have BK206 := My.am (hbox)
         have GW206 := My.nge hg (My.bl_ HB)
         have GE206 := My.nge hg (My.bl_ HB)
         replace HB := My.st HB hb
         obtain ⟨NB189_206, NB206_189, BK189⟩ := My.nb hg hb BK189
         obtain ⟨NB190_206, NB206_190, BK190⟩ := My.nb hg hb BK190
         obtain ⟨NB191_206, NB206_191, BK191⟩ := My.nb hg hb BK191
         obtain ⟨NB194_206, NB206_194, BK194⟩ := My.nb hg hb BK194
         clear hb hbox hg
         refine hK.out _ _ ⟨My.b_ BK194 0, My.b_ BK194 1, My.b_ BK194 2, My.b_ BK194 3, My.b_ BK194 4, My.b_ BK194 5, My.b_ BK190 0, My.b_ BK190 1, My.b_ BK190 2⟩ (fun hHeld => ?_)
         clear hK K
         refine My.nm 12 ?_
         exact norm_ (by simp only [putAll, Act.put, List.setIfInBounds_toArray, List.set_cons_zero, List.set_cons_succ]) (hCont (gb206) _ ⟨hHeld, (My.at_ BK189), (My.at_ BK190), (My.at_ BK191), (My.at_ BK194), (My.at_ BK206), GW206.out, GE206.out, NB189_206.out, NB206_189.out, NB190_206.out, NB206_190.out, NB191_206.out, NB206_191.out, NB194_206.out, NB206_194.out, (My.bl_ HB)⟩)
        skip
        refine box_step ?hg (N := 12) ?hd (cs := #[.int .i64 0, .int .i64 0, .int .i64 0]) (t := 49) ?hr ?_; (case hd => rfl); (case hg => rfl); (case hr => first | (go_simp; done) | (go_simp; rfl))
        intro gb206 hg w109 hbox hb
        have BK206 := My.am (hbox)
        have GW206 := My.nge hg (My.bl_ HB)
        have GE206 := My.nge hg (My.bl_ HB)
        replace HB := My.st HB hb
        obtain ⟨NB189_206, NB206_189, BK189⟩ := My.nb hg hb BK189
        obtain ⟨NB190_206, NB206_190, BK190⟩ := My.nb hg hb BK190
        obtain ⟨NB191_206, NB206_191, BK191⟩ := My.nb hg hb BK191
        obtain ⟨NB194_206, NB206_194, BK194⟩ := My.nb hg hb BK194
        clear hb hbox hg
        refine hK.out _ _ ⟨My.b_ BK194 0, My.b_ BK194 1, My.b_ BK194 2, My.b_ BK194 3, My.b_ BK194 4, My.b_ BK194 5, My.b_ BK190 0, My.b_ BK190 1, My.b_ BK190 2⟩ (fun hHeld => ?_)
        clear hK K
        refine My.nm 12 ?_
        refine one_ (i := 8) (N := some 54) (My.Mb 15 4607) rfl rfl (one_of HT_.out (by kernel_rfl)) (by decide) (fun K hK => ?_)
        refine My.goesW_ (f := f_) (first := #[]) (cap := #[]) hf_ hname_ hb_ #[.agg #[.int .i64 x195003_31, .int .i64 x195004_31, .int .i64 x195005_31], .bool (decide (t196 < 0)), .int .i64 a1_2] (by rfl) rfl rfl rfl (by (try simp only [List.map_toArray, List.map_cons, List.map_nil, Array.empty_append, Array.append_empty]); first | done | rfl | (simp only [List.length_drop, List.length_take]; rfl)) ?_
        with_reducible refine (hD kj31 x195003_31 x195004_31 x195005_31 (decide (t196 < 0)) a1_2 t202 t203 t204 t205 _ A85.out).mono ?_
        rintro e w110 ⟨rfl, hb⟩
        refine ⟨_, rfl, ?_⟩
        replace BK189 := My.ab BK189 hb
        replace BK190 := My.ab BK190 hb
        replace BK191 := My.ab BK191 hb
        replace BK194 := My.ab BK194 hb
        replace BK206 := My.ab BK206 hb
        replace HB := My.st HB hb
        (try clear hb)
        (try clear hb2)
        (try clear hk)
        (try clear hi)
        refine hK.out _ _ ⟨My.b_ BK194 0, My.b_ BK194 1, My.b_ BK194 2, My.b_ BK194 3, My.b_ BK194 4, My.b_ BK194 5, My.b_ BK190 0, My.b_ BK190 1, My.b_ BK190 2⟩ (fun hHeld => ?_)
        clear hK K
        refine My.nm 54 ?_
        refine My.pv_ 9 45 15 5119 HT_.out ?_
        refine My.pv_ 10 55 15 6143 HT_.out ?_
        refine My.pv_ 11 56 15 8191 HT_.out ?_
        exact norm_ (by simp only [putAll, Act.put, List.setIfInBounds_toArray, List.set_cons_zero, List.set_cons_succ]) (hCont (gb206) _ ⟨hHeld, (My.at_ BK189), (My.at_ BK190), (My.at_ BK191), (My.at_ BK194), (My.at_ BK206), GW206.out, GE206.out, NB189_206.out, NB206_189.out, NB190_206.out, NB206_190.out, NB191_206.out, NB206_191.out, NB194_206.out, NB206_194.out, (My.bl_ HB)⟩)
       rintro gb206 w111 ⟨hS_, h0_, h1_, h2_, h3_, h4_, h5_, h6_, h7_, h8_, h9_, h10_, h11_, h12_, h13_, h14_, h15_⟩
       have n0_ : Aside0 (w111.heap[gb189]? = some (.cells #[.string a0_0, .int .i64 a0_1, .int .i64 a0_2, .int .i64 a0_3, .int .i64 a0_4, .int .i64 a0_5, .int .i64 a0_6] 51 (0, 0))) := ⟨h0_⟩
       have n1_ : Aside0 (w111.heap[gb190]? = some (.cells #[.int .i64 a1_0, .string a1_1, .int .i64 a1_2] 27 (0, 0))) := ⟨h1_⟩
       have n2_ : Aside0 (w111.heap[gb191]? = some (.cells #[.string x192000_31, .int .i64 x192001_31, .int .i64 x192002_31, .int .i64 x192003_31, .int .i64 x192004_31, .int .i64 x192005_31, .int .i64 x192006_31] 51 (0, 0))) := ⟨h2_⟩
       have n3_ : Aside0 (w111.heap[gb194]? = some (.cells #[.int .i64 x195000_31, .int .i64 x195001_31, .int .i64 x195002_31, .int .i64 x195003_31, .int .i64 x195004_31, .int .i64 x195005_31] 123 (0, 0))) := ⟨h3_⟩
       have n4_ : Aside0 (w111.heap[gb206]? = some (.cells #[.int .i64 0, .int .i64 0, .int .i64 0] 49 (0, 0))) := ⟨h4_⟩
       have n5_ : Aside0 (w.heap.size ≤ gb206) := ⟨h5_⟩
       have n6_ : Aside0 (w.heap.size ≤ gb206) := ⟨h6_⟩
       have n7_ : Aside0 (gb189 ≠ gb206) := ⟨h7_⟩
       have n8_ : Aside0 (gb206 ≠ gb189) := ⟨h8_⟩
       have n9_ : Aside0 (gb190 ≠ gb206) := ⟨h9_⟩
       have n10_ : Aside0 (gb206 ≠ gb190) := ⟨h10_⟩
       have n11_ : Aside0 (gb191 ≠ gb206) := ⟨h11_⟩
       have n12_ : Aside0 (gb206 ≠ gb191) := ⟨h12_⟩
       have n13_ : Aside0 (gb194 ≠ gb206) := ⟨h13_⟩
       have n14_ : Aside0 (gb206 ≠ gb194) := ⟨h14_⟩
       have n15_ : Aside0 (Below w.heap.size w w111) := ⟨h15_⟩
       clear BK189
       clear BK190
       clear BK191
       clear BK194
       clear HB
       clear h0_ h1_ h2_ h3_ h4_ h5_ h6_ h7_ h8_ h9_ h10_ h11_ h12_ h13_ h14_ h15_
       have BK189 := n0_
       have BK190 := n1_
       have BK191 := n2_
       have BK206 := n4_
       have GE206 := n6_
       have NB189_206 := n7_
       have NB206_189 := n8_
       have NB190_206 := n9_
       have NB206_190 := n10_
       have NB191_206 := n11_
       have NB206_191 := n12_
       have NB194_206 := n13_
       have NB206_194 := n14_
       have HB := n15_
       clear n0_ n1_ n2_ n3_ n4_ n5_ n6_ n7_ n8_ n9_ n10_ n11_ n12_ n13_ n14_ n15_
       have hHeld : w111.cell? ⟨gb194, 0, none⟩ = some (.int .i64 x195000_31) ∧ w111.cell? ⟨gb194, 1, none⟩ = some (.int .i64 x195001_31) ∧ w111.cell? ⟨gb194, 2, none⟩ = some (.int .i64 x195002_31) ∧ w111.cell? ⟨gb194, 3, none⟩ = some (.int .i64 x195003_31) ∧ w111.cell? ⟨gb194, 4, none⟩ = some (.int .i64 x195004_31) ∧ w111.cell? ⟨gb194, 5, none⟩ = some (.int .i64 x195005_31) ∧ w111.cell? ⟨gb190, 0, none⟩ = some (.int .i64 a1_0) ∧ w111.cell? ⟨gb190, 1, none⟩ = some (.string a1_1) ∧ w111.cell? ⟨gb190, 2, none⟩ = some (.int .i64 a1_2) := hS_
       refine norm_ (a' := ?_) ?_ ?_
       rotate_left
       ·simp only [putAll, Act.put, List.setIfInBounds_toArray, List.set_cons_zero, List.set_cons_succ]
        rfl
       refine one_ (i := 13) (N := none) (My.Mb 15 16383) rfl rfl (one_of HT_.out (by kernel_rfl)) (by decide) (fun K hK => ?_)
       have hs112 : w111.cell? ⟨gb206, 0, none⟩ = some (.int .i64 0) := My.b_ BK206 0
       have hfs112 := blk_frozen BK206.out 0
       have hns112_0 := NB189_206.out
       have hns112_1 := NB190_206.out
       have hns112_2 := NB191_206.out
       have hns112_3 := NB194_206.out
       have hms112_0 := NB206_189.out
       have hms112_1 := NB206_190.out
       have hms112_2 := NB206_191.out
       have hms112_3 := NB206_194.out
       have hs113 : w111.cell? ⟨gb206, 1, none⟩ = some (.int .i64 0) := My.b_ BK206 1
       have hfs113 := blk_frozen BK206.out 1
       have hns113_0 := NB189_206.out
       have hns113_1 := NB190_206.out
       have hns113_2 := NB191_206.out
       have hns113_3 := NB194_206.out
       have hms113_0 := NB206_189.out
       have hms113_1 := NB206_190.out
       have hms113_2 := NB206_191.out
       have hms113_3 := NB206_194.out
       have hs114 : w111.cell? ⟨gb206, 2, none⟩ = some (.int .i64 0) := My.b_ BK206 2
       have hfs114 := blk_frozen BK206.out 2
       have hns114_0 := NB189_206.out
       have hns114_1 := NB190_206.out
       have hns114_2 := NB191_206.out
       have hns114_3 := NB194_206.out
       have hms114_0 := NB206_189.out
       have hms114_1 := NB206_190.out
       have hms114_2 := NB206_191.out
       have hms114_3 := NB206_194.out
       refine skip_ (w1 := ?_) (by rfl) rfl ?_ ?_
       rotate_left
       ·go_simp
        rfl
       refine hK.out _ _ ⟨(My.c3 NB194_206.out hHeld.1), (My.c3 NB194_206.out hHeld.2.1), (My.c3 NB194_206.out hHeld.2.2.1), (My.c3 NB194_206.out hHeld.2.2.2.1), (My.c3 NB194_206.out hHeld.2.2.2.2.1), (My.c3 NB194_206.out hHeld.2.2.2.2.2.1), (My.c3 NB190_206.out hHeld.2.2.2.2.2.2.1), (My.c3 NB190_206.out hHeld.2.2.2.2.2.2.2.1), (My.c3 NB190_206.out hHeld.2.2.2.2.2.2.2.2)⟩ (fun hHeld => ?_)
       clear hK K
       refine My.pu_ 14 13 15 HT_.out ?_
       refine done_ (done_of HT_.out (by kernel_rfl)) ?_
       have hnb115 := NB191_189.out
       have hnc115 := NB189_191.out
       have hnb116 := NB191_190.out
       have hnc116 := NB190_191.out
       have hnb117 := NB191_194.out
       have hnc117 := NB194_191.out
       have hnb118 := NB191_206.out
       have hnc118 := NB206_191.out
       have hq119 := My.cz7 BK191
       try go_wp2_with (first | (with_reducible refine My.park_ ?_; intro X_ hX_) | (with_reducible refine wp_loop_rounds 3 ?_) | (with_reducible rw [rounds_succ]))
       (try rw [hX_.out])
       refine bodyPost_ret (results_ct rfl _ _ gb191 51 #[.string (⟨#[]⟩ : ByteArray), .int .i64 0, .int .i64 0, .int .i64 0, .int .i64 0, .int .i64 0, .int .i64 0] (0, 0) _ rfl ((My.sv_ BK191)) Try.underlying51 rfl (by kernel_rfl)) rfl ?_
       exact ⟨My.r2, (My.bl_ HB)⟩
      rw [if_pos c86] at H
      have c86b0 : (t205 == 0) = true := beq_iff_eq.mpr c86
      have c86b1 : (t205 != 0) = false := bne_eq_false_iff_eq.mpr c86
      clear c86
      simp only [Option.some.injEq, Prod.mk.injEq] at H
      obtain ⟨rfl, rfl, rfl, rfl, rfl, rfl, rfl, rfl⟩ := H
      try go_wp2_with (first | (with_reducible refine wp_loop_rounds 3 ?_) | (with_reducible rw [rounds_succ]))
      replace BK189 := My.am (blk_drew BK189.out)
      replace BK190 := My.am (blk_drew BK190.out)
      replace BK191 := My.am (blk_drew BK191.out)
      replace BK194 := My.am (blk_drew BK194.out)
      replace HB := My.am (below_drew1 HB.out)
      refine start_ (n := 15) (S := fun w' => w'.cell? ⟨gb194, 0, none⟩ = some (.int .i64 x195000_31) ∧ w'.cell? ⟨gb194, 1, none⟩ = some (.int .i64 x195001_31) ∧ w'.cell? ⟨gb194, 2, none⟩ = some (.int .i64 x195002_31) ∧ w'.cell? ⟨gb194, 3, none⟩ = some (.int .i64 x195003_31) ∧ w'.cell? ⟨gb194, 4, none⟩ = some (.int .i64 x195004_31) ∧ w'.cell? ⟨gb194, 5, none⟩ = some (.int .i64 x195005_31) ∧ w'.cell? ⟨gb190, 0, none⟩ = some (.int .i64 a1_0) ∧ w'.cell? ⟨gb190, 1, none⟩ = some (.string a1_1) ∧ w'.cell? ⟨gb190, 2, none⟩ = some (.int .i64 a1_2)) (ds := []) #[false, false, false, false, false, false, false, false, false, false, false, false, false, false, false] (by kernel_rfl) rfl rfl ⟨My.b_ BK194 0, My.b_ BK194 1, My.b_ BK194 2, My.b_ BK194 3, My.b_ BK194 4, My.b_ BK194 5, My.b_ BK190 0, My.b_ BK190 1, My.b_ BK190 2⟩ (fun hHeld => ?_); refine with_tabW act_each_any.tab11 act_each_any.bits11 (fun HT_ HW_ => ?_)
      generalize wc.drew = w87 at BK189 BK190 BK191 BK194 HB hHeld ⊢
      refine My.pu_ 0 46 15 HT_.out ?_
      refine My.pu_ 1 47 15 HT_.out ?_
      refine My.pu_ 2 48 15 HT_.out ?_
      refine My.pv_ 4 50 15 23 HT_.out ?_
      refine My.pv_ 5 51 15 55 HT_.out ?_
      refine My.pv_ 6 52 15 119 HT_.out ?_
      refine My.tv_ 3 49 15 127 HT_.out HW_.out hHeld rfl rfl (by rintro w' ⟨s0, s1, s2, s3, s4, s5, s6, s7, s8⟩; go_simp; with_reducible rfl) ?_
      refine My.ta_ 7 53 15 HT_.out HW_.out hHeld rfl rfl (by rintro w' ⟨s0, s1, s2, s3, s4, s5, s6, s7, s8⟩; go_simp; with_reducible rfl) ?_
      refine join_ (σ := Nat) 2 (My.Mb 15 8191) (fun s_ => [(54, .tuple #[.agg #[.int .i64 t202, .int .i64 t203, .int .i64 t204], .int .i64 t205]), (12, .pointer (some ⟨s_, 0, none⟩)), (45, .tuple #[.agg #[.int .i64 t202, .int .i64 t203, .int .i64 t204], .int .i64 t205]), (55, .agg #[.int .i64 t202, .int .i64 t203, .int .i64 t204]), (56, .int .i64 t205)]) (fun s_ w' => (w'.cell? ⟨gb194, 0, none⟩ = some (.int .i64 x195000_31) ∧ w'.cell? ⟨gb194, 1, none⟩ = some (.int .i64 x195001_31) ∧ w'.cell? ⟨gb194, 2, none⟩ = some (.int .i64 x195002_31) ∧ w'.cell? ⟨gb194, 3, none⟩ = some (.int .i64 x195003_31) ∧ w'.cell? ⟨gb194, 4, none⟩ = some (.int .i64 x195004_31) ∧ w'.cell? ⟨gb194, 5, none⟩ = some (.int .i64 x195005_31) ∧ w'.cell? ⟨gb190, 0, none⟩ = some (.int .i64 a1_0) ∧ w'.cell? ⟨gb190, 1, none⟩ = some (.string a1_1) ∧ w'.cell? ⟨gb190, 2, none⟩ = some (.int .i64 a1_2)) ∧ (w'.heap[gb189]? = some (.cells #[.string a0_0, .int .i64 a0_1, .int .i64 a0_2, .int .i64 a0_3, .int .i64 a0_4, .int .i64 a0_5, .int .i64 a0_6] 51 (0, 0))) ∧ (w'.heap[gb190]? = some (.cells #[.int .i64 a1_0, .string a1_1, .int .i64 a1_2] 27 (0, 0))) ∧ (w'.heap[gb191]? = some (.cells #[.string x192000_31, .int .i64 x192001_31, .int .i64 x192002_31, .int .i64 x192003_31, .int .i64 x192004_31, .int .i64 x192005_31, .int .i64 x192006_31] 51 (0, 0))) ∧ (w'.heap[gb194]? = some (.cells #[.int .i64 x195000_31, .int .i64 x195001_31, .int .i64 x195002_31, .int .i64 x195003_31, .int .i64 x195004_31, .int .i64 x195005_31] 123 (0, 0))) ∧ (w'.heap[s_]? = some (.cells #[.int .i64 0, .int .i64 0, .int .i64 0] 49 (0, 0))) ∧ (w.heap.size ≤ s_) ∧ (w.heap.size ≤ s_) ∧ (gb189 ≠ s_) ∧ (s_ ≠ gb189) ∧ (gb190 ≠ s_) ∧ (s_ ≠ gb190) ∧ (gb191 ≠ s_) ∧ (s_ ≠ gb191) ∧ (gb194 ≠ s_) ∧ (s_ ≠ gb194) ∧ (Below w.heap.size w w')) ?_ ?_
      rotate_left
      ·intro hCont
       refine two_ (i := 8) (j := 12) (Ni := some 54) (Nj := some 12) (My.Mb 15 511) (My.Mb 15 4351) rfl rfl rfl rfl (two_of HT_.out (by kernel_rfl)) (by decide) (by decide) (fun K hK => ?_) (fun K hK => ?_)
       ·skip
        refine My.goesW_ (f := f_) (first := #[]) (cap := #[]) hf_ hname_ hb_ #[.agg #[.int .i64 x195003_31, .int .i64 x195004_31, .int .i64 x195005_31], .bool (decide (t196 < 0)), .int .i64 a1_2] (by rfl) rfl rfl rfl (by (try simp only [List.map_toArray, List.map_cons, List.map_nil, Array.empty_append, Array.append_empty]); first | done | rfl | (simp only [List.length_drop, List.length_take]; rfl)) ?_
        with_reducible refine (hD kj31 x195003_31 x195004_31 x195005_31 (decide (t196 < 0)) a1_2 t202 t203 t204 t205 _ A85.out).mono ?_
        rintro e w88 ⟨rfl, hb⟩
        refine ⟨_, rfl, ?_⟩
        replace BK189 := My.ab BK189 hb
        replace BK190 := My.ab BK190 hb
        replace BK191 := My.ab BK191 hb
        replace BK194 := My.ab BK194 hb
        replace HB := My.st HB hb
        (try clear hb)
        (try clear hb2)
        (try clear hk)
        (try clear hi)
        refine hK.out _ _ ⟨My.b_ BK194 0, My.b_ BK194 1, My.b_ BK194 2, My.b_ BK194 3, My.b_ BK194 4, My.b_ BK194 5, My.b_ BK190 0, My.b_ BK190 1, My.b_ BK190 2⟩ (fun hHeld => ?_)
        clear hK K
        refine My.nm 54 ?_
        refine My.pu_ 9 45 15 HT_.out ?_
        refine My.pu_ 10 55 15 HT_.out ?_
        refine My.pu_ 11 56 15 HT_.out ?_
        refine one_ (i := 12) (N := some 12) (My.Mb 15 8191) rfl rfl (one_of HT_.out (by kernel_rfl)) (by decide) (fun K hK => ?_)
        refine box_step ?hg (N := 12) ?hd (cs := #[.int .i64 0, .int .i64 0, .int .i64 0]) (t := 49) ?hr ?_; (case hd => rfl); (case hg => rfl); (case hr => first | (go_simp; done) | (go_simp; rfl))
        intro gb206 hg w89 hbox hb
        have BK206 := My.am (hbox)
        have GW206 := My.nge hg (My.bl_ HB)
        have GE206 := My.nge hg (My.bl_ HB)
        replace HB := My.st HB hb
        obtain ⟨NB189_206, NB206_189, BK189⟩ := My.nb hg hb BK189
        obtain ⟨NB190_206, NB206_190, BK190⟩ := My.nb hg hb BK190
        obtain ⟨NB191_206, NB206_191, BK191⟩ := My.nb hg hb BK191
        obtain ⟨NB194_206, NB206_194, BK194⟩ := My.nb hg hb BK194
        clear hb hbox hg
        refine hK.out _ _ ⟨My.b_ BK194 0, My.b_ BK194 1, My.b_ BK194 2, My.b_ BK194 3, My.b_ BK194 4, My.b_ BK194 5, My.b_ BK190 0, My.b_ BK190 1, My.b_ BK190 2⟩ (fun hHeld => ?_)
        clear hK K
        refine My.nm 12 ?_
        exact norm_ (by simp only [putAll, Act.put, List.setIfInBounds_toArray, List.set_cons_zero, List.set_cons_succ]) (hCont (gb206) _ ⟨hHeld, (My.at_ BK189), (My.at_ BK190), (My.at_ BK191), (My.at_ BK194), (My.at_ BK206), GW206.out, GE206.out, NB189_206.out, NB206_189.out, NB190_206.out, NB206_190.out, NB191_206.out, NB206_191.out, NB194_206.out, NB206_194.out, (My.bl_ HB)⟩)
       skip
       refine box_step ?hg (N := 12) ?hd (cs := #[.int .i64 0, .int .i64 0, .int .i64 0]) (t := 49) ?hr ?_; (case hd => rfl); (case hg => rfl); (case hr => first | (go_simp; done) | (go_simp; rfl))
       intro gb206 hg w88 hbox hb
       have BK206 := My.am (hbox)
       have GW206 := My.nge hg (My.bl_ HB)
       have GE206 := My.nge hg (My.bl_ HB)
       replace HB := My.st HB hb
       obtain ⟨NB189_206, NB206_189, BK189⟩ := My.nb hg hb BK189
       obtain ⟨NB190_206, NB206_190, BK190⟩ := My.nb hg hb BK190
       obtain ⟨NB191_206, NB206_191, BK191⟩ := My.nb hg hb BK191
       obtain ⟨NB194_206, NB206_194, BK194⟩ := My.nb hg hb BK194
       clear hb hbox hg
       refine hK.out _ _ ⟨My.b_ BK194 0, My.b_ BK194 1, My.b_ BK194 2, My.b_ BK194 3, My.b_ BK194 4, My.b_ BK194 5, My.b_ BK190 0, My.b_ BK190 1, My.b_ BK190 2⟩ (fun hHeld => ?_)
       clear hK K
       refine My.nm 12 ?_
       refine one_ (i := 8) (N := some 54) (My.Mb 15 4607) rfl rfl (one_of HT_.out (by kernel_rfl)) (by decide) (fun K hK => ?_)
       refine My.goesW_ (f := f_) (first := #[]) (cap := #[]) hf_ hname_ hb_ #[.agg #[.int .i64 x195003_31, .int .i64 x195004_31, .int .i64 x195005_31], .bool (decide (t196 < 0)), .int .i64 a1_2] (by rfl) rfl rfl rfl (by (try simp only [List.map_toArray, List.map_cons, List.map_nil, Array.empty_append, Array.append_empty]); first | done | rfl | (simp only [List.length_drop, List.length_take]; rfl)) ?_
       with_reducible refine (hD kj31 x195003_31 x195004_31 x195005_31 (decide (t196 < 0)) a1_2 t202 t203 t204 t205 _ A85.out).mono ?_
       rintro e w89 ⟨rfl, hb⟩
       refine ⟨_, rfl, ?_⟩
       replace BK189 := My.ab BK189 hb
       replace BK190 := My.ab BK190 hb
       replace BK191 := My.ab BK191 hb
       replace BK194 := My.ab BK194 hb
       replace BK206 := My.ab BK206 hb
       replace HB := My.st HB hb
       (try clear hb)
       (try clear hb2)
       (try clear hk)
       (try clear hi)
       refine hK.out _ _ ⟨My.b_ BK194 0, My.b_ BK194 1, My.b_ BK194 2, My.b_ BK194 3, My.b_ BK194 4, My.b_ BK194 5, My.b_ BK190 0, My.b_ BK190 1, My.b_ BK190 2⟩ (fun hHeld => ?_)
       clear hK K
       refine My.nm 54 ?_
       refine My.pv_ 9 45 15 5119 HT_.out ?_
       refine My.pv_ 10 55 15 6143 HT_.out ?_
       refine My.pv_ 11 56 15 8191 HT_.out ?_
       exact norm_ (by simp only [putAll, Act.put, List.setIfInBounds_toArray, List.set_cons_zero, List.set_cons_succ]) (hCont (gb206) _ ⟨hHeld, (My.at_ BK189), (My.at_ BK190), (My.at_ BK191), (My.at_ BK194), (My.at_ BK206), GW206.out, GE206.out, NB189_206.out, NB206_189.out, NB190_206.out, NB206_190.out, NB191_206.out, NB206_191.out, NB194_206.out, NB206_194.out, (My.bl_ HB)⟩)
      rintro gb206 w90 ⟨hS_, h0_, h1_, h2_, h3_, h4_, h5_, h6_, h7_, h8_, h9_, h10_, h11_, h12_, h13_, h14_, h15_⟩
      have n0_ : Aside0 (w90.heap[gb189]? = some (.cells #[.string a0_0, .int .i64 a0_1, .int .i64 a0_2, .int .i64 a0_3, .int .i64 a0_4, .int .i64 a0_5, .int .i64 a0_6] 51 (0, 0))) := ⟨h0_⟩
      have n1_ : Aside0 (w90.heap[gb190]? = some (.cells #[.int .i64 a1_0, .string a1_1, .int .i64 a1_2] 27 (0, 0))) := ⟨h1_⟩
      have n2_ : Aside0 (w90.heap[gb191]? = some (.cells #[.string x192000_31, .int .i64 x192001_31, .int .i64 x192002_31, .int .i64 x192003_31, .int .i64 x192004_31, .int .i64 x192005_31, .int .i64 x192006_31] 51 (0, 0))) := ⟨h2_⟩
      have n3_ : Aside0 (w90.heap[gb194]? = some (.cells #[.int .i64 x195000_31, .int .i64 x195001_31, .int .i64 x195002_31, .int .i64 x195003_31, .int .i64 x195004_31, .int .i64 x195005_31] 123 (0, 0))) := ⟨h3_⟩
      have n4_ : Aside0 (w90.heap[gb206]? = some (.cells #[.int .i64 0, .int .i64 0, .int .i64 0] 49 (0, 0))) := ⟨h4_⟩
      have n5_ : Aside0 (w.heap.size ≤ gb206) := ⟨h5_⟩
      have n6_ : Aside0 (w.heap.size ≤ gb206) := ⟨h6_⟩
      have n7_ : Aside0 (gb189 ≠ gb206) := ⟨h7_⟩
      have n8_ : Aside0 (gb206 ≠ gb189) := ⟨h8_⟩
      have n9_ : Aside0 (gb190 ≠ gb206) := ⟨h9_⟩
      have n10_ : Aside0 (gb206 ≠ gb190) := ⟨h10_⟩
      have n11_ : Aside0 (gb191 ≠ gb206) := ⟨h11_⟩
      have n12_ : Aside0 (gb206 ≠ gb191) := ⟨h12_⟩
      have n13_ : Aside0 (gb194 ≠ gb206) := ⟨h13_⟩
      have n14_ : Aside0 (gb206 ≠ gb194) := ⟨h14_⟩
      have n15_ : Aside0 (Below w.heap.size w w90) := ⟨h15_⟩
      clear BK189
      clear BK190
      clear BK191
      clear BK194
      clear HB
      clear h0_ h1_ h2_ h3_ h4_ h5_ h6_ h7_ h8_ h9_ h10_ h11_ h12_ h13_ h14_ h15_
      have BK189 := n0_
      have BK190 := n1_
      have BK191 := n2_
      have BK194 := n3_
      have BK206 := n4_
      have GW206 := n5_
      have GE206 := n6_
      have NB189_206 := n7_
      have NB206_189 := n8_
      have NB190_206 := n9_
      have NB206_190 := n10_
      have NB191_206 := n11_
      have NB206_191 := n12_
      have NB194_206 := n13_
      have NB206_194 := n14_
      have HB := n15_
      clear n0_ n1_ n2_ n3_ n4_ n5_ n6_ n7_ n8_ n9_ n10_ n11_ n12_ n13_ n14_ n15_
      have hHeld : w90.cell? ⟨gb194, 0, none⟩ = some (.int .i64 x195000_31) ∧ w90.cell? ⟨gb194, 1, none⟩ = some (.int .i64 x195001_31) ∧ w90.cell? ⟨gb194, 2, none⟩ = some (.int .i64 x195002_31) ∧ w90.cell? ⟨gb194, 3, none⟩ = some (.int .i64 x195003_31) ∧ w90.cell? ⟨gb194, 4, none⟩ = some (.int .i64 x195004_31) ∧ w90.cell? ⟨gb194, 5, none⟩ = some (.int .i64 x195005_31) ∧ w90.cell? ⟨gb190, 0, none⟩ = some (.int .i64 a1_0) ∧ w90.cell? ⟨gb190, 1, none⟩ = some (.string a1_1) ∧ w90.cell? ⟨gb190, 2, none⟩ = some (.int .i64 a1_2) := hS_
      refine norm_ (a' := ?_) ?_ ?_
      rotate_left
      ·simp only [putAll, Act.put, List.setIfInBounds_toArray, List.set_cons_zero, List.set_cons_succ]
       rfl
      refine one_ (i := 13) (N := none) (My.Mb 15 16383) rfl rfl (one_of HT_.out (by kernel_rfl)) (by decide) (fun K hK => ?_)
      have hs91 : w90.cell? ⟨gb206, 0, none⟩ = some (.int .i64 0) := My.b_ BK206 0
      have hfs91 := blk_frozen BK206.out 0
      have hns91_0 := NB189_206.out
      have hns91_1 := NB190_206.out
      have hns91_2 := NB191_206.out
      have hns91_3 := NB194_206.out
      have hms91_0 := NB206_189.out
      have hms91_1 := NB206_190.out
      have hms91_2 := NB206_191.out
      have hms91_3 := NB206_194.out
      have hs92 : w90.cell? ⟨gb206, 1, none⟩ = some (.int .i64 0) := My.b_ BK206 1
      have hfs92 := blk_frozen BK206.out 1
      have hns92_0 := NB189_206.out
      have hns92_1 := NB190_206.out
      have hns92_2 := NB191_206.out
      have hns92_3 := NB194_206.out
      have hms92_0 := NB206_189.out
      have hms92_1 := NB206_190.out
      have hms92_2 := NB206_191.out
      have hms92_3 := NB206_194.out
      have hs93 : w90.cell? ⟨gb206, 2, none⟩ = some (.int .i64 0) := My.b_ BK206 2
      have hfs93 := blk_frozen BK206.out 2
      have hns93_0 := NB189_206.out
      have hns93_1 := NB190_206.out
      have hns93_2 := NB191_206.out
      have hns93_3 := NB194_206.out
      have hms93_0 := NB206_189.out
      have hms93_1 := NB206_190.out
      have hms93_2 := NB206_191.out
      have hms93_3 := NB206_194.out
      refine skip_ (w1 := ?_) (by rfl) rfl ?_ ?_
      rotate_left
      ·go_simp
       rfl
      refine hK.out _ _ ⟨(My.c3 NB194_206.out hHeld.1), (My.c3 NB194_206.out hHeld.2.1), (My.c3 NB194_206.out hHeld.2.2.1), (My.c3 NB194_206.out hHeld.2.2.2.1), (My.c3 NB194_206.out hHeld.2.2.2.2.1), (My.c3 NB194_206.out hHeld.2.2.2.2.2.1), (My.c3 NB190_206.out hHeld.2.2.2.2.2.2.1), (My.c3 NB190_206.out hHeld.2.2.2.2.2.2.2.1), (My.c3 NB190_206.out hHeld.2.2.2.2.2.2.2.2)⟩ (fun hHeld => ?_)
      clear hK K
      refine My.pu_ 14 13 15 HT_.out ?_
      refine done_ (done_of HT_.out (by kernel_rfl)) ?_
      have hnb94 := NB206_189.out
      have hnc94 := NB189_206.out
      have hnb95 := NB206_190.out
      have hnc95 := NB190_206.out
      have hnb96 := NB206_191.out
      have hnc96 := NB191_206.out
      have hnb97 := NB206_194.out
      have hnc97 := NB194_206.out
      have hq98 := My.cz3 BK206
      have hnb99 := NB194_189.out
      have hnc99 := NB189_194.out
      have hnb100 := NB194_190.out
      have hnc100 := NB190_194.out
      have hnb101 := NB194_191.out
      have hnc101 := NB191_194.out
      have hq102 := My.cz6 BK194
      have hnb103 := NB189_190.out
      have hnc103 := NB190_189.out
      have hnb104 := NB189_191.out
      have hnc104 := NB191_189.out
      have hq105 := My.cz7 BK189
      have hnb106 := NB191_190.out
      have hnc106 := NB190_191.out
      have hq107 := My.cz7 BK191
      try go_wp2_with (first | (with_reducible refine My.park_ ?_; intro X_ hX_) | (with_reducible refine wp_loop_rounds 3 ?_) | (with_reducible rw [rounds_succ]))
      (try rw [hX_.out])
      refine bodyPost_ret (results_ct rfl _ _ gb191 51 #[.string a0_0, .int .i64 x195000_31, .int .i64 x195001_31, .int .i64 x195002_31, .int .i64 t202, .int .i64 t203, .int .i64 t204] (0, 0) _ rfl ((My.sv_ BK191)) Try.underlying51 rfl (by kernel_rfl)) rfl ?_
      exact ⟨My.r2, (My.bl_ HB)⟩
 ·rw [if_neg c5] at H
  have c5b0 : (t192 == 0) = false := beq_eq_false_iff_ne.mpr c5
  have c5b1 : (t192 != 0) = true := bne_iff_ne.mpr c5
  simp only [Option.some.injEq, Prod.mk.injEq] at H
  obtain ⟨rfl, rfl, rfl, rfl, rfl, rfl, rfl, rfl⟩ := H
  go_enter Try.func71, Try.ntmps71
  go_wp2_with (first | (with_reducible refine My.park_ ?_; intro X_ hX_) | (with_reducible refine wp_loop_rounds 3 ?_) | (with_reducible rw [rounds_succ]) | ((with_reducible refine gate_dst (N := 3) rfl ?_); refine My.bx 3 #[.string a0_0, .int .i64 a0_1, .int .i64 a0_2, .int .i64 a0_3, .int .i64 a0_4, .int .i64 a0_5, .int .i64 a0_6] 51 ?_; intro gb189 hg w120 hbox hb; have BK189 := My.am (hbox); have GE189 := My.nge hg (My.bl_ HB); replace HB := My.st HB hb; clear hb hbox hg) | ((with_reducible refine gate_dst (N := 4) rfl ?_); refine My.bx 4 #[.int .i64 a1_0, .string a1_1, .int .i64 a1_2] 27 ?_; intro gb190 hg w121 hbox hb; have BK190 := My.am (hbox); have GE190 := My.nge hg (My.bl_ HB); replace HB := My.st HB hb; obtain ⟨NB189_190, NB190_189, BK189⟩ := My.nb hg hb BK189; clear hb hbox hg) | ((with_reducible refine gate_dst (N := 6) rfl ?_); refine My.bx 6 #[.string (⟨#[]⟩ : ByteArray), .int .i64 0, .int .i64 0, .int .i64 0, .int .i64 0, .int .i64 0, .int .i64 0] 51 ?_; intro gb191 hg w122 hbox hb; have BK191 := My.am (hbox); have GE191 := My.nge hg (My.bl_ HB); replace HB := My.st HB hb; obtain ⟨NB189_191, NB191_189, BK189⟩ := My.nb hg hb BK189; have NB190_191 := My.nlt hg (My.at_ BK190); have NB191_190 := My.ngt hg (My.at_ BK190); clear hb hbox hg; have hnb123 := NB189_190.out; have hnc123 := NB190_189.out; have hnb124 := NB189_191.out; have hnc124 := NB191_189.out; have hq125 := My.cz7 BK189) | ((with_reducible refine gate_callee (f := 51) rfl ?_); refine goesL_ (some 15) rfl rfl Try.func51 (by kernel_rfl) rfl #[.agg #[.string a0_0, .int .i64 a0_1, .int .i64 a0_2, .int .i64 a0_3, .int .i64 a0_4, .int .i64 a0_5, .int .i64 a0_6]] rfl My.gx ?_; (with_reducible refine (act_May.calls k a0_0 a0_1 a0_2 a0_3 a0_4 a0_5 a0_6 t192 _ A4.out).mono ?_); rintro e w126 ⟨rfl, hb⟩; refine ⟨_, rfl, ?_⟩; replace BK191 := My.ab BK191 hb; replace HB := My.st HB hb; (try clear hb); have hnb127 := NB191_190.out; have hnc127 := NB190_191.out; have hq128 := My.cz7 BK191))
  (try rw [hX_.out])
  refine bodyPost_ret (results_ct rfl _ _ gb191 51 #[.string (⟨#[]⟩ : ByteArray), .int .i64 0, .int .i64 0, .int .i64 0, .int .i64 0, .int .i64 0, .int .i64 0] (0, 0) _ rfl ((My.sv_ BK191)) Try.underlying51 rfl (by kernel_rfl)) rfl ?_
  exact ⟨My.r2, (My.bl_ HB)⟩

/-! ### act_each_pot_Do: function 117 -/
def act_each_pot_Do.f (k : Nat) (a0_0 : ByteArray) (a0_1 : Int) (a0_2 : Int) (a0_3 : Int) (a0_4 : Int) (a0_5 : Int) (a0_6 : Int) (a1_0 : Int) (a1_1 : ByteArray) (a1_2 : Int) (a2 : Int) : Option (ByteArray × Int × Int × Int × Int × Int × Int × Int) := act_each_any.f pot_Do.f k a0_0 a0_1 a0_2 a0_3 a0_4 a0_5 a0_6 a1_0 a1_1 a1_2 a2
theorem act_each_pot_Do.mono : ∀ a0 a1 a2 a3 a4 a5 a6 a7 a8 a9 a10 k, LeO (act_each_pot_Do.f k a0 a1 a2 a3 a4 a5 a6 a7 a8 a9 a10) (act_each_pot_Do.f (k + 1) a0 a1 a2 a3 a4 a5 a6 a7 a8 a9 a10) := act_each_any.mono _ pot_Do.mono
theorem act_each_pot_Do.calls (k : Nat) (a0_0 : ByteArray) (a0_1 : Int) (a0_2 : Int) (a0_3 : Int) (a0_4 : Int) (a0_5 : Int) (a0_6 : Int) (a1_0 : Int) (a1_1 : ByteArray) (a1_2 : Int) (a2 : Int) (r1 : ByteArray) (r2 : Int) (r3 : Int) (r4 : Int) (r5 : Int) (r6 : Int) (r7 : Int) (r8 : Int) (w : World) (h : act_each_pot_Do.f k a0_0 a0_1 a0_2 a0_3 a0_4 a0_5 a0_6 a1_0 a1_1 a1_2 a2 = some (r1, r2, r3, r4, r5, r6, r7, r8)) :
  Calls Try.prog 71 #[.agg #[.string a0_0, .int .i64 a0_1, .int .i64 a0_2, .int .i64 a0_3, .int .i64 a0_4, .int .i64 a0_5, .int .i64 a0_6], .agg #[.int .i64 a1_0, .string a1_1, .int .i64 a1_2], .func (.func 72) #[] #[]] w fun e w' => e = .returned (.tuple #[.agg #[.string r1, .int .i64 r2, .int .i64 r3, .int .i64 r4, .int .i64 r5, .int .i64 r6, .int .i64 r7], .int .i64 r8]) ∧ Below w.heap.size w w' := act_each_any.calls 72 _ Try.func72 (by kernel_rfl) rfl pot_Do.f pot_Do.calls k a0_0 a0_1 a0_2 a0_3 a0_4 a0_5 a0_6 a1_0 a1_1 a1_2 a2 r1 r2 r3 r4 r5 r6 r7 r8 w h

end Go.Proofs.Ytikanbdhpafbiaa.PO
