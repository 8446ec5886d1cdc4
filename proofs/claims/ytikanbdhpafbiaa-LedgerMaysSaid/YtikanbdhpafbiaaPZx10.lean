-- Written by a program of this session (wip/tools/mp.py over the kit's printer); Lean checks it.
import Derived.Test.YtikanbdhpafbiaaPk
import Derived.Test.YtikanbdhpafbiaaPZx0
import Derived.Test.YtikanbdhpafbiaaPZx5
import Derived.Test.YtikanbdhpafbiaaPZx9
namespace Go.Proofs.Ytikanbdhpafbiaa.PZ
open Go.RowKit Go.Proofs.YtikanbdhpafbiaaW.PrintWords Go.Proofs.YtikanbdhpafbiaaW.PrintLast Go.Proofs.YtikanbdhpafbiaaW.PrintMore
attribute [local go_sem] max2_int min2_int max_two min_two max_three min_three max_four min_four   -- for this text's walks alone
set_option linter.unusedVariables false
set_option maxHeartbeats 8000000
set_option maxRecDepth 100000
set_option linter.unusedSimpArgs false

/-! ### act_each_any: function 117 -/
mutual
def act_each_any.j0 (D : Nat → Int → Int → Int → Bool → Int → Option (Int × Int × Int × Int)) : Nat → Bool → ByteArray → Int → Int → Int → Int → Int → Int → Int → ByteArray → Int → Option (ByteArray × Int × Int × Int × Int × Int × Int × Int)
 | 0, _, _, _, _, _, _, _, _, _, _, _ => none
 | k + 1, x29, x192000, x192001, x192002, x192003, x192004, x192005, x192006, x193000, x193001, x193002 => if x29 = true then (some ((⟨#[]⟩ : ByteArray), 0, 0, 0, 0, 0, 0, 60)) else ((act_ways.f x193000).bind fun bt197 => (if bt197.1 = 0 then (act_each_any.j1 D k bt197.2 x192000 x192001 x192002 x192003 x192004 x192005 x192006 x193000 x193001 x193002 x192001 x192002 x192003 x192004 x192005 x192006) else ((D k x192001 x192002 x192003 (decide (bt197.1 < 0)) x193002).bind fun bt199 => (if bt199.2.2.2 = 0 then (act_each_any.j1 D k bt197.2 x192000 x192001 x192002 x192003 x192004 x192005 x192006 x193000 x193001 x193002 bt199.1 bt199.2.1 bt199.2.2.1 x192004 x192005 x192006) else (some ((⟨#[]⟩ : ByteArray), 0, 0, 0, 0, 0, 0, bt199.2.2.2))))))
def act_each_any.j1 (D : Nat → Int → Int → Int → Bool → Int → Option (Int × Int × Int × Int)) : Nat → Int → ByteArray → Int → Int → Int → Int → Int → Int → Int → ByteArray → Int → Int → Int → Int → Int → Int → Int → Option (ByteArray × Int × Int × Int × Int × Int × Int × Int)
 | 0, _, _, _, _, _, _, _, _, _, _, _, _, _, _, _, _, _ => none
 | k + 1, x881, x192000, x192001, x192002, x192003, x192004, x192005, x192006, x193000, x193001, x193002, x197000, x197001, x197002, x197003, x197004, x197005 => if x881 = 0 then (some (x192000, x197000, x197001, x197002, x197003, x197004, x197005, 0)) else ((D k x197003 x197004 x197005 (decide (x881 < 0)) x193002).bind fun bt204 => (if bt204.2.2.2 = 0 then (some (x192000, x197000, x197001, x197002, bt204.1, bt204.2.1, bt204.2.2.1, 0)) else (some ((⟨#[]⟩ : ByteArray), 0, 0, 0, 0, 0, 0, bt204.2.2.2))))
end
def act_each_any.f (D : Nat → Int → Int → Int → Bool → Int → Option (Int × Int × Int × Int)) (k : Nat) (a0_0 : ByteArray) (a0_1 : Int) (a0_2 : Int) (a0_3 : Int) (a0_4 : Int) (a0_5 : Int) (a0_6 : Int) (a1_0 : Int) (a1_1 : ByteArray) (a1_2 : Int) (a2 : Int) : Option (ByteArray × Int × Int × Int × Int × Int × Int × Int) := (act_May.f k a0_0 a0_1 a0_2 a0_3 a0_4 a0_5 a0_6).bind fun t194 => (if t194 = 0 then ((act_Check.f k a1_0 a1_1 a1_2).bind fun t195 => (if t195 = 0 then (act_each_any.j0 D k (a1_1.toList != a0_0.toList) a0_0 a0_1 a0_2 a0_3 a0_4 a0_5 a0_6 a1_0 a1_1 a1_2) else (act_each_any.j0 D k true a0_0 a0_1 a0_2 a0_3 a0_4 a0_5 a0_6 a1_0 a1_1 a1_2))) else (some ((⟨#[]⟩ : ByteArray), 0, 0, 0, 0, 0, 0, t194)))
theorem act_each_any.mono_l (D : Nat → Int → Int → Int → Bool → Int → Option (Int × Int × Int × Int)) (hM : ∀ m0 m1 m2 m3 m4 k, LeO (D k m0 m1 m2 m3 m4) (D (k + 1) m0 m1 m2 m3 m4)) : ∀ k, (∀ y0 y1 y2 y3 y4 y5 y6 y7 y8 y9 y10, LeO (act_each_any.j0 D k y0 y1 y2 y3 y4 y5 y6 y7 y8 y9 y10) (act_each_any.j0 D (k + 1) y0 y1 y2 y3 y4 y5 y6 y7 y8 y9 y10)) ∧ (∀ y0 y1 y2 y3 y4 y5 y6 y7 y8 y9 y10 y11 y12 y13 y14 y15 y16, LeO (act_each_any.j1 D k y0 y1 y2 y3 y4 y5 y6 y7 y8 y9 y10 y11 y12 y13 y14 y15 y16) (act_each_any.j1 D (k + 1) y0 y1 y2 y3 y4 y5 y6 y7 y8 y9 y10 y11 y12 y13 y14 y15 y16))
 | 0 => ⟨fun _ _ _ _ _ _ _ _ _ _ _ r h => by simp [act_each_any.j0] at h, fun _ _ _ _ _ _ _ _ _ _ _ _ _ _ _ _ _ r h => by simp [act_each_any.j1] at h⟩
 | k + 1 => by
  obtain ⟨ih0, ih1⟩ := act_each_any.mono_l D hM k
  refine ⟨?_, ?_⟩
  ·intro y0 y1 y2 y3 y4 y5 y6 y7 y8 y9 y10
   unfold act_each_any.j0
   repeat' (with_reducible first | exact ih0 _ _ _ _ _ _ _ _ _ _ _ | exact ih1 _ _ _ _ _ _ _ _ _ _ _ _ _ _ _ _ _ | exact act_Check.mono _ _ _ _ | exact act_May.mono _ _ _ _ _ _ _ _ | exact hM _ _ _ _ _ _ | exact LeO.refl _ | exact LeO.none _ | apply LeO.ite | refine LeO.bind ?_ (fun _ => ?_))
  intro y0 y1 y2 y3 y4 y5 y6 y7 y8 y9 y10 y11 y12 y13 y14 y15 y16
  unfold act_each_any.j1
  repeat' (with_reducible first | exact ih0 _ _ _ _ _ _ _ _ _ _ _ | exact ih1 _ _ _ _ _ _ _ _ _ _ _ _ _ _ _ _ _ | exact act_Check.mono _ _ _ _ | exact act_May.mono _ _ _ _ _ _ _ _ | exact hM _ _ _ _ _ _ | exact LeO.refl _ | exact LeO.none _ | apply LeO.ite | refine LeO.bind ?_ (fun _ => ?_))
theorem act_each_any.mono (D : Nat → Int → Int → Int → Bool → Int → Option (Int × Int × Int × Int)) (hM : ∀ m0 m1 m2 m3 m4 k, LeO (D k m0 m1 m2 m3 m4) (D (k + 1) m0 m1 m2 m3 m4)) : ∀ a0 a1 a2 a3 a4 a5 a6 a7 a8 a9 a10 k, LeO (act_each_any.f D k a0 a1 a2 a3 a4 a5 a6 a7 a8 a9 a10) (act_each_any.f D (k + 1) a0 a1 a2 a3 a4 a5 a6 a7 a8 a9 a10) := by
 intro a0 a1 a2 a3 a4 a5 a6 a7 a8 a9 a10 k
 obtain ⟨ih0, ih1⟩ := act_each_any.mono_l D hM k
 unfold act_each_any.f
 repeat' (with_reducible first | exact ih0 _ _ _ _ _ _ _ _ _ _ _ | exact ih1 _ _ _ _ _ _ _ _ _ _ _ _ _ _ _ _ _ | exact act_Check.mono _ _ _ _ | exact act_May.mono _ _ _ _ _ _ _ _ | exact hM _ _ _ _ _ _ | exact LeO.refl _ | exact LeO.none _ | apply LeO.ite | refine LeO.bind ?_ (fun _ => ?_))
def act_each_any.T11 : Bool × List (List Nat × List Nat) := (true, [([], []), ([], []), ([1], [1]), ([2], [2]), ([], []), ([4], [4]), ([], []), ([6], [6]), ([0, 3, 5, 7], [0, 3, 5, 7]), ([8], [8]), ([9], [9]), ([9], [9]), ([], []), ([12, 10, 8, 0, 1, 2, 3, 4, 5, 6, 7, 8, 9, 10, 12], [10, 12]), ([11, 13, 0, 1, 2, 3, 4, 5, 6, 7, 8, 9, 10, 11, 12, 13], [11])])
def act_each_any.B11 : List Nat := [0, 0, 2, 6, 0, 16, 0, 64, 255, 511, 1023, 1023, 0, 6143, 16383]
theorem act_each_any.tab11 : rtab .any (opsOf Try.f71 11) = act_each_any.T11 := by kernel_rfl
theorem act_each_any.bits11 : waitsOk act_each_any.T11.2 act_each_any.B11 = true := by kernel_rfl
theorem act_each_any.calls (f_ : FuncId) (fn_ : Func) (hf_ : Try.prog.funcs[f_]? = some fn_) (hname_ : (fn_.name == "runtime.NumGoroutine") = false) (hb_ : fn_.body.isSome = true) (D : Nat → Int → Int → Int → Bool → Int → Option (Int × Int × Int × Int)) (hD : ∀ (k : Nat) (a0_0 : Int) (a0_1 : Int) (a0_2 : Int) (a1 : Bool) (a2 : Int) (r1 : Int) (r2 : Int) (r3 : Int) (r4 : Int) (w : World), D k a0_0 a0_1 a0_2 a1 a2 = some (r1, r2, r3, r4) → Calls Try.prog f_ #[.agg #[.int .i64 a0_0, .int .i64 a0_1, .int .i64 a0_2], .bool a1, .int .i64 a2] w fun e w' => e = .returned (.tuple #[.agg #[.int .i64 r1, .int .i64 r2, .int .i64 r3], .int .i64 r4]) ∧ Below w.heap.size w w') (k : Nat) (a0_0 : ByteArray) (a0_1 : Int) (a0_2 : Int) (a0_3 : Int) (a0_4 : Int) (a0_5 : Int) (a0_6 : Int) (a1_0 : Int) (a1_1 : ByteArray) (a1_2 : Int) (a2 : Int) (r1 : ByteArray) (r2 : Int) (r3 : Int) (r4 : Int) (r5 : Int) (r6 : Int) (r7 : Int) (r8 : Int) (w : World) (h : act_each_any.f D k a0_0 a0_1 a0_2 a0_3 a0_4 a0_5 a0_6 a1_0 a1_1 a1_2 a2 = some (r1, r2, r3, r4, r5, r6, r7, r8)) :
  Calls Try.prog 71 #[.agg #[.string a0_0, .int .i64 a0_1, .int .i64 a0_2, .int .i64 a0_3, .int .i64 a0_4, .int .i64 a0_5, .int .i64 a0_6], .agg #[.int .i64 a1_0, .string a1_1, .int .i64 a1_2], .func (.func f_) #[] #[]] w fun e w' => e = .returned (.tuple #[.agg #[.string r1, .int .i64 r2, .int .i64 r3, .int .i64 r4, .int .i64 r5, .int .i64 r6, .int .i64 r7], .int .i64 r8]) ∧ Below w.heap.size w w' := by
 have hu51 := Try.underlying51
 have hu27 := Try.underlying27
 have hu49 := Try.underlying49
 have hu123 := Try.underlying123
 have HB := My.am (Below.refl w.heap.size w)
 unfold act_each_any.f at h
 have H := h
 clear h
 replace H := Option.bind_eq_some_iff.mp H
 obtain ⟨t194, A40, H⟩ := H
 try dsimp only at H
 have A4 := My.am A40
 clear A40
 by_cases c5 : t194 = 0
 ·rw [if_pos c5] at H
  have c5b0 : (t194 == 0) = true := beq_iff_eq.mpr c5
  have c5b1 : (t194 != 0) = false := bne_eq_false_iff_eq.mpr c5
  clear c5
  have HC6 := My.am H
  clear H
  go_enter Try.func71, Try.ntmps71
  go_upto_region 4 with (first | (with_reducible refine wp_loop_rounds 3 ?_) | (with_reducible rw [rounds_succ]) | ((with_reducible refine gate_dst (N := 3) rfl ?_); refine My.bx 3 #[.string a0_0, .int .i64 a0_1, .int .i64 a0_2, .int .i64 a0_3, .int .i64 a0_4, .int .i64 a0_5, .int .i64 a0_6] 51 ?_; intro gb191 hg w7 hbox hb; have BK191 := My.am (hbox); have GE191 := My.nge hg (My.bl_ HB); replace HB := My.st HB hb; clear hb hbox hg) | ((with_reducible refine gate_dst (N := 4) rfl ?_); refine My.bx 4 #[.int .i64 a1_0, .string a1_1, .int .i64 a1_2] 27 ?_; intro gb192 hg w8 hbox hb; have BK192 := My.am (hbox); have GE192 := My.nge hg (My.bl_ HB); replace HB := My.st HB hb; obtain ⟨NB191_192, NB192_191, BK191⟩ := My.nb hg hb BK191; clear hb hbox hg) | ((with_reducible refine gate_dst (N := 6) rfl ?_); refine My.bx 6 #[.string (⟨#[]⟩ : ByteArray), .int .i64 0, .int .i64 0, .int .i64 0, .int .i64 0, .int .i64 0, .int .i64 0] 51 ?_; intro gb193 hg w9 hbox hb; have BK193 := My.am (hbox); have GE193 := My.nge hg (My.bl_ HB); replace HB := My.st HB hb; obtain ⟨NB191_193, NB193_191, BK191⟩ := My.nb hg hb BK191; obtain ⟨NB192_193, NB193_192, BK192⟩ := My.nb hg hb BK192; clear hb hbox hg; have hnb10 := NB191_192.out; have hnc10 := NB192_191.out; have hnb11 := NB191_193.out; have hnc11 := NB193_191.out; have hq12 := My.cz7 BK191) | ((with_reducible refine gate_callee (f := 51) rfl ?_); refine goesL_ (some 15) rfl rfl Try.func51 (by kernel_rfl) rfl #[.agg #[.string a0_0, .int .i64 a0_1, .int .i64 a0_2, .int .i64 a0_3, .int .i64 a0_4, .int .i64 a0_5, .int .i64 a0_6]] rfl My.gx ?_; (with_reducible refine (act_May.calls k a0_0 a0_1 a0_2 a0_3 a0_4 a0_5 a0_6 t194 _ A4.out).mono ?_); rintro e w13 ⟨rfl, hb⟩; refine ⟨_, rfl, ?_⟩; replace BK191 := My.ab BK191 hb; replace BK192 := My.ab BK192 hb; replace BK193 := My.ab BK193 hb; replace HB := My.st HB hb; (try clear hb)))
  (try simp only [Act.put, List.setIfInBounds_toArray, List.set_cons_zero, List.set_cons_succ])
  go_cut [29] (fun v29 wc => ∃ (kq : Nat) (x29_5 : Bool), v29 = .bool x29_5 ∧ Aside0 (act_each_any.j0 D kq x29_5 a0_0 a0_1 a0_2 a0_3 a0_4 a0_5 a0_6 a1_0 a1_1 a1_2 = some (r1, r2, r3, r4, r5, r6, r7, r8)) ∧ Aside0 (kq ≤ k) ∧ Aside0 (wc.heap[gb191]? = some (.cells #[.string a0_0, .int .i64 a0_1, .int .i64 a0_2, .int .i64 a0_3, .int .i64 a0_4, .int .i64 a0_5, .int .i64 a0_6] 51 (0, 0))) ∧ Aside0 (wc.heap[gb192]? = some (.cells #[.int .i64 a1_0, .string a1_1, .int .i64 a1_2] 27 (0, 0))) ∧ Aside0 (wc.heap[gb193]? = some (.cells #[.string (⟨#[]⟩ : ByteArray), .int .i64 0, .int .i64 0, .int .i64 0, .int .i64 0, .int .i64 0, .int .i64 0] 51 (0, 0))) ∧ Aside0 (Below w.heap.size w wc))
  case first =>
   have H := HC6.out
   clear HC6
   replace H := Option.bind_eq_some_iff.mp H
   obtain ⟨t195, A140, H⟩ := H
   try dsimp only at H
   have A14 := My.am A140
   clear A140
   by_cases c15 : t195 = 0
   ·rw [if_pos c15] at H
    have c15b0 : (t195 == 0) = true := beq_iff_eq.mpr c15
    have c15b1 : (t195 != 0) = false := bne_eq_false_iff_eq.mpr c15
    clear c15
    (first | rw [c15b0] | (simp only [i64_w, i32_w]; rw [c15b0]) | skip)
    have H' := My.am H
    clear H
    have hnb16 := NB192_191.out
    have hnc16 := NB191_192.out
    have hnb17 := NB192_193.out
    have hnc17 := NB193_192.out
    have hq18 := My.cz3 BK192
    go_wp2_with (first | (with_reducible refine wp_loop_rounds 3 ?_) | (with_reducible rw [rounds_succ]) | ((with_reducible refine gate_callee (f := 39) rfl ?_); refine goesL_ (some 21) rfl rfl Try.func39 (by kernel_rfl) rfl #[.agg #[.int .i64 a1_0, .string a1_1, .int .i64 a1_2]] rfl My.gx ?_; (with_reducible refine (act_Check.calls k a1_0 a1_1 a1_2 t195 _ A14.out).mono ?_); rintro e w19 ⟨rfl, hb⟩; refine ⟨_, rfl, ?_⟩; replace BK191 := My.ab BK191 hb; replace BK192 := My.ab BK192 hb; replace BK193 := My.ab BK193 hb; replace HB := My.st HB hb; (try clear hb); have hq20 := My.cz3 BK192; have hnb21 := NB191_193.out; have hnc21 := NB193_191.out; have hq22 := My.cz7 BK191))
    go_meet
    case rel => exact ⟨_, ((a1_1.toList != a0_0.toList)), My.r1, H', ⟨My.r4⟩, ⟨(My.at_ BK191)⟩, ⟨(My.at_ BK192)⟩, ⟨(My.at_ BK193)⟩, ⟨(My.bl_ HB)⟩⟩
   rw [if_neg c15] at H
   have c15b0 : (t195 == 0) = false := beq_eq_false_iff_ne.mpr c15
   have c15b1 : (t195 != 0) = true := bne_iff_ne.mpr c15
   (first | rw [c15b0] | (simp only [i64_w, i32_w]; rw [c15b0]) | skip)
   have H' := My.am H
   clear H
   have hnb23 := NB192_191.out
   have hnc23 := NB191_192.out
   have hnb24 := NB192_193.out
   have hnc24 := NB193_192.out
   have hq25 := My.cz3 BK192
   go_wp2_with (first | (with_reducible refine wp_loop_rounds 3 ?_) | (with_reducible rw [rounds_succ]) | ((with_reducible refine gate_callee (f := 39) rfl ?_); refine goesL_ (some 21) rfl rfl Try.func39 (by kernel_rfl) rfl #[.agg #[.int .i64 a1_0, .string a1_1, .int .i64 a1_2]] rfl My.gx ?_; (with_reducible refine (act_Check.calls k a1_0 a1_1 a1_2 t195 _ A14.out).mono ?_); rintro e w26 ⟨rfl, hb⟩; refine ⟨_, rfl, ?_⟩; replace BK191 := My.ab BK191 hb; replace BK192 := My.ab BK192 hb; replace BK193 := My.ab BK193 hb; replace HB := My.st HB hb; (try clear hb)))
   go_meet
   case rel => exact ⟨_, (true), My.r1, H', ⟨My.r4⟩, ⟨(My.at_ BK191)⟩, ⟨(My.at_ BK192)⟩, ⟨(My.at_ BK193)⟩, ⟨(My.bl_ HB)⟩⟩
  case rest =>
   clear HC6
   try clear c5
   try clear c5b0
   try clear c5b1
   try clear hq12
   obtain ⟨kq, x29_5, rfl, HA, HJ5, BK191, BK192, BK193, HB⟩ := hcut
   cases kq with
   | zero => exact absurd HA.out (by simp [act_each_any.j0])
   | succ kj5 =>
    have H := HA.out
    clear HA
    simp only [act_each_any.j0] at H
    by_cases c27 : x29_5 = true
    ·subst c27
     rw [if_pos rfl] at H
     simp only [Option.some.injEq, Prod.mk.injEq] at H
     obtain ⟨rfl, rfl, rfl, rfl, rfl, rfl, rfl, rfl⟩ := H
     have hnb28 := NB193_191.out
     have hnc28 := NB191_193.out
     have hnb29 := NB193_192.out
     have hnc29 := NB192_193.out
     have hq30 := My.cz7 BK193
     go_wp2_with (first | (with_reducible refine My.park_ ?_; intro X_ hX_) | (with_reducible refine wp_loop_rounds 3 ?_) | (with_reducible rw [rounds_succ]))
     (try rw [hX_.out])
     refine bodyPost_ret (results_ct rfl _ _ gb193 51 #[.string (⟨#[]⟩ : ByteArray), .int .i64 0, .int .i64 0, .int .i64 0, .int .i64 0, .int .i64 0, .int .i64 0] (0, 0) _ rfl ((My.sv_ BK193)) Try.underlying51 rfl (by kernel_rfl)) rfl ?_
     exact ⟨My.r2, (My.bl_ HB)⟩
    replace c27 := Bool.eq_false_iff.mpr c27
    subst c27
    rw [if_neg (show ¬ (false = true) by decide)] at H
    replace H := Option.bind_eq_some_iff.mp H
    obtain ⟨⟨t197, t198⟩, A310, H⟩ := H
    try dsimp only at H
    have A31 := My.am A310
    clear A310
    have HC32 := My.am H
    clear H
    have hnb33 := NB191_192.out
    have hnc33 := NB192_191.out
    have hnb34 := NB191_193.out
    have hnc34 := NB193_191.out
    have hq35 := My.cz7 BK191
    go_upto_block 1 with (first | (with_reducible refine wp_loop_rounds 3 ?_) | (with_reducible rw [rounds_succ]) | ((with_reducible refine gate_dst (N := 9) rfl ?_); refine My.bx 9 #[.int .i64 0, .int .i64 0, .int .i64 0, .int .i64 0, .int .i64 0, .int .i64 0] 123 ?_; intro gb196 hg w36 hbox hb; have BK196 := My.am (hbox); have GE196 := My.nge hg (My.bl_ HB); replace HB := My.st HB hb; obtain ⟨NB191_196, NB196_191, BK191⟩ := My.nb hg hb BK191; obtain ⟨NB192_196, NB196_192, BK192⟩ := My.nb hg hb BK192; obtain ⟨NB193_196, NB196_193, BK193⟩ := My.nb hg hb BK193; clear hb hbox hg; have hnb37 := NB196_191.out; have hnc37 := NB191_196.out; have hnb38 := NB196_192.out; have hnc38 := NB192_196.out; have hnb39 := NB196_193.out; have hnc39 := NB193_196.out; have hq40 := My.cz6 BK196; have hnb41 := NB192_193.out; have hnc41 := NB193_192.out; have hq42 := My.cz3 BK192) | ((with_reducible refine gate_callee (f := 60) rfl ?_); refine goesL_ (some 38) rfl rfl Try.func60 (by kernel_rfl) rfl #[.int .i64 a1_0] rfl My.gx ?_; (with_reducible refine (act_ways.calls a1_0 t197 t198 _ A31.out).mono ?_); rintro e w43 ⟨rfl, hb⟩; refine ⟨_, rfl, ?_⟩; replace BK191 := My.am (blk_below (g := gb191) (o := .cells #[.string a0_0, .int .i64 a0_1, .int .i64 a0_2, .int .i64 a0_3, .int .i64 a0_4, .int .i64 a0_5, .int .i64 a0_6] 51 (0, 0)) ((My.sv_ BK191)) hb); replace BK192 := My.am (blk_below (g := gb192) (o := .cells #[.int .i64 a1_0, .string a1_1, .int .i64 a1_2] 27 (0, 0)) ((My.sv_ BK192)) hb); replace BK193 := My.am (blk_below (g := gb193) (o := .cells #[.string (⟨#[]⟩ : ByteArray), .int .i64 0, .int .i64 0, .int .i64 0, .int .i64 0, .int .i64 0, .int .i64 0] 51 (0, 0)) ((My.sv_ BK193)) hb); replace BK196 := My.am (blk_below (g := gb196) (o := .cells #[.int .i64 a0_1, .int .i64 a0_2, .int .i64 a0_3, .int .i64 a0_4, .int .i64 a0_5, .int .i64 a0_6] 123 (0, 0)) ((My.sv_ BK196)) hb); replace HB := My.st HB hb; (try clear hb)))
    (try simp only [Act.put, List.setIfInBounds_toArray, List.set_cons_zero, List.set_cons_succ])
    go_cut [] (fun wc => ∃ (kq : Nat) (x194000_31 : ByteArray) (x194001_31 : Int) (x194002_31 : Int) (x194003_31 : Int) (x194004_31 : Int) (x194005_31 : Int) (x194006_31 : Int) (x197000_31 : Int) (x197001_31 : Int) (x197002_31 : Int) (x197003_31 : Int) (x197004_31 : Int) (x197005_31 : Int), Aside0 (act_each_any.j1 D kq t198 a0_0 a0_1 a0_2 a0_3 a0_4 a0_5 a0_6 a1_0 a1_1 a1_2 x197000_31 x197001_31 x197002_31 x197003_31 x197004_31 x197005_31 = some (r1, r2, r3, r4, r5, r6, r7, r8)) ∧ Aside0 (kq ≤ kj5) ∧ Aside0 (wc.heap[gb191]? = some (.cells #[.string a0_0, .int .i64 a0_1, .int .i64 a0_2, .int .i64 a0_3, .int .i64 a0_4, .int .i64 a0_5, .int .i64 a0_6] 51 (0, 0))) ∧ Aside0 (wc.heap[gb192]? = some (.cells #[.int .i64 a1_0, .string a1_1, .int .i64 a1_2] 27 (0, 0))) ∧ Aside0 (wc.heap[gb193]? = some (.cells #[.string x194000_31, .int .i64 x194001_31, .int .i64 x194002_31, .int .i64 x194003_31, .int .i64 x194004_31, .int .i64 x194005_31, .int .i64 x194006_31] 51 (0, 0))) ∧ Aside0 (wc.heap[gb196]? = some (.cells #[.int .i64 x197000_31, .int .i64 x197001_31, .int .i64 x197002_31, .int .i64 x197003_31, .int .i64 x197004_31, .int .i64 x197005_31] 123 (0, 0))) ∧ Aside0 (Below w.heap.size w wc))
    case first =>
     have H := HC32.out
     clear HC32
     have ia_ : ∀ w_ : World, (Instr.index 96 (.agg #[.int .i64 t197, .int .i64 t198]) (.int .i64 0)).run Try.prog w_ = .ok (.int .i64 t197) w_ := fun _ => by kernel_rfl
     have ib_ : ∀ w_ : World, (Instr.index 96 (.agg #[.int .i64 t197, .int .i64 t198]) (.int .i64 1)).run Try.prog w_ = .ok (.int .i64 t198) w_ := fun _ => by kernel_rfl
     by_cases c44 : t197 = 0
     ·rw [if_pos c44] at H
      have c44b0 : (t197 == 0) = true := beq_iff_eq.mpr c44
      have c44b1 : (t197 != 0) = false := bne_eq_false_iff_eq.mpr c44
      clear c44
      (first | rw [c44b0] | (simp only [i64_w, i32_w]; rw [c44b0]) | skip)
      have H' := My.am H
      clear H
      go_wp2_with (first | (with_reducible refine wp_loop_rounds 3 ?_) | (with_reducible rw [rounds_succ]))
      go_meet
      case rel => exact ⟨_, ((⟨#[]⟩ : ByteArray)), (0), (0), (0), (0), (0), (0), (a0_1), (a0_2), (a0_3), (a0_4), (a0_5), (a0_6), H', ⟨by have := HJ5.out; first | omega | exact Nat.le_refl _⟩, ⟨(My.at_ BK191)⟩, ⟨(My.at_ BK192)⟩, ⟨(My.at_ BK193)⟩, ⟨(My.at_ BK196)⟩, ⟨(My.bl_ HB)⟩⟩
     rw [if_neg c44] at H
     have c44b0 : (t197 == 0) = false := beq_eq_false_iff_ne.mpr c44
     have c44b1 : (t197 != 0) = true := bne_iff_ne.mpr c44
     (first | rw [c44b0] | (simp only [i64_w, i32_w]; rw [c44b0]) | skip)
     replace H := Option.bind_eq_some_iff.mp H
     obtain ⟨⟨t199, t200, t201, t202⟩, A450, H⟩ := H
     try dsimp only at H
     have A45 := My.am A450
     clear A450
     by_cases c46 : t202 = 0
     ·rw [if_pos c46] at H
      have c46b0 : (t202 == 0) = true := beq_iff_eq.mpr c46
      have c46b1 : (t202 != 0) = false := bne_eq_false_iff_eq.mpr c46
      clear c46
      have H' := My.am H
      clear H
      try go_wp2_with (first | (with_reducible refine wp_loop_rounds 3 ?_) | (with_reducible rw [rounds_succ]))
      replace BK191 := My.am (blk_drew BK191.out)
      replace BK192 := My.am (blk_drew BK192.out)
      replace BK193 := My.am (blk_drew BK193.out)
      replace BK196 := My.am (blk_drew BK196.out)
      replace HB := My.am (below_drew1 HB.out)
      refine start_ (n := 15) (S := fun w' => w'.cell? ⟨gb196, 0, none⟩ = some (.int .i64 a0_1) ∧ w'.cell? ⟨gb196, 1, none⟩ = some (.int .i64 a0_2) ∧ w'.cell? ⟨gb196, 2, none⟩ = some (.int .i64 a0_3) ∧ w'.cell? ⟨gb196, 3, none⟩ = some (.int .i64 a0_4) ∧ w'.cell? ⟨gb196, 4, none⟩ = some (.int .i64 a0_5) ∧ w'.cell? ⟨gb196, 5, none⟩ = some (.int .i64 a0_6) ∧ w'.cell? ⟨gb192, 0, none⟩ = some (.int .i64 a1_0) ∧ w'.cell? ⟨gb192, 1, none⟩ = some (.string a1_1) ∧ w'.cell? ⟨gb192, 2, none⟩ = some (.int .i64 a1_2)) (ds := []) #[false, false, false, false, false, false, false, false, false, false, false, false, false, false, false] (by kernel_rfl) rfl rfl ⟨My.b_ BK196 0, My.b_ BK196 1, My.b_ BK196 2, My.b_ BK196 3, My.b_ BK196 4, My.b_ BK196 5, My.b_ BK192 0, My.b_ BK192 1, My.b_ BK192 2⟩ (fun hHeld => ?_); refine with_tabW act_each_any.tab11 act_each_any.bits11 (fun HT_ HW_ => ?_)
      generalize w43.drew = w47 at BK191 BK192 BK193 BK196 HB hHeld ⊢
      refine My.pu_ 0 46 15 HT_.out ?_
      refine My.pu_ 1 47 15 HT_.out ?_
      refine My.pu_ 2 48 15 HT_.out ?_
      refine My.pv_ 4 50 15 23 HT_.out ?_
      refine My.pv_ 5 51 15 55 HT_.out ?_
      refine My.pv_ 6 52 15 119 HT_.out ?_
      refine My.tv_ 3 49 15 127 HT_.out HW_.out hHeld rfl rfl (by rintro w' ⟨s0, s1, s2, s3, s4, s5, s6, s7, s8⟩; go_simp; with_reducible rfl) ?_
      refine My.ta_ 7 53 15 HT_.out HW_.out hHeld rfl rfl (by rintro w' ⟨s0, s1, s2, s3, s4, s5, s6, s7, s8⟩; go_simp; with_reducible rfl) ?_
      refine join_ (σ := Nat) 2 (My.Mb 15 8191) (fun s_ => [(54, .tuple #[.agg #[.int .i64 t199, .int .i64 t200, .int .i64 t201], .int .i64 t202]), (12, .pointer (some ⟨s_, 0, none⟩)), (45, .tuple #[.agg #[.int .i64 t199, .int .i64 t200, .int .i64 t201], .int .i64 t202]), (55, .agg #[.int .i64 t199, .int .i64 t200, .int .i64 t201]), (56, .int .i64 t202)]) (fun s_ w' => (w'.cell? ⟨gb196, 0, none⟩ = some (.int .i64 a0_1) ∧ w'.cell? ⟨gb196, 1, none⟩ = some (.int .i64 a0_2) ∧ w'.cell? ⟨gb196, 2, none⟩ = some (.int .i64 a0_3) ∧ w'.cell? ⟨gb196, 3, none⟩ = some (.int .i64 a0_4) ∧ w'.cell? ⟨gb196, 4, none⟩ = some (.int .i64 a0_5) ∧ w'.cell? ⟨gb196, 5, none⟩ = some (.int .i64 a0_6) ∧ w'.cell? ⟨gb192, 0, none⟩ = some (.int .i64 a1_0) ∧ w'.cell? ⟨gb192, 1, none⟩ = some (.string a1_1) ∧ w'.cell? ⟨gb192, 2, none⟩ = some (.int .i64 a1_2)) ∧ (w'.heap[gb191]? = some (.cells #[.string a0_0, .int .i64 a0_1, .int .i64 a0_2, .int .i64 a0_3, .int .i64 a0_4, .int .i64 a0_5, .int .i64 a0_6] 51 (0, 0))) ∧ (w'.heap[gb192]? = some (.cells #[.int .i64 a1_0, .string a1_1, .int .i64 a1_2] 27 (0, 0))) ∧ (w'.heap[gb193]? = some (.cells #[.string (⟨#[]⟩ : ByteArray), .int .i64 0, .int .i64 0, .int .i64 0, .int .i64 0, .int .i64 0, .int .i64 0] 51 (0, 0))) ∧ (w'.heap[gb196]? = some (.cells #[.int .i64 a0_1, .int .i64 a0_2, .int .i64 a0_3, .int .i64 a0_4, .int .i64 a0_5, .int .i64 a0_6] 123 (0, 0))) ∧ (w'.heap[s_]? = some (.cells #[.int .i64 0, .int .i64 0, .int .i64 0] 49 (0, 0))) ∧ (w.heap.size ≤ s_) ∧ (w.heap.size ≤ s_) ∧ (gb191 ≠ s_) ∧ (s_ ≠ gb191) ∧ (gb192 ≠ s_) ∧ (s_ ≠ gb192) ∧ (gb193 ≠ s_) ∧ (s_ ≠ gb193) ∧ (gb196 ≠ s_) ∧ (s_ ≠ gb196) ∧ (Below w.heap.size w w')) ?_ ?_
      rotate_left
      ·intro hCont
       refine two_ (i := 8) (j := 12) (Ni := some 54) (Nj := some 12) (My.Mb 15 511) (My.Mb 15 4351) rfl rfl rfl rfl (two_of HT_.out (by kernel_rfl)) (by decide) (by decide) (fun K hK => ?_) (fun K hK => ?_)
       ·skip
        refine My.goesW_ (f := f_) (first := #[]) (cap := #[]) hf_ hname_ hb_ #[.agg #[.int .i64 a0_1, .int .i64 a0_2, .int .i64 a0_3], .bool (decide (t197 < 0)), .int .i64 a1_2] (by rfl) rfl rfl rfl (by (try simp only [List.map_toArray, List.map_cons, List.map_nil, Array.empty_append, Array.append_empty]); first | done | rfl | (simp only [List.length_drop, List.length_take]; rfl)) ?_
        with_reducible refine (hD kj5 a0_1 a0_2 a0_3 (decide (t197 < 0)) a1_2 t199 t200 t201 t202 _ A45.out).mono ?_
        rintro e w48 ⟨rfl, hb⟩
        refine ⟨_, rfl, ?_⟩
        replace BK191 := My.ab BK191 hb
        replace BK192 := My.ab BK192 hb
        replace BK193 := My.ab BK193 hb
        replace BK196 := My.ab BK196 hb
        replace HB := My.st HB hb
        (try clear hb)
        (try clear hb2)
        (try clear hk)
        (try clear hi)
        refine hK.out _ _ ⟨My.b_ BK196 0, My.b_ BK196 1, My.b_ BK196 2, My.b_ BK196 3, My.b_ BK196 4, My.b_ BK196 5, My.b_ BK192 0, My.b_ BK192 1, My.b_ BK192 2⟩ (fun hHeld => ?_)
        clear hK K
        refine norm_ (a' := ?_) ?_ ?_
        rotate_left
        ·show Act.put _ (some 54) _ = _
         simp only [Act.put, List.setIfInBounds_toArray, List.set_cons_zero, List.set_cons_succ, i64_w, i32_w]
         rfl
        refine My.pu_ 9 45 15 HT_.out ?_
        refine My.pu_ 10 55 15 HT_.out ?_
        refine My.pu_ 11 56 15 HT_.out ?_
        refine one_ (i := 12) (N := some 12) (My.Mb 15 8191) rfl rfl (one_of HT_.out (by kernel_rfl)) (by decide) (fun K hK => ?_)
        refine box_step ?hg (N := 12) ?hd (cs := #[.int .i64 0, .int .i64 0, .int .i64 0]) (t := 49) ?hr ?_; (case hd => rfl); (case hg => rfl); (case hr => first | (go_simp; done) | (go_simp; rfl))
        intro gb203 hg w49 hbox hb
        have BK203 := My.am (hbox)
        have GW203 := My.nge hg (My.bl_ HB)
        have GE203 := My.nge hg (My.bl_ HB)
        replace HB := My.st HB hb
        obtain ⟨NB191_203, NB203_191, BK191⟩ := My.nb hg hb BK191
        obtain ⟨NB192_203, NB203_192, BK192⟩ := My.nb hg hb BK192
        obtain ⟨NB193_203, NB203_193, BK193⟩ := My.nb hg hb BK193
        obtain ⟨NB196_203, NB203_196, BK196⟩ := My.nb hg hb BK196
        clear hb hbox hg
        refine hK.out _ _ ⟨My.b_ BK196 0, My.b_ BK196 1, My.b_ BK196 2, My.b_ BK196 3, My.b_ BK196 4, My.b_ BK196 5, My.b_ BK192 0, My.b_ BK192 1, My.b_ BK192 2⟩ (fun hHeld => ?_)
        clear hK K
        refine norm_ (a' := ?_) ?_ ?_
        rotate_left
        ·show Act.put _ (some 12) _ = _
         simp only [Act.put, List.setIfInBounds_toArray, List.set_cons_zero, List.set_cons_succ, i64_w, i32_w]
         rfl
        exact norm_ (by simp only [putAll, Act.put, List.setIfInBounds_toArray, List.set_cons_zero, List.set_cons_succ]) (hCont (gb203) _ ⟨hHeld, (My.at_ BK191), (My.at_ BK192), (My.at_ BK193), (My.at_ BK196), (My.at_ BK203), GW203.out, GE203.out, NB191_203.out, NB203_191.out, NB192_203.out, NB203_192.out, NB193_203.out, NB203_193.out, NB196_203.out, NB203_196.out, (My.bl_ HB)⟩)
       skip
       refine box_step ?hg (N := 12) ?hd (cs := #[.int .i64 0, .int .i64 0, .int .i64 0]) (t := 49) ?hr ?_; (case hd => rfl); (case hg => rfl); (case hr => first | (go_simp; done) | (go_simp; rfl))
       intro gb203 hg w48 hbox hb
       have BK203 := My.am (hbox)
       have GW203 := My.nge hg (My.bl_ HB)
       have GE203 := My.nge hg (My.bl_ HB)
       replace HB := My.st HB hb
       obtain ⟨NB191_203, NB203_191, BK191⟩ := My.nb hg hb BK191
       obtain ⟨NB192_203, NB203_192, BK192⟩ := My.nb hg hb BK192
       obtain ⟨NB193_203, NB203_193, BK193⟩ := My.nb hg hb BK193
       obtain ⟨NB196_203, NB203_196, BK196⟩ := My.nb hg hb BK196
       clear hb hbox hg
       refine hK.out _ _ ⟨My.b_ BK196 0, My.b_ BK196 1, My.b_ BK196 2, My.b_ BK196 3, My.b_ BK196 4, My.b_ BK196 5, My.b_ BK192 0, My.b_ BK192 1, My.b_ BK192 2⟩ (fun hHeld => ?_)
       clear hK K
       refine norm_ (a' := ?_) ?_ ?_
       rotate_left
       ·show Act.put _ (some 12) _ = _
        simp only [Act.put, List.setIfInBounds_toArray, List.set_cons_zero, List.set_cons_succ, i64_w, i32_w]
        rfl
       refine one_ (i := 8) (N := some 54) (My.Mb 15 4607) rfl rfl (one_of HT_.out (by kernel_rfl)) (by decide) (fun K hK => ?_)
       refine My.goesW_ (f := f_) (first := #[]) (cap := #[]) hf_ hname_ hb_ #[.agg #[.int .i64 a0_1, .int .i64 a0_2, .int .i64 a0_3], .bool (decide (t197 < 0)), .int .i64 a1_2] (by rfl) rfl rfl rfl (by (try simp only [List.map_toArray, List.map_cons, List.map_nil, Array.empty_append, Array.append_empty]); first | done | rfl | (simp only [List.length_drop, List.length_take]; rfl)) ?_
       with_reducible refine (hD kj5 a0_1 a0_2 a0_3 (decide (t197 < 0)) a1_2 t199 t200 t201 t202 _ A45.out).mono ?_
       rintro e w49 ⟨rfl, hb⟩
       refine ⟨_, rfl, ?_⟩
       replace BK191 := My.ab BK191 hb
       replace BK192 := My.ab BK192 hb
       replace BK193 := My.ab BK193 hb
       replace BK196 := My.ab BK196 hb
       replace BK203 := My.ab BK203 hb
       replace HB := My.st HB hb
       (try clear hb)
       (try clear hb2)
       (try clear hk)
       (try clear hi)
       refine hK.out _ _ ⟨My.b_ BK196 0, My.b_ BK196 1, My.b_ BK196 2, My.b_ BK196 3, My.b_ BK196 4, My.b_ BK196 5, My.b_ BK192 0, My.b_ BK192 1, My.b_ BK192 2⟩ (fun hHeld => ?_)
       clear hK K
       refine norm_ (a' := ?_) ?_ ?_
       rotate_left
       ·show Act.put _ (some 54) _ = _
        simp only [Act.put, List.setIfInBounds_toArray, List.set_cons_zero, List.set_cons_succ, i64_w, i32_w]
        rfl
       refine My.pv_ 9 45 15 5119 HT_.out ?_
       refine My.pv_ 10 55 15 6143 HT_.out ?_
       refine My.pv_ 11 56 15 8191 HT_.out ?_
       exact norm_ (by simp only [putAll, Act.put, List.setIfInBounds_toArray, List.set_cons_zero, List.set_cons_succ]) (hCont (gb203) _ ⟨hHeld, (My.at_ BK191), (My.at_ BK192), (My.at_ BK193), (My.at_ BK196), (My.at_ BK203), GW203.out, GE203.out, NB191_203.out, NB203_191.out, NB192_203.out, NB203_192.out, NB193_203.out, NB203_193.out, NB196_203.out, NB203_196.out, (My.bl_ HB)⟩)
      rintro gb203 w50 ⟨hS_, h0_, h1_, h2_, h3_, h4_, h5_, h6_, h7_, h8_, h9_, h10_, h11_, h12_, h13_, h14_, h15_⟩
      have n0_ : Aside0 (w50.heap[gb191]? = some (.cells #[.string a0_0, .int .i64 a0_1, .int .i64 a0_2, .int .i64 a0_3, .int .i64 a0_4, .int .i64 a0_5, .int .i64 a0_6] 51 (0, 0))) := ⟨h0_⟩
      have n1_ : Aside0 (w50.heap[gb192]? = some (.cells #[.int .i64 a1_0, .string a1_1, .int .i64 a1_2] 27 (0, 0))) := ⟨h1_⟩
      have n2_ : Aside0 (w50.heap[gb193]? = some (.cells #[.string (⟨#[]⟩ : ByteArray), .int .i64 0, .int .i64 0, .int .i64 0, .int .i64 0, .int .i64 0, .int .i64 0] 51 (0, 0))) := ⟨h2_⟩
      have n3_ : Aside0 (w50.heap[gb196]? = some (.cells #[.int .i64 a0_1, .int .i64 a0_2, .int .i64 a0_3, .int .i64 a0_4, .int .i64 a0_5, .int .i64 a0_6] 123 (0, 0))) := ⟨h3_⟩
      have n4_ : Aside0 (w50.heap[gb203]? = some (.cells #[.int .i64 0, .int .i64 0, .int .i64 0] 49 (0, 0))) := ⟨h4_⟩
      have n5_ : Aside0 (w.heap.size ≤ gb203) := ⟨h5_⟩
      have n6_ : Aside0 (w.heap.size ≤ gb203) := ⟨h6_⟩
      have n7_ : Aside0 (gb191 ≠ gb203) := ⟨h7_⟩
      have n8_ : Aside0 (gb203 ≠ gb191) := ⟨h8_⟩
      have n9_ : Aside0 (gb192 ≠ gb203) := ⟨h9_⟩
      have n10_ : Aside0 (gb203 ≠ gb192) := ⟨h10_⟩
      have n11_ : Aside0 (gb193 ≠ gb203) := ⟨h11_⟩
      have n12_ : Aside0 (gb203 ≠ gb193) := ⟨h12_⟩
      have n13_ : Aside0 (gb196 ≠ gb203) := ⟨h13_⟩
      have n14_ : Aside0 (gb203 ≠ gb196) := ⟨h14_⟩
      have n15_ : Aside0 (Below w.heap.size w w50) := ⟨h15_⟩
      clear BK191
      clear BK192
      clear BK193
      clear BK196
      clear HB
      clear h0_ h1_ h2_ h3_ h4_ h5_ h6_ h7_ h8_ h9_ h10_ h11_ h12_ h13_ h14_ h15_
      have BK191 := n0_
      have BK192 := n1_
      have BK193 := n2_
      have BK196 := n3_
      have BK203 := n4_
      have GW203 := n5_
      have GE203 := n6_
      have NB191_203 := n7_
      have NB203_191 := n8_
      have NB192_203 := n9_
      have NB203_192 := n10_
      have NB193_203 := n11_
      have NB203_193 := n12_
      have NB196_203 := n13_
      have NB203_196 := n14_
      have HB := n15_
      clear n0_ n1_ n2_ n3_ n4_ n5_ n6_ n7_ n8_ n9_ n10_ n11_ n12_ n13_ n14_ n15_
      have hHeld : w50.cell? ⟨gb196, 0, none⟩ = some (.int .i64 a0_1) ∧ w50.cell? ⟨gb196, 1, none⟩ = some (.int .i64 a0_2) ∧ w50.cell? ⟨gb196, 2, none⟩ = some (.int .i64 a0_3) ∧ w50.cell? ⟨gb196, 3, none⟩ = some (.int .i64 a0_4) ∧ w50.cell? ⟨gb196, 4, none⟩ = some (.int .i64 a0_5) ∧ w50.cell? ⟨gb196, 5, none⟩ = some (.int .i64 a0_6) ∧ w50.cell? ⟨gb192, 0, none⟩ = some (.int .i64 a1_0) ∧ w50.cell? ⟨gb192, 1, none⟩ = some (.string a1_1) ∧ w50.cell? ⟨gb192, 2, none⟩ = some (.int .i64 a1_2) := hS_
      refine norm_ (a' := ?_) ?_ ?_
      rotate_left
      ·simp only [putAll, Act.put, List.setIfInBounds_toArray, List.set_cons_zero, List.set_cons_succ]
       rfl
      refine one_ (i := 13) (N := none) (My.Mb 15 16383) rfl rfl (one_of HT_.out (by kernel_rfl)) (by decide) (fun K hK => ?_)
      have hs51 : w50.cell? ⟨gb203, 0, none⟩ = some (.int .i64 0) := My.b_ BK203 0
      have hfs51 := blk_frozen BK203.out 0
      have hns51_0 := NB191_203.out
      have hns51_1 := NB192_203.out
      have hns51_2 := NB193_203.out
      have hns51_3 := NB196_203.out
      have hms51_0 := NB203_191.out
      have hms51_1 := NB203_192.out
      have hms51_2 := NB203_193.out
      have hms51_3 := NB203_196.out
      have hs52 : w50.cell? ⟨gb203, 1, none⟩ = some (.int .i64 0) := My.b_ BK203 1
      have hfs52 := blk_frozen BK203.out 1
      have hns52_0 := NB191_203.out
      have hns52_1 := NB192_203.out
      have hns52_2 := NB193_203.out
      have hns52_3 := NB196_203.out
      have hms52_0 := NB203_191.out
      have hms52_1 := NB203_192.out
      have hms52_2 := NB203_193.out
      have hms52_3 := NB203_196.out
      have hs53 : w50.cell? ⟨gb203, 2, none⟩ = some (.int .i64 0) := My.b_ BK203 2
      have hfs53 := blk_frozen BK203.out 2
      have hns53_0 := NB191_203.out
      have hns53_1 := NB192_203.out
      have hns53_2 := NB193_203.out
      have hns53_3 := NB196_203.out
      have hms53_0 := NB203_191.out
      have hms53_1 := NB203_192.out
      have hms53_2 := NB203_193.out
      have hms53_3 := NB203_196.out
      refine skip_ (w1 := ?_) (by rfl) rfl ?_ ?_
      rotate_left
      ·go_simp
       rfl
      refine hK.out _ _ ⟨((cell_far (p := ⟨gb203, _, none⟩) NB196_203.out _).trans (((cell_far (p := ⟨gb203, _, none⟩) NB196_203.out _).trans (((cell_far (p := ⟨gb203, _, none⟩) NB196_203.out _).trans (hHeld.1)))))), ((cell_far (p := ⟨gb203, _, none⟩) NB196_203.out _).trans (((cell_far (p := ⟨gb203, _, none⟩) NB196_203.out _).trans (((cell_far (p := ⟨gb203, _, none⟩) NB196_203.out _).trans (hHeld.2.1)))))), ((cell_far (p := ⟨gb203, _, none⟩) NB196_203.out _).trans (((cell_far (p := ⟨gb203, _, none⟩) NB196_203.out _).trans (((cell_far (p := ⟨gb203, _, none⟩) NB196_203.out _).trans (hHeld.2.2.1)))))), ((cell_far (p := ⟨gb203, _, none⟩) NB196_203.out _).trans (((cell_far (p := ⟨gb203, _, none⟩) NB196_203.out _).trans (((cell_far (p := ⟨gb203, _, none⟩) NB196_203.out _).trans (hHeld.2.2.2.1)))))), ((cell_far (p := ⟨gb203, _, none⟩) NB196_203.out _).trans (((cell_far (p := ⟨gb203, _, none⟩) NB196_203.out _).trans (((cell_far (p := ⟨gb203, _, none⟩) NB196_203.out _).trans (hHeld.2.2.2.2.1)))))), ((cell_far (p := ⟨gb203, _, none⟩) NB196_203.out _).trans (((cell_far (p := ⟨gb203, _, none⟩) NB196_203.out _).trans (((cell_far (p := ⟨gb203, _, none⟩) NB196_203.out _).trans (hHeld.2.2.2.2.2.1)))))), ((cell_far (p := ⟨gb203, _, none⟩) NB192_203.out _).trans (((cell_far (p := ⟨gb203, _, none⟩) NB192_203.out _).trans (((cell_far (p := ⟨gb203, _, none⟩) NB192_203.out _).trans (hHeld.2.2.2.2.2.2.1)))))), ((cell_far (p := ⟨gb203, _, none⟩) NB192_203.out _).trans (((cell_far (p := ⟨gb203, _, none⟩) NB192_203.out _).trans (((cell_far (p := ⟨gb203, _, none⟩) NB192_203.out _).trans (hHeld.2.2.2.2.2.2.2.1)))))), ((cell_far (p := ⟨gb203, _, none⟩) NB192_203.out _).trans (((cell_far (p := ⟨gb203, _, none⟩) NB192_203.out _).trans (((cell_far (p := ⟨gb203, _, none⟩) NB192_203.out _).trans (hHeld.2.2.2.2.2.2.2.2))))))⟩ (fun hHeld => ?_)
      clear hK K
      refine My.pu_ 14 13 15 HT_.out ?_
      refine done_ (done_of HT_.out (by kernel_rfl)) ?_
      have hnb54 := NB203_191.out
      have hnc54 := NB191_203.out
      have hnb55 := NB203_192.out
      have hnc55 := NB192_203.out
      have hnb56 := NB203_193.out
      have hnc56 := NB193_203.out
      have hnb57 := NB203_196.out
      have hnc57 := NB196_203.out
      have hq58 := My.cz3 BK203
      have hnb59 := NB196_191.out
      have hnc59 := NB191_196.out
      have hnb60 := NB196_192.out
      have hnc60 := NB192_196.out
      have hnb61 := NB196_193.out
      have hnc61 := NB193_196.out
      have hq62 := My.cz6 BK196
      try go_wp2_with (first | (with_reducible refine wp_loop_rounds 3 ?_) | (with_reducible rw [rounds_succ]))
      go_meet
      case rel => exact ⟨_, ((⟨#[]⟩ : ByteArray)), (0), (0), (0), (0), (0), (0), (t199), (t200), (t201), (a0_4), (a0_5), (a0_6), H', ⟨by have := HJ5.out; first | omega | exact Nat.le_refl _⟩, ⟨(My.sv_ BK191)⟩, ⟨(My.sv_ BK192)⟩, ⟨(My.sv_ BK193)⟩, ⟨(My.sv_ BK196)⟩, ⟨(My.bl_ HB)⟩⟩
     rw [if_neg c46] at H
     have c46b0 : (t202 == 0) = false := beq_eq_false_iff_ne.mpr c46
     have c46b1 : (t202 != 0) = true := bne_iff_ne.mpr c46
     simp only [Option.some.injEq, Prod.mk.injEq] at H
     obtain ⟨rfl, rfl, rfl, rfl, rfl, rfl, rfl, rfl⟩ := H
     try go_wp2_with (first | (with_reducible refine wp_loop_rounds 3 ?_) | (with_reducible rw [rounds_succ]))
     replace BK191 := My.am (blk_drew BK191.out)
     replace BK192 := My.am (blk_drew BK192.out)
     replace BK193 := My.am (blk_drew BK193.out)
     replace BK196 := My.am (blk_drew BK196.out)
     replace HB := My.am (below_drew1 HB.out)
     refine start_ (n := 15) (S := fun w' => w'.cell? ⟨gb196, 0, none⟩ = some (.int .i64 a0_1) ∧ w'.cell? ⟨gb196, 1, none⟩ = some (.int .i64 a0_2) ∧ w'.cell? ⟨gb196, 2, none⟩ = some (.int .i64 a0_3) ∧ w'.cell? ⟨gb196, 3, none⟩ = some (.int .i64 a0_4) ∧ w'.cell? ⟨gb196, 4, none⟩ = some (.int .i64 a0_5) ∧ w'.cell? ⟨gb196, 5, none⟩ = some (.int .i64 a0_6) ∧ w'.cell? ⟨gb192, 0, none⟩ = some (.int .i64 a1_0) ∧ w'.cell? ⟨gb192, 1, none⟩ = some (.string a1_1) ∧ w'.cell? ⟨gb192, 2, none⟩ = some (.int .i64 a1_2)) (ds := []) #[false, false, false, false, false, false, false, false, false, false, false, false, false, false, false] (by kernel_rfl) rfl rfl ⟨My.b_ BK196 0, My.b_ BK196 1, My.b_ BK196 2, My.b_ BK196 3, My.b_ BK196 4, My.b_ BK196 5, My.b_ BK192 0, My.b_ BK192 1, My.b_ BK192 2⟩ (fun hHeld => ?_); refine with_tabW act_each_any.tab11 act_each_any.bits11 (fun HT_ HW_ => ?_)
     generalize w43.drew = w63 at BK191 BK192 BK193 BK196 HB hHeld ⊢
     refine My.pu_ 0 46 15 HT_.out ?_
     refine My.pu_ 1 47 15 HT_.out ?_
     refine My.pu_ 2 48 15 HT_.out ?_
     refine My.pv_ 4 50 15 23 HT_.out ?_
     refine My.pv_ 5 51 15 55 HT_.out ?_
     refine My.pv_ 6 52 15 119 HT_.out ?_
     refine My.tv_ 3 49 15 127 HT_.out HW_.out hHeld rfl rfl (by rintro w' ⟨s0, s1, s2, s3, s4, s5, s6, s7, s8⟩; go_simp; with_reducible rfl) ?_
     refine My.ta_ 7 53 15 HT_.out HW_.out hHeld rfl rfl (by rintro w' ⟨s0, s1, s2, s3, s4, s5, s6, s7, s8⟩; go_simp; with_reducible rfl) ?_
     refine join_ (σ := Nat) 2 (My.Mb 15 8191) (fun s_ => [(54, .tuple #[.agg #[.int .i64 t199, .int .i64 t200, .int .i64 t201], .int .i64 t202]), (12, .pointer (some ⟨s_, 0, none⟩)), (45, .tuple #[.agg #[.int .i64 t199, .int .i64 t200, .int .i64 t201], .int .i64 t202]), (55, .agg #[.int .i64 t199, .int .i64 t200, .int .i64 t201]), (56, .int .i64 t202)]) (fun s_ w' => (w'.cell? ⟨gb196, 0, none⟩ = some (.int .i64 a0_1) ∧ w'.cell? ⟨gb196, 1, none⟩ = some (.int .i64 a0_2) ∧ w'.cell? ⟨gb196, 2, none⟩ = some (.int .i64 a0_3) ∧ w'.cell? ⟨gb196, 3, none⟩ = some (.int .i64 a0_4) ∧ w'.cell? ⟨gb196, 4, none⟩ = some (.int .i64 a0_5) ∧ w'.cell? ⟨gb196, 5, none⟩ = some (.int .i64 a0_6) ∧ w'.cell? ⟨gb192, 0, none⟩ = some (.int .i64 a1_0) ∧ w'.cell? ⟨gb192, 1, none⟩ = some (.string a1_1) ∧ w'.cell? ⟨gb192, 2, none⟩ = some (.int .i64 a1_2)) ∧ (w'.heap[gb191]? = some (.cells #[.string a0_0, .int .i64 a0_1, .int .i64 a0_2, .int .i64 a0_3, .int .i64 a0_4, .int .i64 a0_5, .int .i64 a0_6] 51 (0, 0))) ∧ (w'.heap[gb192]? = some (.cells #[.int .i64 a1_0, .string a1_1, .int .i64 a1_2] 27 (0, 0))) ∧ (w'.heap[gb193]? = some (.cells #[.string (⟨#[]⟩ : ByteArray), .int .i64 0, .int .i64 0, .int .i64 0, .int .i64 0, .int .i64 0, .int .i64 0] 51 (0, 0))) ∧ (w'.heap[gb196]? = some (.cells #[.int .i64 a0_1, .int .i64 a0_2, .int .i64 a0_3, .int .i64 a0_4, .int .i64 a0_5, .int .i64 a0_6] 123 (0, 0))) ∧ (w'.heap[s_]? = some (.cells #[.int .i64 0, .int .i64 0, .int .i64 0] 49 (0, 0))) ∧ (w.heap.size ≤ s_) ∧ (w.heap.size ≤ s_) ∧ (gb191 ≠ s_) ∧ (s_ ≠ gb191) ∧ (gb192 ≠ s_) ∧ (s_ ≠ gb192) ∧ (gb193 ≠ s_) ∧ (s_ ≠ gb193) ∧ (gb196 ≠ s_) ∧ (s_ ≠ gb196) ∧ (Below w.heap.size w w')) ?_ ?_
     rotate_left
     ·intro hCont
      refine two_ (i := 8) (j := 12) (Ni := some 54) (Nj := some 12) (My.Mb 15 511) (My.Mb 15 4351) rfl rfl rfl rfl (two_of HT_.out (by kernel_rfl)) (by decide) (by decide) (fun K hK => ?_) (fun K hK => ?_)
      ·skip
       refine My.goesW_ (f := f_) (first := #[]) (cap := #[]) hf_ hname_ hb_ #[.agg #[.int .i64 a0_1, .int .i64 a0_2, .int .i64 a0_3], .bool (decide (t197 < 0)), .int .i64 a1_2] (by rfl) rfl rfl rfl (by (try simp only [List.map_toArray, List.map_cons, List.map_nil, Array.empty_append, Array.append_empty]); first | done | rfl | (simp only [List.length_drop, List.length_take]; rfl)) ?_
       with_reducible refine (hD kj5 a0_1 a0_2 a0_3 (decide (t197 < 0)) a1_2 t199 t200 t201 t202 _ A45.out).mono ?_
       rintro e w64 ⟨rfl, hb⟩
       refine ⟨_, rfl, ?_⟩
       replace BK191 := My.ab BK191 hb
       replace BK192 := My.ab BK192 hb
       replace BK193 := My.ab BK193 hb
       replace BK196 := My.ab BK196 hb
       replace HB := My.st HB hb
       (try clear hb)
       (try clear hb2)
       (try clear hk)
       (try clear hi)
       refine hK.out _ _ ⟨My.b_ BK196 0, My.b_ BK196 1, My.b_ BK196 2, My.b_ BK196 3, My.b_ BK196 4, My.b_ BK196 5, My.b_ BK192 0, My.b_ BK192 1, My.b_ BK192 2⟩ (fun hHeld => ?_)
       clear hK K
       refine norm_ (a' := ?_) ?_ ?_
       rotate_left
       ·show Act.put _ (some 54) _ = _
        simp only [Act.put, List.setIfInBounds_toArray, List.set_cons_zero, List.set_cons_succ, i64_w, i32_w]
        rfl
       refine My.pu_ 9 45 15 HT_.out ?_
       refine My.pu_ 10 55 15 HT_.out ?_
       refine My.pu_ 11 56 15 HT_.out ?_
       refine one_ (i := 12) (N := some 12) (My.Mb 15 8191) rfl rfl (one_of HT_.out (by kernel_rfl)) (by decide) (fun K hK => ?_)
       refine box_step ?hg (N := 12) ?hd (cs := #[.int .i64 0, .int .i64 0, .int .i64 0]) (t := 49) ?hr ?_; (case hd => rfl); (case hg => rfl); (case hr => first | (go_simp; done) | (go_simp; rfl))
       intro gb203 hg w65 hbox hb
       have BK203 := My.am (hbox)
       have GW203 := My.nge hg (My.bl_ HB)
       have GE203 := My.nge hg (My.bl_ HB)
       replace HB := My.st HB hb
       obtain ⟨NB191_203, NB203_191, BK191⟩ := My.nb hg hb BK191
       obtain ⟨NB192_203, NB203_192, BK192⟩ := My.nb hg hb BK192
       obtain ⟨NB193_203, NB203_193, BK193⟩ := My.nb hg hb BK193
       obtain ⟨NB196_203, NB203_196, BK196⟩ := My.nb hg hb BK196
       clear hb hbox hg
       refine hK.out _ _ ⟨My.b_ BK196 0, My.b_ BK196 1, My.b_ BK196 2, My.b_ BK196 3, My.b_ BK196 4, My.b_ BK196 5, My.b_ BK192 0, My.b_ BK192 1, My.b_ BK192 2⟩ (fun hHeld => ?_)
       clear hK K
       refine norm_ (a' := ?_) ?_ ?_
       rotate_left
       ·show Act.put _ (some 12) _ = _
        simp only [Act.put, List.setIfInBounds_toArray, List.set_cons_zero, List.set_cons_succ, i64_w, i32_w]
        rfl
       exact norm_ (by simp only [putAll, Act.put, List.setIfInBounds_toArray, List.set_cons_zero, List.set_cons_succ]) (hCont (gb203) _ ⟨hHeld, (My.at_ BK191), (My.at_ BK192), (My.at_ BK193), (My.at_ BK196), (My.at_ BK203), GW203.out, GE203.out, NB191_203.out, NB203_191.out, NB192_203.out, NB203_192.out, NB193_203.out, NB203_193.out, NB196_203.out, NB203_196.out, (My.bl_ HB)⟩)
      skip
      refine box_step ?hg (N := 12) ?hd (cs := #[.int .i64 0, .int .i64 0, .int .i64 0]) (t := 49) ?hr ?_; (case hd => rfl); (case hg => rfl); (case hr => first | (go_simp; done) | (go_simp; rfl))
      intro gb203 hg w64 hbox hb
      have BK203 := My.am (hbox)
      have GW203 := My.nge hg (My.bl_ HB)
      have GE203 := My.nge hg (My.bl_ HB)
      replace HB := My.st HB hb
      obtain ⟨NB191_203, NB203_191, BK191⟩ := My.nb hg hb BK191
      obtain ⟨NB192_203, NB203_192, BK192⟩ := My.nb hg hb BK192
      obtain ⟨NB193_203, NB203_193, BK193⟩ := My.nb hg hb BK193
      obtain ⟨NB196_203, NB203_196, BK196⟩ := My.nb hg hb BK196
      clear hb hbox hg
      refine hK.out _ _ ⟨My.b_ BK196 0, My.b_ BK196 1, My.b_ BK196 2, My.b_ BK196 3, My.b_ BK196 4, My.b_ BK196 5, My.b_ BK192 0, My.b_ BK192 1, My.b_ BK192 2⟩ (fun hHeld => ?_)
      clear hK K
      refine norm_ (a' := ?_) ?_ ?_
      rotate_left
      ·show Act.put _ (some 12) _ = _
       simp only [Act.put, List.setIfInBounds_toArray, List.set_cons_zero, List.set_cons_succ, i64_w, i32_w]
       rfl
      refine one_ (i := 8) (N := some 54) (My.Mb 15 4607) rfl rfl (one_of HT_.out (by kernel_rfl)) (by decide) (fun K hK => ?_)
      refine My.goesW_ (f := f_) (first := #[]) (cap := #[]) hf_ hname_ hb_ #[.agg #[.int .i64 a0_1, .int .i64 a0_2, .int .i64 a0_3], .bool (decide (t197 < 0)), .int .i64 a1_2] (by rfl) rfl rfl rfl (by (try simp only [List.map_toArray, List.map_cons, List.map_nil, Array.empty_append, Array.append_empty]); first | done | rfl | (simp only [List.length_drop, List.length_take]; rfl)) ?_
      with_reducible refine (hD kj5 a0_1 a0_2 a0_3 (decide (t197 < 0)) a1_2 t199 t200 t201 t202 _ A45.out).mono ?_
      rintro e w65 ⟨rfl, hb⟩
      refine ⟨_, rfl, ?_⟩
      replace BK191 := My.ab BK191 hb
      replace BK192 := My.ab BK192 hb
      replace BK193 := My.ab BK193 hb
      replace BK196 := My.ab BK196 hb
      replace BK203 := My.ab BK203 hb
      replace HB := My.st HB hb
      (try clear hb)
      (try clear hb2)
      (try clear hk)
      (try clear hi)
      refine hK.out _ _ ⟨My.b_ BK196 0, My.b_ BK196 1, My.b_ BK196 2, My.b_ BK196 3, My.b_ BK196 4, My.b_ BK196 5, My.b_ BK192 0, My.b_ BK192 1, My.b_ BK192 2⟩ (fun hHeld => ?_)
      clear hK K
      refine norm_ (a' := ?_) ?_ ?_
      rotate_left
      ·show Act.put _ (some 54) _ = _
       simp only [Act.put, List.setIfInBounds_toArray, List.set_cons_zero, List.set_cons_succ, i64_w, i32_w]
       rfl
      refine My.pv_ 9 45 15 5119 HT_.out ?_
      refine My.pv_ 10 55 15 6143 HT_.out ?_
      refine My.pv_ 11 56 15 8191 HT_.out ?_
      exact norm_ (by simp only [putAll, Act.put, List.setIfInBounds_toArray, List.set_cons_zero, List.set_cons_succ]) (hCont (gb203) _ ⟨hHeld, (My.at_ BK191), (My.at_ BK192), (My.at_ BK193), (My.at_ BK196), (My.at_ BK203), GW203.out, GE203.out, NB191_203.out, NB203_191.out, NB192_203.out, NB203_192.out, NB193_203.out, NB203_193.out, NB196_203.out, NB203_196.out, (My.bl_ HB)⟩)
     rintro gb203 w66 ⟨hS_, h0_, h1_, h2_, h3_, h4_, h5_, h6_, h7_, h8_, h9_, h10_, h11_, h12_, h13_, h14_, h15_⟩
     have n0_ : Aside0 (w66.heap[gb191]? = some (.cells #[.string a0_0, .int .i64 a0_1, .int .i64 a0_2, .int .i64 a0_3, .int .i64 a0_4, .int .i64 a0_5, .int .i64 a0_6] 51 (0, 0))) := ⟨h0_⟩
     have n1_ : Aside0 (w66.heap[gb192]? = some (.cells #[.int .i64 a1_0, .string a1_1, .int .i64 a1_2] 27 (0, 0))) := ⟨h1_⟩
     have n2_ : Aside0 (w66.heap[gb193]? = some (.cells #[.string (⟨#[]⟩ : ByteArray), .int .i64 0, .int .i64 0, .int .i64 0, .int .i64 0, .int .i64 0, .int .i64 0] 51 (0, 0))) := ⟨h2_⟩
     have n3_ : Aside0 (w66.heap[gb196]? = some (.cells #[.int .i64 a0_1, .int .i64 a0_2, .int .i64 a0_3, .int .i64 a0_4, .int .i64 a0_5, .int .i64 a0_6] 123 (0, 0))) := ⟨h3_⟩
     have n4_ : Aside0 (w66.heap[gb203]? = some (.cells #[.int .i64 0, .int .i64 0, .int .i64 0] 49 (0, 0))) := ⟨h4_⟩
     have n5_ : Aside0 (w.heap.size ≤ gb203) := ⟨h5_⟩
     have n6_ : Aside0 (w.heap.size ≤ gb203) := ⟨h6_⟩
     have n7_ : Aside0 (gb191 ≠ gb203) := ⟨h7_⟩
     have n8_ : Aside0 (gb203 ≠ gb191) := ⟨h8_⟩
     have n9_ : Aside0 (gb192 ≠ gb203) := ⟨h9_⟩
     have n10_ : Aside0 (gb203 ≠ gb192) := ⟨h10_⟩
     have n11_ : Aside0 (gb193 ≠ gb203) := ⟨h11_⟩
     have n12_ : Aside0 (gb203 ≠ gb193) := ⟨h12_⟩
     have n13_ : Aside0 (gb196 ≠ gb203) := ⟨h13_⟩
     have n14_ : Aside0 (gb203 ≠ gb196) := ⟨h14_⟩
     have n15_ : Aside0 (Below w.heap.size w w66) := ⟨h15_⟩
     clear BK191
     clear BK192
     clear BK193
     clear BK196
     clear HB
     clear h0_ h1_ h2_ h3_ h4_ h5_ h6_ h7_ h8_ h9_ h10_ h11_ h12_ h13_ h14_ h15_
     have BK191 := n0_
     have BK192 := n1_
     have BK193 := n2_
     have BK196 := n3_
     have BK203 := n4_
     have GE203 := n6_
     have NB191_203 := n7_
     have NB203_191 := n8_
     have NB192_203 := n9_
     have NB203_192 := n10_
     have NB193_203 := n11_
     have NB203_193 := n12_
     have NB196_203 := n13_
     have NB203_196 := n14_
     have HB := n15_
     clear n0_ n1_ n2_ n3_ n4_ n5_ n6_ n7_ n8_ n9_ n10_ n11_ n12_ n13_ n14_ n15_
     have hHeld : w66.cell? ⟨gb196, 0, none⟩ = some (.int .i64 a0_1) ∧ w66.cell? ⟨gb196, 1, none⟩ = some (.int .i64 a0_2) ∧ w66.cell? ⟨gb196, 2, none⟩ = some (.int .i64 a0_3) ∧ w66.cell? ⟨gb196, 3, none⟩ = some (.int .i64 a0_4) ∧ w66.cell? ⟨gb196, 4, none⟩ = some (.int .i64 a0_5) ∧ w66.cell? ⟨gb196, 5, none⟩ = some (.int .i64 a0_6) ∧ w66.cell? ⟨gb192, 0, none⟩ = some (.int .i64 a1_0) ∧ w66.cell? ⟨gb192, 1, none⟩ = some (.string a1_1) ∧ w66.cell? ⟨gb192, 2, none⟩ = some (.int .i64 a1_2) := hS_
     refine norm_ (a' := ?_) ?_ ?_
     rotate_left
     ·simp only [putAll, Act.put, List.setIfInBounds_toArray, List.set_cons_zero, List.set_cons_succ]
      rfl
     refine one_ (i := 13) (N := none) (My.Mb 15 16383) rfl rfl (one_of HT_.out (by kernel_rfl)) (by decide) (fun K hK => ?_)
     have hs67 : w66.cell? ⟨gb203, 0, none⟩ = some (.int .i64 0) := My.b_ BK203 0
     have hfs67 := blk_frozen BK203.out 0
     have hns67_0 := NB191_203.out
     have hns67_1 := NB192_203.out
     have hns67_2 := NB193_203.out
     have hns67_3 := NB196_203.out
     have hms67_0 := NB203_191.out
     have hms67_1 := NB203_192.out
     have hms67_2 := NB203_193.out
     have hms67_3 := NB203_196.out
     have hs68 : w66.cell? ⟨gb203, 1, none⟩ = some (.int .i64 0) := My.b_ BK203 1
     have hfs68 := blk_frozen BK203.out 1
     have hns68_0 := NB191_203.out
     have hns68_1 := NB192_203.out
     have hns68_2 := NB193_203.out
     have hns68_3 := NB196_203.out
     have hms68_0 := NB203_191.out
     have hms68_1 := NB203_192.out
     have hms68_2 := NB203_193.out
     have hms68_3 := NB203_196.out
     have hs69 : w66.cell? ⟨gb203, 2, none⟩ = some (.int .i64 0) := My.b_ BK203 2
     have hfs69 := blk_frozen BK203.out 2
     have hns69_0 := NB191_203.out
     have hns69_1 := NB192_203.out
     have hns69_2 := NB193_203.out
     have hns69_3 := NB196_203.out
     have hms69_0 := NB203_191.out
     have hms69_1 := NB203_192.out
     have hms69_2 := NB203_193.out
     have hms69_3 := NB203_196.out
     refine skip_ (w1 := ?_) (by rfl) rfl ?_ ?_
     rotate_left
     ·go_simp
      rfl
     refine hK.out _ _ ⟨((cell_far (p := ⟨gb203, _, none⟩) NB196_203.out _).trans (((cell_far (p := ⟨gb203, _, none⟩) NB196_203.out _).trans (((cell_far (p := ⟨gb203, _, none⟩) NB196_203.out _).trans (hHeld.1)))))), ((cell_far (p := ⟨gb203, _, none⟩) NB196_203.out _).trans (((cell_far (p := ⟨gb203, _, none⟩) NB196_203.out _).trans (((cell_far (p := ⟨gb203, _, none⟩) NB196_203.out _).trans (hHeld.2.1)))))), ((cell_far (p := ⟨gb203, _, none⟩) NB196_203.out _).trans (((cell_far (p := ⟨gb203, _, none⟩) NB196_203.out _).trans (((cell_far (p := ⟨gb203, _, none⟩) NB196_203.out _).trans (hHeld.2.2.1)))))), ((cell_far (p := ⟨gb203, _, none⟩) NB196_203.out _).trans (((cell_far (p := ⟨gb203, _, none⟩) NB196_203.out _).trans (((cell_far (p := ⟨gb203, _, none⟩) NB196_203.out _).trans (hHeld.2.2.2.1)))))), ((cell_far (p := ⟨gb203, _, none⟩) NB196_203.out _).trans (((cell_far (p := ⟨gb203, _, none⟩) NB196_203.out _).trans (((cell_far (p := ⟨gb203, _, none⟩) NB196_203.out _).trans (hHeld.2.2.2.2.1)))))), ((cell_far (p := ⟨gb203, _, none⟩) NB196_203.out _).trans (((cell_far (p := ⟨gb203, _, none⟩) NB196_203.out _).trans (((cell_far (p := ⟨gb203, _, none⟩) NB196_203.out _).trans (hHeld.2.2.2.2.2.1)))))), ((cell_far (p := ⟨gb203, _, none⟩) NB192_203.out _).trans (((cell_far (p := ⟨gb203, _, none⟩) NB192_203.out _).trans (((cell_far (p := ⟨gb203, _, none⟩) NB192_203.out _).trans (hHeld.2.2.2.2.2.2.1)))))), ((cell_far (p := ⟨gb203, _, none⟩) NB192_203.out _).trans (((cell_far (p := ⟨gb203, _, none⟩) NB192_203.out _).trans (((cell_far (p := ⟨gb203, _, none⟩) NB192_203.out _).trans (hHeld.2.2.2.2.2.2.2.1)))))), ((cell_far (p := ⟨gb203, _, none⟩) NB192_203.out _).trans (((cell_far (p := ⟨gb203, _, none⟩) NB192_203.out _).trans (((cell_far (p := ⟨gb203, _, none⟩) NB192_203.out _).trans (hHeld.2.2.2.2.2.2.2.2))))))⟩ (fun hHeld => ?_)
     clear hK K
     refine My.pu_ 14 13 15 HT_.out ?_
     refine done_ (done_of HT_.out (by kernel_rfl)) ?_
     have hnb70 := NB193_191.out
     have hnc70 := NB191_193.out
     have hnb71 := NB193_192.out
     have hnc71 := NB192_193.out
     have hnb72 := NB193_196.out
     have hnc72 := NB196_193.out
     have hnb73 := NB193_203.out
     have hnc73 := NB203_193.out
     have hq74 := My.cz7 BK193
     try go_wp2_with (first | (with_reducible refine My.park_ ?_; intro X_ hX_) | (with_reducible refine wp_loop_rounds 3 ?_) | (with_reducible rw [rounds_succ]))
     (try rw [hX_.out])
     refine bodyPost_ret (results_ct rfl _ _ gb193 51 #[.string (⟨#[]⟩ : ByteArray), .int .i64 0, .int .i64 0, .int .i64 0, .int .i64 0, .int .i64 0, .int .i64 0] (0, 0) _ rfl ((My.sv_ BK193)) Try.underlying51 rfl (by kernel_rfl)) rfl ?_
     exact ⟨My.r2, (My.bl_ HB)⟩
    case rest =>
     clear HC32
     try clear c5
     obtain ⟨kq, x194000_31, x194001_31, x194002_31, x194003_31, x194004_31, x194005_31, x194006_31, x197000_31, x197001_31, x197002_31, x197003_31, x197004_31, x197005_31, HA, HJ31, BK191, BK192, BK193, BK196, HB⟩ := hcut
     cases kq with
     | zero => exact absurd HA.out (by simp [act_each_any.j1])
     | succ kj31 =>
      have H := HA.out
      clear HA
      simp only [act_each_any.j1] at H
      have ia_ : ∀ w_ : World, (Instr.index 96 (.agg #[.int .i64 t197, .int .i64 t198]) (.int .i64 0)).run Try.prog w_ = .ok (.int .i64 t197) w_ := fun _ => by kernel_rfl
      have ib_ : ∀ w_ : World, (Instr.index 96 (.agg #[.int .i64 t197, .int .i64 t198]) (.int .i64 1)).run Try.prog w_ = .ok (.int .i64 t198) w_ := fun _ => by kernel_rfl
      by_cases c75 : t198 = 0
      ·rw [if_pos c75] at H
       have c75b0 : (t198 == 0) = true := beq_iff_eq.mpr c75
       have c75b1 : (t198 != 0) = false := bne_eq_false_iff_eq.mpr c75
       clear c75
       simp only [Option.some.injEq, Prod.mk.injEq] at H
       obtain ⟨rfl, rfl, rfl, rfl, rfl, rfl, rfl, rfl⟩ := H
       have hnb76 := NB191_192.out
       have hnc76 := NB192_191.out
       have hnb77 := NB191_193.out
       have hnc77 := NB193_191.out
       have hnb78 := NB191_196.out
       have hnc78 := NB196_191.out
       have hq79 := My.cz7 BK191
       have hnb80 := NB196_192.out
       have hnc80 := NB192_196.out
       have hnb81 := NB196_193.out
       have hnc81 := NB193_196.out
       have hq82 := My.cz6 BK196
       have hnb83 := NB193_192.out
       have hnc83 := NB192_193.out
       have hq84 := My.cz7 BK193
       go_wp2_with (first | (with_reducible refine My.park_ ?_; intro X_ hX_) | (with_reducible refine wp_loop_rounds 3 ?_) | (with_reducible rw [rounds_succ]))
       (try rw [hX_.out])
       refine bodyPost_ret (results_ct rfl _ _ gb193 51 #[.string a0_0, .int .i64 x197000_31, .int .i64 x197001_31, .int .i64 x197002_31, .int .i64 x197003_31, .int .i64 x197004_31, .int .i64 x197005_31] (0, 0) _ rfl ((My.sv_ BK193)) Try.underlying51 rfl (by kernel_rfl)) rfl ?_
       exact ⟨My.r2, (My.bl_ HB)⟩
      rw [if_neg c75] at H
      have c75b0 : (t198 == 0) = false := beq_eq_false_iff_ne.mpr c75
      have c75b1 : (t198 != 0) = true := bne_iff_ne.mpr c75
      replace H := Option.bind_eq_some_iff.mp H
      obtain ⟨⟨t204, t205, t206, t207⟩, A850, H⟩ := H
      try dsimp only at H
      have A85 := My.am A850
      clear A850
      by_cases c86 : t207 = 0
      rotate_left
      ·rw [if_neg c86] at H
       have c86b0 : (t207 == 0) = false := beq_eq_false_iff_ne.mpr c86
       have c86b1 : (t207 != 0) = true := bne_iff_ne.mpr c86
       simp only [Option.some.injEq, Prod.mk.injEq] at H
       obtain ⟨rfl, rfl, rfl, rfl, rfl, rfl, rfl, rfl⟩ := H
       try go_wp2_with (first | (with_reducible refine wp_loop_rounds 3 ?_) | (with_reducible rw [rounds_succ]))
       replace BK191 := My.am (blk_drew BK191.out)
       replace BK192 := My.am (blk_drew BK192.out)
       replace BK193 := My.am (blk_drew BK193.out)
       replace BK196 := My.am (blk_drew BK196.out)
       replace HB := My.am (below_drew1 HB.out)
       refine start_ (n := 15) (S := fun w' => w'.cell? ⟨gb196, 0, none⟩ = some (.int .i64 x197000_31) ∧ w'.cell? ⟨gb196, 1, none⟩ = some (.int .i64 x197001_31) ∧ w'.cell? ⟨gb196, 2, none⟩ = some (.int .i64 x197002_31) ∧ w'.cell? ⟨gb196, 3, none⟩ = some (.int .i64 x197003_31) ∧ w'.cell? ⟨gb196, 4, none⟩ = some (.int .i64 x197004_31) ∧ w'.cell? ⟨gb196, 5, none⟩ = some (.int .i64 x197005_31) ∧ w'.cell? ⟨gb192, 0, none⟩ = some (.int .i64 a1_0) ∧ w'.cell? ⟨gb192, 1, none⟩ = some (.string a1_1) ∧ w'.cell? ⟨gb192, 2, none⟩ = some (.int .i64 a1_2)) (ds := []) #[false, false, false, false, false, false, false, false, false, false, false, false, false, false, false] (by kernel_rfl) rfl rfl ⟨My.b_ BK196 0, My.b_ BK196 1, My.b_ BK196 2, My.b_ BK196 3, My.b_ BK196 4, My.b_ BK196 5, My.b_ BK192 0, My.b_ BK192 1, My.b_ BK192 2⟩ (fun hHeld => ?_); refine with_tabW act_each_any.tab11 act_each_any.bits11 (fun HT_ HW_ => ?_)
       generalize wc.drew = w108 at BK191 BK192 BK193 BK196 HB hHeld ⊢
       refine My.pu_ 0 46 15 HT_.out ?_
       refine My.pu_ 1 47 15 HT_.out ?_
       refine My.pu_ 2 48 15 HT_.out ?_
       refine My.pv_ 4 50 15 23 HT_.out ?_
       refine My.pv_ 5 51 15 55 HT_.out ?_
       refine My.pv_ 6 52 15 119 HT_.out ?_
       refine My.tv_ 3 49 15 127 HT_.out HW_.out hHeld rfl rfl (by rintro w' ⟨s0, s1, s2, s3, s4, s5, s6, s7, s8⟩; go_simp; with_reducible rfl) ?_
       refine My.ta_ 7 53 15 HT_.out HW_.out hHeld rfl rfl (by rintro w' ⟨s0, s1, s2, s3, s4, s5, s6, s7, s8⟩; go_simp; with_reducible rfl) ?_
       refine join_ (σ := Nat) 2 (My.Mb 15 8191) (fun s_ => [(54, .tuple #[.agg #[.int .i64 t204, .int .i64 t205, .int .i64 t206], .int .i64 t207]), (12, .pointer (some ⟨s_, 0, none⟩)), (45, .tuple #[.agg #[.int .i64 t204, .int .i64 t205, .int .i64 t206], .int .i64 t207]), (55, .agg #[.int .i64 t204, .int .i64 t205, .int .i64 t206]), (56, .int .i64 t207)]) (fun s_ w' => (w'.cell? ⟨gb196, 0, none⟩ = some (.int .i64 x197000_31) ∧ w'.cell? ⟨gb196, 1, none⟩ = some (.int .i64 x197001_31) ∧ w'.cell? ⟨gb196, 2, none⟩ = some (.int .i64 x197002_31) ∧ w'.cell? ⟨gb196, 3, none⟩ = some (.int .i64 x197003_31) ∧ w'.cell? ⟨gb196, 4, none⟩ = some (.int .i64 x197004_31) ∧ w'.cell? ⟨gb196, 5, none⟩ = some (.int .i64 x197005_31) ∧ w'.cell? ⟨gb192, 0, none⟩ = some (.int .i64 a1_0) ∧ w'.cell? ⟨gb192, 1, none⟩ = some (.string a1_1) ∧ w'.cell? ⟨gb192, 2, none⟩ = some (.int .i64 a1_2)) ∧ (w'.heap[gb191]? = some (.cells #[.string a0_0, .int .i64 a0_1, .int .i64 a0_2, .int .i64 a0_3, .int .i64 a0_4, .int .i64 a0_5, .int .i64 a0_6] 51 (0, 0))) ∧ (w'.heap[gb192]? = some (.cells #[.int .i64 a1_0, .string a1_1, .int .i64 a1_2] 27 (0, 0))) ∧ (w'.heap[gb193]? = some (.cells #[.string x194000_31, .int .i64 x194001_31, .int .i64 x194002_31, .int .i64 x194003_31, .int .i64 x194004_31, .int .i64 x194005_31, .int .i64 x194006_31] 51 (0, 0))) ∧ (w'.heap[gb196]? = some (.cells #[.int .i64 x197000_31, .int .i64 x197001_31, .int .i64 x197002_31, .int .i64 x197003_31, .int .i64 x197004_31, .int .i64 x197005_31] 123 (0, 0))) ∧ (w'.heap[s_]? = some (.cells #[.int .i64 0, .int .i64 0, .int .i64 0] 49 (0, 0))) ∧ (w.heap.size ≤ s_) ∧ (w.heap.size ≤ s_) ∧ (gb191 ≠ s_) ∧ (s_ ≠ gb191) ∧ (gb192 ≠ s_) ∧ (s_ ≠ gb192) ∧ (gb193 ≠ s_) ∧ (s_ ≠ gb193) ∧ (gb196 ≠ s_) ∧ (s_ ≠ gb196) ∧ (Below w.heap.size w w')) ?_ ?_
       rotate_left
       ·intro hCont
        refine two_ (i := 8) (j := 12) (Ni := some 54) (Nj := some 12) (My.Mb 15 511) (My.Mb 15 4351) rfl rfl rfl rfl (two_of HT_.out (by kernel_rfl)) (by decide) (by decide) (fun K hK => ?_) (fun K hK => ?_)
        ·skip
         refine My.goesW_ (f := f_) (first := #[]) (cap := #[]) hf_ hname_ hb_ #[.agg #[.int .i64 x197003_31, .int .i64 x197004_31, .int .i64 x197005_31], .bool (decide (t198 < 0)), .int .i64 a1_2] (by rfl) rfl rfl rfl (by (try simp only [List.map_toArray, List.map_cons, List.map_nil, Array.empty_append, Array.append_empty]); first | done | rfl | (simp only [List.length_drop, List.length_take]; rfl)) ?_
         with_reducible refine (hD kj31 x197003_31 x197004_31 x197005_31 (decide (t198 < 0)) a1_2 t204 t205 t206 t207 _ A85.out).mono ?_
         rintro e w109 ⟨rfl, hb⟩
         refine ⟨_, rfl, ?_⟩
         replace BK191 := My.ab BK191 hb
         replace BK192 := My.ab BK192 hb
         replace BK193 := My.ab BK193 hb
         replace BK196 := My.ab BK196 hb
         replace HB := My.st HB hb
         (try clear hb)
         (try clear hb2)
         (try clear hk)
         (try clear hi)
         refine hK.out _ _ ⟨My.b_ BK196 0, My.b_ BK196 1, My.b_ BK196 2, My.b_ BK196 3, My.b_ BK196 4, My.b_ BK196 5, My.b_ BK192 0, My.b_ BK192 1, My.b_ BK192 2⟩ (fun hHeld => ?_)
         clear hK K
         refine norm_ (a' := ?_) ?_ ?_
         rotate_left
         ·show Act.put _ (some 54) _ = _
          simp only [Act.put, List.setIfInBounds_toArray, List.set_cons_zero, List.set_cons_succ, i64_w, i32_w]
          rfl
         refine My.pu_ 9 45 15 HT_.out ?_
         refine My.pu_ 10 55 15 HT_.out ?_
         refine My.pu_ 11 56 15 HT_.out ?_
         refine one_ (i := 12) (N := some 12) (My.Mb 15 8191) rfl rfl (one_of HT_.out (by kernel_rfl)) (by decide) (fun K hK => ?_)
         refine box_step ?hg (N := 12) ?hd (cs := #[.int .i64 0, .int .i64 0, .int .i64 0]) (t := 49) ?hr ?_; (case hd => rfl); (case hg => rfl); (case hr => first | (go_simp; done) | (go_simp; rfl))
         intro gb208 hg w110 hbox hb
         have BK208 := My.am (hbox)
         have GW208 := My.nge hg (My.bl_ HB)
         have GE208 := My.nge hg (My.bl_ HB)
         replace HB := My.st HB hb
         obtain ⟨NB191_208, NB208_191, BK191⟩ := My.nb hg hb BK191
         obtain ⟨NB192_208, NB208_192, BK192⟩ := My.nb hg hb BK192
         obtain ⟨NB193_208, NB208_193, BK193⟩ := My.nb hg hb BK193
         obtain ⟨NB196_208, NB208_196, BK196⟩ := My.nb hg hb BK196
         clear hb hbox hg
         refine hK.out _ _ ⟨My.b_ BK196 0, My.b_ BK196 1, My.b_ BK196 2, My.b_ BK196 3, My.b_ BK196 4, My.b_ BK196 5, My.b_ BK192 0, My.b_ BK192 1, My.b_ BK192 2⟩ (fun hHeld => ?_)
         clear hK K
         refine norm_ (a' := ?_) ?_ ?_
         rotate_left
         ·show Act.put _ (some 12) _ = _
          simp only [Act.put, List.setIfInBounds_toArray, List.set_cons_zero, List.set_cons_succ, i64_w, i32_w]
          rfl
         exact norm_ (by simp only [putAll, Act.put, List.setIfInBounds_toArray, List.set_cons_zero, List.set_cons_succ]) (hCont (gb208) _ ⟨hHeld, (My.at_ BK191), (My.at_ BK192), (My.at_ BK193), (My.at_ BK196), (My.at_ BK208), GW208.out, GE208.out, NB191_208.out, NB208_191.out, NB192_208.out, NB208_192.out, NB193_208.out, NB208_193.out, NB196_208.out, NB208_196.out, (My.bl_ HB)⟩)
        skip
        refine box_step ?hg (N := 12) ?hd (cs := #[.int .i64 0, .int .i64 0, .int .i64 0]) (t := 49) ?hr ?_; (case hd => rfl); (case hg => rfl); (case hr => first | (go_simp; done) | (go_simp; rfl))
        intro gb208 hg w109 hbox hb
        have BK208 := My.am (hbox)
        have GW208 := My.nge hg (My.bl_ HB)
        have GE208 := My.nge hg (My.bl_ HB)
        replace HB := My.st HB hb
        obtain ⟨NB191_208, NB208_191, BK191⟩ := My.nb hg hb BK191
        obtain ⟨NB192_208, NB208_192, BK192⟩ := My.nb hg hb BK192
        obtain ⟨NB193_208, NB208_193, BK193⟩ := My.nb hg hb BK193
        obtain ⟨NB196_208, NB208_196, BK196⟩ := My.nb hg hb BK196
        clear hb hbox hg
        refine hK.out _ _ ⟨My.b_ BK196 0, My.b_ BK196 1, My.b_ BK196 2, My.b_ BK196 3, My.b_ BK196 4, My.b_ BK196 5, My.b_ BK192 0, My.b_ BK192 1, My.b_ BK192 2⟩ (fun hHeld => ?_)
        clear hK K
        refine norm_ (a' := ?_) ?_ ?_
        rotate_left
        ·show Act.put _ (some 12) _ = _
         simp only [Act.put, List.setIfInBounds_toArray, List.set_cons_zero, List.set_cons_succ, i64_w, i32_w]
         rfl
        refine one_ (i := 8) (N := some 54) (My.Mb 15 4607) rfl rfl (one_of HT_.out (by kernel_rfl)) (by decide) (fun K hK => ?_)
        refine My.goesW_ (f := f_) (first := #[]) (cap := #[]) hf_ hname_ hb_ #[.agg #[.int .i64 x197003_31, .int .i64 x197004_31, .int .i64 x197005_31], .bool (decide (t198 < 0)), .int .i64 a1_2] (by rfl) rfl rfl rfl (by (try simp only [List.map_toArray, List.map_cons, List.map_nil, Array.empty_append, Array.append_empty]); first | done | rfl | (simp only [List.length_drop, List.length_take]; rfl)) ?_
        with_reducible refine (hD kj31 x197003_31 x197004_31 x197005_31 (decide (t198 < 0)) a1_2 t204 t205 t206 t207 _ A85.out).mono ?_
        rintro e w110 ⟨rfl, hb⟩
        refine ⟨_, rfl, ?_⟩
        replace BK191 := My.ab BK191 hb
        replace BK192 := My.ab BK192 hb
        replace BK193 := My.ab BK193 hb
        replace BK196 := My.ab BK196 hb
        replace BK208 := My.ab BK208 hb
        replace HB := My.st HB hb
        (try clear hb)
        (try clear hb2)
        (try clear hk)
        (try clear hi)
        refine hK.out _ _ ⟨My.b_ BK196 0, My.b_ BK196 1, My.b_ BK196 2, My.b_ BK196 3, My.b_ BK196 4, My.b_ BK196 5, My.b_ BK192 0, My.b_ BK192 1, My.b_ BK192 2⟩ (fun hHeld => ?_)
        clear hK K
        refine norm_ (a' := ?_) ?_ ?_
        rotate_left
        ·show Act.put _ (some 54) _ = _
         simp only [Act.put, List.setIfInBounds_toArray, List.set_cons_zero, List.set_cons_succ, i64_w, i32_w]
         rfl
        refine My.pv_ 9 45 15 5119 HT_.out ?_
        refine My.pv_ 10 55 15 6143 HT_.out ?_
        refine My.pv_ 11 56 15 8191 HT_.out ?_
        exact norm_ (by simp only [putAll, Act.put, List.setIfInBounds_toArray, List.set_cons_zero, List.set_cons_succ]) (hCont (gb208) _ ⟨hHeld, (My.at_ BK191), (My.at_ BK192), (My.at_ BK193), (My.at_ BK196), (My.at_ BK208), GW208.out, GE208.out, NB191_208.out, NB208_191.out, NB192_208.out, NB208_192.out, NB193_208.out, NB208_193.out, NB196_208.out, NB208_196.out, (My.bl_ HB)⟩)
       rintro gb208 w111 ⟨hS_, h0_, h1_, h2_, h3_, h4_, h5_, h6_, h7_, h8_, h9_, h10_, h11_, h12_, h13_, h14_, h15_⟩
       have n0_ : Aside0 (w111.heap[gb191]? = some (.cells #[.string a0_0, .int .i64 a0_1, .int .i64 a0_2, .int .i64 a0_3, .int .i64 a0_4, .int .i64 a0_5, .int .i64 a0_6] 51 (0, 0))) := ⟨h0_⟩
       have n1_ : Aside0 (w111.heap[gb192]? = some (.cells #[.int .i64 a1_0, .string a1_1, .int .i64 a1_2] 27 (0, 0))) := ⟨h1_⟩
       have n2_ : Aside0 (w111.heap[gb193]? = some (.cells #[.string x194000_31, .int .i64 x194001_31, .int .i64 x194002_31, .int .i64 x194003_31, .int .i64 x194004_31, .int .i64 x194005_31, .int .i64 x194006_31] 51 (0, 0))) := ⟨h2_⟩
       have n3_ : Aside0 (w111.heap[gb196]? = some (.cells #[.int .i64 x197000_31, .int .i64 x197001_31, .int .i64 x197002_31, .int .i64 x197003_31, .int .i64 x197004_31, .int .i64 x197005_31] 123 (0, 0))) := ⟨h3_⟩
       have n4_ : Aside0 (w111.heap[gb208]? = some (.cells #[.int .i64 0, .int .i64 0, .int .i64 0] 49 (0, 0))) := ⟨h4_⟩
       have n5_ : Aside0 (w.heap.size ≤ gb208) := ⟨h5_⟩
       have n6_ : Aside0 (w.heap.size ≤ gb208) := ⟨h6_⟩
       have n7_ : Aside0 (gb191 ≠ gb208) := ⟨h7_⟩
       have n8_ : Aside0 (gb208 ≠ gb191) := ⟨h8_⟩
       have n9_ : Aside0 (gb192 ≠ gb208) := ⟨h9_⟩
       have n10_ : Aside0 (gb208 ≠ gb192) := ⟨h10_⟩
       have n11_ : Aside0 (gb193 ≠ gb208) := ⟨h11_⟩
       have n12_ : Aside0 (gb208 ≠ gb193) := ⟨h12_⟩
       have n13_ : Aside0 (gb196 ≠ gb208) := ⟨h13_⟩
       have n14_ : Aside0 (gb208 ≠ gb196) := ⟨h14_⟩
       have n15_ : Aside0 (Below w.heap.size w w111) := ⟨h15_⟩
       clear BK191
       clear BK192
       clear BK193
       clear BK196
       clear HB
       clear h0_ h1_ h2_ h3_ h4_ h5_ h6_ h7_ h8_ h9_ h10_ h11_ h12_ h13_ h14_ h15_
       have BK191 := n0_
       have BK192 := n1_
       have BK193 := n2_
       have BK208 := n4_
       have GE208 := n6_
       have NB191_208 := n7_
       have NB208_191 := n8_
       have NB192_208 := n9_
       have NB208_192 := n10_
       have NB193_208 := n11_
       have NB208_193 := n12_
       have NB196_208 := n13_
       have NB208_196 := n14_
       have HB := n15_
       clear n0_ n1_ n2_ n3_ n4_ n5_ n6_ n7_ n8_ n9_ n10_ n11_ n12_ n13_ n14_ n15_
       have hHeld : w111.cell? ⟨gb196, 0, none⟩ = some (.int .i64 x197000_31) ∧ w111.cell? ⟨gb196, 1, none⟩ = some (.int .i64 x197001_31) ∧ w111.cell? ⟨gb196, 2, none⟩ = some (.int .i64 x197002_31) ∧ w111.cell? ⟨gb196, 3, none⟩ = some (.int .i64 x197003_31) ∧ w111.cell? ⟨gb196, 4, none⟩ = some (.int .i64 x197004_31) ∧ w111.cell? ⟨gb196, 5, none⟩ = some (.int .i64 x197005_31) ∧ w111.cell? ⟨gb192, 0, none⟩ = some (.int .i64 a1_0) ∧ w111.cell? ⟨gb192, 1, none⟩ = some (.string a1_1) ∧ w111.cell? ⟨gb192, 2, none⟩ = some (.int .i64 a1_2) := hS_
       refine norm_ (a' := ?_) ?_ ?_
       rotate_left
       ·simp only [putAll, Act.put, List.setIfInBounds_toArray, List.set_cons_zero, List.set_cons_succ]
        rfl
       refine one_ (i := 13) (N := none) (My.Mb 15 16383) rfl rfl (one_of HT_.out (by kernel_rfl)) (by decide) (fun K hK => ?_)
       have hs112 : w111.cell? ⟨gb208, 0, none⟩ = some (.int .i64 0) := My.b_ BK208 0
       have hfs112 := blk_frozen BK208.out 0
       have hns112_0 := NB191_208.out
       have hns112_1 := NB192_208.out
       have hns112_2 := NB193_208.out
       have hns112_3 := NB196_208.out
       have hms112_0 := NB208_191.out
       have hms112_1 := NB208_192.out
       have hms112_2 := NB208_193.out
       have hms112_3 := NB208_196.out
       have hs113 : w111.cell? ⟨gb208, 1, none⟩ = some (.int .i64 0) := My.b_ BK208 1
       have hfs113 := blk_frozen BK208.out 1
       have hns113_0 := NB191_208.out
       have hns113_1 := NB192_208.out
       have hns113_2 := NB193_208.out
       have hns113_3 := NB196_208.out
       have hms113_0 := NB208_191.out
       have hms113_1 := NB208_192.out
       have hms113_2 := NB208_193.out
       have hms113_3 := NB208_196.out
       have hs114 : w111.cell? ⟨gb208, 2, none⟩ = some (.int .i64 0) := My.b_ BK208 2
       have hfs114 := blk_frozen BK208.out 2
       have hns114_0 := NB191_208.out
       have hns114_1 := NB192_208.out
       have hns114_2 := NB193_208.out
       have hns114_3 := NB196_208.out
       have hms114_0 := NB208_191.out
       have hms114_1 := NB208_192.out
       have hms114_2 := NB208_193.out
       have hms114_3 := NB208_196.out
       refine skip_ (w1 := ?_) (by rfl) rfl ?_ ?_
       rotate_left
       ·go_simp
        rfl
       refine hK.out _ _ ⟨((cell_far (p := ⟨gb208, _, none⟩) NB196_208.out _).trans (((cell_far (p := ⟨gb208, _, none⟩) NB196_208.out _).trans (((cell_far (p := ⟨gb208, _, none⟩) NB196_208.out _).trans (hHeld.1)))))), ((cell_far (p := ⟨gb208, _, none⟩) NB196_208.out _).trans (((cell_far (p := ⟨gb208, _, none⟩) NB196_208.out _).trans (((cell_far (p := ⟨gb208, _, none⟩) NB196_208.out _).trans (hHeld.2.1)))))), ((cell_far (p := ⟨gb208, _, none⟩) NB196_208.out _).trans (((cell_far (p := ⟨gb208, _, none⟩) NB196_208.out _).trans (((cell_far (p := ⟨gb208, _, none⟩) NB196_208.out _).trans (hHeld.2.2.1)))))), ((cell_far (p := ⟨gb208, _, none⟩) NB196_208.out _).trans (((cell_far (p := ⟨gb208, _, none⟩) NB196_208.out _).trans (((cell_far (p := ⟨gb208, _, none⟩) NB196_208.out _).trans (hHeld.2.2.2.1)))))), ((cell_far (p := ⟨gb208, _, none⟩) NB196_208.out _).trans (((cell_far (p := ⟨gb208, _, none⟩) NB196_208.out _).trans (((cell_far (p := ⟨gb208, _, none⟩) NB196_208.out _).trans (hHeld.2.2.2.2.1)))))), ((cell_far (p := ⟨gb208, _, none⟩) NB196_208.out _).trans (((cell_far (p := ⟨gb208, _, none⟩) NB196_208.out _).trans (((cell_far (p := ⟨gb208, _, none⟩) NB196_208.out _).trans (hHeld.2.2.2.2.2.1)))))), ((cell_far (p := ⟨gb208, _, none⟩) NB192_208.out _).trans (((cell_far (p := ⟨gb208, _, none⟩) NB192_208.out _).trans (((cell_far (p := ⟨gb208, _, none⟩) NB192_208.out _).trans (hHeld.2.2.2.2.2.2.1)))))), ((cell_far (p := ⟨gb208, _, none⟩) NB192_208.out _).trans (((cell_far (p := ⟨gb208, _, none⟩) NB192_208.out _).trans (((cell_far (p := ⟨gb208, _, none⟩) NB192_208.out _).trans (hHeld.2.2.2.2.2.2.2.1)))))), ((cell_far (p := ⟨gb208, _, none⟩) NB192_208.out _).trans (((cell_far (p := ⟨gb208, _, none⟩) NB192_208.out _).trans (((cell_far (p := ⟨gb208, _, none⟩) NB192_208.out _).trans (hHeld.2.2.2.2.2.2.2.2))))))⟩ (fun hHeld => ?_)
       clear hK K
       refine My.pu_ 14 13 15 HT_.out ?_
       refine done_ (done_of HT_.out (by kernel_rfl)) ?_
       have hnb115 := NB193_191.out
       have hnc115 := NB191_193.out
       have hnb116 := NB193_192.out
       have hnc116 := NB192_193.out
       have hnb117 := NB193_196.out
       have hnc117 := NB196_193.out
       have hnb118 := NB193_208.out
       have hnc118 := NB208_193.out
       have hq119 := My.cz7 BK193
       try go_wp2_with (first | (with_reducible refine My.park_ ?_; intro X_ hX_) | (with_reducible refine wp_loop_rounds 3 ?_) | (with_reducible rw [rounds_succ]))
       (try rw [hX_.out])
       refine bodyPost_ret (results_ct rfl _ _ gb193 51 #[.string (⟨#[]⟩ : ByteArray), .int .i64 0, .int .i64 0, .int .i64 0, .int .i64 0, .int .i64 0, .int .i64 0] (0, 0) _ rfl ((My.sv_ BK193)) Try.underlying51 rfl (by kernel_rfl)) rfl ?_
       exact ⟨My.r2, (My.bl_ HB)⟩
      rw [if_pos c86] at H
      have c86b0 : (t207 == 0) = true := beq_iff_eq.mpr c86
      have c86b1 : (t207 != 0) = false := bne_eq_false_iff_eq.mpr c86
      clear c86
      simp only [Option.some.injEq, Prod.mk.injEq] at H
      obtain ⟨rfl, rfl, rfl, rfl, rfl, rfl, rfl, rfl⟩ := H
      try go_wp2_with (first | (with_reducible refine wp_loop_rounds 3 ?_) | (with_reducible rw [rounds_succ]))
      replace BK191 := My.am (blk_drew BK191.out)
      replace BK192 := My.am (blk_drew BK192.out)
      replace BK193 := My.am (blk_drew BK193.out)
      replace BK196 := My.am (blk_drew BK196.out)
      replace HB := My.am (below_drew1 HB.out)
      refine start_ (n := 15) (S := fun w' => w'.cell? ⟨gb196, 0, none⟩ = some (.int .i64 x197000_31) ∧ w'.cell? ⟨gb196, 1, none⟩ = some (.int .i64 x197001_31) ∧ w'.cell? ⟨gb196, 2, none⟩ = some (.int .i64 x197002_31) ∧ w'.cell? ⟨gb196, 3, none⟩ = some (.int .i64 x197003_31) ∧ w'.cell? ⟨gb196, 4, none⟩ = some (.int .i64 x197004_31) ∧ w'.cell? ⟨gb196, 5, none⟩ = some (.int .i64 x197005_31) ∧ w'.cell? ⟨gb192, 0, none⟩ = some (.int .i64 a1_0) ∧ w'.cell? ⟨gb192, 1, none⟩ = some (.string a1_1) ∧ w'.cell? ⟨gb192, 2, none⟩ = some (.int .i64 a1_2)) (ds := []) #[false, false, false, false, false, false, false, false, false, false, false, false, false, false, false] (by kernel_rfl) rfl rfl ⟨My.b_ BK196 0, My.b_ BK196 1, My.b_ BK196 2, My.b_ BK196 3, My.b_ BK196 4, My.b_ BK196 5, My.b_ BK192 0, My.b_ BK192 1, My.b_ BK192 2⟩ (fun hHeld => ?_); refine with_tabW act_each_any.tab11 act_each_any.bits11 (fun HT_ HW_ => ?_)
      generalize wc.drew = w87 at BK191 BK192 BK193 BK196 HB hHeld ⊢
      refine My.pu_ 0 46 15 HT_.out ?_
      refine My.pu_ 1 47 15 HT_.out ?_
      refine My.pu_ 2 48 15 HT_.out ?_
      refine My.pv_ 4 50 15 23 HT_.out ?_
      refine My.pv_ 5 51 15 55 HT_.out ?_
      refine My.pv_ 6 52 15 119 HT_.out ?_
      refine My.tv_ 3 49 15 127 HT_.out HW_.out hHeld rfl rfl (by rintro w' ⟨s0, s1, s2, s3, s4, s5, s6, s7, s8⟩; go_simp; with_reducible rfl) ?_
      refine My.ta_ 7 53 15 HT_.out HW_.out hHeld rfl rfl (by rintro w' ⟨s0, s1, s2, s3, s4, s5, s6, s7, s8⟩; go_simp; with_reducible rfl) ?_
      refine join_ (σ := Nat) 2 (My.Mb 15 8191) (fun s_ => [(54, .tuple #[.agg #[.int .i64 t204, .int .i64 t205, .int .i64 t206], .int .i64 t207]), (12, .pointer (some ⟨s_, 0, none⟩)), (45, .tuple #[.agg #[.int .i64 t204, .int .i64 t205, .int .i64 t206], .int .i64 t207]), (55, .agg #[.int .i64 t204, .int .i64 t205, .int .i64 t206]), (56, .int .i64 t207)]) (fun s_ w' => (w'.cell? ⟨gb196, 0, none⟩ = some (.int .i64 x197000_31) ∧ w'.cell? ⟨gb196, 1, none⟩ = some (.int .i64 x197001_31) ∧ w'.cell? ⟨gb196, 2, none⟩ = some (.int .i64 x197002_31) ∧ w'.cell? ⟨gb196, 3, none⟩ = some (.int .i64 x197003_31) ∧ w'.cell? ⟨gb196, 4, none⟩ = some (.int .i64 x197004_31) ∧ w'.cell? ⟨gb196, 5, none⟩ = some (.int .i64 x197005_31) ∧ w'.cell? ⟨gb192, 0, none⟩ = some (.int .i64 a1_0) ∧ w'.cell? ⟨gb192, 1, none⟩ = some (.string a1_1) ∧ w'.cell? ⟨gb192, 2, none⟩ = some (.int .i64 a1_2)) ∧ (w'.heap[gb191]? = some (.cells #[.string a0_0, .int .i64 a0_1, .int .i64 a0_2, .int .i64 a0_3, .int .i64 a0_4, .int .i64 a0_5, .int .i64 a0_6] 51 (0, 0))) ∧ (w'.heap[gb192]? = some (.cells #[.int .i64 a1_0, .string a1_1, .int .i64 a1_2] 27 (0, 0))) ∧ (w'.heap[gb193]? = some (.cells #[.string x194000_31, .int .i64 x194001_31, .int .i64 x194002_31, .int .i64 x194003_31, .int .i64 x194004_31, .int .i64 x194005_31, .int .i64 x194006_31] 51 (0, 0))) ∧ (w'.heap[gb196]? = some (.cells #[.int .i64 x197000_31, .int .i64 x197001_31, .int .i64 x197002_31, .int .i64 x197003_31, .int .i64 x197004_31, .int .i64 x197005_31] 123 (0, 0))) ∧ (w'.heap[s_]? = some (.cells #[.int .i64 0, .int .i64 0, .int .i64 0] 49 (0, 0))) ∧ (w.heap.size ≤ s_) ∧ (w.heap.size ≤ s_) ∧ (gb191 ≠ s_) ∧ (s_ ≠ gb191) ∧ (gb192 ≠ s_) ∧ (s_ ≠ gb192) ∧ (gb193 ≠ s_) ∧ (s_ ≠ gb193) ∧ (gb196 ≠ s_) ∧ (s_ ≠ gb196) ∧ (Below w.heap.size w w')) ?_ ?_
      rotate_left
      ·intro hCont
       refine two_ (i := 8) (j := 12) (Ni := some 54) (Nj := some 12) (My.Mb 15 511) (My.Mb 15 4351) rfl rfl rfl rfl (two_of HT_.out (by kernel_rfl)) (by decide) (by decide) (fun K hK => ?_) (fun K hK => ?_)
       ·skip
        refine My.goesW_ (f := f_) (first := #[]) (cap := #[]) hf_ hname_ hb_ #[.agg #[.int .i64 x197003_31, .int .i64 x197004_31, .int .i64 x197005_31], .bool (decide (t198 < 0)), .int .i64 a1_2] (by rfl) rfl rfl rfl (by (try simp only [List.map_toArray, List.map_cons, List.map_nil, Array.empty_append, Array.append_empty]); first | done | rfl | (simp only [List.length_drop, List.length_take]; rfl)) ?_
        with_reducible refine (hD kj31 x197003_31 x197004_31 x197005_31 (decide (t198 < 0)) a1_2 t204 t205 t206 t207 _ A85.out).mono ?_
        rintro e w88 ⟨rfl, hb⟩
        refine ⟨_, rfl, ?_⟩
        replace BK191 := My.ab BK191 hb
        replace BK192 := My.ab BK192 hb
        replace BK193 := My.ab BK193 hb
        replace BK196 := My.ab BK196 hb
        replace HB := My.st HB hb
        (try clear hb)
        (try clear hb2)
        (try clear hk)
        (try clear hi)
        refine hK.out _ _ ⟨My.b_ BK196 0, My.b_ BK196 1, My.b_ BK196 2, My.b_ BK196 3, My.b_ BK196 4, My.b_ BK196 5, My.b_ BK192 0, My.b_ BK192 1, My.b_ BK192 2⟩ (fun hHeld => ?_)
        clear hK K
        refine norm_ (a' := ?_) ?_ ?_
        rotate_left
        ·show Act.put _ (some 54) _ = _
         simp only [Act.put, List.setIfInBounds_toArray, List.set_cons_zero, List.set_cons_succ, i64_w, i32_w]
         rfl
        refine My.pu_ 9 45 15 HT_.out ?_
        refine My.pu_ 10 55 15 HT_.out ?_
        refine My.pu_ 11 56 15 HT_.out ?_
        refine one_ (i := 12) (N := some 12) (My.Mb 15 8191) rfl rfl (one_of HT_.out (by kernel_rfl)) (by decide) (fun K hK => ?_)
        refine box_step ?hg (N := 12) ?hd (cs := #[.int .i64 0, .int .i64 0, .int .i64 0]) (t := 49) ?hr ?_; (case hd => rfl); (case hg => rfl); (case hr => first | (go_simp; done) | (go_simp; rfl))
        intro gb208 hg w89 hbox hb
        have BK208 := My.am (hbox)
        have GW208 := My.nge hg (My.bl_ HB)
        have GE208 := My.nge hg (My.bl_ HB)
        replace HB := My.st HB hb
        obtain ⟨NB191_208, NB208_191, BK191⟩ := My.nb hg hb BK191
        obtain ⟨NB192_208, NB208_192, BK192⟩ := My.nb hg hb BK192
        obtain ⟨NB193_208, NB208_193, BK193⟩ := My.nb hg hb BK193
        obtain ⟨NB196_208, NB208_196, BK196⟩ := My.nb hg hb BK196
        clear hb hbox hg
        refine hK.out _ _ ⟨My.b_ BK196 0, My.b_ BK196 1, My.b_ BK196 2, My.b_ BK196 3, My.b_ BK196 4, My.b_ BK196 5, My.b_ BK192 0, My.b_ BK192 1, My.b_ BK192 2⟩ (fun hHeld => ?_)
        clear hK K
        refine norm_ (a' := ?_) ?_ ?_
        rotate_left
        ·show Act.put _ (some 12) _ = _
         simp only [Act.put, List.setIfInBounds_toArray, List.set_cons_zero, List.set_cons_succ, i64_w, i32_w]
         rfl
        exact norm_ (by simp only [putAll, Act.put, List.setIfInBounds_toArray, List.set_cons_zero, List.set_cons_succ]) (hCont (gb208) _ ⟨hHeld, (My.at_ BK191), (My.at_ BK192), (My.at_ BK193), (My.at_ BK196), (My.at_ BK208), GW208.out, GE208.out, NB191_208.out, NB208_191.out, NB192_208.out, NB208_192.out, NB193_208.out, NB208_193.out, NB196_208.out, NB208_196.out, (My.bl_ HB)⟩)
       skip
       refine box_step ?hg (N := 12) ?hd (cs := #[.int .i64 0, .int .i64 0, .int .i64 0]) (t := 49) ?hr ?_; (case hd => rfl); (case hg => rfl); (case hr => first | (go_simp; done) | (go_simp; rfl))
       intro gb208 hg w88 hbox hb
       have BK208 := My.am (hbox)
       have GW208 := My.nge hg (My.bl_ HB)
       have GE208 := My.nge hg (My.bl_ HB)
       replace HB := My.st HB hb
       obtain ⟨NB191_208, NB208_191, BK191⟩ := My.nb hg hb BK191
       obtain ⟨NB192_208, NB208_192, BK192⟩ := My.nb hg hb BK192
       obtain ⟨NB193_208, NB208_193, BK193⟩ := My.nb hg hb BK193
       obtain ⟨NB196_208, NB208_196, BK196⟩ := My.nb hg hb BK196
       clear hb hbox hg
       refine hK.out _ _ ⟨My.b_ BK196 0, My.b_ BK196 1, My.b_ BK196 2, My.b_ BK196 3, My.b_ BK196 4, My.b_ BK196 5, My.b_ BK192 0, My.b_ BK192 1, My.b_ BK192 2⟩ (fun hHeld => ?_)
       clear hK K
       refine norm_ (a' := ?_) ?_ ?_
       rotate_left
       ·show Act.put _ (some 12) _ = _
        simp only [Act.put, List.setIfInBounds_toArray, List.set_cons_zero, List.set_cons_succ, i64_w, i32_w]
        rfl
       refine one_ (i := 8) (N := some 54) (My.Mb 15 4607) rfl rfl (one_of HT_.out (by kernel_rfl)) (by decide) (fun K hK => ?_)
       refine My.goesW_ (f := f_) (first := #[]) (cap := #[]) hf_ hname_ hb_ #[.agg #[.int .i64 x197003_31, .int .i64 x197004_31, .int .i64 x197005_31], .bool (decide (t198 < 0)), .int .i64 a1_2] (by rfl) rfl rfl rfl (by (try simp only [List.map_toArray, List.map_cons, List.map_nil, Array.empty_append, Array.append_empty]); first | done | rfl | (simp only [List.length_drop, List.length_take]; rfl)) ?_
       with_reducible refine (hD kj31 x197003_31 x197004_31 x197005_31 (decide (t198 < 0)) a1_2 t204 t205 t206 t207 _ A85.out).mono ?_
       rintro e w89 ⟨rfl, hb⟩
       refine ⟨_, rfl, ?_⟩
       replace BK191 := My.ab BK191 hb
       replace BK192 := My.ab BK192 hb
       replace BK193 := My.ab BK193 hb
       replace BK196 := My.ab BK196 hb
       replace BK208 := My.ab BK208 hb
       replace HB := My.st HB hb
       (try clear hb)
       (try clear hb2)
       (try clear hk)
       (try clear hi)
       refine hK.out _ _ ⟨My.b_ BK196 0, My.b_ BK196 1, My.b_ BK196 2, My.b_ BK196 3, My.b_ BK196 4, My.b_ BK196 5, My.b_ BK192 0, My.b_ BK192 1, My.b_ BK192 2⟩ (fun hHeld => ?_)
       clear hK K
       refine norm_ (a' := ?_) ?_ ?_
       rotate_left
       ·show Act.put _ (some 54) _ = _
        simp only [Act.put, List.setIfInBounds_toArray, List.set_cons_zero, List.set_cons_succ, i64_w, i32_w]
        rfl
       refine My.pv_ 9 45 15 5119 HT_.out ?_
       refine My.pv_ 10 55 15 6143 HT_.out ?_
       refine My.pv_ 11 56 15 8191 HT_.out ?_
       exact norm_ (by simp only [putAll, Act.put, List.setIfInBounds_toArray, List.set_cons_zero, List.set_cons_succ]) (hCont (gb208) _ ⟨hHeld, (My.at_ BK191), (My.at_ BK192), (My.at_ BK193), (My.at_ BK196), (My.at_ BK208), GW208.out, GE208.out, NB191_208.out, NB208_191.out, NB192_208.out, NB208_192.out, NB193_208.out, NB208_193.out, NB196_208.out, NB208_196.out, (My.bl_ HB)⟩)
      rintro gb208 w90 ⟨hS_, h0_, h1_, h2_, h3_, h4_, h5_, h6_, h7_, h8_, h9_, h10_, h11_, h12_, h13_, h14_, h15_⟩
      have n0_ : Aside0 (w90.heap[gb191]? = some (.cells #[.string a0_0, .int .i64 a0_1, .int .i64 a0_2, .int .i64 a0_3, .int .i64 a0_4, .int .i64 a0_5, .int .i64 a0_6] 51 (0, 0))) := ⟨h0_⟩
      have n1_ : Aside0 (w90.heap[gb192]? = some (.cells #[.int .i64 a1_0, .string a1_1, .int .i64 a1_2] 27 (0, 0))) := ⟨h1_⟩
      have n2_ : Aside0 (w90.heap[gb193]? = some (.cells #[.string x194000_31, .int .i64 x194001_31, .int .i64 x194002_31, .int .i64 x194003_31, .int .i64 x194004_31, .int .i64 x194005_31, .int .i64 x194006_31] 51 (0, 0))) := ⟨h2_⟩
      have n3_ : Aside0 (w90.heap[gb196]? = some (.cells #[.int .i64 x197000_31, .int .i64 x197001_31, .int .i64 x197002_31, .int .i64 x197003_31, .int .i64 x197004_31, .int .i64 x197005_31] 123 (0, 0))) := ⟨h3_⟩
      have n4_ : Aside0 (w90.heap[gb208]? = some (.cells #[.int .i64 0, .int .i64 0, .int .i64 0] 49 (0, 0))) := ⟨h4_⟩
      have n5_ : Aside0 (w.heap.size ≤ gb208) := ⟨h5_⟩
      have n6_ : Aside0 (w.heap.size ≤ gb208) := ⟨h6_⟩
      have n7_ : Aside0 (gb191 ≠ gb208) := ⟨h7_⟩
      have n8_ : Aside0 (gb208 ≠ gb191) := ⟨h8_⟩
      have n9_ : Aside0 (gb192 ≠ gb208) := ⟨h9_⟩
      have n10_ : Aside0 (gb208 ≠ gb192) := ⟨h10_⟩
      have n11_ : Aside0 (gb193 ≠ gb208) := ⟨h11_⟩
      have n12_ : Aside0 (gb208 ≠ gb193) := ⟨h12_⟩
      have n13_ : Aside0 (gb196 ≠ gb208) := ⟨h13_⟩
      have n14_ : Aside0 (gb208 ≠ gb196) := ⟨h14_⟩
      have n15_ : Aside0 (Below w.heap.size w w90) := ⟨h15_⟩
      clear BK191
      clear BK192
      clear BK193
      clear BK196
      clear HB
      clear h0_ h1_ h2_ h3_ h4_ h5_ h6_ h7_ h8_ h9_ h10_ h11_ h12_ h13_ h14_ h15_
      have BK191 := n0_
      have BK192 := n1_
      have BK193 := n2_
      have BK196 := n3_
      have BK208 := n4_
      have GW208 := n5_
      have GE208 := n6_
      have NB191_208 := n7_
      have NB208_191 := n8_
      have NB192_208 := n9_
      have NB208_192 := n10_
      have NB193_208 := n11_
      have NB208_193 := n12_
      have NB196_208 := n13_
      have NB208_196 := n14_
      have HB := n15_
      clear n0_ n1_ n2_ n3_ n4_ n5_ n6_ n7_ n8_ n9_ n10_ n11_ n12_ n13_ n14_ n15_
      have hHeld : w90.cell? ⟨gb196, 0, none⟩ = some (.int .i64 x197000_31) ∧ w90.cell? ⟨gb196, 1, none⟩ = some (.int .i64 x197001_31) ∧ w90.cell? ⟨gb196, 2, none⟩ = some (.int .i64 x197002_31) ∧ w90.cell? ⟨gb196, 3, none⟩ = some (.int .i64 x197003_31) ∧ w90.cell? ⟨gb196, 4, none⟩ = some (.int .i64 x197004_31) ∧ w90.cell? ⟨gb196, 5, none⟩ = some (.int .i64 x197005_31) ∧ w90.cell? ⟨gb192, 0, none⟩ = some (.int .i64 a1_0) ∧ w90.cell? ⟨gb192, 1, none⟩ = some (.string a1_1) ∧ w90.cell? ⟨gb192, 2, none⟩ = some (.int .i64 a1_2) := hS_
      refine norm_ (a' := ?_) ?_ ?_
      rotate_left
      ·simp only [putAll, Act.put, List.setIfInBounds_toArray, List.set_cons_zero, List.set_cons_succ]
       rfl
      refine one_ (i := 13) (N := none) (My.Mb 15 16383) rfl rfl (one_of HT_.out (by kernel_rfl)) (by decide) (fun K hK => ?_)
      have hs91 : w90.cell? ⟨gb208, 0, none⟩ = some (.int .i64 0) := My.b_ BK208 0
      have hfs91 := blk_frozen BK208.out 0
      have hns91_0 := NB191_208.out
      have hns91_1 := NB192_208.out
      have hns91_2 := NB193_208.out
      have hns91_3 := NB196_208.out
      have hms91_0 := NB208_191.out
      have hms91_1 := NB208_192.out
      have hms91_2 := NB208_193.out
      have hms91_3 := NB208_196.out
      have hs92 : w90.cell? ⟨gb208, 1, none⟩ = some (.int .i64 0) := My.b_ BK208 1
      have hfs92 := blk_frozen BK208.out 1
      have hns92_0 := NB191_208.out
      have hns92_1 := NB192_208.out
      have hns92_2 := NB193_208.out
      have hns92_3 := NB196_208.out
      have hms92_0 := NB208_191.out
      have hms92_1 := NB208_192.out
      have hms92_2 := NB208_193.out
      have hms92_3 := NB208_196.out
      have hs93 : w90.cell? ⟨gb208, 2, none⟩ = some (.int .i64 0) := My.b_ BK208 2
      have hfs93 := blk_frozen BK208.out 2
      have hns93_0 := NB191_208.out
      have hns93_1 := NB192_208.out
      have hns93_2 := NB193_208.out
      have hns93_3 := NB196_208.out
      have hms93_0 := NB208_191.out
      have hms93_1 := NB208_192.out
      have hms93_2 := NB208_193.out
      have hms93_3 := NB208_196.out
      refine skip_ (w1 := ?_) (by rfl) rfl ?_ ?_
      rotate_left
      ·go_simp
       rfl
      refine hK.out _ _ ⟨((cell_far (p := ⟨gb208, _, none⟩) NB196_208.out _).trans (((cell_far (p := ⟨gb208, _, none⟩) NB196_208.out _).trans (((cell_far (p := ⟨gb208, _, none⟩) NB196_208.out _).trans (hHeld.1)))))), ((cell_far (p := ⟨gb208, _, none⟩) NB196_208.out _).trans (((cell_far (p := ⟨gb208, _, none⟩) NB196_208.out _).trans (((cell_far (p := ⟨gb208, _, none⟩) NB196_208.out _).trans (hHeld.2.1)))))), ((cell_far (p := ⟨gb208, _, none⟩) NB196_208.out _).trans (((cell_far (p := ⟨gb208, _, none⟩) NB196_208.out _).trans (((cell_far (p := ⟨gb208, _, none⟩) NB196_208.out _).trans (hHeld.2.2.1)))))), ((cell_far (p := ⟨gb208, _, none⟩) NB196_208.out _).trans (((cell_far (p := ⟨gb208, _, none⟩) NB196_208.out _).trans (((cell_far (p := ⟨gb208, _, none⟩) NB196_208.out _).trans (hHeld.2.2.2.1)))))), ((cell_far (p := ⟨gb208, _, none⟩) NB196_208.out _).trans (((cell_far (p := ⟨gb208, _, none⟩) NB196_208.out _).trans (((cell_far (p := ⟨gb208, _, none⟩) NB196_208.out _).trans (hHeld.2.2.2.2.1)))))), ((cell_far (p := ⟨gb208, _, none⟩) NB196_208.out _).trans (((cell_far (p := ⟨gb208, _, none⟩) NB196_208.out _).trans (((cell_far (p := ⟨gb208, _, none⟩) NB196_208.out _).trans (hHeld.2.2.2.2.2.1)))))), ((cell_far (p := ⟨gb208, _, none⟩) NB192_208.out _).trans (((cell_far (p := ⟨gb208, _, none⟩) NB192_208.out _).trans (((cell_far (p := ⟨gb208, _, none⟩) NB192_208.out _).trans (hHeld.2.2.2.2.2.2.1)))))), ((cell_far (p := ⟨gb208, _, none⟩) NB192_208.out _).trans (((cell_far (p := ⟨gb208, _, none⟩) NB192_208.out _).trans (((cell_far (p := ⟨gb208, _, none⟩) NB192_208.out _).trans (hHeld.2.2.2.2.2.2.2.1)))))), ((cell_far (p := ⟨gb208, _, none⟩) NB192_208.out _).trans (((cell_far (p := ⟨gb208, _, none⟩) NB192_208.out _).trans (((cell_far (p := ⟨gb208, _, none⟩) NB192_208.out _).trans (hHeld.2.2.2.2.2.2.2.2))))))⟩ (fun hHeld => ?_)
      clear hK K
      refine My.pu_ 14 13 15 HT_.out ?_
      refine done_ (done_of HT_.out (by kernel_rfl)) ?_
      have hnb94 := NB208_191.out
      have hnc94 := NB191_208.out
      have hnb95 := NB208_192.out
      have hnc95 := NB192_208.out
      have hnb96 := NB208_193.out
      have hnc96 := NB193_208.out
      have hnb97 := NB208_196.out
      have hnc97 := NB196_208.out
      have hq98 := My.cz3 BK208
      have hnb99 := NB196_191.out
      have hnc99 := NB191_196.out
      have hnb100 := NB196_192.out
      have hnc100 := NB192_196.out
      have hnb101 := NB196_193.out
      have hnc101 := NB193_196.out
      have hq102 := My.cz6 BK196
      have hnb103 := NB191_192.out
      have hnc103 := NB192_191.out
      have hnb104 := NB191_193.out
      have hnc104 := NB193_191.out
      have hq105 := My.cz7 BK191
      have hnb106 := NB193_192.out
      have hnc106 := NB192_193.out
      have hq107 := My.cz7 BK193
      try go_wp2_with (first | (with_reducible refine My.park_ ?_; intro X_ hX_) | (with_reducible refine wp_loop_rounds 3 ?_) | (with_reducible rw [rounds_succ]))
      (try rw [hX_.out])
      refine bodyPost_ret (results_ct rfl _ _ gb193 51 #[.string a0_0, .int .i64 x197000_31, .int .i64 x197001_31, .int .i64 x197002_31, .int .i64 t204, .int .i64 t205, .int .i64 t206] (0, 0) _ rfl ((My.sv_ BK193)) Try.underlying51 rfl (by kernel_rfl)) rfl ?_
      exact ⟨My.r2, (My.bl_ HB)⟩
 ·rw [if_neg c5] at H
  have c5b0 : (t194 == 0) = false := beq_eq_false_iff_ne.mpr c5
  have c5b1 : (t194 != 0) = true := bne_iff_ne.mpr c5
  simp only [Option.some.injEq, Prod.mk.injEq] at H
  obtain ⟨rfl, rfl, rfl, rfl, rfl, rfl, rfl, rfl⟩ := H
  go_enter Try.func71, Try.ntmps71
  go_wp2_with (first | (with_reducible refine My.park_ ?_; intro X_ hX_) | (with_reducible refine wp_loop_rounds 3 ?_) | (with_reducible rw [rounds_succ]) | ((with_reducible refine gate_dst (N := 3) rfl ?_); refine My.bx 3 #[.string a0_0, .int .i64 a0_1, .int .i64 a0_2, .int .i64 a0_3, .int .i64 a0_4, .int .i64 a0_5, .int .i64 a0_6] 51 ?_; intro gb191 hg w120 hbox hb; have BK191 := My.am (hbox); have GE191 := My.nge hg (My.bl_ HB); replace HB := My.st HB hb; clear hb hbox hg) | ((with_reducible refine gate_dst (N := 4) rfl ?_); refine My.bx 4 #[.int .i64 a1_0, .string a1_1, .int .i64 a1_2] 27 ?_; intro gb192 hg w121 hbox hb; have BK192 := My.am (hbox); have GE192 := My.nge hg (My.bl_ HB); replace HB := My.st HB hb; obtain ⟨NB191_192, NB192_191, BK191⟩ := My.nb hg hb BK191; clear hb hbox hg) | ((with_reducible refine gate_dst (N := 6) rfl ?_); refine My.bx 6 #[.string (⟨#[]⟩ : ByteArray), .int .i64 0, .int .i64 0, .int .i64 0, .int .i64 0, .int .i64 0, .int .i64 0] 51 ?_; intro gb193 hg w122 hbox hb; have BK193 := My.am (hbox); have GE193 := My.nge hg (My.bl_ HB); replace HB := My.st HB hb; obtain ⟨NB191_193, NB193_191, BK191⟩ := My.nb hg hb BK191; have NB192_193 := My.nlt hg (My.at_ BK192); have NB193_192 := My.ngt hg (My.at_ BK192); clear hb hbox hg; have hnb123 := NB191_192.out; have hnc123 := NB192_191.out; have hnb124 := NB191_193.out; have hnc124 := NB193_191.out; have hq125 := My.cz7 BK191) | ((with_reducible refine gate_callee (f := 51) rfl ?_); refine goesL_ (some 15) rfl rfl Try.func51 (by kernel_rfl) rfl #[.agg #[.string a0_0, .int .i64 a0_1, .int .i64 a0_2, .int .i64 a0_3, .int .i64 a0_4, .int .i64 a0_5, .int .i64 a0_6]] rfl My.gx ?_; (with_reducible refine (act_May.calls k a0_0 a0_1 a0_2 a0_3 a0_4 a0_5 a0_6 t194 _ A4.out).mono ?_); rintro e w126 ⟨rfl, hb⟩; refine ⟨_, rfl, ?_⟩; replace BK193 := My.ab BK193 hb; replace HB := My.st HB hb; (try clear hb); have hnb127 := NB193_192.out; have hnc127 := NB192_193.out; have hq128 := My.cz7 BK193))
  (try rw [hX_.out])
  refine bodyPost_ret (results_ct rfl _ _ gb193 51 #[.string (⟨#[]⟩ : ByteArray), .int .i64 0, .int .i64 0, .int .i64 0, .int .i64 0, .int .i64 0, .int .i64 0] (0, 0) _ rfl ((My.sv_ BK193)) Try.underlying51 rfl (by kernel_rfl)) rfl ?_
  exact ⟨My.r2, (My.bl_ HB)⟩

/-! ### act_each_pot_Do: function 117 -/
def act_each_pot_Do.f (k : Nat) (a0_0 : ByteArray) (a0_1 : Int) (a0_2 : Int) (a0_3 : Int) (a0_4 : Int) (a0_5 : Int) (a0_6 : Int) (a1_0 : Int) (a1_1 : ByteArray) (a1_2 : Int) (a2 : Int) : Option (ByteArray × Int × Int × Int × Int × Int × Int × Int) := act_each_any.f pot_Do.f k a0_0 a0_1 a0_2 a0_3 a0_4 a0_5 a0_6 a1_0 a1_1 a1_2 a2
theorem act_each_pot_Do.mono : ∀ a0 a1 a2 a3 a4 a5 a6 a7 a8 a9 a10 k, LeO (act_each_pot_Do.f k a0 a1 a2 a3 a4 a5 a6 a7 a8 a9 a10) (act_each_pot_Do.f (k + 1) a0 a1 a2 a3 a4 a5 a6 a7 a8 a9 a10) := act_each_any.mono _ pot_Do.mono
theorem act_each_pot_Do.calls (k : Nat) (a0_0 : ByteArray) (a0_1 : Int) (a0_2 : Int) (a0_3 : Int) (a0_4 : Int) (a0_5 : Int) (a0_6 : Int) (a1_0 : Int) (a1_1 : ByteArray) (a1_2 : Int) (a2 : Int) (r1 : ByteArray) (r2 : Int) (r3 : Int) (r4 : Int) (r5 : Int) (r6 : Int) (r7 : Int) (r8 : Int) (w : World) (h : act_each_pot_Do.f k a0_0 a0_1 a0_2 a0_3 a0_4 a0_5 a0_6 a1_0 a1_1 a1_2 a2 = some (r1, r2, r3, r4, r5, r6, r7, r8)) :
  Calls Try.prog 71 #[.agg #[.string a0_0, .int .i64 a0_1, .int .i64 a0_2, .int .i64 a0_3, .int .i64 a0_4, .int .i64 a0_5, .int .i64 a0_6], .agg #[.int .i64 a1_0, .string a1_1, .int .i64 a1_2], .func (.func 72) #[] #[]] w fun e w' => e = .returned (.tuple #[.agg #[.string r1, .int .i64 r2, .int .i64 r3, .int .i64 r4, .int .i64 r5, .int .i64 r6, .int .i64 r7], .int .i64 r8]) ∧ Below w.heap.size w w' := act_each_any.calls 72 _ Try.func72 (by kernel_rfl) rfl pot_Do.f pot_Do.calls k a0_0 a0_1 a0_2 a0_3 a0_4 a0_5 a0_6 a1_0 a1_1 a1_2 a2 r1 r2 r3 r4 r5 r6 r7 r8 w h

end Go.Proofs.Ytikanbdhpafbiaa.PZ
