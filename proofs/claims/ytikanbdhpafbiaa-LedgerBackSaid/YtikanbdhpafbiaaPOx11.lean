-- Written by a program of this session (wip/tools/mp.py over the kit's printer); Lean checks it.
import Derived.Test.YtikanbdhpafbiaaPk
import Derived.Test.YtikanbdhpafbiaaPOx0
import Derived.Test.YtikanbdhpafbiaaPOx4
import Derived.Test.YtikanbdhpafbiaaPOx7
import Derived.Test.YtikanbdhpafbiaaPOx8
import Derived.Test.YtikanbdhpafbiaaPOx10
namespace Go.Proofs.Ytikanbdhpafbiaa.PO
open Go.RowKit Go.Proofs.YtikanbdhpafbiaaW.PrintWords Go.Proofs.YtikanbdhpafbiaaW.PrintLast Go.Proofs.YtikanbdhpafbiaaW.PrintMore
attribute [local go_sem] max2_int min2_int max_two min_two max_three min_three max_four min_four   -- for this text's walks alone
set_option linter.unusedVariables false
set_option maxHeartbeats 8000000
set_option maxRecDepth 100000
set_option linter.unusedSimpArgs false

/-! ### ledger_changed_any: function 120 -/
def ledger_changed_any.j0 (D : Nat → ByteArray → Int → Int → Int → Int → Int → Int → Int → ByteArray → Int → Option (ByteArray × Int × Int × Int × Int × Int × Int × Int)) : Nat → Int → Int → Bool → Bool → List (S51) → List (S64) → ByteArray → Int → ByteArray → Int → Int → Option ((List (S51)) × (List (S64)) × Int)
 | 0, _, _, _, _, _, _, _, _, _, _, _ => none
 | k + 1, x8, x10, x11, x42, x219000, x219001, x220000, x220001, x220002, x220003, x220004 => if x42 = true then (some (([] : List (S51)), ([] : List (S64)), 3)) else (if 0 ≤ x8 then (if x8 < (x219000.length : Int) then ((D k ((rd_T51 x219000 x8).f0) ((rd_T51 x219000 x8).f1.f0) ((rd_T51 x219000 x8).f1.f1) ((rd_T51 x219000 x8).f1.f2) ((rd_T51 x219000 x8).f2.f0) ((rd_T51 x219000 x8).f2.f1) ((rd_T51 x219000 x8).f2.f2) x220001 x220002 x220003).bind fun bt226 => (if bt226.2.2.2.2.2.2.2 = 0 then ((ledger_copied.f x219000 x219001).bind fun bt235 => (if x8 < (bt235.1.length : Int) then ((some (bt235.1.set (x8 : Int).toNat (⟨bt226.1, (⟨bt226.2.1, bt226.2.2.1, bt226.2.2.2.1⟩ : S49), (⟨bt226.2.2.2.2.1, bt226.2.2.2.2.2.1, bt226.2.2.2.2.2.2.1⟩ : S49)⟩ : S51) : List (S51))).bind fun y242 => (if x11 = true then (if 0 ≤ x10 then (if x10 < (bt235.2.length : Int) then (some (y242, (bt235.2.set (x10 : Int).toNat (⟨x220000, (⟨x220001, x220002, x220003⟩ : S27), x220004⟩ : S64)), 0)) else (none)) else (none)) else (ledger_changed_e x10 x220000 x220001 x220002 x220003 x220004 y242 bt235.2))) else (none))) else (some (([] : List (S51)), ([] : List (S64)), bt226.2.2.2.2.2.2.2)))) else (none)) else (none))
def ledger_changed_any.f (D : Nat → ByteArray → Int → Int → Int → Int → Int → Int → Int → ByteArray → Int → Option (ByteArray × Int × Int × Int × Int × Int × Int × Int)) (k : Nat) (l0_0 : List (S51)) (l0_1 : List (S64)) (a1_0 : ByteArray) (a1_1 : Int) (a1_2 : ByteArray) (a1_3 : Int) (a1_4 : Int) (a2 : Int) : Option ((List (S51)) × (List (S64)) × Int) := (ledger_book_account.f k l0_0 l0_1 a1_2).bind fun bt221 => (if bt221.2 = true then ((ledger_book_mark.f k l0_0 l0_1 a1_0).bind fun bt223 => (if bt223.2 = true then (ledger_changed_any.j0 D k bt221.1 bt223.1 bt223.2 false l0_0 l0_1 a1_0 a1_1 a1_2 a1_3 a1_4) else (ledger_changed_any.j0 D k bt221.1 bt223.1 bt223.2 ((l0_1.length : Int) == 500) l0_0 l0_1 a1_0 a1_1 a1_2 a1_3 a1_4))) else (some (([] : List (S51)), ([] : List (S64)), 70)))
theorem ledger_changed_any.mono_l (D : Nat → ByteArray → Int → Int → Int → Int → Int → Int → Int → ByteArray → Int → Option (ByteArray × Int × Int × Int × Int × Int × Int × Int)) (hM : ∀ m0 m1 m2 m3 m4 m5 m6 m7 m8 m9 k, LeO (D k m0 m1 m2 m3 m4 m5 m6 m7 m8 m9) (D (k + 1) m0 m1 m2 m3 m4 m5 m6 m7 m8 m9)) : ∀ k, (∀ y0 y1 y2 y3 y4 y5 y6 y7 y8 y9 y10, LeO (ledger_changed_any.j0 D k y0 y1 y2 y3 y4 y5 y6 y7 y8 y9 y10) (ledger_changed_any.j0 D (k + 1) y0 y1 y2 y3 y4 y5 y6 y7 y8 y9 y10))
 | 0 => fun _ _ _ _ _ _ _ _ _ _ _ r h => by simp [ledger_changed_any.j0] at h
 | k + 1 => by
  have ih0 := ledger_changed_any.mono_l D hM k
  intro y0 y1 y2 y3 y4 y5 y6 y7 y8 y9 y10
  unfold ledger_changed_any.j0
  repeat' (with_reducible first | exact ih0 _ _ _ _ _ _ _ _ _ _ _ | exact hM _ _ _ _ _ _ _ _ _ _ _ | exact ledger_book_account.mono _ _ _ _ | exact ledger_book_mark.mono _ _ _ _ | exact LeO.refl _ | exact LeO.none _ | apply LeO.ite | refine LeO.bind ?_ (fun _ => ?_))
theorem ledger_changed_any.mono (D : Nat → ByteArray → Int → Int → Int → Int → Int → Int → Int → ByteArray → Int → Option (ByteArray × Int × Int × Int × Int × Int × Int × Int)) (hM : ∀ m0 m1 m2 m3 m4 m5 m6 m7 m8 m9 k, LeO (D k m0 m1 m2 m3 m4 m5 m6 m7 m8 m9) (D (k + 1) m0 m1 m2 m3 m4 m5 m6 m7 m8 m9)) : ∀ a0 a1 a2 a3 a4 a5 a6 a7 k, LeO (ledger_changed_any.f D k a0 a1 a2 a3 a4 a5 a6 a7) (ledger_changed_any.f D (k + 1) a0 a1 a2 a3 a4 a5 a6 a7) := by
 intro a0 a1 a2 a3 a4 a5 a6 a7 k
 have ih0 := ledger_changed_any.mono_l D hM k
 unfold ledger_changed_any.f
 repeat' (with_reducible first | exact ih0 _ _ _ _ _ _ _ _ _ _ _ | exact hM _ _ _ _ _ _ _ _ _ _ _ | exact ledger_book_account.mono _ _ _ _ | exact ledger_book_mark.mono _ _ _ _ | exact LeO.refl _ | exact LeO.none _ | apply LeO.ite | refine LeO.bind ?_ (fun _ => ?_))
def ledger_changed_any.T7 : Bool × List (List Nat × List Nat) := (true, [([], []), ([], []), ([1], [1]), ([], []), ([2, 3], [2, 3]), ([4], [4]), ([], []), ([6], [6]), ([0, 5, 7], [0, 5, 7]), ([8], [8]), ([9], [9]), ([9], [9]), ([], []), ([12, 10, 8, 0, 1, 2, 3, 4, 5, 6, 7, 8, 9, 10, 12], [10, 12]), ([11, 13, 0, 1, 2, 3, 4, 5, 6, 7, 8, 9, 10, 11, 12, 13], [11])])
def ledger_changed_any.B7 : List Nat := [0, 0, 2, 0, 14, 30, 0, 64, 255, 511, 1023, 1023, 0, 6143, 16383]
theorem ledger_changed_any.tab7 : rtab .any (opsOf Try.f41 7) = ledger_changed_any.T7 := by kernel_rfl
theorem ledger_changed_any.bits7 : waitsOk ledger_changed_any.T7.2 ledger_changed_any.B7 = true := by kernel_rfl
theorem ledger_changed_any.calls (f_ : FuncId) (fn_ : Func) (hf_ : Try.prog.funcs[f_]? = some fn_) (hname_ : (fn_.name == "runtime.NumGoroutine") = false) (hb_ : fn_.body.isSome = true) (D : Nat → ByteArray → Int → Int → Int → Int → Int → Int → Int → ByteArray → Int → Option (ByteArray × Int × Int × Int × Int × Int × Int × Int)) (hD : ∀ (k : Nat) (a0_0 : ByteArray) (a0_1 : Int) (a0_2 : Int) (a0_3 : Int) (a0_4 : Int) (a0_5 : Int) (a0_6 : Int) (a1_0 : Int) (a1_1 : ByteArray) (a1_2 : Int) (r1 : ByteArray) (r2 : Int) (r3 : Int) (r4 : Int) (r5 : Int) (r6 : Int) (r7 : Int) (r8 : Int) (w : World), D k a0_0 a0_1 a0_2 a0_3 a0_4 a0_5 a0_6 a1_0 a1_1 a1_2 = some (r1, r2, r3, r4, r5, r6, r7, r8) → Calls Try.prog f_ #[.agg #[.string a0_0, .int .i64 a0_1, .int .i64 a0_2, .int .i64 a0_3, .int .i64 a0_4, .int .i64 a0_5, .int .i64 a0_6], .agg #[.int .i64 a1_0, .string a1_1, .int .i64 a1_2]] w fun e w' => e = .returned (.tuple #[.agg #[.string r1, .int .i64 r2, .int .i64 r3, .int .i64 r4, .int .i64 r5, .int .i64 r6, .int .i64 r7], .int .i64 r8]) ∧ Below w.heap.size w w') (k : Nat) (A0_0 : Option Addr) (c0_0 : Nat) (l0_0 : List (S51)) (A0_1 : Option Addr) (c0_1 : Nat) (l0_1 : List (S64)) (a1_0 : ByteArray) (a1_1 : Int) (a1_2 : ByteArray) (a1_3 : Int) (a1_4 : Int) (a2 : Int) (r1 : List (S51)) (r2 : List (S64)) (r3 : Int) (w : World) (hr0_0 : Kd.C k51 w A0_0 l0_0.length l0_0) (hc0_0 : l0_0.length ≤ c0_0) (hr0_1 : Kd.C k64 w A0_1 l0_1.length l0_1) (hc0_1 : l0_1.length ≤ c0_1) (h : ledger_changed_any.f D k l0_0 l0_1 a1_0 a1_1 a1_2 a1_3 a1_4 a2 = some (r1, r2, r3)) :
  Calls Try.prog 41 #[.agg #[.slice A0_0 l0_0.length c0_0, .slice A0_1 l0_1.length c0_1], .agg #[.string a1_0, .int .i64 a1_1, .string a1_2, .int .i64 a1_3, .int .i64 a1_4], .func (.func f_) #[] #[]] w fun e w' => ∃ v0_ v1_ : Value, e = .returned (.tuple #[.agg #[v0_, v1_], .int .i64 r3]) ∧ Kd.R k51 51 w' w.heap.size (fun _ => True) v0_ r1 ∧ Kd.R k64 64 w' w.heap.size (fun _ => True) v1_ r2 ∧ Below w.heap.size w w' := by
 have hu25 := Try.underlying25
 have hu64 := Try.underlying64
 have hu71 := Try.underlying71
 have hu51 := Try.underlying51
 have hu27 := Try.underlying27
 have HR0_0 := My.am hr0_0
 have HC0_0 := My.am hc0_0
 clear hr0_0 hc0_0
 have HR0_1 := My.am hr0_1
 have HC0_1 := My.am hc0_1
 clear hr0_1 hc0_1
 have HB := My.am (Below.refl w.heap.size w)
 unfold ledger_changed_any.f at h
 have H := h
 clear h
 replace H := Option.bind_eq_some_iff.mp H
 obtain ⟨⟨t221, t222⟩, A40, H⟩ := H
 try dsimp only at H
 have A4 := My.am A40
 clear A40
 by_cases c5 : t222 = true
 ·subst c5
  rw [if_pos rfl] at H
  replace H := Option.bind_eq_some_iff.mp H
  obtain ⟨⟨t223, t224⟩, A60, H⟩ := H
  try dsimp only at H
  have A6 := My.am A60
  clear A60
  have HC7 := My.am H
  clear H
  go_enter Try.func41, Try.ntmps41
  go_upto_region 5 with (first | ((with_reducible refine gate_dst (N := 3) rfl ?_); (try (refine gate_guard (by rfl) ?_; dsimp only)); refine My.bx 3 #[.slice A0_0 l0_0.length c0_0, .slice A0_1 l0_1.length c0_1] 25 ?_; intro gb218 hg w8 hbox hb; have BK218 := My.am (hbox); have GE218 := My.nge hg (My.bl_ HB); replace HB := My.st HB hb; clear hb hbox hg) | ((with_reducible refine gate_dst (N := 4) rfl ?_); (try (refine gate_guard (by rfl) ?_; dsimp only)); refine My.bx 4 #[.string a1_0, .int .i64 a1_1, .string a1_2, .int .i64 a1_3, .int .i64 a1_4] 64 ?_; intro gb219 hg w9 hbox hb; have BK219 := My.am (hbox); have GE219 := My.nge hg (My.bl_ HB); replace HB := My.st HB hb; obtain ⟨NB218_219, NB219_218, BK218⟩ := My.nb hg hb BK218; clear hb hbox hg) | ((with_reducible refine gate_dst (N := 6) rfl ?_); (try (refine gate_guard (by rfl) ?_; dsimp only)); refine My.bx 6 #[.slice none 0 0, .slice none 0 0] 25 ?_; intro gb220 hg w10 hbox hb; have BK220 := My.am (hbox); have GE220 := My.nge hg (My.bl_ HB); replace HB := My.st HB hb; obtain ⟨NB218_220, NB220_218, BK218⟩ := My.nb hg hb BK218; obtain ⟨NB219_220, NB220_219, BK219⟩ := My.nb hg hb BK219; clear hb hbox hg; have hnb11 := NB218_219.out; have hnc11 := NB219_218.out; have hnb12 := NB218_220.out; have hnc12 := NB220_218.out; have hq13 := My.cz2 BK218; have hnb14 := NB219_220.out; have hnc14 := NB220_219.out; have hq15 := My.cz5 BK219) | ((with_reducible refine gate_callee (f := 32) rfl ?_); refine goesL_ (some 21) rfl rfl Try.func32 (by kernel_rfl) rfl #[.agg #[.slice A0_0 l0_0.length c0_0, .slice A0_1 l0_1.length c0_1], .string a1_2] rfl My.gx ?_; (with_reducible refine (ledger_book_account.calls k _ _ l0_0 _ _ l0_1 a1_2 t221 true _ ?side1 ?side2 ?side3 ?side4 A4.out).mono ?_); (case side1 => exact My.sd_ HR0_0 HB); (case side2 => exact HC0_0.out); (case side3 => exact My.sd_ HR0_1 HB); (case side4 => exact HC0_1.out); rintro e w16 ⟨rfl, hb⟩; refine ⟨_, rfl, ?_⟩; replace BK218 := My.ab BK218 hb; replace BK219 := My.ab BK219 hb; replace BK220 := My.ab BK220 hb; replace HB := My.st HB hb; (try clear hb); have hq17 := My.cz2 BK218; have hq18 := My.cz5 BK219) | ((with_reducible refine gate_callee (f := 40) rfl ?_); refine goesL_ (some 32) rfl rfl Try.func40 (by kernel_rfl) rfl #[.agg #[.slice A0_0 l0_0.length c0_0, .slice A0_1 l0_1.length c0_1], .string a1_0] rfl My.gx ?_; (with_reducible refine (ledger_book_mark.calls k _ _ l0_0 _ _ l0_1 a1_0 t223 t224 _ ?side1 ?side2 ?side3 ?side4 A6.out).mono ?_); (case side1 => exact My.sd_ HR0_0 HB); (case side2 => exact HC0_0.out); (case side3 => exact My.sd_ HR0_1 HB); (case side4 => exact HC0_1.out); rintro e w19 ⟨rfl, hb⟩; refine ⟨_, rfl, ?_⟩; replace BK218 := My.ab BK218 hb; replace BK219 := My.ab BK219 hb; replace BK220 := My.ab BK220 hb; replace HB := My.st HB hb; (try clear hb)))
  (try simp only [Act.put, List.setIfInBounds_toArray, List.set_cons_zero, List.set_cons_succ])
  go_cut [42] (fun v42 wc => ∃ (kq : Nat) (x42_6 : Bool), v42 = .bool x42_6 ∧ Aside0 (ledger_changed_any.j0 D kq t221 t223 t224 x42_6 l0_0 l0_1 a1_0 a1_1 a1_2 a1_3 a1_4 = some (r1, r2, r3)) ∧ Aside0 (kq ≤ k) ∧ Aside0 (wc.heap[gb218]? = some (.cells #[(.slice A0_0 l0_0.length c0_0), (.slice A0_1 l0_1.length c0_1)] 25 (0, 0))) ∧ Aside0 (wc.heap[gb219]? = some (.cells #[.string a1_0, .int .i64 a1_1, .string a1_2, .int .i64 a1_3, .int .i64 a1_4] 64 (0, 0))) ∧ Aside0 (wc.heap[gb220]? = some (.cells #[(.slice none 0 0), (.slice none 0 0)] 25 (0, 0))) ∧ Aside0 (Below w.heap.size w wc))
  case first =>
   have H := HC7.out
   clear HC7
   by_cases c20 : t224 = true
   ·subst c20
    rw [if_pos rfl] at H
    have H' := My.am H
    clear H
    go_wp2
    go_meet
    case rel => exact ⟨_, (false), My.r1, H', ⟨My.r4⟩, ⟨(My.at_ BK218)⟩, ⟨(My.at_ BK219)⟩, ⟨(My.at_ BK220)⟩, ⟨(My.bl_ HB)⟩⟩
   replace c20 := Bool.eq_false_iff.mpr c20
   subst c20
   rw [if_neg (show ¬ (false = true) by decide)] at H
   have H' := My.am H
   clear H
   have hnb21 := NB218_219.out
   have hnc21 := NB219_218.out
   have hnb22 := NB218_220.out
   have hnc22 := NB220_218.out
   have hq23 := My.cz2 BK218
   go_wp2
   go_meet
   case rel => exact ⟨_, (((l0_1.length : Int) == 500)), My.r1, H', ⟨My.r4⟩, ⟨(My.at_ BK218)⟩, ⟨(My.at_ BK219)⟩, ⟨(My.at_ BK220)⟩, ⟨(My.bl_ HB)⟩⟩
  case rest =>
   clear HC7
   try clear c5
   try clear hq13
   try clear hq15
   try clear hq17
   try clear hq18
   obtain ⟨kq, x42_6, rfl, HA, HJ6, BK218, BK219, BK220, HB⟩ := hcut
   cases kq with
   | zero => exact absurd HA.out (by simp [ledger_changed_any.j0])
   | succ kj6 =>
    have H := HA.out
    clear HA
    simp only [ledger_changed_any.j0] at H
    by_cases c24 : x42_6 = true
    ·subst c24
     rw [if_pos rfl] at H
     simp only [Option.some.injEq, Prod.mk.injEq] at H
     obtain ⟨rfl, rfl, rfl⟩ := H
     have hnb25 := NB220_218.out
     have hnc25 := NB218_220.out
     have hnb26 := NB220_219.out
     have hnc26 := NB219_220.out
     have hq27 := My.cz2 BK220
     go_wp2_with ((with_reducible refine My.park_ ?_); intro X_ hX_)
     (try rw [hX_.out])
     refine bodyPost_ret (results_ct rfl _ _ gb220 25 #[.slice none 0 0, .slice none 0 0] (0, 0) _ rfl ((My.sv_ BK220)) Try.underlying25 rfl (by kernel_rfl)) rfl ?_
     exact ⟨_, _, My.r2, My.r3, My.r3, (My.bl_ HB)⟩
    replace c24 := Bool.eq_false_iff.mpr c24
    subst c24
    rw [if_neg (show ¬ (false = true) by decide)] at H
    replace H := My.ds H
    obtain ⟨c28b0, H⟩ := H
    replace H := My.ds H
    obtain ⟨c29b0, H⟩ := H
    replace H := Option.bind_eq_some_iff.mp H
    obtain ⟨⟨t226, t227, t228, t229, t230, t231, t232, t233⟩, A300, H⟩ := H
    try dsimp only at H
    have A30 := My.am A300
    clear A300
    by_cases c31 : t233 = 0
    rotate_left
    ·rw [if_neg c31] at H
     have c31b0 : (t233 == 0) = false := beq_eq_false_iff_ne.mpr c31
     have c31b1 : (t233 != 0) = true := bne_iff_ne.mpr c31
     simp only [Option.some.injEq, Prod.mk.injEq] at H
     obtain ⟨rfl, rfl, rfl⟩ := H
     try go_wp2
     replace BK218 := My.am (blk_drew BK218.out)
     replace BK219 := My.am (blk_drew BK219.out)
     replace BK220 := My.am (blk_drew BK220.out)
     replace HB := My.am (below_drew1 HB.out)
     have p225 : 0 ≤ (t221 : Int) := My.as_
     have q225 : t221 < (l0_0.length : Int) := My.as_
     obtain ⟨ad225, e225, hx225_0, hx225_1, hx225_2, hx225_3, hx225_4, hx225_5, hx225_6⟩ := at_T51 HR0_0.out t221 p225 q225
     have hw225_6 := hx225_6
     have hw225_5 := hx225_5
     have hw225_4 := hx225_4
     have hw225_3 := hx225_3
     have hw225_2 := hx225_2
     have hw225_1 := hx225_1
     have hw225_0 := hx225_0
     cases e225
     replace hx225_0 := My.up HB hx225_0
     replace hx225_1 := My.up HB hx225_1
     replace hx225_2 := My.up HB hx225_2
     replace hx225_3 := My.up HB hx225_3
     replace hx225_4 := My.up HB hx225_4
     replace hx225_5 := My.up HB hx225_5
     replace hx225_6 := My.up HB hx225_6
     replace p225 := eq_true p225
     replace q225 := eq_true q225
     refine start_ (n := 15) (S := fun w' => w'.cell? ⟨gb218, 0, none⟩ = some (.slice (some ad225) l0_0.length c0_0) ∧ w'.cell? ⟨gb218, 1, none⟩ = some (.slice A0_1 l0_1.length c0_1) ∧ w'.cell? ⟨gb219, 0, none⟩ = some (.string a1_0) ∧ w'.cell? ⟨gb219, 1, none⟩ = some (.int .i64 a1_1) ∧ w'.cell? ⟨gb219, 2, none⟩ = some (.string a1_2) ∧ w'.cell? ⟨gb219, 3, none⟩ = some (.int .i64 a1_3) ∧ w'.cell? ⟨gb219, 4, none⟩ = some (.int .i64 a1_4) ∧ w'.cell? (ad225.add ((t221).toNat * 7)) = some (.string ((rd_T51 l0_0 t221).f0)) ∧ w'.cell? ⟨(ad225.add ((t221).toNat * 7)).block, (ad225.add ((t221).toNat * 7)).off + 1, none⟩ = some (.int .i64 ((rd_T51 l0_0 t221).f1.f0)) ∧ w'.cell? ⟨(ad225.add ((t221).toNat * 7)).block, (ad225.add ((t221).toNat * 7)).off + 2, none⟩ = some (.int .i64 ((rd_T51 l0_0 t221).f1.f1)) ∧ w'.cell? ⟨(ad225.add ((t221).toNat * 7)).block, (ad225.add ((t221).toNat * 7)).off + 3, none⟩ = some (.int .i64 ((rd_T51 l0_0 t221).f1.f2)) ∧ w'.cell? ⟨(ad225.add ((t221).toNat * 7)).block, (ad225.add ((t221).toNat * 7)).off + 4, none⟩ = some (.int .i64 ((rd_T51 l0_0 t221).f2.f0)) ∧ w'.cell? ⟨(ad225.add ((t221).toNat * 7)).block, (ad225.add ((t221).toNat * 7)).off + 5, none⟩ = some (.int .i64 ((rd_T51 l0_0 t221).f2.f1)) ∧ w'.cell? ⟨(ad225.add ((t221).toNat * 7)).block, (ad225.add ((t221).toNat * 7)).off + 6, none⟩ = some (.int .i64 ((rd_T51 l0_0 t221).f2.f2))) (ds := []) #[false, false, false, false, false, false, false, false, false, false, false, false, false, false, false] (by kernel_rfl) rfl rfl ⟨My.b_ BK218 0, My.b_ BK218 1, My.b_ BK219 0, My.b_ BK219 1, My.b_ BK219 2, My.b_ BK219 3, My.b_ BK219 4, (My.up HB hw225_0), (My.up HB hw225_1), (My.up HB hw225_2), (My.up HB hw225_3), (My.up HB hw225_4), (My.up HB hw225_5), (My.up HB hw225_6)⟩ (fun hHeld => ?_); refine with_tabW ledger_changed_any.tab7 ledger_changed_any.bits7 (fun HT_ HW_ => ?_)
     generalize wc.drew = w111 at BK218 BK219 BK220 HB hx225_0 hx225_1 hx225_2 hx225_3 hx225_4 hx225_5 hx225_6 hHeld ⊢
     refine My.pu_ 0 45 15 HT_.out ?_
     refine My.pu_ 1 46 15 HT_.out ?_
     refine My.pv_ 3 48 15 11 HT_.out ?_
     refine My.pv_ 6 51 15 75 HT_.out ?_
     refine My.tv_ 2 47 15 79 HT_.out HW_.out hHeld rfl rfl (by rintro w' ⟨s0, s1, s2, s3, s4, s5, s6, s7, s8, s9, s10, s11, s12, s13⟩; go_simp; with_reducible rfl) ?_
     refine My.pv_ 4 49 15 95 HT_.out ?_
     refine My.tv_ 5 50 15 127 HT_.out HW_.out hHeld rfl rfl (by rintro w' ⟨s0, s1, s2, s3, s4, s5, s6, s7, s8, s9, s10, s11, s12, s13⟩; go_simp; with_reducible rfl) ?_
     refine My.ta_ 7 52 15 HT_.out HW_.out hHeld rfl rfl (by rintro w' ⟨s0, s1, s2, s3, s4, s5, s6, s7, s8, s9, s10, s11, s12, s13⟩; go_simp; with_reducible rfl) ?_
     refine join_ (σ := Nat) 2 (My.Mb 15 8191) (fun s_ => [(53, .tuple #[.agg #[.string t226, .int .i64 t227, .int .i64 t228, .int .i64 t229, .int .i64 t230, .int .i64 t231, .int .i64 t232], .int .i64 t233]), (12, .pointer (some ⟨s_, 0, none⟩)), (44, .tuple #[.agg #[.string t226, .int .i64 t227, .int .i64 t228, .int .i64 t229, .int .i64 t230, .int .i64 t231, .int .i64 t232], .int .i64 t233]), (54, .agg #[.string t226, .int .i64 t227, .int .i64 t228, .int .i64 t229, .int .i64 t230, .int .i64 t231, .int .i64 t232]), (55, .int .i64 t233)]) (fun s_ w' => (w'.cell? ⟨gb218, 0, none⟩ = some (.slice (some ad225) l0_0.length c0_0) ∧ w'.cell? ⟨gb218, 1, none⟩ = some (.slice A0_1 l0_1.length c0_1) ∧ w'.cell? ⟨gb219, 0, none⟩ = some (.string a1_0) ∧ w'.cell? ⟨gb219, 1, none⟩ = some (.int .i64 a1_1) ∧ w'.cell? ⟨gb219, 2, none⟩ = some (.string a1_2) ∧ w'.cell? ⟨gb219, 3, none⟩ = some (.int .i64 a1_3) ∧ w'.cell? ⟨gb219, 4, none⟩ = some (.int .i64 a1_4) ∧ w'.cell? (ad225.add ((t221).toNat * 7)) = some (.string ((rd_T51 l0_0 t221).f0)) ∧ w'.cell? ⟨(ad225.add ((t221).toNat * 7)).block, (ad225.add ((t221).toNat * 7)).off + 1, none⟩ = some (.int .i64 ((rd_T51 l0_0 t221).f1.f0)) ∧ w'.cell? ⟨(ad225.add ((t221).toNat * 7)).block, (ad225.add ((t221).toNat * 7)).off + 2, none⟩ = some (.int .i64 ((rd_T51 l0_0 t221).f1.f1)) ∧ w'.cell? ⟨(ad225.add ((t221).toNat * 7)).block, (ad225.add ((t221).toNat * 7)).off + 3, none⟩ = some (.int .i64 ((rd_T51 l0_0 t221).f1.f2)) ∧ w'.cell? ⟨(ad225.add ((t221).toNat * 7)).block, (ad225.add ((t221).toNat * 7)).off + 4, none⟩ = some (.int .i64 ((rd_T51 l0_0 t221).f2.f0)) ∧ w'.cell? ⟨(ad225.add ((t221).toNat * 7)).block, (ad225.add ((t221).toNat * 7)).off + 5, none⟩ = some (.int .i64 ((rd_T51 l0_0 t221).f2.f1)) ∧ w'.cell? ⟨(ad225.add ((t221).toNat * 7)).block, (ad225.add ((t221).toNat * 7)).off + 6, none⟩ = some (.int .i64 ((rd_T51 l0_0 t221).f2.f2))) ∧ (w'.heap[gb218]? = some (.cells #[.slice (some ad225) l0_0.length c0_0, .slice A0_1 l0_1.length c0_1] 25 (0, 0))) ∧ (w'.heap[gb219]? = some (.cells #[.string a1_0, .int .i64 a1_1, .string a1_2, .int .i64 a1_3, .int .i64 a1_4] 64 (0, 0))) ∧ (w'.heap[gb220]? = some (.cells #[.slice none 0 0, .slice none 0 0] 25 (0, 0))) ∧ (w'.heap[s_]? = some (.cells #[.string (⟨#[]⟩ : ByteArray), .int .i64 0, .int .i64 0, .int .i64 0, .int .i64 0, .int .i64 0, .int .i64 0] 51 (0, 0))) ∧ (w.heap.size ≤ s_) ∧ (w.heap.size ≤ s_) ∧ (gb218 ≠ s_) ∧ (s_ ≠ gb218) ∧ (gb219 ≠ s_) ∧ (s_ ≠ gb219) ∧ (gb220 ≠ s_) ∧ (s_ ≠ gb220) ∧ (Below w.heap.size w w')) ?_ ?_
     rotate_left
     ·intro hCont
      refine two_ (i := 8) (j := 12) (Ni := some 53) (Nj := some 12) (My.Mb 15 511) (My.Mb 15 4351) rfl rfl rfl rfl (two_of HT_.out (by kernel_rfl)) (by decide) (by decide) (fun K hK => ?_) (fun K hK => ?_)
      ·skip
       refine My.goesW_ (f := f_) (first := #[]) (cap := #[]) hf_ hname_ hb_ #[.agg #[.string ((rd_T51 l0_0 t221).f0), .int .i64 ((rd_T51 l0_0 t221).f1.f0), .int .i64 ((rd_T51 l0_0 t221).f1.f1), .int .i64 ((rd_T51 l0_0 t221).f1.f2), .int .i64 ((rd_T51 l0_0 t221).f2.f0), .int .i64 ((rd_T51 l0_0 t221).f2.f1), .int .i64 ((rd_T51 l0_0 t221).f2.f2)], .agg #[.int .i64 a1_1, .string a1_2, .int .i64 a1_3]] (by rfl) rfl rfl rfl (by (try simp only [List.map_toArray, List.map_cons, List.map_nil, Array.empty_append, Array.append_empty]); first | done | rfl | (simp only [List.length_drop, List.length_take]; rfl)) ?_
       with_reducible refine (hD kj6 ((rd_T51 l0_0 t221).f0) ((rd_T51 l0_0 t221).f1.f0) ((rd_T51 l0_0 t221).f1.f1) ((rd_T51 l0_0 t221).f1.f2) ((rd_T51 l0_0 t221).f2.f0) ((rd_T51 l0_0 t221).f2.f1) ((rd_T51 l0_0 t221).f2.f2) a1_1 a1_2 a1_3 t226 t227 t228 t229 t230 t231 t232 t233 _ A30.out).mono ?_
       rintro e w112 ⟨rfl, hb⟩
       refine ⟨_, rfl, ?_⟩
       replace BK218 := My.ab BK218 hb
       replace BK219 := My.ab BK219 hb
       replace BK220 := My.ab BK220 hb
       replace HB := My.st HB hb
       (try clear hb)
       (try clear hb2)
       (try clear hk)
       (try clear hi)
       refine hK.out _ _ ⟨My.b_ BK218 0, My.b_ BK218 1, My.b_ BK219 0, My.b_ BK219 1, My.b_ BK219 2, My.b_ BK219 3, My.b_ BK219 4, (My.up HB hw225_0), (My.up HB hw225_1), (My.up HB hw225_2), (My.up HB hw225_3), (My.up HB hw225_4), (My.up HB hw225_5), (My.up HB hw225_6)⟩ (fun hHeld => ?_)
       clear hK K
       refine My.nm 53 ?_
       refine My.pu_ 9 44 15 HT_.out ?_
       refine My.pu_ 10 54 15 HT_.out ?_
       refine My.pu_ 11 55 15 HT_.out ?_
       refine one_ (i := 12) (N := some 12) (My.Mb 15 8191) rfl rfl (one_of HT_.out (by kernel_rfl)) (by decide) (fun K hK => ?_)
       refine box_step ?hg (N := 12) ?hd (cs := #[.string (⟨#[]⟩ : ByteArray), .int .i64 0, .int .i64 0, .int .i64 0, .int .i64 0, .int .i64 0, .int .i64 0]) (t := 51) ?hr ?_; (case hd => rfl); (case hg => rfl); (case hr => first | (go_simp; done) | (go_simp; rfl))
       intro gb234 hg w113 hbox hb
       have BK234 := My.am (hbox)
       have GW234 := My.nge hg (My.bl_ HB)
       have GE234 := My.nge hg (My.bl_ HB)
       replace HB := My.st HB hb
       obtain ⟨NB218_234, NB234_218, BK218⟩ := My.nb hg hb BK218
       obtain ⟨NB219_234, NB234_219, BK219⟩ := My.nb hg hb BK219
       obtain ⟨NB220_234, NB234_220, BK220⟩ := My.nb hg hb BK220
       clear hb hbox hg
       refine hK.out _ _ ⟨My.b_ BK218 0, My.b_ BK218 1, My.b_ BK219 0, My.b_ BK219 1, My.b_ BK219 2, My.b_ BK219 3, My.b_ BK219 4, (My.up HB hw225_0), (My.up HB hw225_1), (My.up HB hw225_2), (My.up HB hw225_3), (My.up HB hw225_4), (My.up HB hw225_5), (My.up HB hw225_6)⟩ (fun hHeld => ?_)
       clear hK K
       refine My.nm 12 ?_
       exact norm_ (by simp only [putAll, Act.put, List.setIfInBounds_toArray, List.set_cons_zero, List.set_cons_succ]) (hCont (gb234) _ ⟨hHeld, (My.at_ BK218), (My.at_ BK219), (My.at_ BK220), (My.at_ BK234), GW234.out, GE234.out, NB218_234.out, NB234_218.out, NB219_234.out, NB234_219.out, NB220_234.out, NB234_220.out, (My.bl_ HB)⟩)
      skip
      refine box_step ?hg (N := 12) ?hd (cs := #[.string (⟨#[]⟩ : ByteArray), .int .i64 0, .int .i64 0, .int .i64 0, .int .i64 0, .int .i64 0, .int .i64 0]) (t := 51) ?hr ?_; (case hd => rfl); (case hg => rfl); (case hr => first | (go_simp; done) | (go_simp; rfl))
      intro gb234 hg w112 hbox hb
      have BK234 := My.am (hbox)
      have GW234 := My.nge hg (My.bl_ HB)
      have GE234 := My.nge hg (My.bl_ HB)
      replace HB := My.st HB hb
      obtain ⟨NB218_234, NB234_218, BK218⟩ := My.nb hg hb BK218
      obtain ⟨NB219_234, NB234_219, BK219⟩ := My.nb hg hb BK219
      obtain ⟨NB220_234, NB234_220, BK220⟩ := My.nb hg hb BK220
      clear hb hbox hg
      refine hK.out _ _ ⟨My.b_ BK218 0, My.b_ BK218 1, My.b_ BK219 0, My.b_ BK219 1, My.b_ BK219 2, My.b_ BK219 3, My.b_ BK219 4, (My.up HB hw225_0), (My.up HB hw225_1), (My.up HB hw225_2), (My.up HB hw225_3), (My.up HB hw225_4), (My.up HB hw225_5), (My.up HB hw225_6)⟩ (fun hHeld => ?_)
      clear hK K
      refine My.nm 12 ?_
      refine one_ (i := 8) (N := some 53) (My.Mb 15 4607) rfl rfl (one_of HT_.out (by kernel_rfl)) (by decide) (fun K hK => ?_)
      refine My.goesW_ (f := f_) (first := #[]) (cap := #[]) hf_ hname_ hb_ #[.agg #[.string ((rd_T51 l0_0 t221).f0), .int .i64 ((rd_T51 l0_0 t221).f1.f0), .int .i64 ((rd_T51 l0_0 t221).f1.f1), .int .i64 ((rd_T51 l0_0 t221).f1.f2), .int .i64 ((rd_T51 l0_0 t221).f2.f0), .int .i64 ((rd_T51 l0_0 t221).f2.f1), .int .i64 ((rd_T51 l0_0 t221).f2.f2)], .agg #[.int .i64 a1_1, .string a1_2, .int .i64 a1_3]] (by rfl) rfl rfl rfl (by (try simp only [List.map_toArray, List.map_cons, List.map_nil, Array.empty_append, Array.append_empty]); first | done | rfl | (simp only [List.length_drop, List.length_take]; rfl)) ?_
      with_reducible refine (hD kj6 ((rd_T51 l0_0 t221).f0) ((rd_T51 l0_0 t221).f1.f0) ((rd_T51 l0_0 t221).f1.f1) ((rd_T51 l0_0 t221).f1.f2) ((rd_T51 l0_0 t221).f2.f0) ((rd_T51 l0_0 t221).f2.f1) ((rd_T51 l0_0 t221).f2.f2) a1_1 a1_2 a1_3 t226 t227 t228 t229 t230 t231 t232 t233 _ A30.out).mono ?_
      rintro e w113 ⟨rfl, hb⟩
      refine ⟨_, rfl, ?_⟩
      replace BK218 := My.ab BK218 hb
      replace BK219 := My.ab BK219 hb
      replace BK220 := My.ab BK220 hb
      replace BK234 := My.ab BK234 hb
      replace HB := My.st HB hb
      (try clear hb)
      (try clear hb2)
      (try clear hk)
      (try clear hi)
      refine hK.out _ _ ⟨My.b_ BK218 0, My.b_ BK218 1, My.b_ BK219 0, My.b_ BK219 1, My.b_ BK219 2, My.b_ BK219 3, My.b_ BK219 4, (My.up HB hw225_0), (My.up HB hw225_1), (My.up HB hw225_2), (My.up HB hw225_3), (My.up HB hw225_4), (My.up HB hw225_5), (My.up HB hw225_6)⟩ (fun hHeld => ?_)
      clear hK K
      refine My.nm 53 ?_
      refine My.pv_ 9 44 15 5119 HT_.out ?_
      refine My.pv_ 10 54 15 6143 HT_.out ?_
      refine My.pv_ 11 55 15 8191 HT_.out ?_
      exact norm_ (by simp only [putAll, Act.put, List.setIfInBounds_toArray, List.set_cons_zero, List.set_cons_succ]) (hCont (gb234) _ ⟨hHeld, (My.at_ BK218), (My.at_ BK219), (My.at_ BK220), (My.at_ BK234), GW234.out, GE234.out, NB218_234.out, NB234_218.out, NB219_234.out, NB234_219.out, NB220_234.out, NB234_220.out, (My.bl_ HB)⟩)
     rintro gb234 w114 ⟨hS_, h0_, h1_, h2_, h3_, h4_, h5_, h6_, h7_, h8_, h9_, h10_, h11_, h12_⟩
     have n0_ : Aside0 (w114.heap[gb218]? = some (.cells #[.slice (some ad225) l0_0.length c0_0, .slice A0_1 l0_1.length c0_1] 25 (0, 0))) := ⟨h0_⟩
     have n1_ : Aside0 (w114.heap[gb219]? = some (.cells #[.string a1_0, .int .i64 a1_1, .string a1_2, .int .i64 a1_3, .int .i64 a1_4] 64 (0, 0))) := ⟨h1_⟩
     have n2_ : Aside0 (w114.heap[gb220]? = some (.cells #[.slice none 0 0, .slice none 0 0] 25 (0, 0))) := ⟨h2_⟩
     have n3_ : Aside0 (w114.heap[gb234]? = some (.cells #[.string (⟨#[]⟩ : ByteArray), .int .i64 0, .int .i64 0, .int .i64 0, .int .i64 0, .int .i64 0, .int .i64 0] 51 (0, 0))) := ⟨h3_⟩
     have n4_ : Aside0 (w.heap.size ≤ gb234) := ⟨h4_⟩
     have n5_ : Aside0 (w.heap.size ≤ gb234) := ⟨h5_⟩
     have n6_ : Aside0 (gb218 ≠ gb234) := ⟨h6_⟩
     have n7_ : Aside0 (gb234 ≠ gb218) := ⟨h7_⟩
     have n8_ : Aside0 (gb219 ≠ gb234) := ⟨h8_⟩
     have n9_ : Aside0 (gb234 ≠ gb219) := ⟨h9_⟩
     have n10_ : Aside0 (gb220 ≠ gb234) := ⟨h10_⟩
     have n11_ : Aside0 (gb234 ≠ gb220) := ⟨h11_⟩
     have n12_ : Aside0 (Below w.heap.size w w114) := ⟨h12_⟩
     clear BK218
     clear BK219
     clear BK220
     clear HB
     clear h0_ h1_ h2_ h3_ h4_ h5_ h6_ h7_ h8_ h9_ h10_ h11_ h12_
     have BK218 := n0_
     have BK219 := n1_
     have BK220 := n2_
     have BK234 := n3_
     have GW234 := n4_
     have GE234 := n5_
     have NB218_234 := n6_
     have NB234_218 := n7_
     have NB219_234 := n8_
     have NB234_219 := n9_
     have NB220_234 := n10_
     have NB234_220 := n11_
     have HB := n12_
     clear n0_ n1_ n2_ n3_ n4_ n5_ n6_ n7_ n8_ n9_ n10_ n11_ n12_
     have hHeld : w114.cell? ⟨gb218, 0, none⟩ = some (.slice (some ad225) l0_0.length c0_0) ∧ w114.cell? ⟨gb218, 1, none⟩ = some (.slice A0_1 l0_1.length c0_1) ∧ w114.cell? ⟨gb219, 0, none⟩ = some (.string a1_0) ∧ w114.cell? ⟨gb219, 1, none⟩ = some (.int .i64 a1_1) ∧ w114.cell? ⟨gb219, 2, none⟩ = some (.string a1_2) ∧ w114.cell? ⟨gb219, 3, none⟩ = some (.int .i64 a1_3) ∧ w114.cell? ⟨gb219, 4, none⟩ = some (.int .i64 a1_4) ∧ w114.cell? (ad225.add ((t221).toNat * 7)) = some (.string ((rd_T51 l0_0 t221).f0)) ∧ w114.cell? ⟨(ad225.add ((t221).toNat * 7)).block, (ad225.add ((t221).toNat * 7)).off + 1, none⟩ = some (.int .i64 ((rd_T51 l0_0 t221).f1.f0)) ∧ w114.cell? ⟨(ad225.add ((t221).toNat * 7)).block, (ad225.add ((t221).toNat * 7)).off + 2, none⟩ = some (.int .i64 ((rd_T51 l0_0 t221).f1.f1)) ∧ w114.cell? ⟨(ad225.add ((t221).toNat * 7)).block, (ad225.add ((t221).toNat * 7)).off + 3, none⟩ = some (.int .i64 ((rd_T51 l0_0 t221).f1.f2)) ∧ w114.cell? ⟨(ad225.add ((t221).toNat * 7)).block, (ad225.add ((t221).toNat * 7)).off + 4, none⟩ = some (.int .i64 ((rd_T51 l0_0 t221).f2.f0)) ∧ w114.cell? ⟨(ad225.add ((t221).toNat * 7)).block, (ad225.add ((t221).toNat * 7)).off + 5, none⟩ = some (.int .i64 ((rd_T51 l0_0 t221).f2.f1)) ∧ w114.cell? ⟨(ad225.add ((t221).toNat * 7)).block, (ad225.add ((t221).toNat * 7)).off + 6, none⟩ = some (.int .i64 ((rd_T51 l0_0 t221).f2.f2)) := hS_
     refine norm_ (a' := ?_) ?_ ?_
     rotate_left
     ·simp only [putAll, Act.put, List.setIfInBounds_toArray, List.set_cons_zero, List.set_cons_succ]
      rfl
     refine one_ (i := 13) (N := none) (My.Mb 15 16383) rfl rfl (one_of HT_.out (by kernel_rfl)) (by decide) (fun K hK => ?_)
     have hs115 : w114.cell? ⟨gb234, 0, none⟩ = some (.string (⟨#[]⟩ : ByteArray)) := My.b_ BK234 0
     have hfs115 := blk_frozen BK234.out 0
     have hns115_0 := NB218_234.out
     have hns115_1 := NB219_234.out
     have hns115_2 := NB220_234.out
     have hms115_0 := NB234_218.out
     have hms115_1 := NB234_219.out
     have hms115_2 := NB234_220.out
     have hs116 : w114.cell? ⟨gb234, 1, none⟩ = some (.int .i64 0) := My.b_ BK234 1
     have hfs116 := blk_frozen BK234.out 1
     have hns116_0 := NB218_234.out
     have hns116_1 := NB219_234.out
     have hns116_2 := NB220_234.out
     have hms116_0 := NB234_218.out
     have hms116_1 := NB234_219.out
     have hms116_2 := NB234_220.out
     have hs117 : w114.cell? ⟨gb234, 2, none⟩ = some (.int .i64 0) := My.b_ BK234 2
     have hfs117 := blk_frozen BK234.out 2
     have hns117_0 := NB218_234.out
     have hns117_1 := NB219_234.out
     have hns117_2 := NB220_234.out
     have hms117_0 := NB234_218.out
     have hms117_1 := NB234_219.out
     have hms117_2 := NB234_220.out
     have hs118 : w114.cell? ⟨gb234, 3, none⟩ = some (.int .i64 0) := My.b_ BK234 3
     have hfs118 := blk_frozen BK234.out 3
     have hns118_0 := NB218_234.out
     have hns118_1 := NB219_234.out
     have hns118_2 := NB220_234.out
     have hms118_0 := NB234_218.out
     have hms118_1 := NB234_219.out
     have hms118_2 := NB234_220.out
     have hs119 : w114.cell? ⟨gb234, 4, none⟩ = some (.int .i64 0) := My.b_ BK234 4
     have hfs119 := blk_frozen BK234.out 4
     have hns119_0 := NB218_234.out
     have hns119_1 := NB219_234.out
     have hns119_2 := NB220_234.out
     have hms119_0 := NB234_218.out
     have hms119_1 := NB234_219.out
     have hms119_2 := NB234_220.out
     have hs120 : w114.cell? ⟨gb234, 5, none⟩ = some (.int .i64 0) := My.b_ BK234 5
     have hfs120 := blk_frozen BK234.out 5
     have hns120_0 := NB218_234.out
     have hns120_1 := NB219_234.out
     have hns120_2 := NB220_234.out
     have hms120_0 := NB234_218.out
     have hms120_1 := NB234_219.out
     have hms120_2 := NB234_220.out
     have hs121 : w114.cell? ⟨gb234, 6, none⟩ = some (.int .i64 0) := My.b_ BK234 6
     have hfs121 := blk_frozen BK234.out 6
     have hns121_0 := NB218_234.out
     have hns121_1 := NB219_234.out
     have hns121_2 := NB220_234.out
     have hms121_0 := NB234_218.out
     have hms121_1 := NB234_219.out
     have hms121_2 := NB234_220.out
     refine skip_ (w1 := ?_) (by rfl) rfl ?_ ?_
     rotate_left
     ·go_simp
      rfl
     refine hK.out _ _ ⟨(My.cf7 NB218_234.out (hHeld.1)), (My.cf7 NB218_234.out (hHeld.2.1)), (My.cf7 NB219_234.out (hHeld.2.2.1)), (My.cf7 NB219_234.out (hHeld.2.2.2.1)), (My.cf7 NB219_234.out (hHeld.2.2.2.2.1)), (My.cf7 NB219_234.out (hHeld.2.2.2.2.2.1)), (My.cf7 NB219_234.out (hHeld.2.2.2.2.2.2.1)), (My.cf7 (My.nw hw225_0 GW234) (hHeld.2.2.2.2.2.2.2.1)), (My.cf7 (My.nw hw225_1 GW234) (hHeld.2.2.2.2.2.2.2.2.1)), (My.cf7 (My.nw hw225_2 GW234) (hHeld.2.2.2.2.2.2.2.2.2.1)), (My.cf7 (My.nw hw225_3 GW234) (hHeld.2.2.2.2.2.2.2.2.2.2.1)), (My.cf7 (My.nw hw225_4 GW234) (hHeld.2.2.2.2.2.2.2.2.2.2.2.1)), (My.cf7 (My.nw hw225_5 GW234) (hHeld.2.2.2.2.2.2.2.2.2.2.2.2.1)), (My.cf7 (My.nw hw225_6 GW234) (hHeld.2.2.2.2.2.2.2.2.2.2.2.2.2))⟩ (fun hHeld => ?_)
     clear hK K
     refine My.pu_ 14 13 15 HT_.out ?_
     refine done_ (done_of HT_.out (by kernel_rfl)) ?_
     have hnb122 := NB220_218.out
     have hnc122 := NB218_220.out
     have hnb123 := NB220_219.out
     have hnc123 := NB219_220.out
     have hnb124 := NB220_234.out
     have hnc124 := NB234_220.out
     have hq125 := My.cz2 BK220
     try go_wp2_with ((with_reducible refine My.park_ ?_); intro X_ hX_)
     (try rw [hX_.out])
     refine bodyPost_ret (results_ct rfl _ _ gb220 25 #[.slice none 0 0, .slice none 0 0] (0, 0) _ rfl ((My.sv_ BK220)) Try.underlying25 rfl (by kernel_rfl)) rfl ?_
     exact ⟨_, _, My.r2, My.r3, My.r3, (My.bl_ HB)⟩
    rw [if_pos c31] at H
    have c31b0 : (t233 == 0) = true := beq_iff_eq.mpr c31
    have c31b1 : (t233 != 0) = false := bne_eq_false_iff_eq.mpr c31
    clear c31
    replace H := Option.bind_eq_some_iff.mp H
    obtain ⟨⟨t235, t238⟩, A320, H⟩ := H
    try dsimp only at H
    have A32 := My.am A320
    clear A320
    replace H := My.ds H
    obtain ⟨c33b0, H⟩ := H
    obtain ⟨y242, hy242⟩ : ∃ y_ : List (S51), y_ = (t235.set (t221 : Int).toNat (⟨t226, (⟨t227, t228, t229⟩ : S49), (⟨t230, t231, t232⟩ : S49)⟩ : S51)) := ⟨_, rfl⟩
    replace H : (if t224 = true then (if 0 ≤ t223 then (if t223 < (t238.length : Int) then (some (y242, (t238.set (t223 : Int).toNat (⟨a1_0, (⟨a1_1, a1_2, a1_3⟩ : S27), a1_4⟩ : S64)), 0)) else (none)) else (none)) else (ledger_changed_e t223 a1_0 a1_1 a1_2 a1_3 a1_4 y242 t238)) = some (r1, r2, r3) := by first | (rw [hy242]; with_reducible exact H) | (have H2_ := (Option.bind_some _ _).symm.trans H; rw [hy242]; with_reducible exact H2_) | (have H2_ := (Option.bind_some _ _).symm.trans H; with_reducible exact H2_) | with_reducible exact H | (rw [hy242]; exact H) | exact H
    have Ny242 := My.am hy242
    clear hy242
    by_cases c35 : t224 = true
    ·subst c35
     rw [if_pos rfl] at H
     replace H := My.ds H
     obtain ⟨c36b0, H⟩ := H
     replace H := My.ds H
     obtain ⟨c37b0, H⟩ := H
     obtain ⟨y243, hy243⟩ : ∃ y_ : List (S64), y_ = (t238.set (t223 : Int).toNat (⟨a1_0, (⟨a1_1, a1_2, a1_3⟩ : S27), a1_4⟩ : S64)) := ⟨_, rfl⟩
     replace H : (some (y242, y243, 0)) = some (r1, r2, r3) := by first | (rw [hy243]; with_reducible exact H) | (have H2_ := (Option.bind_some _ _).symm.trans H; rw [hy243]; with_reducible exact H2_) | (have H2_ := (Option.bind_some _ _).symm.trans H; with_reducible exact H2_) | with_reducible exact H | (rw [hy243]; exact H) | exact H
     have Ny243 := My.am hy243
     clear hy243
     simp only [Option.some.injEq, Prod.mk.injEq] at H
     obtain ⟨rfl, rfl, rfl⟩ := H
     try go_wp2
     replace BK218 := My.am (blk_drew BK218.out)
     replace BK219 := My.am (blk_drew BK219.out)
     replace BK220 := My.am (blk_drew BK220.out)
     replace HB := My.am (below_drew1 HB.out)
     have p225 : 0 ≤ (t221 : Int) := My.as_
     have q225 : t221 < (l0_0.length : Int) := My.as_
     obtain ⟨ad225, e225, hx225_0, hx225_1, hx225_2, hx225_3, hx225_4, hx225_5, hx225_6⟩ := at_T51 HR0_0.out t221 p225 q225
     have hw225_6 := hx225_6
     have hw225_5 := hx225_5
     have hw225_4 := hx225_4
     have hw225_3 := hx225_3
     have hw225_2 := hx225_2
     have hw225_1 := hx225_1
     have hw225_0 := hx225_0
     cases e225
     replace hx225_0 := My.up HB hx225_0
     replace hx225_1 := My.up HB hx225_1
     replace hx225_2 := My.up HB hx225_2
     replace hx225_3 := My.up HB hx225_3
     replace hx225_4 := My.up HB hx225_4
     replace hx225_5 := My.up HB hx225_5
     replace hx225_6 := My.up HB hx225_6
     replace p225 := eq_true p225
     replace q225 := eq_true q225
     refine start_ (n := 15) (S := fun w' => w'.cell? ⟨gb218, 0, none⟩ = some (.slice (some ad225) l0_0.length c0_0) ∧ w'.cell? ⟨gb218, 1, none⟩ = some (.slice A0_1 l0_1.length c0_1) ∧ w'.cell? ⟨gb219, 0, none⟩ = some (.string a1_0) ∧ w'.cell? ⟨gb219, 1, none⟩ = some (.int .i64 a1_1) ∧ w'.cell? ⟨gb219, 2, none⟩ = some (.string a1_2) ∧ w'.cell? ⟨gb219, 3, none⟩ = some (.int .i64 a1_3) ∧ w'.cell? ⟨gb219, 4, none⟩ = some (.int .i64 a1_4) ∧ w'.cell? (ad225.add ((t221).toNat * 7)) = some (.string ((rd_T51 l0_0 t221).f0)) ∧ w'.cell? ⟨(ad225.add ((t221).toNat * 7)).block, (ad225.add ((t221).toNat * 7)).off + 1, none⟩ = some (.int .i64 ((rd_T51 l0_0 t221).f1.f0)) ∧ w'.cell? ⟨(ad225.add ((t221).toNat * 7)).block, (ad225.add ((t221).toNat * 7)).off + 2, none⟩ = some (.int .i64 ((rd_T51 l0_0 t221).f1.f1)) ∧ w'.cell? ⟨(ad225.add ((t221).toNat * 7)).block, (ad225.add ((t221).toNat * 7)).off + 3, none⟩ = some (.int .i64 ((rd_T51 l0_0 t221).f1.f2)) ∧ w'.cell? ⟨(ad225.add ((t221).toNat * 7)).block, (ad225.add ((t221).toNat * 7)).off + 4, none⟩ = some (.int .i64 ((rd_T51 l0_0 t221).f2.f0)) ∧ w'.cell? ⟨(ad225.add ((t221).toNat * 7)).block, (ad225.add ((t221).toNat * 7)).off + 5, none⟩ = some (.int .i64 ((rd_T51 l0_0 t221).f2.f1)) ∧ w'.cell? ⟨(ad225.add ((t221).toNat * 7)).block, (ad225.add ((t221).toNat * 7)).off + 6, none⟩ = some (.int .i64 ((rd_T51 l0_0 t221).f2.f2))) (ds := []) #[false, false, false, false, false, false, false, false, false, false, false, false, false, false, false] (by kernel_rfl) rfl rfl ⟨My.b_ BK218 0, My.b_ BK218 1, My.b_ BK219 0, My.b_ BK219 1, My.b_ BK219 2, My.b_ BK219 3, My.b_ BK219 4, (My.up HB hw225_0), (My.up HB hw225_1), (My.up HB hw225_2), (My.up HB hw225_3), (My.up HB hw225_4), (My.up HB hw225_5), (My.up HB hw225_6)⟩ (fun hHeld => ?_); refine with_tabW ledger_changed_any.tab7 ledger_changed_any.bits7 (fun HT_ HW_ => ?_)
     generalize wc.drew = w39 at BK218 BK219 BK220 HB hx225_0 hx225_1 hx225_2 hx225_3 hx225_4 hx225_5 hx225_6 hHeld ⊢
     refine My.pu_ 0 45 15 HT_.out ?_
     refine My.pu_ 1 46 15 HT_.out ?_
     refine My.pv_ 3 48 15 11 HT_.out ?_
     refine My.pv_ 6 51 15 75 HT_.out ?_
     refine My.tv_ 2 47 15 79 HT_.out HW_.out hHeld rfl rfl (by rintro w' ⟨s0, s1, s2, s3, s4, s5, s6, s7, s8, s9, s10, s11, s12, s13⟩; go_simp; with_reducible rfl) ?_
     refine My.pv_ 4 49 15 95 HT_.out ?_
     refine My.tv_ 5 50 15 127 HT_.out HW_.out hHeld rfl rfl (by rintro w' ⟨s0, s1, s2, s3, s4, s5, s6, s7, s8, s9, s10, s11, s12, s13⟩; go_simp; with_reducible rfl) ?_
     refine My.ta_ 7 52 15 HT_.out HW_.out hHeld rfl rfl (by rintro w' ⟨s0, s1, s2, s3, s4, s5, s6, s7, s8, s9, s10, s11, s12, s13⟩; go_simp; with_reducible rfl) ?_
     refine join_ (σ := Nat) 2 (My.Mb 15 8191) (fun s_ => [(53, .tuple #[.agg #[.string t226, .int .i64 t227, .int .i64 t228, .int .i64 t229, .int .i64 t230, .int .i64 t231, .int .i64 t232], .int .i64 t233]), (12, .pointer (some ⟨s_, 0, none⟩)), (44, .tuple #[.agg #[.string t226, .int .i64 t227, .int .i64 t228, .int .i64 t229, .int .i64 t230, .int .i64 t231, .int .i64 t232], .int .i64 t233]), (54, .agg #[.string t226, .int .i64 t227, .int .i64 t228, .int .i64 t229, .int .i64 t230, .int .i64 t231, .int .i64 t232]), (55, .int .i64 t233)]) (fun s_ w' => (w'.cell? ⟨gb218, 0, none⟩ = some (.slice (some ad225) l0_0.length c0_0) ∧ w'.cell? ⟨gb218, 1, none⟩ = some (.slice A0_1 l0_1.length c0_1) ∧ w'.cell? ⟨gb219, 0, none⟩ = some (.string a1_0) ∧ w'.cell? ⟨gb219, 1, none⟩ = some (.int .i64 a1_1) ∧ w'.cell? ⟨gb219, 2, none⟩ = some (.string a1_2) ∧ w'.cell? ⟨gb219, 3, none⟩ = some (.int .i64 a1_3) ∧ w'.cell? ⟨gb219, 4, none⟩ = some (.int .i64 a1_4) ∧ w'.cell? (ad225.add ((t221).toNat * 7)) = some (.string ((rd_T51 l0_0 t221).f0)) ∧ w'.cell? ⟨(ad225.add ((t221).toNat * 7)).block, (ad225.add ((t221).toNat * 7)).off + 1, none⟩ = some (.int .i64 ((rd_T51 l0_0 t221).f1.f0)) ∧ w'.cell? ⟨(ad225.add ((t221).toNat * 7)).block, (ad225.add ((t221).toNat * 7)).off + 2, none⟩ = some (.int .i64 ((rd_T51 l0_0 t221).f1.f1)) ∧ w'.cell? ⟨(ad225.add ((t221).toNat * 7)).block, (ad225.add ((t221).toNat * 7)).off + 3, none⟩ = some (.int .i64 ((rd_T51 l0_0 t221).f1.f2)) ∧ w'.cell? ⟨(ad225.add ((t221).toNat * 7)).block, (ad225.add ((t221).toNat * 7)).off + 4, none⟩ = some (.int .i64 ((rd_T51 l0_0 t221).f2.f0)) ∧ w'.cell? ⟨(ad225.add ((t221).toNat * 7)).block, (ad225.add ((t221).toNat * 7)).off + 5, none⟩ = some (.int .i64 ((rd_T51 l0_0 t221).f2.f1)) ∧ w'.cell? ⟨(ad225.add ((t221).toNat * 7)).block, (ad225.add ((t221).toNat * 7)).off + 6, none⟩ = some (.int .i64 ((rd_T51 l0_0 t221).f2.f2))) ∧ (w'.heap[gb218]? = some (.cells #[.slice (some ad225) l0_0.length c0_0, .slice A0_1 l0_1.length c0_1] 25 (0, 0))) ∧ (w'.heap[gb219]? = some (.cells #[.string a1_0, .int .i64 a1_1, .string a1_2, .int .i64 a1_3, .int .i64 a1_4] 64 (0, 0))) ∧ (w'.heap[gb220]? = some (.cells #[.slice none 0 0, .slice none 0 0] 25 (0, 0))) ∧ (w'.heap[s_]? = some (.cells #[.string (⟨#[]⟩ : ByteArray), .int .i64 0, .int .i64 0, .int .i64 0, .int .i64 0, .int .i64 0, .int .i64 0] 51 (0, 0))) ∧ (w.heap.size ≤ s_) ∧ (w.heap.size ≤ s_) ∧ (gb218 ≠ s_) ∧ (s_ ≠ gb218) ∧ (gb219 ≠ s_) ∧ (s_ ≠ gb219) ∧ (gb220 ≠ s_) ∧ (s_ ≠ gb220) ∧ (Below w.heap.size w w')) ?_ ?_
     rotate_left
     ·intro hCont
      refine two_ (i := 8) (j := 12) (Ni := some 53) (Nj := some 12) (My.Mb 15 511) (My.Mb 15 4351) rfl rfl rfl rfl (two_of HT_.out (by kernel_rfl)) (by decide) (by decide) (fun K hK => ?_) (fun K hK => ?_)
      ·skip
       refine My.goesW_ (f := f_) (first := #[]) (cap := #[]) hf_ hname_ hb_ #[.agg #[.string ((rd_T51 l0_0 t221).f0), .int .i64 ((rd_T51 l0_0 t221).f1.f0), .int .i64 ((rd_T51 l0_0 t221).f1.f1), .int .i64 ((rd_T51 l0_0 t221).f1.f2), .int .i64 ((rd_T51 l0_0 t221).f2.f0), .int .i64 ((rd_T51 l0_0 t221).f2.f1), .int .i64 ((rd_T51 l0_0 t221).f2.f2)], .agg #[.int .i64 a1_1, .string a1_2, .int .i64 a1_3]] (by rfl) rfl rfl rfl (by (try simp only [List.map_toArray, List.map_cons, List.map_nil, Array.empty_append, Array.append_empty]); first | done | rfl | (simp only [List.length_drop, List.length_take]; rfl)) ?_
       with_reducible refine (hD kj6 ((rd_T51 l0_0 t221).f0) ((rd_T51 l0_0 t221).f1.f0) ((rd_T51 l0_0 t221).f1.f1) ((rd_T51 l0_0 t221).f1.f2) ((rd_T51 l0_0 t221).f2.f0) ((rd_T51 l0_0 t221).f2.f1) ((rd_T51 l0_0 t221).f2.f2) a1_1 a1_2 a1_3 t226 t227 t228 t229 t230 t231 t232 t233 _ A30.out).mono ?_
       rintro e w40 ⟨rfl, hb⟩
       refine ⟨_, rfl, ?_⟩
       replace BK218 := My.ab BK218 hb
       replace BK219 := My.ab BK219 hb
       replace BK220 := My.ab BK220 hb
       replace HB := My.st HB hb
       (try clear hb)
       (try clear hb2)
       (try clear hk)
       (try clear hi)
       refine hK.out _ _ ⟨My.b_ BK218 0, My.b_ BK218 1, My.b_ BK219 0, My.b_ BK219 1, My.b_ BK219 2, My.b_ BK219 3, My.b_ BK219 4, (My.up HB hw225_0), (My.up HB hw225_1), (My.up HB hw225_2), (My.up HB hw225_3), (My.up HB hw225_4), (My.up HB hw225_5), (My.up HB hw225_6)⟩ (fun hHeld => ?_)
       clear hK K
       refine My.nm 53 ?_
       refine My.pu_ 9 44 15 HT_.out ?_
       refine My.pu_ 10 54 15 HT_.out ?_
       refine My.pu_ 11 55 15 HT_.out ?_
       refine one_ (i := 12) (N := some 12) (My.Mb 15 8191) rfl rfl (one_of HT_.out (by kernel_rfl)) (by decide) (fun K hK => ?_)
       refine box_step ?hg (N := 12) ?hd (cs := #[.string (⟨#[]⟩ : ByteArray), .int .i64 0, .int .i64 0, .int .i64 0, .int .i64 0, .int .i64 0, .int .i64 0]) (t := 51) ?hr ?_; (case hd => rfl); (case hg => rfl); (case hr => first | (go_simp; done) | (go_simp; rfl))
       intro gb234 hg w41 hbox hb
       have BK234 := My.am (hbox)
       have GW234 := My.nge hg (My.bl_ HB)
       have GE234 := My.nge hg (My.bl_ HB)
       replace HB := My.st HB hb
       obtain ⟨NB218_234, NB234_218, BK218⟩ := My.nb hg hb BK218
       obtain ⟨NB219_234, NB234_219, BK219⟩ := My.nb hg hb BK219
       obtain ⟨NB220_234, NB234_220, BK220⟩ := My.nb hg hb BK220
       clear hb hbox hg
       refine hK.out _ _ ⟨My.b_ BK218 0, My.b_ BK218 1, My.b_ BK219 0, My.b_ BK219 1, My.b_ BK219 2, My.b_ BK219 3, My.b_ BK219 4, (My.up HB hw225_0), (My.up HB hw225_1), (My.up HB hw225_2), (My.up HB hw225_3), (My.up HB hw225_4), (My.up HB hw225_5), (My.up HB hw225_6)⟩ (fun hHeld => ?_)
       clear hK K
       refine My.nm 12 ?_
       exact norm_ (by simp only [putAll, Act.put, List.setIfInBounds_toArray, List.set_cons_zero, List.set_cons_succ]) (hCont (gb234) _ ⟨hHeld, (My.at_ BK218), (My.at_ BK219), (My.at_ BK220), (My.at_ BK234), GW234.out, GE234.out, NB218_234.out, NB234_218.out, NB219_234.out, NB234_219.out, NB220_234.out, NB234_220.out, (My.bl_ HB)⟩)
      skip
      refine box_step ?hg (N := 12) ?hd (cs := #[.string (⟨#[]⟩ : ByteArray), .int .i64 0, .int .i64 0, .int .i64 0, .int .i64 0, .int .i64 0, .int .i64 0]) (t := 51) ?hr ?_; (case hd => rfl); (case hg => rfl); (case hr => first | (go_simp; done) | (go_simp; rfl))
      intro gb234 hg w40 hbox hb
      have BK234 := My.am (hbox)
      have GW234 := My.nge hg (My.bl_ HB)
      have GE234 := My.nge hg (My.bl_ HB)
      replace HB := My.st HB hb
      obtain ⟨NB218_234, NB234_218, BK218⟩ := My.nb hg hb BK218
      obtain ⟨NB219_234, NB234_219, BK219⟩ := My.nb hg hb BK219
      obtain ⟨NB220_234, NB234_220, BK220⟩ := My.nb hg hb BK220
      clear hb hbox hg
      refine hK.out _ _ ⟨My.b_ BK218 0, My.b_ BK218 1, My.b_ BK219 0, My.b_ BK219 1, My.b_ BK219 2, My.b_ BK219 3, My.b_ BK219 4, (My.up HB hw225_0), (My.up HB hw225_1), (My.up HB hw225_2), (My.up HB hw225_3), (My.up HB hw225_4), (My.up HB hw225_5), (My.up HB hw225_6)⟩ (fun hHeld => ?_)
      clear hK K
      refine My.nm 12 ?_
      refine one_ (i := 8) (N := some 53) (My.Mb 15 4607) rfl rfl (one_of HT_.out (by kernel_rfl)) (by decide) (fun K hK => ?_)
      refine My.goesW_ (f := f_) (first := #[]) (cap := #[]) hf_ hname_ hb_ #[.agg #[.string ((rd_T51 l0_0 t221).f0), .int .i64 ((rd_T51 l0_0 t221).f1.f0), .int .i64 ((rd_T51 l0_0 t221).f1.f1), .int .i64 ((rd_T51 l0_0 t221).f1.f2), .int .i64 ((rd_T51 l0_0 t221).f2.f0), .int .i64 ((rd_T51 l0_0 t221).f2.f1), .int .i64 ((rd_T51 l0_0 t221).f2.f2)], .agg #[.int .i64 a1_1, .string a1_2, .int .i64 a1_3]] (by rfl) rfl rfl rfl (by (try simp only [List.map_toArray, List.map_cons, List.map_nil, Array.empty_append, Array.append_empty]); first | done | rfl | (simp only [List.length_drop, List.length_take]; rfl)) ?_
      with_reducible refine (hD kj6 ((rd_T51 l0_0 t221).f0) ((rd_T51 l0_0 t221).f1.f0) ((rd_T51 l0_0 t221).f1.f1) ((rd_T51 l0_0 t221).f1.f2) ((rd_T51 l0_0 t221).f2.f0) ((rd_T51 l0_0 t221).f2.f1) ((rd_T51 l0_0 t221).f2.f2) a1_1 a1_2 a1_3 t226 t227 t228 t229 t230 t231 t232 t233 _ A30.out).mono ?_
      rintro e w41 ⟨rfl, hb⟩
      refine ⟨_, rfl, ?_⟩
      replace BK218 := My.ab BK218 hb
      replace BK219 := My.ab BK219 hb
      replace BK220 := My.ab BK220 hb
      replace BK234 := My.ab BK234 hb
      replace HB := My.st HB hb
      (try clear hb)
      (try clear hb2)
      (try clear hk)
      (try clear hi)
      refine hK.out _ _ ⟨My.b_ BK218 0, My.b_ BK218 1, My.b_ BK219 0, My.b_ BK219 1, My.b_ BK219 2, My.b_ BK219 3, My.b_ BK219 4, (My.up HB hw225_0), (My.up HB hw225_1), (My.up HB hw225_2), (My.up HB hw225_3), (My.up HB hw225_4), (My.up HB hw225_5), (My.up HB hw225_6)⟩ (fun hHeld => ?_)
      clear hK K
      refine My.nm 53 ?_
      refine My.pv_ 9 44 15 5119 HT_.out ?_
      refine My.pv_ 10 54 15 6143 HT_.out ?_
      refine My.pv_ 11 55 15 8191 HT_.out ?_
      exact norm_ (by simp only [putAll, Act.put, List.setIfInBounds_toArray, List.set_cons_zero, List.set_cons_succ]) (hCont (gb234) _ ⟨hHeld, (My.at_ BK218), (My.at_ BK219), (My.at_ BK220), (My.at_ BK234), GW234.out, GE234.out, NB218_234.out, NB234_218.out, NB219_234.out, NB234_219.out, NB220_234.out, NB234_220.out, (My.bl_ HB)⟩)
     rintro gb234 w42 ⟨hS_, h0_, h1_, h2_, h3_, h4_, h5_, h6_, h7_, h8_, h9_, h10_, h11_, h12_⟩
     have n0_ : Aside0 (w42.heap[gb218]? = some (.cells #[.slice (some ad225) l0_0.length c0_0, .slice A0_1 l0_1.length c0_1] 25 (0, 0))) := ⟨h0_⟩
     have n1_ : Aside0 (w42.heap[gb219]? = some (.cells #[.string a1_0, .int .i64 a1_1, .string a1_2, .int .i64 a1_3, .int .i64 a1_4] 64 (0, 0))) := ⟨h1_⟩
     have n2_ : Aside0 (w42.heap[gb220]? = some (.cells #[.slice none 0 0, .slice none 0 0] 25 (0, 0))) := ⟨h2_⟩
     have n3_ : Aside0 (w42.heap[gb234]? = some (.cells #[.string (⟨#[]⟩ : ByteArray), .int .i64 0, .int .i64 0, .int .i64 0, .int .i64 0, .int .i64 0, .int .i64 0] 51 (0, 0))) := ⟨h3_⟩
     have n4_ : Aside0 (w.heap.size ≤ gb234) := ⟨h4_⟩
     have n5_ : Aside0 (w.heap.size ≤ gb234) := ⟨h5_⟩
     have n6_ : Aside0 (gb218 ≠ gb234) := ⟨h6_⟩
     have n7_ : Aside0 (gb234 ≠ gb218) := ⟨h7_⟩
     have n8_ : Aside0 (gb219 ≠ gb234) := ⟨h8_⟩
     have n9_ : Aside0 (gb234 ≠ gb219) := ⟨h9_⟩
     have n10_ : Aside0 (gb220 ≠ gb234) := ⟨h10_⟩
     have n11_ : Aside0 (gb234 ≠ gb220) := ⟨h11_⟩
     have n12_ : Aside0 (Below w.heap.size w w42) := ⟨h12_⟩
     clear BK218
     clear BK219
     clear BK220
     clear HB
     clear h0_ h1_ h2_ h3_ h4_ h5_ h6_ h7_ h8_ h9_ h10_ h11_ h12_
     have BK218 := n0_
     have BK219 := n1_
     have BK220 := n2_
     have BK234 := n3_
     have GW234 := n4_
     have GE234 := n5_
     have NB218_234 := n6_
     have NB234_218 := n7_
     have NB219_234 := n8_
     have NB234_219 := n9_
     have NB220_234 := n10_
     have NB234_220 := n11_
     have HB := n12_
     clear n0_ n1_ n2_ n3_ n4_ n5_ n6_ n7_ n8_ n9_ n10_ n11_ n12_
     have hHeld : w42.cell? ⟨gb218, 0, none⟩ = some (.slice (some ad225) l0_0.length c0_0) ∧ w42.cell? ⟨gb218, 1, none⟩ = some (.slice A0_1 l0_1.length c0_1) ∧ w42.cell? ⟨gb219, 0, none⟩ = some (.string a1_0) ∧ w42.cell? ⟨gb219, 1, none⟩ = some (.int .i64 a1_1) ∧ w42.cell? ⟨gb219, 2, none⟩ = some (.string a1_2) ∧ w42.cell? ⟨gb219, 3, none⟩ = some (.int .i64 a1_3) ∧ w42.cell? ⟨gb219, 4, none⟩ = some (.int .i64 a1_4) ∧ w42.cell? (ad225.add ((t221).toNat * 7)) = some (.string ((rd_T51 l0_0 t221).f0)) ∧ w42.cell? ⟨(ad225.add ((t221).toNat * 7)).block, (ad225.add ((t221).toNat * 7)).off + 1, none⟩ = some (.int .i64 ((rd_T51 l0_0 t221).f1.f0)) ∧ w42.cell? ⟨(ad225.add ((t221).toNat * 7)).block, (ad225.add ((t221).toNat * 7)).off + 2, none⟩ = some (.int .i64 ((rd_T51 l0_0 t221).f1.f1)) ∧ w42.cell? ⟨(ad225.add ((t221).toNat * 7)).block, (ad225.add ((t221).toNat * 7)).off + 3, none⟩ = some (.int .i64 ((rd_T51 l0_0 t221).f1.f2)) ∧ w42.cell? ⟨(ad225.add ((t221).toNat * 7)).block, (ad225.add ((t221).toNat * 7)).off + 4, none⟩ = some (.int .i64 ((rd_T51 l0_0 t221).f2.f0)) ∧ w42.cell? ⟨(ad225.add ((t221).toNat * 7)).block, (ad225.add ((t221).toNat * 7)).off + 5, none⟩ = some (.int .i64 ((rd_T51 l0_0 t221).f2.f1)) ∧ w42.cell? ⟨(ad225.add ((t221).toNat * 7)).block, (ad225.add ((t221).toNat * 7)).off + 6, none⟩ = some (.int .i64 ((rd_T51 l0_0 t221).f2.f2)) := hS_
     refine norm_ (a' := ?_) ?_ ?_
     rotate_left
     ·simp only [putAll, Act.put, List.setIfInBounds_toArray, List.set_cons_zero, List.set_cons_succ]
      rfl
     refine one_ (i := 13) (N := none) (My.Mb 15 16383) rfl rfl (one_of HT_.out (by kernel_rfl)) (by decide) (fun K hK => ?_)
     have hs43 : w42.cell? ⟨gb234, 0, none⟩ = some (.string (⟨#[]⟩ : ByteArray)) := My.b_ BK234 0
     have hfs43 := blk_frozen BK234.out 0
     have hns43_0 := NB218_234.out
     have hns43_1 := NB219_234.out
     have hns43_2 := NB220_234.out
     have hms43_0 := NB234_218.out
     have hms43_1 := NB234_219.out
     have hms43_2 := NB234_220.out
     have hs44 : w42.cell? ⟨gb234, 1, none⟩ = some (.int .i64 0) := My.b_ BK234 1
     have hfs44 := blk_frozen BK234.out 1
     have hns44_0 := NB218_234.out
     have hns44_1 := NB219_234.out
     have hns44_2 := NB220_234.out
     have hms44_0 := NB234_218.out
     have hms44_1 := NB234_219.out
     have hms44_2 := NB234_220.out
     have hs45 : w42.cell? ⟨gb234, 2, none⟩ = some (.int .i64 0) := My.b_ BK234 2
     have hfs45 := blk_frozen BK234.out 2
     have hns45_0 := NB218_234.out
     have hns45_1 := NB219_234.out
     have hns45_2 := NB220_234.out
     have hms45_0 := NB234_218.out
     have hms45_1 := NB234_219.out
     have hms45_2 := NB234_220.out
     have hs46 : w42.cell? ⟨gb234, 3, none⟩ = some (.int .i64 0) := My.b_ BK234 3
     have hfs46 := blk_frozen BK234.out 3
     have hns46_0 := NB218_234.out
     have hns46_1 := NB219_234.out
     have hns46_2 := NB220_234.out
     have hms46_0 := NB234_218.out
     have hms46_1 := NB234_219.out
     have hms46_2 := NB234_220.out
     have hs47 : w42.cell? ⟨gb234, 4, none⟩ = some (.int .i64 0) := My.b_ BK234 4
     have hfs47 := blk_frozen BK234.out 4
     have hns47_0 := NB218_234.out
     have hns47_1 := NB219_234.out
     have hns47_2 := NB220_234.out
     have hms47_0 := NB234_218.out
     have hms47_1 := NB234_219.out
     have hms47_2 := NB234_220.out
     have hs48 : w42.cell? ⟨gb234, 5, none⟩ = some (.int .i64 0) := My.b_ BK234 5
     have hfs48 := blk_frozen BK234.out 5
     have hns48_0 := NB218_234.out
     have hns48_1 := NB219_234.out
     have hns48_2 := NB220_234.out
     have hms48_0 := NB234_218.out
     have hms48_1 := NB234_219.out
     have hms48_2 := NB234_220.out
     have hs49 : w42.cell? ⟨gb234, 6, none⟩ = some (.int .i64 0) := My.b_ BK234 6
     have hfs49 := blk_frozen BK234.out 6
     have hns49_0 := NB218_234.out
     have hns49_1 := NB219_234.out
     have hns49_2 := NB220_234.out
     have hms49_0 := NB234_218.out
     have hms49_1 := NB234_219.out
     have hms49_2 := NB234_220.out
     refine skip_ (w1 := ?_) (by rfl) rfl ?_ ?_
     rotate_left
     ·go_simp
      rfl
     refine hK.out _ _ ⟨(My.cf7 NB218_234.out (hHeld.1)), (My.cf7 NB218_234.out (hHeld.2.1)), (My.cf7 NB219_234.out (hHeld.2.2.1)), (My.cf7 NB219_234.out (hHeld.2.2.2.1)), (My.cf7 NB219_234.out (hHeld.2.2.2.2.1)), (My.cf7 NB219_234.out (hHeld.2.2.2.2.2.1)), (My.cf7 NB219_234.out (hHeld.2.2.2.2.2.2.1)), (My.cf7 (My.nw hw225_0 GW234) (hHeld.2.2.2.2.2.2.2.1)), (My.cf7 (My.nw hw225_1 GW234) (hHeld.2.2.2.2.2.2.2.2.1)), (My.cf7 (My.nw hw225_2 GW234) (hHeld.2.2.2.2.2.2.2.2.2.1)), (My.cf7 (My.nw hw225_3 GW234) (hHeld.2.2.2.2.2.2.2.2.2.2.1)), (My.cf7 (My.nw hw225_4 GW234) (hHeld.2.2.2.2.2.2.2.2.2.2.2.1)), (My.cf7 (My.nw hw225_5 GW234) (hHeld.2.2.2.2.2.2.2.2.2.2.2.2.1)), (My.cf7 (My.nw hw225_6 GW234) (hHeld.2.2.2.2.2.2.2.2.2.2.2.2.2))⟩ (fun hHeld => ?_)
     clear hK K
     refine My.pu_ 14 13 15 HT_.out ?_
     refine done_ (done_of HT_.out (by kernel_rfl)) ?_
     have hnb50 := NB218_219.out
     have hnc50 := NB219_218.out
     have hnb51 := NB218_220.out
     have hnc51 := NB220_218.out
     have hnb52 := NB218_234.out
     have hnc52 := NB234_218.out
     have hq53 := My.cz2 BK218
     try go_wp2_with (first | (with_reducible refine My.park_ ?_; intro X_ hX_) | ((with_reducible refine gate_callee (f := 33) rfl ?_); refine goesL_ (some 61) rfl rfl Try.func33 (by kernel_rfl) rfl #[.agg #[.slice (some ad225) l0_0.length c0_0, .slice A0_1 l0_1.length c0_1]] rfl My.gx ?_; (with_reducible refine (ledger_copied.calls _ _ l0_0 _ _ l0_1 t235 t238 _ ?side1 ?side2 ?side3 ?side4 A32.out).mono ?_); (case side1 => exact Kd.C_below HR0_0.out (My.bl_ HB)); (case side2 => exact HC0_0.out); (case side3 => exact Kd.C_below HR0_1.out (My.bl_ HB)); (case side4 => exact HC0_1.out); rintro e w54 ⟨v236, v239, rfl, ho0, ho1, hb⟩; refine ⟨_, rfl, ?_⟩; have HO237 := My.am (Kd.R_lower (Kd.R_newB ho0 (g := gb234) (o := .cells #[.string t226, .int .i64 t227, .int .i64 t228, .int .i64 t229, .int .i64 t230, .int .i64 t231, .int .i64 t232] 51 (0, 0)) ((My.sv_ BK234))) (below_size (My.bl_ HB))); have HO240 := My.am (Kd.R_lower (Kd.R_newB ho1 (g := gb219) (o := .cells #[.string a1_0, .int .i64 a1_1, .string a1_2, .int .i64 a1_3, .int .i64 a1_4] 64 (0, 0)) ((My.sv_ BK219))) (below_size (My.bl_ HB))); replace BK218 := My.am (blk_below (g := gb218) (o := .cells #[.slice (some ad225) l0_0.length c0_0, .slice A0_1 l0_1.length c0_1] 25 (0, 0)) ((My.sv_ BK218)) hb); replace BK219 := My.am (blk_below (g := gb219) (o := .cells #[.string a1_0, .int .i64 a1_1, .string a1_2, .int .i64 a1_3, .int .i64 a1_4] 64 (0, 0)) ((My.sv_ BK219)) hb); replace BK220 := My.am (blk_below (g := gb220) (o := .cells #[.slice none 0 0, .slice none 0 0] 25 (0, 0)) ((My.sv_ BK220)) hb); replace BK234 := My.am (blk_below (g := gb234) (o := .cells #[.string t226, .int .i64 t227, .int .i64 t228, .int .i64 t229, .int .i64 t230, .int .i64 t231, .int .i64 t232] 51 (0, 0)) ((My.sv_ BK234)) hb); replace HB := My.st HB hb; (try clear hb); (try clear ho0); (try clear ho1)) | ((with_reducible refine gate_dst (N := 14) rfl ?_); (try (refine gate_guard (by rfl) ?_; dsimp only)); refine My.bx 14 #[.slice none 0 0, .slice none 0 0] 25 ?_; intro gb241 hg w55 hbox hb; replace HO237 := My.am (Kd.R_below (My.dr HO237.out) hb); replace HO240 := My.am (Kd.R_below (My.dr HO240.out) hb); have BK241 := My.am (hbox); have GE241 := My.nge hg (My.bl_ HB); replace HB := My.st HB hb; obtain ⟨NB218_241, NB241_218, BK218⟩ := My.nb hg hb BK218; obtain ⟨NB219_241, NB241_219, BK219⟩ := My.nb hg hb BK219; obtain ⟨NB220_241, NB241_220, BK220⟩ := My.nb hg hb BK220; obtain ⟨NB234_241, NB241_234, BK234⟩ := My.nb hg hb BK234; clear hb hbox hg; obtain ⟨Ao56, co56, eo56⟩ := Kd.R_slice HO237.out; subst eo56; have hnb57 := NB241_218.out; have hnc57 := NB218_241.out; have hnb58 := NB241_219.out; have hnc58 := NB219_241.out; have hnb59 := NB241_220.out; have hnc59 := NB220_241.out; have hnb60 := NB241_234.out; have hnc60 := NB234_241.out; have hq61 := My.cz2 BK241; obtain ⟨Ao62, co62, eo62⟩ := Kd.R_slice HO240.out; subst eo62) | ((with_reducible refine gate_store (t := 25) (p := 14) rfl ?_); refine store_event (t := 25) (p := 14) (v := ?vo_w63) (w1 := ((w55.setCell ⟨gb241, 0, none⟩ (.slice Ao56 t235.length co56)).setCell ⟨gb241, 1, none⟩ (.slice Ao62 t238.length co62))) ?hg ?ho ?hn ?hr ?_; (case ho => rfl); (case hg => rfl); (case hn => rfl); (case hr => first | (go_simp; done) | (go_simp; rfl)); intro w63 hw; replace HO237 : Aside0 (Kd.R k51 51 w63 w.heap.size (fun k_ => k_ ≠ gb234) (.slice Ao56 t235.length co56) t235) := ⟨(by rw [hw]; exact (My.dR (Kd.R_mono (Kd.R_far (p := ⟨gb241, 1, none⟩) (Kd.R_far (p := ⟨gb241, 0, none⟩) (Kd.R_types HO237.out BK241.out (by decide)) (fun _ hk => hk.2) (.slice Ao56 t235.length co56)) (fun _ hk => hk.2) (.slice Ao62 t238.length co62)) (fun _ hk => hk.1.2))))⟩; replace HO240 : Aside0 (Kd.R k64 64 w63 w.heap.size (fun k_ => k_ ≠ gb219) (.slice Ao62 t238.length co62) t238) := ⟨(by rw [hw]; exact (My.dR (Kd.R_mono (Kd.R_far (p := ⟨gb241, 1, none⟩) (Kd.R_far (p := ⟨gb241, 0, none⟩) (Kd.R_types HO240.out BK241.out (by decide)) (fun _ hk => hk.2) (.slice Ao56 t235.length co56)) (fun _ hk => hk.2) (.slice Ao62 t238.length co62)) (fun _ hk => hk.1.2))))⟩; replace BK218 : Aside0 (w63.heap[gb218]? = some (.cells #[.slice (some ad225) l0_0.length c0_0, .slice A0_1 l0_1.length c0_1] 25 (0, 0))) := ⟨(by rw [hw]; exact ((My.sv_ BK218)))⟩; replace BK219 : Aside0 (w63.heap[gb219]? = some (.cells #[.string a1_0, .int .i64 a1_1, .string a1_2, .int .i64 a1_3, .int .i64 a1_4] 64 (0, 0))) := ⟨(by rw [hw]; exact ((My.sv_ BK219)))⟩; replace BK220 : Aside0 (w63.heap[gb220]? = some (.cells #[.slice none 0 0, .slice none 0 0] 25 (0, 0))) := ⟨(by rw [hw]; exact ((My.sv_ BK220)))⟩; replace BK234 : Aside0 (w63.heap[gb234]? = some (.cells #[.string t226, .int .i64 t227, .int .i64 t228, .int .i64 t229, .int .i64 t230, .int .i64 t231, .int .i64 t232] 51 (0, 0))) := ⟨(by rw [hw]; exact ((My.sv_ BK234)))⟩; replace BK241 : Aside0 (w63.heap[gb241]? = some (.cells #[.slice Ao56 t235.length co56, .slice Ao62 t238.length co62] 25 (0, 0))) := ⟨(by rw [hw]; exact ((My.sv_ BK241)))⟩; replace HB : Aside0 (Below w.heap.size w w63) := ⟨(by rw [hw]; exact (My.bl_ HB))⟩; (try clear hw); have hq64 := My.cz2 BK241; have hnb65 := NB234_219.out; have hnc65 := NB219_234.out; have hnb66 := NB234_220.out; have hnc66 := NB220_234.out; have hq67 := My.cz7 BK234; have p34 : 0 ≤ (t221 : Int) := My.as_; have q34 : (t221 : Int) < ((t235.length : Int) : Int) := My.as_; obtain ⟨go34, co34, eo34, gb34, gl34, cl34, HG34⟩ := Kd.R_form HO237.out (by omega); (first | cases eo34 | (injection eo34 with ea_ en_ ec_; (first | subst ea_ | (injection ea_ with ea_; subst ea_)); subst ec_; clear en_)); have GB34 := My.am gb34; have GG34 := My.am HG34; clear gb34 gl34 HG34; obtain ⟨ce34, hcl34, hM34, hcc34, hfr34⟩ := Kd.R_elem HO237.out z51 (t221 : Int) p34 q34; obtain rfl := k51_openM hM34; have hx34_0 : w63.cell? ⟨go34, (t221 : Int).toNat * 7, none⟩ = some (.string ((rd_T51 t235 t221).f0)) := hcc34 0 _ rfl; have hx34_1 : w63.cell? ⟨go34, (t221 : Int).toNat * 7 + 1, none⟩ = some (.int .i64 ((rd_T51 t235 t221).f1.f0)) := hcc34 1 _ rfl; have hx34_2 : w63.cell? ⟨go34, (t221 : Int).toNat * 7 + 2, none⟩ = some (.int .i64 ((rd_T51 t235 t221).f1.f1)) := hcc34 2 _ rfl; have hx34_3 : w63.cell? ⟨go34, (t221 : Int).toNat * 7 + 3, none⟩ = some (.int .i64 ((rd_T51 t235 t221).f1.f2)) := hcc34 3 _ rfl; have hx34_4 : w63.cell? ⟨go34, (t221 : Int).toNat * 7 + 4, none⟩ = some (.int .i64 ((rd_T51 t235 t221).f2.f0)) := hcc34 4 _ rfl; have hx34_5 : w63.cell? ⟨go34, (t221 : Int).toNat * 7 + 5, none⟩ = some (.int .i64 ((rd_T51 t235 t221).f2.f1)) := hcc34 5 _ rfl; have hx34_6 : w63.cell? ⟨go34, (t221 : Int).toNat * 7 + 6, none⟩ = some (.int .i64 ((rd_T51 t235 t221).f2.f2)) := hcc34 6 _ rfl; have hf34_0 : w63.frozen? ⟨go34, (t221 : Int).toNat * 7, none⟩ = false := hfr34 0; have hf34_1 : w63.frozen? ⟨go34, (t221 : Int).toNat * 7 + 1, none⟩ = false := hfr34 1; have hf34_2 : w63.frozen? ⟨go34, (t221 : Int).toNat * 7 + 2, none⟩ = false := hfr34 2; have hf34_3 : w63.frozen? ⟨go34, (t221 : Int).toNat * 7 + 3, none⟩ = false := hfr34 3; have hf34_4 : w63.frozen? ⟨go34, (t221 : Int).toNat * 7 + 4, none⟩ = false := hfr34 4; have hf34_5 : w63.frozen? ⟨go34, (t221 : Int).toNat * 7 + 5, none⟩ = false := hfr34 5; have hf34_6 : w63.frozen? ⟨go34, (t221 : Int).toNat * 7 + 6, none⟩ = false := hfr34 6; clear hcl34 hcc34 hfr34 hM34; replace p34 := eq_true p34; replace q34 := eq_true q34; have HX68 := My.am (show Kd.R k51 51 w63 w.heap.size (fun k_ => k_ ≠ gb234) (.slice (some ⟨go34, 0, none⟩) t235.length co56) t235 from (My.dr HO237.out)); obtain ⟨ce68, hcl68, hM68, hcc68, hfr68⟩ := Kd.R_elem HX68.out z51 (t221 : Int) (My.as_) (by have h_ : (t221 : Int) < ((t235.length : Int) : Int) := My.as_; first | exact h_ | (have e_ := (Kd.R_reads' HO237.out).1; omega) | simpa using h_); obtain rfl := k51_openM hM68; have HP68 := Kd.R_seg HX68.out (t221 : Int) (My.as_) (by have h_ : (t221 : Int) < ((t235.length : Int) : Int) := My.as_; first | exact h_ | (have e_ := (Kd.R_reads' HO237.out).1; omega) | simpa using h_) (seg := [.string t226, .int .i64 t227, .int .i64 t228, .int .i64 t229, .int .i64 t230, .int .i64 t231, .int .i64 t232]) (j := 0) hcl68 hcc68 (show 7 ≤ 7 from by decide) (x' := (⟨t226, (⟨t227, t228, t229⟩ : S49), (⟨t230, t231, t232⟩ : S49)⟩ : S51)) (k51_mkM _ _ _ (⟨t226, (⟨t227, t228, t229⟩ : S49), (⟨t230, t231, t232⟩ : S49)⟩ : S51) ) (fun _ hk => hk); have hx68_0 := hcc68 0 _ rfl; (try simp only [show (k51).sz = 7 from rfl, Nat.mul_one, Nat.add_zero] at hx68_0); have hf68_0 := hfr68 0; (try simp only [show (k51).sz = 7 from rfl, Nat.mul_one, Nat.add_zero] at hf68_0); have hx68_1 := hcc68 1 _ rfl; (try simp only [show (k51).sz = 7 from rfl, Nat.mul_one, Nat.add_zero] at hx68_1); have hf68_1 := hfr68 1; (try simp only [show (k51).sz = 7 from rfl, Nat.mul_one, Nat.add_zero] at hf68_1); have hx68_2 := hcc68 2 _ rfl; (try simp only [show (k51).sz = 7 from rfl, Nat.mul_one, Nat.add_zero] at hx68_2); have hf68_2 := hfr68 2; (try simp only [show (k51).sz = 7 from rfl, Nat.mul_one, Nat.add_zero] at hf68_2); have hx68_3 := hcc68 3 _ rfl; (try simp only [show (k51).sz = 7 from rfl, Nat.mul_one, Nat.add_zero] at hx68_3); have hf68_3 := hfr68 3; (try simp only [show (k51).sz = 7 from rfl, Nat.mul_one, Nat.add_zero] at hf68_3); have hx68_4 := hcc68 4 _ rfl; (try simp only [show (k51).sz = 7 from rfl, Nat.mul_one, Nat.add_zero] at hx68_4); have hf68_4 := hfr68 4; (try simp only [show (k51).sz = 7 from rfl, Nat.mul_one, Nat.add_zero] at hf68_4); have hx68_5 := hcc68 5 _ rfl; (try simp only [show (k51).sz = 7 from rfl, Nat.mul_one, Nat.add_zero] at hx68_5); have hf68_5 := hfr68 5; (try simp only [show (k51).sz = 7 from rfl, Nat.mul_one, Nat.add_zero] at hf68_5); have hx68_6 := hcc68 6 _ rfl; (try simp only [show (k51).sz = 7 from rfl, Nat.mul_one, Nat.add_zero] at hx68_6); have hf68_6 := hfr68 6; (try simp only [show (k51).sz = 7 from rfl, Nat.mul_one, Nat.add_zero] at hf68_6); clear hcl68 hcc68 hfr68 hM68) | ((with_reducible refine gate_store (t := 51) (p := 66) rfl ?_); refine store_event (t := 51) (p := 66) (v := ?vo_w69) (w1 := (((((((w63.setCell ⟨go34, (t221 : Int).toNat * 7, none⟩ (.string t226)).setCell ⟨go34, (t221 : Int).toNat * 7 + 1, none⟩ (.int .i64 t227)).setCell ⟨go34, (t221 : Int).toNat * 7 + 2, none⟩ (.int .i64 t228)).setCell ⟨go34, (t221 : Int).toNat * 7 + 3, none⟩ (.int .i64 t229)).setCell ⟨go34, (t221 : Int).toNat * 7 + 4, none⟩ (.int .i64 t230)).setCell ⟨go34, (t221 : Int).toNat * 7 + 5, none⟩ (.int .i64 t231)).setCell ⟨go34, (t221 : Int).toNat * 7 + 6, none⟩ (.int .i64 t232))) ?hg ?ho ?hn ?hr ?_; (case ho => rfl); (case hg => rfl); (case hn => rfl); (case hr => first | (go_simp; done) | (go_simp; rfl)); intro w69 hw; have hg : w63.grownBy w69 (some go34) := (by rw [hw]; exact HP68.2); have hp_ : Kd.R k51 51 w69 w.heap.size (fun k_ => k_ ≠ gb234) (.slice (some ⟨go34, 0, none⟩) t235.length co56) y242 := (by rw [hw, Ny242.out]; exact HP68.1); clear HP68; replace BK218 := My.am (blk_grown (My.at_ BK218) hg (Kd.R_ne HO237.out BK218.out (by decide))); replace BK219 := My.am (blk_grown (My.at_ BK219) hg (Kd.R_ne HO237.out BK219.out (by decide))); replace BK220 := My.am (blk_grown (My.at_ BK220) hg (Kd.R_ne HO237.out BK220.out (by decide))); replace BK234 := My.am (blk_grown (My.at_ BK234) hg (Kd.R_away HO237.out (fun _ hk => hk))); replace HO240 := My.am (Kd.R_over' (v := (.slice (some ⟨go34, 0, none⟩) t235.length co56)) (My.dr HO240.out) (Kd.R_typed HO237.out) (by decide) hg); replace BK241 := My.am (blk_grown (My.at_ BK241) hg (Kd.R_ne HO237.out BK241.out (by decide))); replace HO237 := My.am (hp_); replace HB := My.am ((by rw [hw]; exact below_set (below_set (below_set (below_set (below_set (below_set (below_set (HB.out) GB34.out) GB34.out) GB34.out) GB34.out) GB34.out) GB34.out) GB34.out : Below w.heap.size w w69)); clear hg hw hp_; have hq70 := My.cz2 BK241; have hnb71 := NB219_220.out; have hnc71 := NB220_219.out; have hq72 := My.cz5 BK219; have p38 : 0 ≤ (t223 : Int) := My.as_; have q38 : (t223 : Int) < ((t238.length : Int) : Int) := My.as_; obtain ⟨go38, co38, eo38, gb38, gl38, cl38, HG38⟩ := Kd.R_form HO240.out (by omega); (first | cases eo38 | (injection eo38 with ea_ en_ ec_; (first | subst ea_ | (injection ea_ with ea_; subst ea_)); subst ec_; clear en_)); have GB38 := My.am gb38; have GG38 := My.am HG38; clear gb38 gl38 HG38; obtain ⟨ce38, hcl38, hM38, hcc38, hfr38⟩ := Kd.R_elem HO240.out z64 (t223 : Int) p38 q38; obtain rfl := k64_openM hM38; have hx38_0 : w69.cell? ⟨go38, (t223 : Int).toNat * 5, none⟩ = some (.string ((rd_T64 t238 t223).f0)) := hcc38 0 _ rfl; have hx38_1 : w69.cell? ⟨go38, (t223 : Int).toNat * 5 + 1, none⟩ = some (.int .i64 ((rd_T64 t238 t223).f1.f0)) := hcc38 1 _ rfl; have hx38_2 : w69.cell? ⟨go38, (t223 : Int).toNat * 5 + 2, none⟩ = some (.string ((rd_T64 t238 t223).f1.f1)) := hcc38 2 _ rfl; have hx38_3 : w69.cell? ⟨go38, (t223 : Int).toNat * 5 + 3, none⟩ = some (.int .i64 ((rd_T64 t238 t223).f1.f2)) := hcc38 3 _ rfl; have hx38_4 : w69.cell? ⟨go38, (t223 : Int).toNat * 5 + 4, none⟩ = some (.int .i64 ((rd_T64 t238 t223).f2)) := hcc38 4 _ rfl; have hf38_0 : w69.frozen? ⟨go38, (t223 : Int).toNat * 5, none⟩ = false := hfr38 0; have hf38_1 : w69.frozen? ⟨go38, (t223 : Int).toNat * 5 + 1, none⟩ = false := hfr38 1; have hf38_2 : w69.frozen? ⟨go38, (t223 : Int).toNat * 5 + 2, none⟩ = false := hfr38 2; have hf38_3 : w69.frozen? ⟨go38, (t223 : Int).toNat * 5 + 3, none⟩ = false := hfr38 3; have hf38_4 : w69.frozen? ⟨go38, (t223 : Int).toNat * 5 + 4, none⟩ = false := hfr38 4; clear hcl38 hcc38 hfr38 hM38; replace p38 := eq_true p38; replace q38 := eq_true q38; have HX73 := My.am (show Kd.R k64 64 w69 w.heap.size (fun k_ => k_ ≠ gb219) (.slice (some ⟨go38, 0, none⟩) t238.length co62) t238 from (My.dr HO240.out)); obtain ⟨ce73, hcl73, hM73, hcc73, hfr73⟩ := Kd.R_elem HX73.out z64 (t223 : Int) (My.as_) (by have h_ : (t223 : Int) < ((t238.length : Int) : Int) := My.as_; first | exact h_ | (have e_ := (Kd.R_reads' HO240.out).1; omega) | simpa using h_); obtain rfl := k64_openM hM73; have HP73 := Kd.R_seg HX73.out (t223 : Int) (My.as_) (by have h_ : (t223 : Int) < ((t238.length : Int) : Int) := My.as_; first | exact h_ | (have e_ := (Kd.R_reads' HO240.out).1; omega) | simpa using h_) (seg := [.string a1_0, .int .i64 a1_1, .string a1_2, .int .i64 a1_3, .int .i64 a1_4]) (j := 0) hcl73 hcc73 (show 5 ≤ 5 from by decide) (x' := (⟨a1_0, (⟨a1_1, a1_2, a1_3⟩ : S27), a1_4⟩ : S64)) (k64_mkM _ _ _ (⟨a1_0, (⟨a1_1, a1_2, a1_3⟩ : S27), a1_4⟩ : S64) ) (fun _ hk => hk); have hx73_0 := hcc73 0 _ rfl; (try simp only [show (k64).sz = 5 from rfl, Nat.mul_one, Nat.add_zero] at hx73_0); have hf73_0 := hfr73 0; (try simp only [show (k64).sz = 5 from rfl, Nat.mul_one, Nat.add_zero] at hf73_0); have hx73_1 := hcc73 1 _ rfl; (try simp only [show (k64).sz = 5 from rfl, Nat.mul_one, Nat.add_zero] at hx73_1); have hf73_1 := hfr73 1; (try simp only [show (k64).sz = 5 from rfl, Nat.mul_one, Nat.add_zero] at hf73_1); have hx73_2 := hcc73 2 _ rfl; (try simp only [show (k64).sz = 5 from rfl, Nat.mul_one, Nat.add_zero] at hx73_2); have hf73_2 := hfr73 2; (try simp only [show (k64).sz = 5 from rfl, Nat.mul_one, Nat.add_zero] at hf73_2); have hx73_3 := hcc73 3 _ rfl; (try simp only [show (k64).sz = 5 from rfl, Nat.mul_one, Nat.add_zero] at hx73_3); have hf73_3 := hfr73 3; (try simp only [show (k64).sz = 5 from rfl, Nat.mul_one, Nat.add_zero] at hf73_3); have hx73_4 := hcc73 4 _ rfl; (try simp only [show (k64).sz = 5 from rfl, Nat.mul_one, Nat.add_zero] at hx73_4); have hf73_4 := hfr73 4; (try simp only [show (k64).sz = 5 from rfl, Nat.mul_one, Nat.add_zero] at hf73_4); clear hcl73 hcc73 hfr73 hM73) | ((with_reducible refine gate_store (t := 64) (p := 72) rfl ?_); refine store_event (t := 64) (p := 72) (v := ?vo_w74) (w1 := (((((w69.setCell ⟨go38, (t223 : Int).toNat * 5, none⟩ (.string a1_0)).setCell ⟨go38, (t223 : Int).toNat * 5 + 1, none⟩ (.int .i64 a1_1)).setCell ⟨go38, (t223 : Int).toNat * 5 + 2, none⟩ (.string a1_2)).setCell ⟨go38, (t223 : Int).toNat * 5 + 3, none⟩ (.int .i64 a1_3)).setCell ⟨go38, (t223 : Int).toNat * 5 + 4, none⟩ (.int .i64 a1_4))) ?hg ?ho ?hn ?hr ?_; (case ho => rfl); (case hg => rfl); (case hn => rfl); (case hr => first | (go_simp; done) | (go_simp; rfl)); intro w74 hw; have hg : w69.grownBy w74 (some go38) := (by rw [hw]; exact HP73.2); have hp_ : Kd.R k64 64 w74 w.heap.size (fun k_ => k_ ≠ gb219) (.slice (some ⟨go38, 0, none⟩) t238.length co62) y243 := (by rw [hw, Ny243.out]; exact HP73.1); clear HP73; replace BK218 := My.am (blk_grown (My.at_ BK218) hg (Kd.R_ne HO240.out BK218.out (by decide))); replace BK219 := My.am (blk_grown (My.at_ BK219) hg (Kd.R_away HO240.out (fun _ hk => hk))); replace BK220 := My.am (blk_grown (My.at_ BK220) hg (Kd.R_ne HO240.out BK220.out (by decide))); replace BK234 := My.am (blk_grown (My.at_ BK234) hg (Kd.R_ne HO240.out BK234.out (by decide))); replace HO237 := My.am (Kd.R_over' (v := (.slice (some ⟨go38, 0, none⟩) t238.length co62)) (My.dr HO237.out) (Kd.R_typed HO240.out) (by decide) hg); replace BK241 := My.am (blk_grown (My.at_ BK241) hg (Kd.R_ne HO240.out BK241.out (by decide))); replace HO240 := My.am (hp_); replace HB := My.am ((by rw [hw]; exact below_set (below_set (below_set (below_set (below_set (HB.out) GB38.out) GB38.out) GB38.out) GB38.out) GB38.out : Below w.heap.size w w74)); clear hg hw hp_; have hq75 := My.cz2 BK241; have hq76 := My.cz2 BK220))
     (try rw [hX_.out])
     refine bodyPost_ret (results_ct rfl _ _ gb220 25 #[.slice (some ⟨go34, 0, none⟩) t235.length co56, .slice (some ⟨go38, 0, none⟩) t238.length co62] (0, 0) _ rfl ((My.sv_ BK220)) Try.underlying25 rfl (by kernel_rfl)) rfl ?_
     exact ⟨_, _, My.r2, My.dR (Kd.R_mono (Kd.R_far (p := ⟨gb220, 1, none⟩) (Kd.R_far (p := ⟨gb220, 0, none⟩) (Kd.R_types HO237.out BK220.out (by decide)) (fun _ hk => hk.2) (.slice (some ⟨go34, 0, none⟩) t235.length co56)) (fun _ hk => hk.2) (.slice (some ⟨go38, 0, none⟩) t238.length co62)) (fun _ hk => trivial)), My.dR (Kd.R_mono (Kd.R_far (p := ⟨gb220, 1, none⟩) (Kd.R_far (p := ⟨gb220, 0, none⟩) (Kd.R_types HO240.out BK220.out (by decide)) (fun _ hk => hk.2) (.slice (some ⟨go34, 0, none⟩) t235.length co56)) (fun _ hk => hk.2) (.slice (some ⟨go38, 0, none⟩) t238.length co62)) (fun _ hk => trivial)), (My.bl_ HB)⟩
    replace c35 := Bool.eq_false_iff.mpr c35
    subst c35
    rw [if_neg (show ¬ (false = true) by decide)] at H
    obtain ⟨ce0, ce1, ce2, H⟩ := ledger_changed_e_some H
    obtain ⟨rfl, rfl, rfl⟩ := H
    try go_wp2
    replace BK218 := My.am (blk_drew BK218.out)
    replace BK219 := My.am (blk_drew BK219.out)
    replace BK220 := My.am (blk_drew BK220.out)
    replace HB := My.am (below_drew1 HB.out)
    have p225 : 0 ≤ (t221 : Int) := My.as_
    have q225 : t221 < (l0_0.length : Int) := My.as_
    obtain ⟨ad225, e225, hx225_0, hx225_1, hx225_2, hx225_3, hx225_4, hx225_5, hx225_6⟩ := at_T51 HR0_0.out t221 p225 q225
    have hw225_6 := hx225_6
    have hw225_5 := hx225_5
    have hw225_4 := hx225_4
    have hw225_3 := hx225_3
    have hw225_2 := hx225_2
    have hw225_1 := hx225_1
    have hw225_0 := hx225_0
    cases e225
    replace hx225_0 := My.up HB hx225_0
    replace hx225_1 := My.up HB hx225_1
    replace hx225_2 := My.up HB hx225_2
    replace hx225_3 := My.up HB hx225_3
    replace hx225_4 := My.up HB hx225_4
    replace hx225_5 := My.up HB hx225_5
    replace hx225_6 := My.up HB hx225_6
    replace p225 := eq_true p225
    replace q225 := eq_true q225
    refine start_ (n := 15) (S := fun w' => w'.cell? ⟨gb218, 0, none⟩ = some (.slice (some ad225) l0_0.length c0_0) ∧ w'.cell? ⟨gb218, 1, none⟩ = some (.slice A0_1 l0_1.length c0_1) ∧ w'.cell? ⟨gb219, 0, none⟩ = some (.string a1_0) ∧ w'.cell? ⟨gb219, 1, none⟩ = some (.int .i64 a1_1) ∧ w'.cell? ⟨gb219, 2, none⟩ = some (.string a1_2) ∧ w'.cell? ⟨gb219, 3, none⟩ = some (.int .i64 a1_3) ∧ w'.cell? ⟨gb219, 4, none⟩ = some (.int .i64 a1_4) ∧ w'.cell? (ad225.add ((t221).toNat * 7)) = some (.string ((rd_T51 l0_0 t221).f0)) ∧ w'.cell? ⟨(ad225.add ((t221).toNat * 7)).block, (ad225.add ((t221).toNat * 7)).off + 1, none⟩ = some (.int .i64 ((rd_T51 l0_0 t221).f1.f0)) ∧ w'.cell? ⟨(ad225.add ((t221).toNat * 7)).block, (ad225.add ((t221).toNat * 7)).off + 2, none⟩ = some (.int .i64 ((rd_T51 l0_0 t221).f1.f1)) ∧ w'.cell? ⟨(ad225.add ((t221).toNat * 7)).block, (ad225.add ((t221).toNat * 7)).off + 3, none⟩ = some (.int .i64 ((rd_T51 l0_0 t221).f1.f2)) ∧ w'.cell? ⟨(ad225.add ((t221).toNat * 7)).block, (ad225.add ((t221).toNat * 7)).off + 4, none⟩ = some (.int .i64 ((rd_T51 l0_0 t221).f2.f0)) ∧ w'.cell? ⟨(ad225.add ((t221).toNat * 7)).block, (ad225.add ((t221).toNat * 7)).off + 5, none⟩ = some (.int .i64 ((rd_T51 l0_0 t221).f2.f1)) ∧ w'.cell? ⟨(ad225.add ((t221).toNat * 7)).block, (ad225.add ((t221).toNat * 7)).off + 6, none⟩ = some (.int .i64 ((rd_T51 l0_0 t221).f2.f2))) (ds := []) #[false, false, false, false, false, false, false, false, false, false, false, false, false, false, false] (by kernel_rfl) rfl rfl ⟨My.b_ BK218 0, My.b_ BK218 1, My.b_ BK219 0, My.b_ BK219 1, My.b_ BK219 2, My.b_ BK219 3, My.b_ BK219 4, (My.up HB hw225_0), (My.up HB hw225_1), (My.up HB hw225_2), (My.up HB hw225_3), (My.up HB hw225_4), (My.up HB hw225_5), (My.up HB hw225_6)⟩ (fun hHeld => ?_); refine with_tabW ledger_changed_any.tab7 ledger_changed_any.bits7 (fun HT_ HW_ => ?_)
    generalize wc.drew = w77 at BK218 BK219 BK220 HB hx225_0 hx225_1 hx225_2 hx225_3 hx225_4 hx225_5 hx225_6 hHeld ⊢
    refine My.pu_ 0 45 15 HT_.out ?_
    refine My.pu_ 1 46 15 HT_.out ?_
    refine My.pv_ 3 48 15 11 HT_.out ?_
    refine My.pv_ 6 51 15 75 HT_.out ?_
    refine My.tv_ 2 47 15 79 HT_.out HW_.out hHeld rfl rfl (by rintro w' ⟨s0, s1, s2, s3, s4, s5, s6, s7, s8, s9, s10, s11, s12, s13⟩; go_simp; with_reducible rfl) ?_
    refine My.pv_ 4 49 15 95 HT_.out ?_
    refine My.tv_ 5 50 15 127 HT_.out HW_.out hHeld rfl rfl (by rintro w' ⟨s0, s1, s2, s3, s4, s5, s6, s7, s8, s9, s10, s11, s12, s13⟩; go_simp; with_reducible rfl) ?_
    refine My.ta_ 7 52 15 HT_.out HW_.out hHeld rfl rfl (by rintro w' ⟨s0, s1, s2, s3, s4, s5, s6, s7, s8, s9, s10, s11, s12, s13⟩; go_simp; with_reducible rfl) ?_
    refine join_ (σ := Nat) 2 (My.Mb 15 8191) (fun s_ => [(53, .tuple #[.agg #[.string t226, .int .i64 t227, .int .i64 t228, .int .i64 t229, .int .i64 t230, .int .i64 t231, .int .i64 t232], .int .i64 t233]), (12, .pointer (some ⟨s_, 0, none⟩)), (44, .tuple #[.agg #[.string t226, .int .i64 t227, .int .i64 t228, .int .i64 t229, .int .i64 t230, .int .i64 t231, .int .i64 t232], .int .i64 t233]), (54, .agg #[.string t226, .int .i64 t227, .int .i64 t228, .int .i64 t229, .int .i64 t230, .int .i64 t231, .int .i64 t232]), (55, .int .i64 t233)]) (fun s_ w' => (w'.cell? ⟨gb218, 0, none⟩ = some (.slice (some ad225) l0_0.length c0_0) ∧ w'.cell? ⟨gb218, 1, none⟩ = some (.slice A0_1 l0_1.length c0_1) ∧ w'.cell? ⟨gb219, 0, none⟩ = some (.string a1_0) ∧ w'.cell? ⟨gb219, 1, none⟩ = some (.int .i64 a1_1) ∧ w'.cell? ⟨gb219, 2, none⟩ = some (.string a1_2) ∧ w'.cell? ⟨gb219, 3, none⟩ = some (.int .i64 a1_3) ∧ w'.cell? ⟨gb219, 4, none⟩ = some (.int .i64 a1_4) ∧ w'.cell? (ad225.add ((t221).toNat * 7)) = some (.string ((rd_T51 l0_0 t221).f0)) ∧ w'.cell? ⟨(ad225.add ((t221).toNat * 7)).block, (ad225.add ((t221).toNat * 7)).off + 1, none⟩ = some (.int .i64 ((rd_T51 l0_0 t221).f1.f0)) ∧ w'.cell? ⟨(ad225.add ((t221).toNat * 7)).block, (ad225.add ((t221).toNat * 7)).off + 2, none⟩ = some (.int .i64 ((rd_T51 l0_0 t221).f1.f1)) ∧ w'.cell? ⟨(ad225.add ((t221).toNat * 7)).block, (ad225.add ((t221).toNat * 7)).off + 3, none⟩ = some (.int .i64 ((rd_T51 l0_0 t221).f1.f2)) ∧ w'.cell? ⟨(ad225.add ((t221).toNat * 7)).block, (ad225.add ((t221).toNat * 7)).off + 4, none⟩ = some (.int .i64 ((rd_T51 l0_0 t221).f2.f0)) ∧ w'.cell? ⟨(ad225.add ((t221).toNat * 7)).block, (ad225.add ((t221).toNat * 7)).off + 5, none⟩ = some (.int .i64 ((rd_T51 l0_0 t221).f2.f1)) ∧ w'.cell? ⟨(ad225.add ((t221).toNat * 7)).block, (ad225.add ((t221).toNat * 7)).off + 6, none⟩ = some (.int .i64 ((rd_T51 l0_0 t221).f2.f2))) ∧ (w'.heap[gb218]? = some (.cells #[.slice (some ad225) l0_0.length c0_0, .slice A0_1 l0_1.length c0_1] 25 (0, 0))) ∧ (w'.heap[gb219]? = some (.cells #[.string a1_0, .int .i64 a1_1, .string a1_2, .int .i64 a1_3, .int .i64 a1_4] 64 (0, 0))) ∧ (w'.heap[gb220]? = some (.cells #[.slice none 0 0, .slice none 0 0] 25 (0, 0))) ∧ (w'.heap[s_]? = some (.cells #[.string (⟨#[]⟩ : ByteArray), .int .i64 0, .int .i64 0, .int .i64 0, .int .i64 0, .int .i64 0, .int .i64 0] 51 (0, 0))) ∧ (w.heap.size ≤ s_) ∧ (w.heap.size ≤ s_) ∧ (gb218 ≠ s_) ∧ (s_ ≠ gb218) ∧ (gb219 ≠ s_) ∧ (s_ ≠ gb219) ∧ (gb220 ≠ s_) ∧ (s_ ≠ gb220) ∧ (Below w.heap.size w w')) ?_ ?_
    rotate_left
    ·intro hCont
     refine two_ (i := 8) (j := 12) (Ni := some 53) (Nj := some 12) (My.Mb 15 511) (My.Mb 15 4351) rfl rfl rfl rfl (two_of HT_.out (by kernel_rfl)) (by decide) (by decide) (fun K hK => ?_) (fun K hK => ?_)
     ·skip
      refine My.goesW_ (f := f_) (first := #[]) (cap := #[]) hf_ hname_ hb_ #[.agg #[.string ((rd_T51 l0_0 t221).f0), .int .i64 ((rd_T51 l0_0 t221).f1.f0), .int .i64 ((rd_T51 l0_0 t221).f1.f1), .int .i64 ((rd_T51 l0_0 t221).f1.f2), .int .i64 ((rd_T51 l0_0 t221).f2.f0), .int .i64 ((rd_T51 l0_0 t221).f2.f1), .int .i64 ((rd_T51 l0_0 t221).f2.f2)], .agg #[.int .i64 a1_1, .string a1_2, .int .i64 a1_3]] (by rfl) rfl rfl rfl (by (try simp only [List.map_toArray, List.map_cons, List.map_nil, Array.empty_append, Array.append_empty]); first | done | rfl | (simp only [List.length_drop, List.length_take]; rfl)) ?_
      with_reducible refine (hD kj6 ((rd_T51 l0_0 t221).f0) ((rd_T51 l0_0 t221).f1.f0) ((rd_T51 l0_0 t221).f1.f1) ((rd_T51 l0_0 t221).f1.f2) ((rd_T51 l0_0 t221).f2.f0) ((rd_T51 l0_0 t221).f2.f1) ((rd_T51 l0_0 t221).f2.f2) a1_1 a1_2 a1_3 t226 t227 t228 t229 t230 t231 t232 t233 _ A30.out).mono ?_
      rintro e w78 ⟨rfl, hb⟩
      refine ⟨_, rfl, ?_⟩
      replace BK218 := My.ab BK218 hb
      replace BK219 := My.ab BK219 hb
      replace BK220 := My.ab BK220 hb
      replace HB := My.st HB hb
      (try clear hb)
      (try clear hb2)
      (try clear hk)
      (try clear hi)
      refine hK.out _ _ ⟨My.b_ BK218 0, My.b_ BK218 1, My.b_ BK219 0, My.b_ BK219 1, My.b_ BK219 2, My.b_ BK219 3, My.b_ BK219 4, (My.up HB hw225_0), (My.up HB hw225_1), (My.up HB hw225_2), (My.up HB hw225_3), (My.up HB hw225_4), (My.up HB hw225_5), (My.up HB hw225_6)⟩ (fun hHeld => ?_)
      clear hK K
      refine My.nm 53 ?_
      refine My.pu_ 9 44 15 HT_.out ?_
      refine My.pu_ 10 54 15 HT_.out ?_
      refine My.pu_ 11 55 15 HT_.out ?_
      refine one_ (i := 12) (N := some 12) (My.Mb 15 8191) rfl rfl (one_of HT_.out (by kernel_rfl)) (by decide) (fun K hK => ?_)
      refine box_step ?hg (N := 12) ?hd (cs := #[.string (⟨#[]⟩ : ByteArray), .int .i64 0, .int .i64 0, .int .i64 0, .int .i64 0, .int .i64 0, .int .i64 0]) (t := 51) ?hr ?_; (case hd => rfl); (case hg => rfl); (case hr => first | (go_simp; done) | (go_simp; rfl))
      intro gb234 hg w79 hbox hb
      have BK234 := My.am (hbox)
      have GW234 := My.nge hg (My.bl_ HB)
      have GE234 := My.nge hg (My.bl_ HB)
      replace HB := My.st HB hb
      obtain ⟨NB218_234, NB234_218, BK218⟩ := My.nb hg hb BK218
      obtain ⟨NB219_234, NB234_219, BK219⟩ := My.nb hg hb BK219
      obtain ⟨NB220_234, NB234_220, BK220⟩ := My.nb hg hb BK220
      clear hb hbox hg
      refine hK.out _ _ ⟨My.b_ BK218 0, My.b_ BK218 1, My.b_ BK219 0, My.b_ BK219 1, My.b_ BK219 2, My.b_ BK219 3, My.b_ BK219 4, (My.up HB hw225_0), (My.up HB hw225_1), (My.up HB hw225_2), (My.up HB hw225_3), (My.up HB hw225_4), (My.up HB hw225_5), (My.up HB hw225_6)⟩ (fun hHeld => ?_)
      clear hK K
      refine My.nm 12 ?_
      exact norm_ (by simp only [putAll, Act.put, List.setIfInBounds_toArray, List.set_cons_zero, List.set_cons_succ]) (hCont (gb234) _ ⟨hHeld, (My.at_ BK218), (My.at_ BK219), (My.at_ BK220), (My.at_ BK234), GW234.out, GE234.out, NB218_234.out, NB234_218.out, NB219_234.out, NB234_219.out, NB220_234.out, NB234_220.out, (My.bl_ HB)⟩)
     skip
     refine box_step ?hg (N := 12) ?hd (cs := #[.string (⟨#[]⟩ : ByteArray), .int .i64 0, .int .i64 0, .int .i64 0, .int .i64 0, .int .i64 0, .int .i64 0]) (t := 51) ?hr ?_; (case hd => rfl); (case hg => rfl); (case hr => first | (go_simp; done) | (go_simp; rfl))
     intro gb234 hg w78 hbox hb
     have BK234 := My.am (hbox)
     have GW234 := My.nge hg (My.bl_ HB)
     have GE234 := My.nge hg (My.bl_ HB)
     replace HB := My.st HB hb
     obtain ⟨NB218_234, NB234_218, BK218⟩ := My.nb hg hb BK218
     obtain ⟨NB219_234, NB234_219, BK219⟩ := My.nb hg hb BK219
     obtain ⟨NB220_234, NB234_220, BK220⟩ := My.nb hg hb BK220
     clear hb hbox hg
     refine hK.out _ _ ⟨My.b_ BK218 0, My.b_ BK218 1, My.b_ BK219 0, My.b_ BK219 1, My.b_ BK219 2, My.b_ BK219 3, My.b_ BK219 4, (My.up HB hw225_0), (My.up HB hw225_1), (My.up HB hw225_2), (My.up HB hw225_3), (My.up HB hw225_4), (My.up HB hw225_5), (My.up HB hw225_6)⟩ (fun hHeld => ?_)
     clear hK K
     refine My.nm 12 ?_
     refine one_ (i := 8) (N := some 53) (My.Mb 15 4607) rfl rfl (one_of HT_.out (by kernel_rfl)) (by decide) (fun K hK => ?_)
     refine My.goesW_ (f := f_) (first := #[]) (cap := #[]) hf_ hname_ hb_ #[.agg #[.string ((rd_T51 l0_0 t221).f0), .int .i64 ((rd_T51 l0_0 t221).f1.f0), .int .i64 ((rd_T51 l0_0 t221).f1.f1), .int .i64 ((rd_T51 l0_0 t221).f1.f2), .int .i64 ((rd_T51 l0_0 t221).f2.f0), .int .i64 ((rd_T51 l0_0 t221).f2.f1), .int .i64 ((rd_T51 l0_0 t221).f2.f2)], .agg #[.int .i64 a1_1, .string a1_2, .int .i64 a1_3]] (by rfl) rfl rfl rfl (by (try simp only [List.map_toArray, List.map_cons, List.map_nil, Array.empty_append, Array.append_empty]); first | done | rfl | (simp only [List.length_drop, List.length_take]; rfl)) ?_
     with_reducible refine (hD kj6 ((rd_T51 l0_0 t221).f0) ((rd_T51 l0_0 t221).f1.f0) ((rd_T51 l0_0 t221).f1.f1) ((rd_T51 l0_0 t221).f1.f2) ((rd_T51 l0_0 t221).f2.f0) ((rd_T51 l0_0 t221).f2.f1) ((rd_T51 l0_0 t221).f2.f2) a1_1 a1_2 a1_3 t226 t227 t228 t229 t230 t231 t232 t233 _ A30.out).mono ?_
     rintro e w79 ⟨rfl, hb⟩
     refine ⟨_, rfl, ?_⟩
     replace BK218 := My.ab BK218 hb
     replace BK219 := My.ab BK219 hb
     replace BK220 := My.ab BK220 hb
     replace BK234 := My.ab BK234 hb
     replace HB := My.st HB hb
     (try clear hb)
     (try clear hb2)
     (try clear hk)
     (try clear hi)
     refine hK.out _ _ ⟨My.b_ BK218 0, My.b_ BK218 1, My.b_ BK219 0, My.b_ BK219 1, My.b_ BK219 2, My.b_ BK219 3, My.b_ BK219 4, (My.up HB hw225_0), (My.up HB hw225_1), (My.up HB hw225_2), (My.up HB hw225_3), (My.up HB hw225_4), (My.up HB hw225_5), (My.up HB hw225_6)⟩ (fun hHeld => ?_)
     clear hK K
     refine My.nm 53 ?_
     refine My.pv_ 9 44 15 5119 HT_.out ?_
     refine My.pv_ 10 54 15 6143 HT_.out ?_
     refine My.pv_ 11 55 15 8191 HT_.out ?_
     exact norm_ (by simp only [putAll, Act.put, List.setIfInBounds_toArray, List.set_cons_zero, List.set_cons_succ]) (hCont (gb234) _ ⟨hHeld, (My.at_ BK218), (My.at_ BK219), (My.at_ BK220), (My.at_ BK234), GW234.out, GE234.out, NB218_234.out, NB234_218.out, NB219_234.out, NB234_219.out, NB220_234.out, NB234_220.out, (My.bl_ HB)⟩)
    rintro gb234 w80 ⟨hS_, h0_, h1_, h2_, h3_, h4_, h5_, h6_, h7_, h8_, h9_, h10_, h11_, h12_⟩
    have n0_ : Aside0 (w80.heap[gb218]? = some (.cells #[.slice (some ad225) l0_0.length c0_0, .slice A0_1 l0_1.length c0_1] 25 (0, 0))) := ⟨h0_⟩
    have n1_ : Aside0 (w80.heap[gb219]? = some (.cells #[.string a1_0, .int .i64 a1_1, .string a1_2, .int .i64 a1_3, .int .i64 a1_4] 64 (0, 0))) := ⟨h1_⟩
    have n2_ : Aside0 (w80.heap[gb220]? = some (.cells #[.slice none 0 0, .slice none 0 0] 25 (0, 0))) := ⟨h2_⟩
    have n3_ : Aside0 (w80.heap[gb234]? = some (.cells #[.string (⟨#[]⟩ : ByteArray), .int .i64 0, .int .i64 0, .int .i64 0, .int .i64 0, .int .i64 0, .int .i64 0] 51 (0, 0))) := ⟨h3_⟩
    have n4_ : Aside0 (w.heap.size ≤ gb234) := ⟨h4_⟩
    have n5_ : Aside0 (w.heap.size ≤ gb234) := ⟨h5_⟩
    have n6_ : Aside0 (gb218 ≠ gb234) := ⟨h6_⟩
    have n7_ : Aside0 (gb234 ≠ gb218) := ⟨h7_⟩
    have n8_ : Aside0 (gb219 ≠ gb234) := ⟨h8_⟩
    have n9_ : Aside0 (gb234 ≠ gb219) := ⟨h9_⟩
    have n10_ : Aside0 (gb220 ≠ gb234) := ⟨h10_⟩
    have n11_ : Aside0 (gb234 ≠ gb220) := ⟨h11_⟩
    have n12_ : Aside0 (Below w.heap.size w w80) := ⟨h12_⟩
    clear BK218
    clear BK219
    clear BK220
    clear HB
    clear h0_ h1_ h2_ h3_ h4_ h5_ h6_ h7_ h8_ h9_ h10_ h11_ h12_
    have BK218 := n0_
    have BK219 := n1_
    have BK220 := n2_
    have BK234 := n3_
    have GW234 := n4_
    have GE234 := n5_
    have NB218_234 := n6_
    have NB234_218 := n7_
    have NB219_234 := n8_
    have NB234_219 := n9_
    have NB220_234 := n10_
    have NB234_220 := n11_
    have HB := n12_
    clear n0_ n1_ n2_ n3_ n4_ n5_ n6_ n7_ n8_ n9_ n10_ n11_ n12_
    have hHeld : w80.cell? ⟨gb218, 0, none⟩ = some (.slice (some ad225) l0_0.length c0_0) ∧ w80.cell? ⟨gb218, 1, none⟩ = some (.slice A0_1 l0_1.length c0_1) ∧ w80.cell? ⟨gb219, 0, none⟩ = some (.string a1_0) ∧ w80.cell? ⟨gb219, 1, none⟩ = some (.int .i64 a1_1) ∧ w80.cell? ⟨gb219, 2, none⟩ = some (.string a1_2) ∧ w80.cell? ⟨gb219, 3, none⟩ = some (.int .i64 a1_3) ∧ w80.cell? ⟨gb219, 4, none⟩ = some (.int .i64 a1_4) ∧ w80.cell? (ad225.add ((t221).toNat * 7)) = some (.string ((rd_T51 l0_0 t221).f0)) ∧ w80.cell? ⟨(ad225.add ((t221).toNat * 7)).block, (ad225.add ((t221).toNat * 7)).off + 1, none⟩ = some (.int .i64 ((rd_T51 l0_0 t221).f1.f0)) ∧ w80.cell? ⟨(ad225.add ((t221).toNat * 7)).block, (ad225.add ((t221).toNat * 7)).off + 2, none⟩ = some (.int .i64 ((rd_T51 l0_0 t221).f1.f1)) ∧ w80.cell? ⟨(ad225.add ((t221).toNat * 7)).block, (ad225.add ((t221).toNat * 7)).off + 3, none⟩ = some (.int .i64 ((rd_T51 l0_0 t221).f1.f2)) ∧ w80.cell? ⟨(ad225.add ((t221).toNat * 7)).block, (ad225.add ((t221).toNat * 7)).off + 4, none⟩ = some (.int .i64 ((rd_T51 l0_0 t221).f2.f0)) ∧ w80.cell? ⟨(ad225.add ((t221).toNat * 7)).block, (ad225.add ((t221).toNat * 7)).off + 5, none⟩ = some (.int .i64 ((rd_T51 l0_0 t221).f2.f1)) ∧ w80.cell? ⟨(ad225.add ((t221).toNat * 7)).block, (ad225.add ((t221).toNat * 7)).off + 6, none⟩ = some (.int .i64 ((rd_T51 l0_0 t221).f2.f2)) := hS_
    refine norm_ (a' := ?_) ?_ ?_
    rotate_left
    ·simp only [putAll, Act.put, List.setIfInBounds_toArray, List.set_cons_zero, List.set_cons_succ]
     rfl
    refine one_ (i := 13) (N := none) (My.Mb 15 16383) rfl rfl (one_of HT_.out (by kernel_rfl)) (by decide) (fun K hK => ?_)
    have hs81 : w80.cell? ⟨gb234, 0, none⟩ = some (.string (⟨#[]⟩ : ByteArray)) := My.b_ BK234 0
    have hfs81 := blk_frozen BK234.out 0
    have hns81_0 := NB218_234.out
    have hns81_1 := NB219_234.out
    have hns81_2 := NB220_234.out
    have hms81_0 := NB234_218.out
    have hms81_1 := NB234_219.out
    have hms81_2 := NB234_220.out
    have hs82 : w80.cell? ⟨gb234, 1, none⟩ = some (.int .i64 0) := My.b_ BK234 1
    have hfs82 := blk_frozen BK234.out 1
    have hns82_0 := NB218_234.out
    have hns82_1 := NB219_234.out
    have hns82_2 := NB220_234.out
    have hms82_0 := NB234_218.out
    have hms82_1 := NB234_219.out
    have hms82_2 := NB234_220.out
    have hs83 : w80.cell? ⟨gb234, 2, none⟩ = some (.int .i64 0) := My.b_ BK234 2
    have hfs83 := blk_frozen BK234.out 2
    have hns83_0 := NB218_234.out
    have hns83_1 := NB219_234.out
    have hns83_2 := NB220_234.out
    have hms83_0 := NB234_218.out
    have hms83_1 := NB234_219.out
    have hms83_2 := NB234_220.out
    have hs84 : w80.cell? ⟨gb234, 3, none⟩ = some (.int .i64 0) := My.b_ BK234 3
    have hfs84 := blk_frozen BK234.out 3
    have hns84_0 := NB218_234.out
    have hns84_1 := NB219_234.out
    have hns84_2 := NB220_234.out
    have hms84_0 := NB234_218.out
    have hms84_1 := NB234_219.out
    have hms84_2 := NB234_220.out
    have hs85 : w80.cell? ⟨gb234, 4, none⟩ = some (.int .i64 0) := My.b_ BK234 4
    have hfs85 := blk_frozen BK234.out 4
    have hns85_0 := NB218_234.out
    have hns85_1 := NB219_234.out
    have hns85_2 := NB220_234.out
    have hms85_0 := NB234_218.out
    have hms85_1 := NB234_219.out
    have hms85_2 := NB234_220.out
    have hs86 : w80.cell? ⟨gb234, 5, none⟩ = some (.int .i64 0) := My.b_ BK234 5
    have hfs86 := blk_frozen BK234.out 5
    have hns86_0 := NB218_234.out
    have hns86_1 := NB219_234.out
    have hns86_2 := NB220_234.out
    have hms86_0 := NB234_218.out
    have hms86_1 := NB234_219.out
    have hms86_2 := NB234_220.out
    have hs87 : w80.cell? ⟨gb234, 6, none⟩ = some (.int .i64 0) := My.b_ BK234 6
    have hfs87 := blk_frozen BK234.out 6
    have hns87_0 := NB218_234.out
    have hns87_1 := NB219_234.out
    have hns87_2 := NB220_234.out
    have hms87_0 := NB234_218.out
    have hms87_1 := NB234_219.out
    have hms87_2 := NB234_220.out
    refine skip_ (w1 := ?_) (by rfl) rfl ?_ ?_
    rotate_left
    ·go_simp
     rfl
    refine hK.out _ _ ⟨(My.cf7 NB218_234.out (hHeld.1)), (My.cf7 NB218_234.out (hHeld.2.1)), (My.cf7 NB219_234.out (hHeld.2.2.1)), (My.cf7 NB219_234.out (hHeld.2.2.2.1)), (My.cf7 NB219_234.out (hHeld.2.2.2.2.1)), (My.cf7 NB219_234.out (hHeld.2.2.2.2.2.1)), (My.cf7 NB219_234.out (hHeld.2.2.2.2.2.2.1)), (My.cf7 (My.nw hw225_0 GW234) (hHeld.2.2.2.2.2.2.2.1)), (My.cf7 (My.nw hw225_1 GW234) (hHeld.2.2.2.2.2.2.2.2.1)), (My.cf7 (My.nw hw225_2 GW234) (hHeld.2.2.2.2.2.2.2.2.2.1)), (My.cf7 (My.nw hw225_3 GW234) (hHeld.2.2.2.2.2.2.2.2.2.2.1)), (My.cf7 (My.nw hw225_4 GW234) (hHeld.2.2.2.2.2.2.2.2.2.2.2.1)), (My.cf7 (My.nw hw225_5 GW234) (hHeld.2.2.2.2.2.2.2.2.2.2.2.2.1)), (My.cf7 (My.nw hw225_6 GW234) (hHeld.2.2.2.2.2.2.2.2.2.2.2.2.2))⟩ (fun hHeld => ?_)
    clear hK K
    refine My.pu_ 14 13 15 HT_.out ?_
    refine done_ (done_of HT_.out (by kernel_rfl)) ?_
    have hnb88 := NB218_219.out
    have hnc88 := NB219_218.out
    have hnb89 := NB218_220.out
    have hnc89 := NB220_218.out
    have hnb90 := NB218_234.out
    have hnc90 := NB234_218.out
    have hq91 := My.cz2 BK218
    go_upto_region 14 with (first | ((with_reducible refine gate_callee (f := 33) rfl ?_); refine goesL_ (some 61) rfl rfl Try.func33 (by kernel_rfl) rfl #[.agg #[.slice (some ad225) l0_0.length c0_0, .slice A0_1 l0_1.length c0_1]] rfl My.gx ?_; (with_reducible refine (ledger_copied.calls _ _ l0_0 _ _ l0_1 t235 t238 _ ?side1 ?side2 ?side3 ?side4 A32.out).mono ?_); (case side1 => exact Kd.C_below HR0_0.out (My.bl_ HB)); (case side2 => exact HC0_0.out); (case side3 => exact Kd.C_below HR0_1.out (My.bl_ HB)); (case side4 => exact HC0_1.out); rintro e w92 ⟨v236, v239, rfl, ho0, ho1, hb⟩; refine ⟨_, rfl, ?_⟩; have HO237 := My.am (Kd.R_lower (Kd.R_newB ho0 (g := gb234) (o := .cells #[.string t226, .int .i64 t227, .int .i64 t228, .int .i64 t229, .int .i64 t230, .int .i64 t231, .int .i64 t232] 51 (0, 0)) ((My.sv_ BK234))) (below_size (My.bl_ HB))); have HO240 := My.am (Kd.R_lower (Kd.R_newB ho1 (g := gb219) (o := .cells #[.string a1_0, .int .i64 a1_1, .string a1_2, .int .i64 a1_3, .int .i64 a1_4] 64 (0, 0)) ((My.sv_ BK219))) (below_size (My.bl_ HB))); replace BK218 := My.am (blk_below (g := gb218) (o := .cells #[.slice (some ad225) l0_0.length c0_0, .slice A0_1 l0_1.length c0_1] 25 (0, 0)) ((My.sv_ BK218)) hb); replace BK219 := My.am (blk_below (g := gb219) (o := .cells #[.string a1_0, .int .i64 a1_1, .string a1_2, .int .i64 a1_3, .int .i64 a1_4] 64 (0, 0)) ((My.sv_ BK219)) hb); replace BK220 := My.am (blk_below (g := gb220) (o := .cells #[.slice none 0 0, .slice none 0 0] 25 (0, 0)) ((My.sv_ BK220)) hb); replace BK234 := My.am (blk_below (g := gb234) (o := .cells #[.string t226, .int .i64 t227, .int .i64 t228, .int .i64 t229, .int .i64 t230, .int .i64 t231, .int .i64 t232] 51 (0, 0)) ((My.sv_ BK234)) hb); replace HB := My.st HB hb; (try clear hb); (try clear ho0); (try clear ho1)) | ((with_reducible refine gate_dst (N := 14) rfl ?_); (try (refine gate_guard (by rfl) ?_; dsimp only)); refine My.bx 14 #[.slice none 0 0, .slice none 0 0] 25 ?_; intro gb241 hg w93 hbox hb; replace HO237 := My.am (Kd.R_below (My.dr HO237.out) hb); replace HO240 := My.am (Kd.R_below (My.dr HO240.out) hb); have BK241 := My.am (hbox); have GE241 := My.nge hg (My.bl_ HB); replace HB := My.st HB hb; obtain ⟨NB218_241, NB241_218, BK218⟩ := My.nb hg hb BK218; obtain ⟨NB219_241, NB241_219, BK219⟩ := My.nb hg hb BK219; obtain ⟨NB220_241, NB241_220, BK220⟩ := My.nb hg hb BK220; obtain ⟨NB234_241, NB241_234, BK234⟩ := My.nb hg hb BK234; clear hb hbox hg; obtain ⟨Ao94, co94, eo94⟩ := Kd.R_slice HO237.out; subst eo94; have hnb95 := NB241_218.out; have hnc95 := NB218_241.out; have hnb96 := NB241_219.out; have hnc96 := NB219_241.out; have hnb97 := NB241_220.out; have hnc97 := NB220_241.out; have hnb98 := NB241_234.out; have hnc98 := NB234_241.out; have hq99 := My.cz2 BK241; obtain ⟨Ao100, co100, eo100⟩ := Kd.R_slice HO240.out; subst eo100) | ((with_reducible refine gate_store (t := 25) (p := 14) rfl ?_); refine store_event (t := 25) (p := 14) (v := ?vo_w101) (w1 := ((w93.setCell ⟨gb241, 0, none⟩ (.slice Ao94 t235.length co94)).setCell ⟨gb241, 1, none⟩ (.slice Ao100 t238.length co100))) ?hg ?ho ?hn ?hr ?_; (case ho => rfl); (case hg => rfl); (case hn => rfl); (case hr => first | (go_simp; done) | (go_simp; rfl)); intro w101 hw; replace HO237 : Aside0 (Kd.R k51 51 w101 w.heap.size (fun k_ => k_ ≠ gb234) (.slice Ao94 t235.length co94) t235) := ⟨(by rw [hw]; exact (My.dR (Kd.R_mono (Kd.R_far (p := ⟨gb241, 1, none⟩) (Kd.R_far (p := ⟨gb241, 0, none⟩) (Kd.R_types HO237.out BK241.out (by decide)) (fun _ hk => hk.2) (.slice Ao94 t235.length co94)) (fun _ hk => hk.2) (.slice Ao100 t238.length co100)) (fun _ hk => hk.1.2))))⟩; replace HO240 : Aside0 (Kd.R k64 64 w101 w.heap.size (fun k_ => k_ ≠ gb219) (.slice Ao100 t238.length co100) t238) := ⟨(by rw [hw]; exact (My.dR (Kd.R_mono (Kd.R_far (p := ⟨gb241, 1, none⟩) (Kd.R_far (p := ⟨gb241, 0, none⟩) (Kd.R_types HO240.out BK241.out (by decide)) (fun _ hk => hk.2) (.slice Ao94 t235.length co94)) (fun _ hk => hk.2) (.slice Ao100 t238.length co100)) (fun _ hk => hk.1.2))))⟩; replace BK218 : Aside0 (w101.heap[gb218]? = some (.cells #[.slice (some ad225) l0_0.length c0_0, .slice A0_1 l0_1.length c0_1] 25 (0, 0))) := ⟨(by rw [hw]; exact ((My.sv_ BK218)))⟩; replace BK219 : Aside0 (w101.heap[gb219]? = some (.cells #[.string a1_0, .int .i64 a1_1, .string a1_2, .int .i64 a1_3, .int .i64 a1_4] 64 (0, 0))) := ⟨(by rw [hw]; exact ((My.sv_ BK219)))⟩; replace BK220 : Aside0 (w101.heap[gb220]? = some (.cells #[.slice none 0 0, .slice none 0 0] 25 (0, 0))) := ⟨(by rw [hw]; exact ((My.sv_ BK220)))⟩; replace BK234 : Aside0 (w101.heap[gb234]? = some (.cells #[.string t226, .int .i64 t227, .int .i64 t228, .int .i64 t229, .int .i64 t230, .int .i64 t231, .int .i64 t232] 51 (0, 0))) := ⟨(by rw [hw]; exact ((My.sv_ BK234)))⟩; replace BK241 : Aside0 (w101.heap[gb241]? = some (.cells #[.slice Ao94 t235.length co94, .slice Ao100 t238.length co100] 25 (0, 0))) := ⟨(by rw [hw]; exact ((My.sv_ BK241)))⟩; replace HB : Aside0 (Below w.heap.size w w101) := ⟨(by rw [hw]; exact (My.bl_ HB))⟩; (try clear hw); have hq102 := My.cz2 BK241; have hnb103 := NB234_219.out; have hnc103 := NB219_234.out; have hnb104 := NB234_220.out; have hnc104 := NB220_234.out; have hq105 := My.cz7 BK234; have p34 : 0 ≤ (t221 : Int) := My.as_; have q34 : (t221 : Int) < ((t235.length : Int) : Int) := My.as_; obtain ⟨go34, co34, eo34, gb34, gl34, cl34, HG34⟩ := Kd.R_form HO237.out (by omega); (first | cases eo34 | (injection eo34 with ea_ en_ ec_; (first | subst ea_ | (injection ea_ with ea_; subst ea_)); subst ec_; clear en_)); have GB34 := My.am gb34; have GG34 := My.am HG34; clear gb34 gl34 HG34; obtain ⟨ce34, hcl34, hM34, hcc34, hfr34⟩ := Kd.R_elem HO237.out z51 (t221 : Int) p34 q34; obtain rfl := k51_openM hM34; have hx34_0 : w101.cell? ⟨go34, (t221 : Int).toNat * 7, none⟩ = some (.string ((rd_T51 t235 t221).f0)) := hcc34 0 _ rfl; have hx34_1 : w101.cell? ⟨go34, (t221 : Int).toNat * 7 + 1, none⟩ = some (.int .i64 ((rd_T51 t235 t221).f1.f0)) := hcc34 1 _ rfl; have hx34_2 : w101.cell? ⟨go34, (t221 : Int).toNat * 7 + 2, none⟩ = some (.int .i64 ((rd_T51 t235 t221).f1.f1)) := hcc34 2 _ rfl; have hx34_3 : w101.cell? ⟨go34, (t221 : Int).toNat * 7 + 3, none⟩ = some (.int .i64 ((rd_T51 t235 t221).f1.f2)) := hcc34 3 _ rfl; have hx34_4 : w101.cell? ⟨go34, (t221 : Int).toNat * 7 + 4, none⟩ = some (.int .i64 ((rd_T51 t235 t221).f2.f0)) := hcc34 4 _ rfl; have hx34_5 : w101.cell? ⟨go34, (t221 : Int).toNat * 7 + 5, none⟩ = some (.int .i64 ((rd_T51 t235 t221).f2.f1)) := hcc34 5 _ rfl; have hx34_6 : w101.cell? ⟨go34, (t221 : Int).toNat * 7 + 6, none⟩ = some (.int .i64 ((rd_T51 t235 t221).f2.f2)) := hcc34 6 _ rfl; have hf34_0 : w101.frozen? ⟨go34, (t221 : Int).toNat * 7, none⟩ = false := hfr34 0; have hf34_1 : w101.frozen? ⟨go34, (t221 : Int).toNat * 7 + 1, none⟩ = false := hfr34 1; have hf34_2 : w101.frozen? ⟨go34, (t221 : Int).toNat * 7 + 2, none⟩ = false := hfr34 2; have hf34_3 : w101.frozen? ⟨go34, (t221 : Int).toNat * 7 + 3, none⟩ = false := hfr34 3; have hf34_4 : w101.frozen? ⟨go34, (t221 : Int).toNat * 7 + 4, none⟩ = false := hfr34 4; have hf34_5 : w101.frozen? ⟨go34, (t221 : Int).toNat * 7 + 5, none⟩ = false := hfr34 5; have hf34_6 : w101.frozen? ⟨go34, (t221 : Int).toNat * 7 + 6, none⟩ = false := hfr34 6; clear hcl34 hcc34 hfr34 hM34; replace p34 := eq_true p34; replace q34 := eq_true q34; have HX106 := My.am (show Kd.R k51 51 w101 w.heap.size (fun k_ => k_ ≠ gb234) (.slice (some ⟨go34, 0, none⟩) t235.length co94) t235 from (My.dr HO237.out)); obtain ⟨ce106, hcl106, hM106, hcc106, hfr106⟩ := Kd.R_elem HX106.out z51 (t221 : Int) (My.as_) (by have h_ : (t221 : Int) < ((t235.length : Int) : Int) := My.as_; first | exact h_ | (have e_ := (Kd.R_reads' HO237.out).1; omega) | simpa using h_); obtain rfl := k51_openM hM106; have HP106 := Kd.R_seg HX106.out (t221 : Int) (My.as_) (by have h_ : (t221 : Int) < ((t235.length : Int) : Int) := My.as_; first | exact h_ | (have e_ := (Kd.R_reads' HO237.out).1; omega) | simpa using h_) (seg := [.string t226, .int .i64 t227, .int .i64 t228, .int .i64 t229, .int .i64 t230, .int .i64 t231, .int .i64 t232]) (j := 0) hcl106 hcc106 (show 7 ≤ 7 from by decide) (x' := (⟨t226, (⟨t227, t228, t229⟩ : S49), (⟨t230, t231, t232⟩ : S49)⟩ : S51)) (k51_mkM _ _ _ (⟨t226, (⟨t227, t228, t229⟩ : S49), (⟨t230, t231, t232⟩ : S49)⟩ : S51) ) (fun _ hk => hk); have hx106_0 := hcc106 0 _ rfl; (try simp only [show (k51).sz = 7 from rfl, Nat.mul_one, Nat.add_zero] at hx106_0); have hf106_0 := hfr106 0; (try simp only [show (k51).sz = 7 from rfl, Nat.mul_one, Nat.add_zero] at hf106_0); have hx106_1 := hcc106 1 _ rfl; (try simp only [show (k51).sz = 7 from rfl, Nat.mul_one, Nat.add_zero] at hx106_1); have hf106_1 := hfr106 1; (try simp only [show (k51).sz = 7 from rfl, Nat.mul_one, Nat.add_zero] at hf106_1); have hx106_2 := hcc106 2 _ rfl; (try simp only [show (k51).sz = 7 from rfl, Nat.mul_one, Nat.add_zero] at hx106_2); have hf106_2 := hfr106 2; (try simp only [show (k51).sz = 7 from rfl, Nat.mul_one, Nat.add_zero] at hf106_2); have hx106_3 := hcc106 3 _ rfl; (try simp only [show (k51).sz = 7 from rfl, Nat.mul_one, Nat.add_zero] at hx106_3); have hf106_3 := hfr106 3; (try simp only [show (k51).sz = 7 from rfl, Nat.mul_one, Nat.add_zero] at hf106_3); have hx106_4 := hcc106 4 _ rfl; (try simp only [show (k51).sz = 7 from rfl, Nat.mul_one, Nat.add_zero] at hx106_4); have hf106_4 := hfr106 4; (try simp only [show (k51).sz = 7 from rfl, Nat.mul_one, Nat.add_zero] at hf106_4); have hx106_5 := hcc106 5 _ rfl; (try simp only [show (k51).sz = 7 from rfl, Nat.mul_one, Nat.add_zero] at hx106_5); have hf106_5 := hfr106 5; (try simp only [show (k51).sz = 7 from rfl, Nat.mul_one, Nat.add_zero] at hf106_5); have hx106_6 := hcc106 6 _ rfl; (try simp only [show (k51).sz = 7 from rfl, Nat.mul_one, Nat.add_zero] at hx106_6); have hf106_6 := hfr106 6; (try simp only [show (k51).sz = 7 from rfl, Nat.mul_one, Nat.add_zero] at hf106_6); clear hcl106 hcc106 hfr106 hM106) | ((with_reducible refine gate_store (t := 51) (p := 66) rfl ?_); refine store_event (t := 51) (p := 66) (v := ?vo_w107) (w1 := (((((((w101.setCell ⟨go34, (t221 : Int).toNat * 7, none⟩ (.string t226)).setCell ⟨go34, (t221 : Int).toNat * 7 + 1, none⟩ (.int .i64 t227)).setCell ⟨go34, (t221 : Int).toNat * 7 + 2, none⟩ (.int .i64 t228)).setCell ⟨go34, (t221 : Int).toNat * 7 + 3, none⟩ (.int .i64 t229)).setCell ⟨go34, (t221 : Int).toNat * 7 + 4, none⟩ (.int .i64 t230)).setCell ⟨go34, (t221 : Int).toNat * 7 + 5, none⟩ (.int .i64 t231)).setCell ⟨go34, (t221 : Int).toNat * 7 + 6, none⟩ (.int .i64 t232))) ?hg ?ho ?hn ?hr ?_; (case ho => rfl); (case hg => rfl); (case hn => rfl); (case hr => first | (go_simp; done) | (go_simp; rfl)); intro w107 hw; have hg : w101.grownBy w107 (some go34) := (by rw [hw]; exact HP106.2); have hp_ : Kd.R k51 51 w107 w.heap.size (fun k_ => k_ ≠ gb234) (.slice (some ⟨go34, 0, none⟩) t235.length co94) y242 := (by rw [hw, Ny242.out]; exact HP106.1); clear HP106; replace BK218 := My.am (blk_grown (My.at_ BK218) hg (Kd.R_ne HO237.out BK218.out (by decide))); replace BK219 := My.am (blk_grown (My.at_ BK219) hg (Kd.R_ne HO237.out BK219.out (by decide))); replace BK220 := My.am (blk_grown (My.at_ BK220) hg (Kd.R_ne HO237.out BK220.out (by decide))); replace BK234 := My.am (blk_grown (My.at_ BK234) hg (Kd.R_away HO237.out (fun _ hk => hk))); replace HO240 := My.am (Kd.R_over' (v := (.slice (some ⟨go34, 0, none⟩) t235.length co94)) (My.dr HO240.out) (Kd.R_typed HO237.out) (by decide) hg); replace BK241 := My.am (blk_grown (My.at_ BK241) hg (Kd.R_ne HO237.out BK241.out (by decide))); replace HO237 := My.am (hp_); replace HB := My.am ((by rw [hw]; exact below_set (below_set (below_set (below_set (below_set (below_set (below_set (HB.out) GB34.out) GB34.out) GB34.out) GB34.out) GB34.out) GB34.out) GB34.out : Below w.heap.size w w107)); clear hg hw hp_; have hq108 := My.cz2 BK241; have hnb109 := NB220_219.out; have hnc109 := NB219_220.out; have hq110 := My.cz2 BK220))
    obtain ⟨jn, hjn⟩ := Int.eq_ofNat_of_zero_le ce0
    subst hjn
    have hj1 : jn ≤ t238.length := by omega
    have R0 := My.am (Kd.R_mono (Kd.R_types (Kd.R_types HO237.out BK241.out (by decide)) BK220.out (by decide)) (fun k hk => (⟨hk.1.2, hk.2⟩ : k ≠ gb241 ∧ k ≠ gb220)))
    have R1 := My.am (Kd.R_mono (Kd.R_types (Kd.R_types HO240.out BK241.out (by decide)) BK220.out (by decide)) (fun k hk => (⟨hk.1.2, hk.2⟩ : k ≠ gb241 ∧ k ≠ gb220)))
    clear HO237 HO240
    have hcy1 := My.b_ BK241 1
    have hcm0 := My.b_ BK219 0
    have hcm1 := My.b_ BK219 1
    have hcm2 := My.b_ BK219 2
    have hcm3 := My.b_ BK219 3
    have hcm4 := My.b_ BK219 4
    have CE2 := My.am ce2
    have CE1 := My.am hj1
    clear ce1 ce2 ce0 hj1
    go_upto_region 15 with ((go_at_call 70; refine (Ins_mark_R (.slice Ao100 t238.length co100) t238 jn w.heap.size _ ⟨a1_0, ⟨a1_1, a1_2, a1_3⟩, a1_4⟩ w107.heap.size _ (Kd.R_alloc R1.out _) CE1.out (by have := HB.out.size; simp; omega) CE2.out (blk_new w107 _) (fun e_ => by have h_ := own_lt (Kd.R_own R1.out).choose_spec _ e_.symm; omega)).mono ?_; rintro e w5 ⟨v5, rfl, hr5, hg5⟩; obtain ⟨zs, hzs⟩ : ∃ zs, zs = t238.take jn ++ (⟨a1_0, ⟨a1_1, a1_2, a1_3⟩, a1_4⟩ : S64) :: t238.drop jn := ⟨_, rfl⟩; rw [← hzs] at hr5; have HZS := My.am hzs; clear hzs; obtain ⟨A5, c5, rfl⟩ := Kd.R_slice hr5; have R5 := My.am hr5; have KO5 := My.am (blk_grown (blk_alloc BK241.out _) hg5 (Kd.R_away R1.out (fun k hk => hk.1))); have KR5 := My.am (blk_grown (blk_alloc BK220.out _) hg5 (Kd.R_away R1.out (fun k hk => hk.2))); have R05 := My.am (Kd.R_grown (Kd.R_alloc (My.R_apart R1.out R0.out (by decide)) _) hg5 (fun k hk => hk.2)); have HB5 := My.am ((below_alloc HB.out _).grown hg5 (below_alloc HB.out _).size (My.R_base R1.out)); clear hr5 hg5 hcy1 hcm0 hcm1 hcm2 hcm3 hcm4; have hfy1 := blk_frozen KO5.out 1; have hcy5 : w5.cell? ⟨gb241, 1, none⟩ = some (.slice Ao100 t238.length co100) := (blk_cell KO5.out 1).trans rfl))
    have KO6 := My.am (blk_put (cs' := #[(.slice (some ⟨go34, 0, none⟩) t235.length co94), .slice A5 zs.length c5]) KO5.out 1 (.slice A5 zs.length c5) rfl)
    have KR6 : Aside0 ((w5.setCell ⟨gb241, 1, none⟩ (.slice A5 zs.length c5)).heap[gb220]? = some (.cells #[.slice none 0 0, .slice none 0 0] 25 (0, 0))) := ⟨by rw [Below.heap_setCell _ _ _ _ NB220_241.out]; exact KR5.out⟩
    have R6 := My.am (Kd.R_far (p := ⟨gb241, 1, none⟩) (Kd.R_types (Kd.R_types R5.out KO5.out (by decide)) KR5.out (by decide)) (fun _ hk => hk.1.2) (.slice A5 zs.length c5))
    have R06 := My.am (Kd.R_far (p := ⟨gb241, 1, none⟩) R05.out (fun _ hk => hk.1.1) (.slice A5 zs.length c5))
    have HB6 := My.am (HB5.out.setCell (p := ⟨gb241, 1, none⟩) GE241.out (.slice A5 zs.length c5))
    generalize w5.setCell ⟨gb241, 1, none⟩ (.slice A5 zs.length c5) = w6 at KO6 KR6 R6 R06 HB6 ⊢
    clear KO5 KR5 R5 R05 HB5 hfy1 hcy5
    have hcz0 := (blk_cell KO6.out 0).trans rfl
    have hcz1 := (blk_cell KO6.out 1).trans rfl
    have hcr0 := (blk_cell KR6.out 0).trans rfl
    have hcr1 := (blk_cell KR6.out 1).trans rfl
    have hfr0 := blk_frozen KR6.out 0
    have hfr1 := blk_frozen KR6.out 1
    go_wp2_with ((with_reducible refine My.park_ ?_); intro X_ hX_)
    (try rw [hX_.out])
    refine bodyPost_ret (results_ct rfl _ _ gb220 25 #[(.slice (some ⟨go34, 0, none⟩) t235.length co94), .slice A5 zs.length c5] (0, 0) _ rfl (blk_put (cs := #[(.slice (some ⟨go34, 0, none⟩) t235.length co94), .slice none 0 0]) (blk_put (cs := #[.slice none 0 0, .slice none 0 0]) KR6.out 0 (.slice (some ⟨go34, 0, none⟩) t235.length co94) rfl) 1 (.slice A5 zs.length c5) rfl) Try.underlying25 rfl (by kernel_rfl)) rfl ?_
    refine ⟨_, _, rfl, ?_, ?_, (HB6.out.setCell (p := ⟨gb220, 0, none⟩) GE220.out (.slice (some ⟨go34, 0, none⟩) t235.length co94)).setCell (p := ⟨gb220, 1, none⟩) GE220.out (.slice A5 zs.length c5)⟩
    ·exact Kd.R_mono (Kd.R_far (p := ⟨gb220, 1, none⟩) (Kd.R_far (p := ⟨gb220, 0, none⟩) R06.out (fun _ hk => hk.1.2) (.slice (some ⟨go34, 0, none⟩) t235.length co94)) (fun _ hk => hk.1.2) (.slice A5 zs.length c5)) (fun _ _ => trivial)
    show Kd.R k64 64 _ w.heap.size _ _ (t238.take jn ++ (⟨a1_0, ⟨a1_1, a1_2, a1_3⟩, a1_4⟩ : S64) :: t238.drop jn)
    rw [← HZS.out]
    exact Kd.R_mono (Kd.R_far (p := ⟨gb220, 1, none⟩) (Kd.R_far (p := ⟨gb220, 0, none⟩) R6.out (fun _ hk => hk.2) (.slice (some ⟨go34, 0, none⟩) t235.length co94)) (fun _ hk => hk.2) (.slice A5 zs.length c5)) (fun _ _ => trivial)
 ·replace c5 := Bool.eq_false_iff.mpr c5
  subst c5
  rw [if_neg (show ¬ (false = true) by decide)] at H
  simp only [Option.some.injEq, Prod.mk.injEq] at H
  obtain ⟨rfl, rfl, rfl⟩ := H
  go_enter Try.func41, Try.ntmps41
  go_wp2_with (first | (with_reducible refine My.park_ ?_; intro X_ hX_) | ((with_reducible refine gate_dst (N := 3) rfl ?_); (try (refine gate_guard (by rfl) ?_; dsimp only)); refine My.bx 3 #[.slice A0_0 l0_0.length c0_0, .slice A0_1 l0_1.length c0_1] 25 ?_; intro gb218 hg w126 hbox hb; have BK218 := My.am (hbox); have GE218 := My.nge hg (My.bl_ HB); replace HB := My.st HB hb; clear hb hbox hg) | ((with_reducible refine gate_dst (N := 4) rfl ?_); (try (refine gate_guard (by rfl) ?_; dsimp only)); refine My.bx 4 #[.string a1_0, .int .i64 a1_1, .string a1_2, .int .i64 a1_3, .int .i64 a1_4] 64 ?_; intro gb219 hg w127 hbox hb; have BK219 := My.am (hbox); have GE219 := My.nge hg (My.bl_ HB); replace HB := My.st HB hb; obtain ⟨NB218_219, NB219_218, BK218⟩ := My.nb hg hb BK218; clear hb hbox hg) | ((with_reducible refine gate_dst (N := 6) rfl ?_); (try (refine gate_guard (by rfl) ?_; dsimp only)); refine My.bx 6 #[.slice none 0 0, .slice none 0 0] 25 ?_; intro gb220 hg w128 hbox hb; have BK220 := My.am (hbox); have GE220 := My.nge hg (My.bl_ HB); replace HB := My.st HB hb; obtain ⟨NB218_220, NB220_218, BK218⟩ := My.nb hg hb BK218; obtain ⟨NB219_220, NB220_219, BK219⟩ := My.nb hg hb BK219; clear hb hbox hg; have hnb129 := NB218_219.out; have hnc129 := NB219_218.out; have hnb130 := NB218_220.out; have hnc130 := NB220_218.out; have hq131 := My.cz2 BK218; have hnb132 := NB219_220.out; have hnc132 := NB220_219.out; have hq133 := My.cz5 BK219) | ((with_reducible refine gate_callee (f := 32) rfl ?_); refine goesL_ (some 21) rfl rfl Try.func32 (by kernel_rfl) rfl #[.agg #[.slice A0_0 l0_0.length c0_0, .slice A0_1 l0_1.length c0_1], .string a1_2] rfl My.gx ?_; (with_reducible refine (ledger_book_account.calls k _ _ l0_0 _ _ l0_1 a1_2 t221 false _ ?side1 ?side2 ?side3 ?side4 A4.out).mono ?_); (case side1 => exact My.sd_ HR0_0 HB); (case side2 => exact HC0_0.out); (case side3 => exact My.sd_ HR0_1 HB); (case side4 => exact HC0_1.out); rintro e w134 ⟨rfl, hb⟩; refine ⟨_, rfl, ?_⟩; replace BK220 := My.ab BK220 hb; replace HB := My.st HB hb; (try clear hb); have hq135 := My.cz2 BK220))
  (try rw [hX_.out])
  refine bodyPost_ret (results_ct rfl _ _ gb220 25 #[.slice none 0 0, .slice none 0 0] (0, 0) _ rfl ((My.sv_ BK220)) Try.underlying25 rfl (by kernel_rfl)) rfl ?_
  exact ⟨_, _, My.r2, My.r3, My.r3, (My.bl_ HB)⟩

/-! ### ledger_changed_act_Do: function 120 -/
def ledger_changed_act_Do.f (k : Nat) (l0_0 : List (S51)) (l0_1 : List (S64)) (a1_0 : ByteArray) (a1_1 : Int) (a1_2 : ByteArray) (a1_3 : Int) (a1_4 : Int) (a2 : Int) : Option ((List (S51)) × (List (S64)) × Int) := ledger_changed_any.f act_Do.f k l0_0 l0_1 a1_0 a1_1 a1_2 a1_3 a1_4 a2
theorem ledger_changed_act_Do.mono : ∀ a0 a1 a2 a3 a4 a5 a6 a7 k, LeO (ledger_changed_act_Do.f k a0 a1 a2 a3 a4 a5 a6 a7) (ledger_changed_act_Do.f (k + 1) a0 a1 a2 a3 a4 a5 a6 a7) := ledger_changed_any.mono _ act_Do.mono
theorem ledger_changed_act_Do.calls (k : Nat) (A0_0 : Option Addr) (c0_0 : Nat) (l0_0 : List (S51)) (A0_1 : Option Addr) (c0_1 : Nat) (l0_1 : List (S64)) (a1_0 : ByteArray) (a1_1 : Int) (a1_2 : ByteArray) (a1_3 : Int) (a1_4 : Int) (a2 : Int) (r1 : List (S51)) (r2 : List (S64)) (r3 : Int) (w : World) (hr0_0 : Kd.C k51 w A0_0 l0_0.length l0_0) (hc0_0 : l0_0.length ≤ c0_0) (hr0_1 : Kd.C k64 w A0_1 l0_1.length l0_1) (hc0_1 : l0_1.length ≤ c0_1) (h : ledger_changed_act_Do.f k l0_0 l0_1 a1_0 a1_1 a1_2 a1_3 a1_4 a2 = some (r1, r2, r3)) :
  Calls Try.prog 41 #[.agg #[.slice A0_0 l0_0.length c0_0, .slice A0_1 l0_1.length c0_1], .agg #[.string a1_0, .int .i64 a1_1, .string a1_2, .int .i64 a1_3, .int .i64 a1_4], .func (.func 42) #[] #[]] w fun e w' => ∃ v0_ v1_ : Value, e = .returned (.tuple #[.agg #[v0_, v1_], .int .i64 r3]) ∧ Kd.R k51 51 w' w.heap.size (fun _ => True) v0_ r1 ∧ Kd.R k64 64 w' w.heap.size (fun _ => True) v1_ r2 ∧ Below w.heap.size w w' := ledger_changed_any.calls 42 _ Try.func42 (by kernel_rfl) rfl act_Do.f act_Do.calls k A0_0 c0_0 l0_0 A0_1 c0_1 l0_1 a1_0 a1_1 a1_2 a1_3 a1_4 a2 r1 r2 r3 w hr0_0 hc0_0 hr0_1 hc0_1 h

end Go.Proofs.Ytikanbdhpafbiaa.PO
