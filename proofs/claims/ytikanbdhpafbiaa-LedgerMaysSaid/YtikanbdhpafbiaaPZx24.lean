-- Written by a program of this session (wip/tools/mp.py over the kit's printer); Lean checks it.
import Derived.Test.YtikanbdhpafbiaaPZx0
import Derived.Test.YtikanbdhpafbiaaPZx4
import Derived.Test.YtikanbdhpafbiaaPZx7
import Derived.Test.YtikanbdhpafbiaaPZx18
import Derived.Test.YtikanbdhpafbiaaPZx21
import Derived.Test.YtikanbdhpafbiaaPZx22
import Derived.Test.YtikanbdhpafbiaaPZx23
namespace Go.Proofs.Ytikanbdhpafbiaa.PZ
open Go.RowKit Go.Proofs.YtikanbdhpafbiaaW.PrintWords Go.Proofs.YtikanbdhpafbiaaW.PrintLast Go.Proofs.YtikanbdhpafbiaaW.PrintMore
attribute [local go_sem] max2_int min2_int max_two min_two max_three min_three max_four min_four   -- for this text's walks alone
set_option linter.unusedVariables false
set_option maxHeartbeats 8000000
set_option maxRecDepth 100000
set_option linter.unusedSimpArgs false

attribute [local go_sem high] eqA51
/-! ### ententelaw07_LedgerMays: function 5 -/
def ententelaw07_LedgerMays.j0 : Nat → ByteArray → ByteArray → Bool → List (S51) → List (S64) → Option (Bool)
 | 0, _, _, _, _, _ => none
 | k + 1, x1, x2, x24, x508000, x508001 => if x24 = true then ((ententelaw07_awake.f k).bind fun t509 => (some t509)) else ((ledger_Find.f k x508000 x508001 x1).bind fun bt510 => ((ententeref07_Find.f k x508000 x508001 x1).bind fun bt519 => ((ledger_Net.f k x508000 x508001 x1 x2).bind fun bt528 => ((ententeref07_Net.f k x508000 x508001 x1 x2).bind fun bt531 => ((ledger_May.f k x508000 x508001).bind fun t534 => ((ententeref07_May.f k x508000 x508001).bind fun t535 => (if t534 = t535 then (if (bt510.1.toList == bt519.1.toList && ((bt510.2.1 == bt519.2.1 && (bt510.2.2.1 == bt519.2.2.1 && (bt510.2.2.2.1 == bt519.2.2.2.1))) && ((bt510.2.2.2.2.1 == bt519.2.2.2.2.1 && (bt510.2.2.2.2.2.1 == bt519.2.2.2.2.2.1 && (bt510.2.2.2.2.2.2.1 == bt519.2.2.2.2.2.2.1)))))) = true then (if (bt510.2.2.2.2.2.2.2 == bt519.2.2.2.2.2.2.2) = true then ((ledger_State.f k x508000 x508001 x2).bind fun t536 => ((ententeref07_State.f k x508000 x508001 x2).bind fun t537 => (if t536 = t537 then (if bt528.1 = bt531.1 then (if bt528.2.1 = bt531.2.1 then (if bt528.2.2 = bt531.2.2 then ((ententelaw07_awake.f k).bind fun t538 => (some t538)) else (some false)) else (some false)) else (some false)) else (some false)))) else (some false)) else (some false)) else (some false))))))))
def ententelaw07_LedgerMays.f (k : Nat) (l0_0 : List (S51)) (l0_1 : List (S64)) (a1 : ByteArray) (a2 : ByteArray) : Option (Bool) := (ententelaw07_small.f k l0_0 l0_1).bind fun t508 => (if t508 = true then (ententelaw07_LedgerMays.j0 k a1 a2 (decide ((a2.size : Int) > 1000)) l0_0 l0_1) else (ententelaw07_LedgerMays.j0 k a1 a2 true l0_0 l0_1))
theorem ententelaw07_LedgerMays.mono_l : ∀ k, (∀ y0 y1 y2 y3 y4, LeO (ententelaw07_LedgerMays.j0 k y0 y1 y2 y3 y4) (ententelaw07_LedgerMays.j0 (k + 1) y0 y1 y2 y3 y4))
 | 0 => fun _ _ _ _ _ r h => by simp [ententelaw07_LedgerMays.j0] at h
 | k + 1 => by
  have ih0 := ententelaw07_LedgerMays.mono_l k
  intro y0 y1 y2 y3 y4
  unfold ententelaw07_LedgerMays.j0
  repeat' (with_reducible first | exact ih0 _ _ _ _ _ | exact ententelaw07_awake.mono _ | exact ententelaw07_small.mono _ _ _ | exact ententeref07_Find.mono _ _ _ _ | exact ententeref07_May.mono _ _ _ | exact ententeref07_Net.mono _ _ _ _ _ | exact ententeref07_State.mono _ _ _ _ | exact ledger_Find.mono _ _ _ _ | exact ledger_May.mono _ _ _ | exact ledger_Net.mono _ _ _ _ _ | exact ledger_State.mono _ _ _ _ | exact LeO.refl _ | exact LeO.none _ | apply LeO.ite | refine LeO.bind ?_ (fun _ => ?_))
theorem ententelaw07_LedgerMays.mono : ∀ a0 a1 a2 a3 k, LeO (ententelaw07_LedgerMays.f k a0 a1 a2 a3) (ententelaw07_LedgerMays.f (k + 1) a0 a1 a2 a3) := by
 intro a0 a1 a2 a3 k
 have ih0 := ententelaw07_LedgerMays.mono_l k
 unfold ententelaw07_LedgerMays.f
 repeat' (with_reducible first | exact ih0 _ _ _ _ _ | exact ententelaw07_awake.mono _ | exact ententelaw07_small.mono _ _ _ | exact ententeref07_Find.mono _ _ _ _ | exact ententeref07_May.mono _ _ _ | exact ententeref07_Net.mono _ _ _ _ _ | exact ententeref07_State.mono _ _ _ _ | exact ledger_Find.mono _ _ _ _ | exact ledger_May.mono _ _ _ | exact ledger_Net.mono _ _ _ _ _ | exact ledger_State.mono _ _ _ _ | exact LeO.refl _ | exact LeO.none _ | apply LeO.ite | refine LeO.bind ?_ (fun _ => ?_))
def ententelaw07_LedgerMays.T7 : Bool × List (List Nat × List Nat) := (true, [([], []), ([0], [0]), ([], []), ([2, 1], [2]), ([1, 3], [1, 3]), ([4, 3], [4]), ([5], [5]), ([5], [5]), ([6, 7, 5], [5, 6, 7]), ([5, 8], [5, 8]), ([9, 5], [9]), ([10], [10]), ([10], [10]), ([11, 12, 10], [10, 11, 12]), ([10, 13], [10, 13]), ([14, 10], [14]), ([15], [15]), ([15], [15]), ([16, 17, 15, 15], [15, 16, 17]), ([15], [15]), ([15], [15]), ([19, 20, 18, 15], [15, 19, 20]), ([18, 21, 15], [15, 18, 21]), ([15, 22], [15, 22]), ([23, 21], [23]), ([24], [24]), ([24], [24]), ([25, 26, 24], [24, 25, 26]), ([24, 27], [24, 27]), ([28, 24], [28]), ([29], [29]), ([29], [29]), ([30, 31, 29], [29, 30, 31]), ([29, 32], [29, 32]), ([33, 29], [33]), ([34], [34]), ([34], [34]), ([35, 36, 34], [34, 35, 36]), ([34, 37], [34, 37]), ([38, 34], [38]), ([39, 39], [39]), ([39, 40], [39, 40]), ([41, 40, 0, 1, 2, 3, 4, 5, 6, 7, 8, 9, 10, 11, 12, 13, 14, 15, 16, 17, 18, 19, 20, 21, 22, 23, 24, 25, 26, 27, 28, 29, 30, 31, 32, 33, 34, 35, 36, 37, 38, 39, 40, 41], [41])])
def ententelaw07_LedgerMays.B7 : List Nat := [0, 1, 0, 7, 15, 31, 63, 63, 255, 511, 1023, 2047, 2047, 8191, 16383, 32767, 65535, 65535, 262143, 65535, 65535, 2097151, 4194303, 8388607, 16777215, 33554431, 33554431, 134217727, 268435455, 536870911, 1073741823, 1073741823, 4294967295, 8589934591, 17179869183, 34359738367, 34359738367, 137438953471, 274877906943, 549755813887, 1099511627775, 2199023255551, 4398046511103]
theorem ententelaw07_LedgerMays.tab7 : rtab .any (opsOf Try.f5 7) = ententelaw07_LedgerMays.T7 := by kernel_rfl
theorem ententelaw07_LedgerMays.bits7 : waitsOk ententelaw07_LedgerMays.T7.2 ententelaw07_LedgerMays.B7 = true := by kernel_rfl
theorem ententelaw07_LedgerMays.calls (k : Nat) (A0_0 : Option Addr) (c0_0 : Nat) (l0_0 : List (S51)) (A0_1 : Option Addr) (c0_1 : Nat) (l0_1 : List (S64)) (a1 : ByteArray) (a2 : ByteArray) (r : Bool) (w : World) (hr0_0 : Kd.C k51 w A0_0 l0_0.length l0_0) (hc0_0 : l0_0.length ≤ c0_0) (hr0_1 : Kd.C k64 w A0_1 l0_1.length l0_1) (hc0_1 : l0_1.length ≤ c0_1) (ht : r = true) (h : ententelaw07_LedgerMays.f k l0_0 l0_1 a1 a2 = some r) :
  Calls Try.prog 5 #[.agg #[.slice A0_0 l0_0.length c0_0, .slice A0_1 l0_1.length c0_1], .string a1, .string a2] w fun e w' => e = .returned (.bool r) ∧ Below w.heap.size w w' := by
 have hu25 := Try.underlying25
 have hu51 := Try.underlying51
 have HR0_0 := My.am hr0_0
 have HC0_0 := My.am hc0_0
 clear hr0_0 hc0_0
 have HR0_1 := My.am hr0_1
 have HC0_1 := My.am hc0_1
 clear hr0_1 hc0_1
 have HB := My.am (Below.refl w.heap.size w)
 have HT := My.am ht
 clear ht
 unfold ententelaw07_LedgerMays.f at h
 have H := h
 clear h
 have HC4 := My.am H
 clear H
 go_enter Try.func5, Try.ntmps5
 go_upto_region 1 with (first | ((with_reducible refine gate_dst (N := 3) rfl ?_); (try (refine gate_guard (by rfl) ?_; dsimp only)); refine My.bx 3 #[.slice A0_0 l0_0.length c0_0, .slice A0_1 l0_1.length c0_1] 25 ?_; intro gb507 hg w5 hbox hb; have BK507 := My.am (hbox); have GE507 := My.nge hg (My.bl_ HB); replace HB := My.st HB hb; clear hb hbox hg))
 (try simp only [Act.put, List.setIfInBounds_toArray, List.set_cons_zero, List.set_cons_succ])
 go_cut [24] (fun v24 wc => ∃ (kq : Nat) (x24_3 : Bool), v24 = .bool x24_3 ∧ Aside0 (ententelaw07_LedgerMays.j0 kq a1 a2 x24_3 l0_0 l0_1 = some r) ∧ Aside0 (kq ≤ k) ∧ Aside0 (wc.heap[gb507]? = some (.cells #[(.slice A0_0 l0_0.length c0_0), (.slice A0_1 l0_1.length c0_1)] 25 (0, 0))) ∧ Aside0 (Below w.heap.size w wc))
 case first =>
  have H := HC4.out
  clear HC4
  replace H := Option.bind_eq_some_iff.mp H
  obtain ⟨t508, A60, H⟩ := H
  try dsimp only at H
  have A6 := My.am A60
  clear A60
  by_cases c7 : t508 = true
  ·subst c7
   rw [if_pos rfl] at H
   have H' := My.am H
   clear H
   have hq8 := My.cz2 BK507
   go_wp2_with (first | ((with_reducible refine gate_callee (f := 8) rfl ?_); refine goesL_ (some 18) rfl rfl Try.func8 (by kernel_rfl) rfl #[.agg #[.slice A0_0 l0_0.length c0_0, .slice A0_1 l0_1.length c0_1]] rfl My.gx ?_; (with_reducible refine (ententelaw07_small.calls k _ _ l0_0 _ _ l0_1 true _ ?side1 ?side2 ?side3 ?side4 A6.out).mono ?_); (case side1 => exact My.sd_ HR0_0 HB); (case side2 => exact HC0_0.out); (case side3 => exact My.sd_ HR0_1 HB); (case side4 => exact HC0_1.out); rintro e w9 ⟨rfl, hb⟩; refine ⟨_, rfl, ?_⟩; replace BK507 := My.ab BK507 hb; replace HB := My.st HB hb; (try clear hb)))
   go_meet
   case rel => exact ⟨_, (decide ((a2.size : Int) > 1000)), My.r1, H', ⟨My.r4⟩, ⟨(My.at_ BK507)⟩, ⟨(My.bl_ HB)⟩⟩
  ·replace c7 := Bool.eq_false_iff.mpr c7
   subst c7
   rw [if_neg (show ¬ (false = true) by decide)] at H
   have H' := My.am H
   clear H
   have hq10 := My.cz2 BK507
   go_wp2_with (first | ((with_reducible refine gate_callee (f := 8) rfl ?_); refine goesL_ (some 18) rfl rfl Try.func8 (by kernel_rfl) rfl #[.agg #[.slice A0_0 l0_0.length c0_0, .slice A0_1 l0_1.length c0_1]] rfl My.gx ?_; (with_reducible refine (ententelaw07_small.calls k _ _ l0_0 _ _ l0_1 false _ ?side1 ?side2 ?side3 ?side4 A6.out).mono ?_); (case side1 => exact My.sd_ HR0_0 HB); (case side2 => exact HC0_0.out); (case side3 => exact My.sd_ HR0_1 HB); (case side4 => exact HC0_1.out); rintro e w11 ⟨rfl, hb⟩; refine ⟨_, rfl, ?_⟩; replace BK507 := My.ab BK507 hb; replace HB := My.st HB hb; (try clear hb)))
   go_meet
   case rel => exact ⟨_, (true), My.r1, H', ⟨My.r4⟩, ⟨(My.at_ BK507)⟩, ⟨(My.bl_ HB)⟩⟩
 case rest =>
  clear HC4
  obtain ⟨kq, x24_3, rfl, HA, HJ3, BK507, HB⟩ := hcut
  cases kq with
  | zero => exact absurd HA.out (by simp [ententelaw07_LedgerMays.j0])
  | succ kj3 =>
   have H := HA.out
   clear HA
   simp only [ententelaw07_LedgerMays.j0] at H
   by_cases c12 : x24_3 = true
   ·subst c12
    rw [if_pos rfl] at H
    replace H := Option.bind_eq_some_iff.mp H
    obtain ⟨t509, A130, H⟩ := H
    try dsimp only at H
    have A13 := My.am A130
    clear A130
    obtain rfl := Option.some.inj H
    go_wp2_with (first | ((with_reducible refine gate_callee (f := 9) rfl ?_); refine goesL_ (some 25) rfl rfl Try.func9 (by kernel_rfl) rfl #[] rfl My.gx ?_; (with_reducible refine (ententelaw07_awake.calls kj3  t509 _ A13.out).mono ?_); rintro e w14 ⟨rfl, hb⟩; refine ⟨_, rfl, ?_⟩; replace BK507 := My.ab BK507 hb; replace HB := My.st HB hb; (try clear hb)))
    go_ret
    exact ⟨My.r2, (My.bl_ HB)⟩
   replace c12 := Bool.eq_false_iff.mpr c12
   subst c12
   rw [if_neg (show ¬ (false = true) by decide)] at H
   replace H := Option.bind_eq_some_iff.mp H
   obtain ⟨⟨t510, t511, t512, t513, t514, t515, t516, t517⟩, A150, H⟩ := H
   try dsimp only at H
   have A15 := My.am A150
   clear A150
   replace H := Option.bind_eq_some_iff.mp H
   obtain ⟨⟨t519, t520, t521, t522, t523, t524, t525, t526⟩, A160, H⟩ := H
   try dsimp only at H
   have A16 := My.am A160
   clear A160
   replace H := Option.bind_eq_some_iff.mp H
   obtain ⟨⟨t528, t529, t530⟩, A170, H⟩ := H
   try dsimp only at H
   have A17 := My.am A170
   clear A170
   replace H := Option.bind_eq_some_iff.mp H
   obtain ⟨⟨t531, t532, t533⟩, A180, H⟩ := H
   try dsimp only at H
   have A18 := My.am A180
   clear A180
   replace H := Option.bind_eq_some_iff.mp H
   obtain ⟨t534, A190, H⟩ := H
   try dsimp only at H
   have A19 := My.am A190
   clear A190
   replace H := Option.bind_eq_some_iff.mp H
   obtain ⟨t535, A200, H⟩ := H
   try dsimp only at H
   have A20 := My.am A200
   clear A200
   by_cases c21 : t534 = t535
   rotate_left
   ·rw [if_neg c21] at H
    have c21b0 : (t534 == t535) = false := beq_eq_false_iff_ne.mpr c21
    have c21b1 : (t534 != t535) = true := bne_iff_ne.mpr c21
    exact absurd ((Option.some.inj H).trans HT.out) Bool.false_ne_true

   rw [if_pos c21] at H
   have c21b0 : (t534 == t535) = true := beq_iff_eq.mpr c21
   have c21b1 : (t534 != t535) = false := bne_eq_false_iff_eq.mpr c21
   clear c21
   by_cases c22 : (t510.toList == t519.toList && ((t511 == t520 && (t512 == t521 && (t513 == t522))) && ((t514 == t523 && (t515 == t524 && (t516 == t525)))))) = true
   rotate_left
   ·rw [if_neg c22] at H
    have c22b0 : (t510.toList == t519.toList && ((t511 == t520 && (t512 == t521 && (t513 == t522))) && ((t514 == t523 && (t515 == t524 && (t516 == t525)))))) = false := by simpa using c22
    (try (have c22b1 : decide (t510.toList = t519.toList && ((t511 == t520 && (t512 == t521 && (t513 == t522))) && ((t514 == t523 && (t515 == t524 && (t516 == t525)))))) = false := by simpa using c22))
    (try (have c22b2 : (t510.toList == t519.toList && ((t511 == t520 && (t512 == t521 && (t513 == t522))) && ((t514 == t523 && (t515 == t524 && (t516 == t525)))))) = false := by simpa using c22))
    (try (have c22b3 : ¬ (t510.toList = t519.toList && ((t511 == t520 && (t512 == t521 && (t513 == t522))) && ((t514 == t523 && (t515 == t524 && (t516 == t525)))))) := by simpa using c22))
    clear c22
    exact absurd ((Option.some.inj H).trans HT.out) Bool.false_ne_true
   rw [if_pos c22] at H
   have c22b0 : (t510.toList == t519.toList && ((t511 == t520 && (t512 == t521 && (t513 == t522))) && ((t514 == t523 && (t515 == t524 && (t516 == t525)))))) = true := c22
   (try (have c22b1 : decide (t510.toList = t519.toList && ((t511 == t520 && (t512 == t521 && (t513 == t522))) && ((t514 == t523 && (t515 == t524 && (t516 == t525)))))) = true := by simpa using c22))
   (try (have c22b2 : (t510.toList == t519.toList && ((t511 == t520 && (t512 == t521 && (t513 == t522))) && ((t514 == t523 && (t515 == t524 && (t516 == t525)))))) = true := by simpa using c22))
   clear c22
   by_cases c23 : (t517 == t526) = true
   rotate_left
   ·rw [if_neg c23] at H
    have c23b0 : (t517 == t526) = false := by simpa using c23
    (try (have c23b1 : decide (t517 = t526) = false := by simpa using c23))
    (try (have c23b2 : (t517 == t526) = false := by simpa using c23))
    (try (have c23b3 : ¬ (t517 = t526) := by simpa using c23))
    clear c23
    exact absurd ((Option.some.inj H).trans HT.out) Bool.false_ne_true
   rw [if_pos c23] at H
   have c23b0 : (t517 == t526) = true := c23
   (try (have c23b1 : decide (t517 = t526) = true := by simpa using c23))
   (try (have c23b2 : (t517 == t526) = true := by simpa using c23))
   clear c23
   replace H := Option.bind_eq_some_iff.mp H
   obtain ⟨t536, A240, H⟩ := H
   try dsimp only at H
   have A24 := My.am A240
   clear A240
   replace H := Option.bind_eq_some_iff.mp H
   obtain ⟨t537, A250, H⟩ := H
   try dsimp only at H
   have A25 := My.am A250
   clear A250
   by_cases c26 : t536 = t537
   rotate_left
   ·rw [if_neg c26] at H
    have c26b0 : (t536 == t537) = false := beq_eq_false_iff_ne.mpr c26
    have c26b1 : (t536 != t537) = true := bne_iff_ne.mpr c26
    exact absurd ((Option.some.inj H).trans HT.out) Bool.false_ne_true
   rw [if_pos c26] at H
   have c26b0 : (t536 == t537) = true := beq_iff_eq.mpr c26
   have c26b1 : (t536 != t537) = false := bne_eq_false_iff_eq.mpr c26
   clear c26
   by_cases c27 : t528 = t531
   rotate_left
   ·rw [if_neg c27] at H
    have c27b0 : (t528 == t531) = false := beq_eq_false_iff_ne.mpr c27
    have c27b1 : (t528 != t531) = true := bne_iff_ne.mpr c27
    exact absurd ((Option.some.inj H).trans HT.out) Bool.false_ne_true
   rw [if_pos c27] at H
   have c27b0 : (t528 == t531) = true := beq_iff_eq.mpr c27
   have c27b1 : (t528 != t531) = false := bne_eq_false_iff_eq.mpr c27
   clear c27
   by_cases c28 : t529 = t532
   rotate_left
   ·rw [if_neg c28] at H
    have c28b0 : (t529 == t532) = false := beq_eq_false_iff_ne.mpr c28
    have c28b1 : (t529 != t532) = true := bne_iff_ne.mpr c28
    exact absurd ((Option.some.inj H).trans HT.out) Bool.false_ne_true
   rw [if_pos c28] at H
   have c28b0 : (t529 == t532) = true := beq_iff_eq.mpr c28
   have c28b1 : (t529 != t532) = false := bne_eq_false_iff_eq.mpr c28
   clear c28
   by_cases c29 : t530 = t533
   rotate_left
   ·rw [if_neg c29] at H
    have c29b0 : (t530 == t533) = false := beq_eq_false_iff_ne.mpr c29
    have c29b1 : (t530 != t533) = true := bne_iff_ne.mpr c29
    exact absurd ((Option.some.inj H).trans HT.out) Bool.false_ne_true
   rw [if_pos c29] at H
   have c29b0 : (t530 == t533) = true := beq_iff_eq.mpr c29
   have c29b1 : (t530 != t533) = false := bne_eq_false_iff_eq.mpr c29
   clear c29
   replace H := Option.bind_eq_some_iff.mp H
   obtain ⟨t538, A300, H⟩ := H
   try dsimp only at H
   have A30 := My.am A300
   clear A300
   obtain rfl := Option.some.inj H
   have hq31 := My.cz2 BK507
   try go_wp2_with (first | ((with_reducible refine gate_callee (f := 21) rfl ?_); refine goesL_ (some 29) rfl rfl Try.func21 (by kernel_rfl) rfl #[.agg #[.slice A0_0 l0_0.length c0_0, .slice A0_1 l0_1.length c0_1], .string a1] rfl My.gx ?_; (with_reducible refine (ledger_Find.calls kj3 _ _ l0_0 _ _ l0_1 a1 t510 t511 t512 t513 t514 t515 t516 t517 _ ?side1 ?side2 ?side3 ?side4 A15.out).mono ?_); (case side1 => exact My.sd_ HR0_0 HB); (case side2 => exact HC0_0.out); (case side3 => exact My.sd_ HR0_1 HB); (case side4 => exact HC0_1.out); rintro e w32 ⟨rfl, hb⟩; refine ⟨_, rfl, ?_⟩; replace BK507 := My.ab BK507 hb; replace HB := My.st HB hb; (try clear hb)) | ((with_reducible refine gate_dst (N := 7) rfl ?_); (try (refine gate_guard (by rfl) ?_; dsimp only)); refine My.bx 7 #[.string (⟨#[]⟩ : ByteArray), .int .i64 0, .int .i64 0, .int .i64 0, .int .i64 0, .int .i64 0, .int .i64 0] 51 ?_; intro gb518 hg w33 hbox hb; have BK518 := My.am (hbox); have GE518 := My.nge hg (My.bl_ HB); replace HB := My.st HB hb; obtain ⟨NB507_518, NB518_507, BK507⟩ := My.nb hg hb BK507; clear hb hbox hg; have hnb34 := NB518_507.out; have hnc34 := NB507_518.out; have hq35 := My.cz7 BK518; have hq36 := My.cz2 BK507) | ((with_reducible refine gate_callee (f := 22) rfl ?_); refine goesL_ (some 35) rfl rfl Try.func22 (by kernel_rfl) rfl #[.agg #[.slice A0_0 l0_0.length c0_0, .slice A0_1 l0_1.length c0_1], .string a1] rfl My.gx ?_; (with_reducible refine (ententeref07_Find.calls kj3 _ _ l0_0 _ _ l0_1 a1 t519 t520 t521 t522 t523 t524 t525 t526 _ ?side1 ?side2 ?side3 ?side4 A16.out).mono ?_); (case side1 => exact Kd.C_below HR0_0.out (My.bl_ HB)); (case side2 => exact HC0_0.out); (case side3 => exact Kd.C_below HR0_1.out (My.bl_ HB)); (case side4 => exact HC0_1.out); rintro e w37 ⟨rfl, hb⟩; refine ⟨_, rfl, ?_⟩; replace BK507 := My.am (blk_below (g := gb507) (o := .cells #[.slice A0_0 l0_0.length c0_0, .slice A0_1 l0_1.length c0_1] 25 (0, 0)) ((My.sv_ BK507)) hb); replace BK518 := My.am (blk_below (g := gb518) (o := .cells #[.string t510, .int .i64 t511, .int .i64 t512, .int .i64 t513, .int .i64 t514, .int .i64 t515, .int .i64 t516] 51 (0, 0)) ((My.sv_ BK518)) hb); replace HB := My.st HB hb; (try clear hb)) | ((with_reducible refine gate_dst (N := 9) rfl ?_); (try (refine gate_guard (by rfl) ?_; dsimp only)); refine My.bx 9 #[.string (⟨#[]⟩ : ByteArray), .int .i64 0, .int .i64 0, .int .i64 0, .int .i64 0, .int .i64 0, .int .i64 0] 51 ?_; intro gb527 hg w38 hbox hb; have BK527 := My.am (hbox); have GE527 := My.nge hg (My.bl_ HB); replace HB := My.st HB hb; obtain ⟨NB507_527, NB527_507, BK507⟩ := My.nb hg hb BK507; obtain ⟨NB518_527, NB527_518, BK518⟩ := My.nb hg hb BK518; clear hb hbox hg; have hnb39 := NB527_507.out; have hnc39 := NB507_527.out; have hnb40 := NB527_518.out; have hnc40 := NB518_527.out; have hq41 := My.cz7 BK527; have hq42 := My.cz2 BK507) | ((with_reducible refine gate_callee (f := 23) rfl ?_); refine goesL_ (some 42) rfl rfl Try.func23 (by kernel_rfl) rfl #[.agg #[.slice A0_0 l0_0.length c0_0, .slice A0_1 l0_1.length c0_1], .string a1, .string a2] rfl My.gx ?_; (with_reducible refine (ledger_Net.calls kj3 _ _ l0_0 _ _ l0_1 a1 a2 t528 t529 t530 _ ?side1 ?side2 ?side3 ?side4 A17.out).mono ?_); (case side1 => exact Kd.C_below HR0_0.out (My.bl_ HB)); (case side2 => exact HC0_0.out); (case side3 => exact Kd.C_below HR0_1.out (My.bl_ HB)); (case side4 => exact HC0_1.out); rintro e w43 ⟨rfl, hb⟩; refine ⟨_, rfl, ?_⟩; replace BK507 := My.am (blk_below (g := gb507) (o := .cells #[.slice A0_0 l0_0.length c0_0, .slice A0_1 l0_1.length c0_1] 25 (0, 0)) ((My.sv_ BK507)) hb); replace BK518 := My.am (blk_below (g := gb518) (o := .cells #[.string t510, .int .i64 t511, .int .i64 t512, .int .i64 t513, .int .i64 t514, .int .i64 t515, .int .i64 t516] 51 (0, 0)) ((My.sv_ BK518)) hb); replace BK527 := My.am (blk_below (g := gb527) (o := .cells #[.string t519, .int .i64 t520, .int .i64 t521, .int .i64 t522, .int .i64 t523, .int .i64 t524, .int .i64 t525] 51 (0, 0)) ((My.sv_ BK527)) hb); replace HB := My.st HB hb; (try clear hb); have hq44 := My.cz2 BK507) | ((with_reducible refine gate_callee (f := 24) rfl ?_); refine goesL_ (some 50) rfl rfl Try.func24 (by kernel_rfl) rfl #[.agg #[.slice A0_0 l0_0.length c0_0, .slice A0_1 l0_1.length c0_1], .string a1, .string a2] rfl My.gx ?_; (with_reducible refine (ententeref07_Net.calls kj3 _ _ l0_0 _ _ l0_1 a1 a2 t531 t532 t533 _ ?side1 ?side2 ?side3 ?side4 A18.out).mono ?_); (case side1 => exact My.sd_ HR0_0 HB); (case side2 => exact HC0_0.out); (case side3 => exact My.sd_ HR0_1 HB); (case side4 => exact HC0_1.out); rintro e w45 ⟨rfl, hb⟩; refine ⟨_, rfl, ?_⟩; replace BK507 := My.ab BK507 hb; replace BK518 := My.ab BK518 hb; replace BK527 := My.ab BK527 hb; replace HB := My.st HB hb; (try clear hb)))
   replace BK507 := My.am (blk_drew BK507.out)
   replace BK518 := My.am (blk_drew BK518.out)
   replace BK527 := My.am (blk_drew BK527.out)
   replace HB := My.am (below_drew1 HB.out)
   refine start_ (n := 43) (S := fun w' => w'.cell? ⟨gb507, 0, none⟩ = some (.slice A0_0 l0_0.length c0_0) ∧ w'.cell? ⟨gb507, 1, none⟩ = some (.slice A0_1 l0_1.length c0_1) ∧ w'.cell? ⟨gb518, 0, none⟩ = some (.string t510) ∧ w'.cell? ⟨gb518, 1, none⟩ = some (.int .i64 t511) ∧ w'.cell? ⟨gb518, 2, none⟩ = some (.int .i64 t512) ∧ w'.cell? ⟨gb518, 3, none⟩ = some (.int .i64 t513) ∧ w'.cell? ⟨gb518, 4, none⟩ = some (.int .i64 t514) ∧ w'.cell? ⟨gb518, 5, none⟩ = some (.int .i64 t515) ∧ w'.cell? ⟨gb518, 6, none⟩ = some (.int .i64 t516) ∧ w'.cell? ⟨gb527, 0, none⟩ = some (.string t519) ∧ w'.cell? ⟨gb527, 1, none⟩ = some (.int .i64 t520) ∧ w'.cell? ⟨gb527, 2, none⟩ = some (.int .i64 t521) ∧ w'.cell? ⟨gb527, 3, none⟩ = some (.int .i64 t522) ∧ w'.cell? ⟨gb527, 4, none⟩ = some (.int .i64 t523) ∧ w'.cell? ⟨gb527, 5, none⟩ = some (.int .i64 t524) ∧ w'.cell? ⟨gb527, 6, none⟩ = some (.int .i64 t525)) (ds := []) #[false, false, false, false, false, false, false, false, false, false, false, false, false, false, false, false, false, false, false, false, false, false, false, false, false, false, false, false, false, false, false, false, false, false, false, false, false, false, false, false, false, false, false] (by kernel_rfl) rfl rfl ⟨My.b_ BK507 0, My.b_ BK507 1, My.b_ BK518 0, My.b_ BK518 1, My.b_ BK518 2, My.b_ BK518 3, My.b_ BK518 4, My.b_ BK518 5, My.b_ BK518 6, My.b_ BK527 0, My.b_ BK527 1, My.b_ BK527 2, My.b_ BK527 3, My.b_ BK527 4, My.b_ BK527 5, My.b_ BK527 6⟩ (fun hHeld => ?_); refine with_tabW ententelaw07_LedgerMays.tab7 ententelaw07_LedgerMays.bits7 (fun HT_ HW_ => ?_)
   generalize w45.drew = w46 at BK507 BK518 BK527 HB hHeld ⊢
   refine My.ta_ 0 54 43 HT_.out HW_.out hHeld rfl rfl (by rintro w' ⟨s0, s1, s2, s3, s4, s5, s6, s7, s8, s9, s10, s11, s12, s13, s14, s15⟩; go_simp; with_reducible rfl) ?_
   refine My.tv_ 2 56 43 5 HT_.out HW_.out hHeld rfl rfl (by rintro w' ⟨s0, s1, s2, s3, s4, s5, s6, s7, s8, s9, s10, s11, s12, s13, s14, s15⟩; go_simp; with_reducible rfl) ?_
   refine one_ (i := 1) (N := some 55) (My.Mb 43 7) rfl rfl (one_of HT_.out (by kernel_rfl)) (by decide) (fun K hK => ?_)
   refine goes_ Try.func20 (by kernel_rfl) rfl #[.agg #[.slice A0_0 l0_0.length c0_0, .slice A0_1 l0_1.length c0_1]] (by rfl) rfl rfl My.gx ?_
   with_reducible refine (ledger_May.calls kj3 _ _ l0_0 _ _ l0_1 t534 _ ?side1 ?side2 ?side3 ?side4 A19.out).mono ?_
   (case side1 => exact My.sd_ HR0_0 HB)
   (case side2 => exact HC0_0.out)
   (case side3 => exact My.sd_ HR0_1 HB)
   (case side4 => exact HC0_1.out)
   rintro e w47 ⟨rfl, hb⟩
   refine ⟨_, rfl, ?_⟩
   replace BK507 := My.ab BK507 hb
   replace BK518 := My.ab BK518 hb
   replace BK527 := My.ab BK527 hb
   replace HB := My.st HB hb
   (try clear hb)
   (try clear hb2)
   (try clear hk)
   (try clear hi)
   refine hK.out _ _ ⟨My.b_ BK507 0, My.b_ BK507 1, My.b_ BK518 0, My.b_ BK518 1, My.b_ BK518 2, My.b_ BK518 3, My.b_ BK518 4, My.b_ BK518 5, My.b_ BK518 6, My.b_ BK527 0, My.b_ BK527 1, My.b_ BK527 2, My.b_ BK527 3, My.b_ BK527 4, My.b_ BK527 5, My.b_ BK527 6⟩ (fun hHeld => ?_)
   clear hK K
   refine norm_ (a' := ?_) ?_ ?_
   rotate_left
   ·show Act.put _ (some 55) _ = _
    simp only [Act.put, List.setIfInBounds_toArray, List.set_cons_zero, List.set_cons_succ, i64_w, i32_w]
    rfl
   refine one_ (i := 3) (N := some 57) (My.Mb 43 15) rfl rfl (one_of HT_.out (by kernel_rfl)) (by decide) (fun K hK => ?_)
   refine goes_ Try.func25 (by kernel_rfl) rfl #[.agg #[.slice A0_0 l0_0.length c0_0, .slice A0_1 l0_1.length c0_1]] (by rfl) rfl rfl My.gx ?_
   with_reducible refine (ententeref07_May.calls kj3 _ _ l0_0 _ _ l0_1 t535 _ ?side1 ?side2 ?side3 ?side4 A20.out).mono ?_
   (case side1 => exact My.sd_ HR0_0 HB)
   (case side2 => exact HC0_0.out)
   (case side3 => exact My.sd_ HR0_1 HB)
   (case side4 => exact HC0_1.out)
   rintro e w48 ⟨rfl, hb⟩
   refine ⟨_, rfl, ?_⟩
   replace BK507 := My.ab BK507 hb
   replace BK518 := My.ab BK518 hb
   replace BK527 := My.ab BK527 hb
   replace HB := My.st HB hb
   (try clear hb)
   (try clear hb2)
   (try clear hk)
   (try clear hi)
   refine hK.out _ _ ⟨My.b_ BK507 0, My.b_ BK507 1, My.b_ BK518 0, My.b_ BK518 1, My.b_ BK518 2, My.b_ BK518 3, My.b_ BK518 4, My.b_ BK518 5, My.b_ BK518 6, My.b_ BK527 0, My.b_ BK527 1, My.b_ BK527 2, My.b_ BK527 3, My.b_ BK527 4, My.b_ BK527 5, My.b_ BK527 6⟩ (fun hHeld => ?_)
   clear hK K
   refine norm_ (a' := ?_) ?_ ?_
   rotate_left
   ·show Act.put _ (some 57) _ = _
    simp only [Act.put, List.setIfInBounds_toArray, List.set_cons_zero, List.set_cons_succ, i64_w, i32_w]
    rfl
   refine My.pu_ 4 58 43 HT_.out ?_
   refine My.pu_ 5 59 43 HT_.out ?_
   refine My.ta_ 6 60 43 HT_.out HW_.out hHeld rfl rfl (by rintro w' ⟨s0, s1, s2, s3, s4, s5, s6, s7, s8, s9, s10, s11, s12, s13, s14, s15⟩; go_simp; with_reducible rfl) ?_
   refine My.ta_ 7 61 43 HT_.out HW_.out hHeld rfl rfl (by rintro w' ⟨s0, s1, s2, s3, s4, s5, s6, s7, s8, s9, s10, s11, s12, s13, s14, s15⟩; go_simp; with_reducible rfl) ?_
   refine My.pu_ 8 62 43 HT_.out ?_
   refine My.pu_ 9 63 43 HT_.out ?_
   refine My.pu_ 10 64 43 HT_.out ?_
   refine My.pu_ 11 65 43 HT_.out ?_
   refine My.pu_ 12 66 43 HT_.out ?_
   refine My.pu_ 13 67 43 HT_.out ?_
   refine My.pu_ 14 68 43 HT_.out ?_
   refine My.pu_ 15 69 43 HT_.out ?_
   refine My.pv_ 17 71 43 196607 HT_.out ?_
   refine My.pv_ 20 74 43 1245183 HT_.out ?_
   refine My.tv_ 16 70 43 1310719 HT_.out HW_.out hHeld rfl rfl (by rintro w' ⟨s0, s1, s2, s3, s4, s5, s6, s7, s8, s9, s10, s11, s12, s13, s14, s15⟩; go_simp; with_reducible rfl) ?_
   refine My.tv_ 19 73 43 1835007 HT_.out HW_.out hHeld rfl rfl (by rintro w' ⟨s0, s1, s2, s3, s4, s5, s6, s7, s8, s9, s10, s11, s12, s13, s14, s15⟩; go_simp; with_reducible rfl) ?_
   refine one_ (i := 18) (N := some 72) (My.Mb 43 2097151) rfl rfl (one_of HT_.out (by kernel_rfl)) (by decide) (fun K hK => ?_)
   refine goes_ Try.func26 (by kernel_rfl) rfl #[.agg #[.slice A0_0 l0_0.length c0_0, .slice A0_1 l0_1.length c0_1], .string a2] (by rfl) rfl rfl My.gx ?_
   with_reducible refine (ledger_State.calls kj3 _ _ l0_0 _ _ l0_1 a2 t536 _ ?side1 ?side2 ?side3 ?side4 A24.out).mono ?_
   (case side1 => exact My.sd_ HR0_0 HB)
   (case side2 => exact HC0_0.out)
   (case side3 => exact My.sd_ HR0_1 HB)
   (case side4 => exact HC0_1.out)
   rintro e w49 ⟨rfl, hb⟩
   refine ⟨_, rfl, ?_⟩
   replace BK507 := My.ab BK507 hb
   replace BK518 := My.ab BK518 hb
   replace BK527 := My.ab BK527 hb
   replace HB := My.st HB hb
   (try clear hb)
   (try clear hb2)
   (try clear hk)
   (try clear hi)
   refine hK.out _ _ ⟨My.b_ BK507 0, My.b_ BK507 1, My.b_ BK518 0, My.b_ BK518 1, My.b_ BK518 2, My.b_ BK518 3, My.b_ BK518 4, My.b_ BK518 5, My.b_ BK518 6, My.b_ BK527 0, My.b_ BK527 1, My.b_ BK527 2, My.b_ BK527 3, My.b_ BK527 4, My.b_ BK527 5, My.b_ BK527 6⟩ (fun hHeld => ?_)
   clear hK K
   refine norm_ (a' := ?_) ?_ ?_
   rotate_left
   ·show Act.put _ (some 72) _ = _
    simp only [Act.put, List.setIfInBounds_toArray, List.set_cons_zero, List.set_cons_succ, i64_w, i32_w]
    rfl
   refine one_ (i := 21) (N := some 75) (My.Mb 43 4194303) rfl rfl (one_of HT_.out (by kernel_rfl)) (by decide) (fun K hK => ?_)
   refine goes_ Try.func27 (by kernel_rfl) rfl #[.agg #[.slice A0_0 l0_0.length c0_0, .slice A0_1 l0_1.length c0_1], .string a2] (by rfl) rfl rfl My.gx ?_
   with_reducible refine (ententeref07_State.calls kj3 _ _ l0_0 _ _ l0_1 a2 t537 _ ?side1 ?side2 ?side3 ?side4 A25.out).mono ?_
   (case side1 => exact My.sd_ HR0_0 HB)
   (case side2 => exact HC0_0.out)
   (case side3 => exact My.sd_ HR0_1 HB)
   (case side4 => exact HC0_1.out)
   rintro e w50 ⟨rfl, hb⟩
   refine ⟨_, rfl, ?_⟩
   replace BK507 := My.ab BK507 hb
   replace BK518 := My.ab BK518 hb
   replace BK527 := My.ab BK527 hb
   replace HB := My.st HB hb
   (try clear hb)
   (try clear hb2)
   (try clear hk)
   (try clear hi)
   refine hK.out _ _ ⟨My.b_ BK507 0, My.b_ BK507 1, My.b_ BK518 0, My.b_ BK518 1, My.b_ BK518 2, My.b_ BK518 3, My.b_ BK518 4, My.b_ BK518 5, My.b_ BK518 6, My.b_ BK527 0, My.b_ BK527 1, My.b_ BK527 2, My.b_ BK527 3, My.b_ BK527 4, My.b_ BK527 5, My.b_ BK527 6⟩ (fun hHeld => ?_)
   clear hK K
   refine norm_ (a' := ?_) ?_ ?_
   rotate_left
   ·show Act.put _ (some 75) _ = _
    simp only [Act.put, List.setIfInBounds_toArray, List.set_cons_zero, List.set_cons_succ, i64_w, i32_w]
    rfl
   refine My.pu_ 22 76 43 HT_.out ?_
   refine My.pu_ 23 77 43 HT_.out ?_
   refine My.pu_ 24 78 43 HT_.out ?_
   refine My.pu_ 25 79 43 HT_.out ?_
   refine My.pu_ 26 80 43 HT_.out ?_
   refine My.pu_ 27 81 43 HT_.out ?_
   refine My.pu_ 28 82 43 HT_.out ?_
   refine My.pu_ 29 83 43 HT_.out ?_
   refine My.pu_ 30 84 43 HT_.out ?_
   refine My.pu_ 31 85 43 HT_.out ?_
   refine My.pu_ 32 86 43 HT_.out ?_
   refine My.pu_ 33 87 43 HT_.out ?_
   refine My.pu_ 34 88 43 HT_.out ?_
   refine My.pu_ 35 89 43 HT_.out ?_
   refine My.pu_ 36 90 43 HT_.out ?_
   refine My.pu_ 37 91 43 HT_.out ?_
   refine My.pu_ 38 92 43 HT_.out ?_
   refine My.pu_ 39 93 43 HT_.out ?_
   refine one_ (i := 40) (N := some 94) (My.Mb 43 2199023255551) rfl rfl (one_of HT_.out (by kernel_rfl)) (by decide) (fun K hK => ?_)
   refine goes_ Try.func9 (by kernel_rfl) rfl #[] (by rfl) rfl rfl My.gx ?_
   with_reducible refine (ententelaw07_awake.calls kj3  t538 _ A30.out).mono ?_
   rintro e w51 ⟨rfl, hb⟩
   refine ⟨_, rfl, ?_⟩
   replace BK507 := My.ab BK507 hb
   replace BK518 := My.ab BK518 hb
   replace BK527 := My.ab BK527 hb
   replace HB := My.st HB hb
   (try clear hb)
   (try clear hb2)
   (try clear hk)
   (try clear hi)
   refine hK.out _ _ ⟨My.b_ BK507 0, My.b_ BK507 1, My.b_ BK518 0, My.b_ BK518 1, My.b_ BK518 2, My.b_ BK518 3, My.b_ BK518 4, My.b_ BK518 5, My.b_ BK518 6, My.b_ BK527 0, My.b_ BK527 1, My.b_ BK527 2, My.b_ BK527 3, My.b_ BK527 4, My.b_ BK527 5, My.b_ BK527 6⟩ (fun hHeld => ?_)
   clear hK K
   refine norm_ (a' := ?_) ?_ ?_
   rotate_left
   ·show Act.put _ (some 94) _ = _
    simp only [Act.put, List.setIfInBounds_toArray, List.set_cons_zero, List.set_cons_succ, i64_w, i32_w]
    rfl
   refine My.pu_ 41 95 43 HT_.out ?_
   refine My.pu_ 42 6 43 HT_.out ?_
   refine done_ (done_of HT_.out (by kernel_rfl)) ?_
   try go_wp2
   go_ret
   exact ⟨My.r2, (My.bl_ HB)⟩
/-- What is known of an element that came in. -/
def Q49 (x : S49) : Prop := (Lit.int .i64 x.f0).wf = true ∧ (Lit.int .i64 x.f1).wf = true ∧ (Lit.int .i64 x.f2).wf = true
/-- What is known of an element that came in. -/
def Q51 (x : S51) : Prop := x.f0.size ≤ 140737488351232 ∧ Q49 x.f1 ∧ Q49 x.f2
/-- What is known of an element that came in. -/
def Q27 (x : S27) : Prop := (Lit.int .i64 x.f0).wf = true ∧ x.f1.size ≤ 140737488351232 ∧ (Lit.int .i64 x.f2).wf = true
/-- What is known of an element that came in. -/
def Q64 (x : S64) : Prop := x.f0.size ≤ 140737488351232 ∧ Q27 x.f1 ∧ (Lit.int .i64 x.f2).wf = true
/-- THE ONE PURE STATEMENT of ententelaw07_LedgerMays. -/
def ententelaw07_LedgerMays.Pure : Prop := ∀ (l0_0 : List S51) (l0_1 : List S64) (a1 : ByteArray) (a2 : ByteArray), (l0_0.length ≤ 9223372036854775807 ∧ l0_0.length * 64 ≤ 140737488351232 ∧ ∀ y_ ∈ l0_0, Q51 y_) → (l0_1.length ≤ 9223372036854775807 ∧ l0_1.length * 56 ≤ 140737488351232 ∧ ∀ y_ ∈ l0_1, Q64 y_) → a1.size ≤ 140737488351232 → a2.size ≤ 140737488351232 → ∃ k, ententelaw07_LedgerMays.f k l0_0 l0_1 a1 a2 = some true

end Go.Proofs.Ytikanbdhpafbiaa.PZ
