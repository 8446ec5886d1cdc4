-- Written by a program of this session (wip/tools/mp.py over the kit's printer); Lean checks it.
import Derived.Test.YtikanbdhpafbiaaPZx0
import Derived.Test.YtikanbdhpafbiaaPZx18
import Derived.Test.YtikanbdhpafbiaaPZx19
import Derived.Test.YtikanbdhpafbiaaPZx20
namespace Go.Proofs.Ytikanbdhpafbiaa.PZ
open Go.RowKit Go.Proofs.YtikanbdhpafbiaaW.PrintWords Go.Proofs.YtikanbdhpafbiaaW.PrintLast Go.Proofs.YtikanbdhpafbiaaW.PrintMore
attribute [local go_sem] max2_int min2_int max_two min_two max_three min_three max_four min_four   -- for this text's walks alone
set_option linter.unusedVariables false
set_option maxHeartbeats 8000000
set_option maxRecDepth 100000
set_option linter.unusedSimpArgs false

/-! ### ententeref07_May: function 25 -/
mutual
def ententeref07_May.j0 : Nat → Bool → List (S51) → List (S64) → Option (Int)
 | 0, _, _, _ => none
 | k + 1, x16, x451000, x451001 => if x16 = true then (some 2) else (ententeref07_May.l0 k 0 x451000 x451001)
def ententeref07_May.l0 : Nat → Int → List (S51) → List (S64) → Option (Int)
 | 0, _, _, _ => none
 | k + 1, x3, x451000, x451001 => if x3 < (x451001.length : Int) then (if 0 ≤ x3 then ((ententeref07_key.f ((rd_T64 x451001 x3).f0)).bind fun t453 => (if t453 = true then ((ententeref06_Check.f k ((rd_T64 x451001 x3).f1.f0) ((rd_T64 x451001 x3).f1.f1) ((rd_T64 x451001 x3).f1.f2)).bind fun t454 => (if t454 = 0 then (if ((rd_T64 x451001 x3).f2) < 1 then (ententeref07_May.j2 k x3 true x451000 x451001 ((rd_T64 x451001 x3).f0) ((rd_T64 x451001 x3).f1.f0) ((rd_T64 x451001 x3).f1.f1) ((rd_T64 x451001 x3).f1.f2) ((rd_T64 x451001 x3).f2)) else (if ((rd_T64 x451001 x3).f2) > 3 then (ententeref07_May.j2 k x3 true x451000 x451001 ((rd_T64 x451001 x3).f0) ((rd_T64 x451001 x3).f1.f0) ((rd_T64 x451001 x3).f1.f1) ((rd_T64 x451001 x3).f1.f2) ((rd_T64 x451001 x3).f2)) else ((ententeref07_Account.f k x451000 x451001 ((rd_T64 x451001 x3).f1.f1)).bind fun t455 => (ententeref07_May.j2 k x3 (decide (t455 < 0)) x451000 x451001 ((rd_T64 x451001 x3).f0) ((rd_T64 x451001 x3).f1.f0) ((rd_T64 x451001 x3).f1.f1) ((rd_T64 x451001 x3).f1.f2) ((rd_T64 x451001 x3).f2))))) else (ententeref07_May.j2 k x3 true x451000 x451001 ((rd_T64 x451001 x3).f0) ((rd_T64 x451001 x3).f1.f0) ((rd_T64 x451001 x3).f1.f1) ((rd_T64 x451001 x3).f1.f2) ((rd_T64 x451001 x3).f2)))) else (ententeref07_May.j2 k x3 true x451000 x451001 ((rd_T64 x451001 x3).f0) ((rd_T64 x451001 x3).f1.f0) ((rd_T64 x451001 x3).f1.f1) ((rd_T64 x451001 x3).f1.f2) ((rd_T64 x451001 x3).f2)))) else (none)) else (ententeref07_May.l1 k 0 x451000 x451001)
def ententeref07_May.j2 : Nat → Int → Bool → List (S51) → List (S64) → ByteArray → Int → ByteArray → Int → Int → Option (Int)
 | 0, _, _, _, _, _, _, _, _, _ => none
 | k + 1, x3, x56, x451000, x451001, x453000, x453001, x453002, x453003, x453004 => if x56 = true then (some 2) else (if x3 > 0 then (if 0 ≤ (wrap64 (x3 - 1)) then (if (wrap64 (x3 - 1)) < (x451001.length : Int) then (if (Op.bytesLess (((rd_T64 x451001 (wrap64 (x3 - 1))).f0).toList) x453000.toList) = true then (ententeref07_May.l0 k (wrap64 (x3 + 1)) x451000 x451001) else (some 2)) else (none)) else (none)) else (ententeref07_May.l0 k (wrap64 (x3 + 1)) x451000 x451001))
def ententeref07_May.l1 : Nat → Int → List (S51) → List (S64) → Option (Int)
 | 0, _, _, _ => none
 | k + 1, x5, x451000, x451001 => if x5 < (x451000.length : Int) then (if 0 ≤ x5 then ((ententeref06_May.f k ((rd_T51 x451000 x5).f0) ((rd_T51 x451000 x5).f1.f0) ((rd_T51 x451000 x5).f1.f1) ((rd_T51 x451000 x5).f1.f2) ((rd_T51 x451000 x5).f2.f0) ((rd_T51 x451000 x5).f2.f1) ((rd_T51 x451000 x5).f2.f2)).bind fun t459 => (if t459 = 0 then (if x5 > 0 then (if 0 ≤ (wrap64 (x5 - 1)) then (if (wrap64 (x5 - 1)) < (x451000.length : Int) then (if (Op.bytesLess (((rd_T51 x451000 (wrap64 (x5 - 1))).f0).toList) (((rd_T51 x451000 x5).f0).toList)) = true then ((ententeref07_pots.f k x451000 x451001 ((rd_T51 x451000 x5).f0) ((rd_T51 x451000 x5).f1.f0) ((rd_T51 x451000 x5).f1.f1) ((rd_T51 x451000 x5).f1.f2) ((rd_T51 x451000 x5).f2.f0) ((rd_T51 x451000 x5).f2.f1) ((rd_T51 x451000 x5).f2.f2)).bind fun t461 => (if t461 = true then (ententeref07_May.l1 k (wrap64 (x5 + 1)) x451000 x451001) else (some 2))) else (some 2)) else (none)) else (none)) else ((ententeref07_pots.f k x451000 x451001 ((rd_T51 x451000 x5).f0) ((rd_T51 x451000 x5).f1.f0) ((rd_T51 x451000 x5).f1.f1) ((rd_T51 x451000 x5).f1.f2) ((rd_T51 x451000 x5).f2.f0) ((rd_T51 x451000 x5).f2.f1) ((rd_T51 x451000 x5).f2.f2)).bind fun t462 => (if t462 = true then (ententeref07_May.l1 k (wrap64 (x5 + 1)) x451000 x451001) else (some 2)))) else (some 2))) else (none)) else (some 0)
end
def ententeref07_May.f (k : Nat) (l0_0 : List (S51)) (l0_1 : List (S64)) : Option (Int) := if (l0_0.length : Int) > 12 then (ententeref07_May.j0 k true l0_0 l0_1) else (ententeref07_May.j0 k (decide ((l0_1.length : Int) > 500)) l0_0 l0_1)
theorem ententeref07_May.mono_l : ∀ k, (∀ y0 y1 y2, LeO (ententeref07_May.j0 k y0 y1 y2) (ententeref07_May.j0 (k + 1) y0 y1 y2)) ∧ (∀ y0 y1 y2, LeO (ententeref07_May.l0 k y0 y1 y2) (ententeref07_May.l0 (k + 1) y0 y1 y2)) ∧ (∀ y0 y1 y2 y3 y4 y5 y6 y7 y8, LeO (ententeref07_May.j2 k y0 y1 y2 y3 y4 y5 y6 y7 y8) (ententeref07_May.j2 (k + 1) y0 y1 y2 y3 y4 y5 y6 y7 y8)) ∧ (∀ y0 y1 y2, LeO (ententeref07_May.l1 k y0 y1 y2) (ententeref07_May.l1 (k + 1) y0 y1 y2))
 | 0 => ⟨fun _ _ _ r h => by simp [ententeref07_May.j0] at h, fun _ _ _ r h => by simp [ententeref07_May.l0] at h, fun _ _ _ _ _ _ _ _ _ r h => by simp [ententeref07_May.j2] at h, fun _ _ _ r h => by simp [ententeref07_May.l1] at h⟩
 | k + 1 => by
  obtain ⟨ih0, ih1, ih2, ih3⟩ := ententeref07_May.mono_l k
  refine ⟨?_, ?_, ?_, ?_⟩
  ·intro y0 y1 y2
   unfold ententeref07_May.j0
   repeat' (with_reducible first | exact ih0 _ _ _ | exact ih1 _ _ _ | exact ih2 _ _ _ _ _ _ _ _ _ | exact ih3 _ _ _ | exact ententeref06_Check.mono _ _ _ _ | exact ententeref06_May.mono _ _ _ _ _ _ _ _ | exact ententeref07_Account.mono _ _ _ _ | exact ententeref07_pots.mono _ _ _ _ _ _ _ _ _ _ | exact LeO.refl _ | exact LeO.none _ | apply LeO.ite | refine LeO.bind ?_ (fun _ => ?_))
  ·intro y0 y1 y2
   unfold ententeref07_May.l0
   repeat' (with_reducible first | exact ih0 _ _ _ | exact ih1 _ _ _ | exact ih2 _ _ _ _ _ _ _ _ _ | exact ih3 _ _ _ | exact ententeref06_Check.mono _ _ _ _ | exact ententeref06_May.mono _ _ _ _ _ _ _ _ | exact ententeref07_Account.mono _ _ _ _ | exact ententeref07_pots.mono _ _ _ _ _ _ _ _ _ _ | exact LeO.refl _ | exact LeO.none _ | apply LeO.ite | refine LeO.bind ?_ (fun _ => ?_))
  ·intro y0 y1 y2 y3 y4 y5 y6 y7 y8
   unfold ententeref07_May.j2
   repeat' (with_reducible first | exact ih0 _ _ _ | exact ih1 _ _ _ | exact ih2 _ _ _ _ _ _ _ _ _ | exact ih3 _ _ _ | exact ententeref06_Check.mono _ _ _ _ | exact ententeref06_May.mono _ _ _ _ _ _ _ _ | exact ententeref07_Account.mono _ _ _ _ | exact ententeref07_pots.mono _ _ _ _ _ _ _ _ _ _ | exact LeO.refl _ | exact LeO.none _ | apply LeO.ite | refine LeO.bind ?_ (fun _ => ?_))
  intro y0 y1 y2
  unfold ententeref07_May.l1
  repeat' (with_reducible first | exact ih0 _ _ _ | exact ih1 _ _ _ | exact ih2 _ _ _ _ _ _ _ _ _ | exact ih3 _ _ _ | exact ententeref06_Check.mono _ _ _ _ | exact ententeref06_May.mono _ _ _ _ _ _ _ _ | exact ententeref07_Account.mono _ _ _ _ | exact ententeref07_pots.mono _ _ _ _ _ _ _ _ _ _ | exact LeO.refl _ | exact LeO.none _ | apply LeO.ite | refine LeO.bind ?_ (fun _ => ?_))
theorem ententeref07_May.mono : ∀ a0 a1 k, LeO (ententeref07_May.f k a0 a1) (ententeref07_May.f (k + 1) a0 a1) := by
 intro a0 a1 k
 obtain ⟨ih0, ih1, ih2, ih3⟩ := ententeref07_May.mono_l k
 unfold ententeref07_May.f
 repeat' (with_reducible first | exact ih0 _ _ _ | exact ih1 _ _ _ | exact ih2 _ _ _ _ _ _ _ _ _ | exact ih3 _ _ _ | exact ententeref06_Check.mono _ _ _ _ | exact ententeref06_May.mono _ _ _ _ _ _ _ _ | exact ententeref07_Account.mono _ _ _ _ | exact ententeref07_pots.mono _ _ _ _ _ _ _ _ _ _ | exact LeO.refl _ | exact LeO.none _ | apply LeO.ite | refine LeO.bind ?_ (fun _ => ?_))
def ententeref07_May.T9 : Bool × List (List Nat × List Nat) := (true, [([], []), ([0], [0]), ([1], [1]), ([2], [2]), ([3, 2], [2, 3]), ([2], [2]), ([5, 2], [2, 5]), ([4, 6, 2], [2, 4, 6]), ([7, 2], [2, 7]), ([8, 2], [2, 8]), ([2], [2]), ([10, 2], [2, 10]), ([9, 11, 2], [2, 9, 11]), ([2, 12], [2, 12])])
def ententeref07_May.B9 : List Nat := [0, 1, 3, 7, 15, 7, 39, 127, 255, 511, 7, 1031, 4095, 8191]
theorem ententeref07_May.tab9 : rtab .any (opsOf Try.f25 9) = ententeref07_May.T9 := by kernel_rfl
theorem ententeref07_May.bits9 : waitsOk ententeref07_May.T9.2 ententeref07_May.B9 = true := by kernel_rfl
def ententeref07_May.T15 : Bool × List (List Nat × List Nat) := (true, [([], []), ([0], [0]), ([1], [1]), ([2, 1], [2]), ([3], [3]), ([4, 3], [3, 4]), ([5, 3, 3], [3, 5]), ([6], [6]), ([7, 6], [6, 7]), ([6], [6]), ([9, 6], [6, 9]), ([8, 10, 6], [6, 8, 10]), ([11, 6], [6, 11]), ([12, 6], [6, 12]), ([6], [6]), ([14, 6], [6, 14]), ([13, 15, 6], [6, 13, 15]), ([6, 16, 3], [3, 6, 16]), ([3, 17], [3, 17]), ([18, 6], [18]), ([19], [19]), ([19], [19]), ([20, 21, 19, 19], [19, 20, 21]), ([22, 19], [19, 22]), ([19, 23], [19, 23])])
def ententeref07_May.B15 : List Nat := [0, 1, 3, 7, 15, 31, 63, 127, 255, 127, 639, 2047, 4095, 8191, 127, 16511, 65535, 131071, 262143, 524287, 1048575, 1048575, 4194303, 8388607, 16777215]
theorem ententeref07_May.tab15 : rtab .any (opsOf Try.f25 15) = ententeref07_May.T15 := by kernel_rfl
theorem ententeref07_May.bits15 : waitsOk ententeref07_May.T15.2 ententeref07_May.B15 = true := by kernel_rfl
theorem ententeref07_May.calls (k : Nat) (A0_0 : Option Addr) (c0_0 : Nat) (l0_0 : List (S51)) (A0_1 : Option Addr) (c0_1 : Nat) (l0_1 : List (S64)) (r : Int) (w : World) (hr0_0 : Kd.C k51 w A0_0 l0_0.length l0_0) (hc0_0 : l0_0.length ≤ c0_0) (hr0_1 : Kd.C k64 w A0_1 l0_1.length l0_1) (hc0_1 : l0_1.length ≤ c0_1) (h : ententeref07_May.f k l0_0 l0_1 = some r) :
  Calls Try.prog 25 #[.agg #[.slice A0_0 l0_0.length c0_0, .slice A0_1 l0_1.length c0_1]] w fun e w' => e = .returned (.int .i64 r) ∧ Below w.heap.size w w' := by
 have hu25 := Try.underlying25
 have hu64 := Try.underlying64
 have hu27 := Try.underlying27
 have hu51 := Try.underlying51
 have HR0_0 := My.am hr0_0
 have HC0_0 := My.am hc0_0
 clear hr0_0 hc0_0
 have HR0_1 := My.am hr0_1
 have HC0_1 := My.am hc0_1
 clear hr0_1 hc0_1
 have HB := My.am (Below.refl w.heap.size w)
 unfold ententeref07_May.f at h
 have H := h
 clear h
 have HC2 := My.am H
 clear H
 go_enter Try.func25, Try.ntmps25
 go_upto_region 1 with (first | ((with_reducible refine gate_dst (N := 1) rfl ?_); (try (refine gate_guard (by rfl) ?_; dsimp only)); refine My.bx 1 #[.slice A0_0 l0_0.length c0_0, .slice A0_1 l0_1.length c0_1] 25 ?_; intro gb450 hg w3 hbox hb; have BK450 := My.am (hbox); have GE450 := My.nge hg (My.bl_ HB); replace HB := My.st HB hb; clear hb hbox hg))
 (try simp only [Act.put, List.setIfInBounds_toArray, List.set_cons_zero, List.set_cons_succ])
 go_cut [16] (fun v16 wc => ∃ (kq : Nat) (x16_1 : Bool), v16 = .bool x16_1 ∧ Aside0 (ententeref07_May.j0 kq x16_1 l0_0 l0_1 = some r) ∧ Aside0 (kq ≤ k) ∧ Aside0 (wc.heap[gb450]? = some (.cells #[(.slice A0_0 l0_0.length c0_0), (.slice A0_1 l0_1.length c0_1)] 25 (0, 0))) ∧ Aside0 (Below w.heap.size w wc))
 case first =>
  have H := HC2.out
  clear HC2
  by_cases c4 : (l0_0.length : Int) > 12
  ·rw [if_pos c4] at H
   have c4b0 : decide (12 < (l0_0.length : Int)) = true := decide_eq_true c4
   have c4b1 : decide (12 < l0_0.length) = true := decide_eq_true (by omega)
   clear c4
   (first | rw [c4b0] | (simp only [i64_w, i32_w]; rw [c4b0]) | skip)
   have H' := My.am H
   clear H
   have hq5 := My.cz2 BK450
   go_wp2
   go_meet
   case rel => exact ⟨_, (true), My.r1, H', ⟨My.r4⟩, ⟨(My.at_ BK450)⟩, ⟨(My.bl_ HB)⟩⟩
  ·rw [if_neg c4] at H
   have c4b0 : decide (12 < (l0_0.length : Int)) = false := decide_eq_false c4
   have c4b1 : decide (12 < l0_0.length) = false := decide_eq_false (by omega)
   clear c4
   (first | rw [c4b0] | (simp only [i64_w, i32_w]; rw [c4b0]) | skip)
   have H' := My.am H
   clear H
   have hq6 := My.cz2 BK450
   go_wp2
   go_meet
   case rel => exact ⟨_, (decide ((l0_1.length : Int) > 500)), My.r1, H', ⟨My.r4⟩, ⟨(My.at_ BK450)⟩, ⟨(My.bl_ HB)⟩⟩
 case rest =>
  clear HC2
  obtain ⟨kq, x16_1, rfl, HA, HJ1, BK450, HB⟩ := hcut
  cases kq with
  | zero => exact absurd HA.out (by simp [ententeref07_May.j0])
  | succ kj1 =>
   have H := HA.out
   clear HA
   simp only [ententeref07_May.j0] at H
   by_cases c7 : x16_1 = true
   ·subst c7
    rw [if_pos rfl] at H
    obtain rfl := Option.some.inj H
    go_wp2
    go_ret
    exact ⟨My.r2, (My.bl_ HB)⟩
   replace c7 := Bool.eq_false_iff.mpr c7
   subst c7
   rw [if_neg (show ¬ (false = true) by decide)] at H
   have H' := My.am H
   clear H
   go_wp2
   go_loopg [3] kj1 (fun kq v3 w' => ∃ (x3_2 : Int), v3 = .int .i64 x3_2 ∧ Aside0 (ententeref07_May.l0 kq x3_2 l0_0 l0_1 = some r) ∧ Aside0 (kq ≤ kj1) ∧ Aside0 (w'.heap[gb450]? = some (.cells #[(.slice A0_0 l0_0.length c0_0), (.slice A0_1 l0_1.length c0_1)] 25 (0, 0))) ∧ Aside0 (Below w.heap.size w w'))
   case atStart => exact ⟨(0), My.r1, H', ⟨Nat.le_refl _⟩, ⟨(My.at_ BK450)⟩, ⟨(My.bl_ HB)⟩⟩
   case round =>
    clear H'
    try clear c7
    obtain ⟨x3_2, rfl, HA, HK2, BK450, HB⟩ := hrel
    cases gk with
    | zero => exact absurd HA.out (by simp [ententeref07_May.l0])
    | succ k2 =>
     have H := HA.out
     clear HA
     simp only [ententeref07_May.l0] at H
     by_cases c8 : x3_2 < (l0_1.length : Int)
     ·rw [if_pos c8] at H
      have c8b0 := decide_eq_true c8
      clear c8
      replace H := My.ds H
      obtain ⟨c9b0, H⟩ := H
      have HC10 := My.am H
      clear H
      have hq11 := My.cz2 BK450
      have p451 : 0 ≤ (x3_2 : Int) := My.as_
      have q451 : x3_2 < (l0_1.length : Int) := My.as_
      obtain ⟨ad451, e451, hx451_0, hx451_1, hx451_2, hx451_3, hx451_4⟩ := My.up5 HB (at_T64 HR0_1.out x3_2 p451 q451)
      cases e451
      replace p451 := eq_true p451
      replace q451 := eq_true q451
      go_upto_region 7 with (first | ((with_reducible refine gate_dst (N := 4) rfl ?_); (try (refine gate_guard (by rfl) ?_; dsimp only)); refine My.bx 4 #[.string (⟨#[]⟩ : ByteArray), .int .i64 0, .string (⟨#[]⟩ : ByteArray), .int .i64 0, .int .i64 0] 64 ?_; intro gb452 hg w12 hbox hb; have BK452 := My.am (hbox); have GE452 := My.nge hg (My.bl_ HB); replace HB := My.st HB hb; obtain ⟨NB450_452, NB452_450, BK450⟩ := My.nb hg hb BK450; clear hb hbox hg; have hnb13 := NB452_450.out; have hnc13 := NB450_452.out; have hq14 := My.cz5 BK452))
      (try simp only [Act.put, List.setIfInBounds_toArray, List.set_cons_zero, List.set_cons_succ])
      go_cut [56] (fun v56 wc => ∃ (kq : Nat) (x56_9 : Bool), v56 = .bool x56_9 ∧ Aside0 (ententeref07_May.j2 kq x3_2 x56_9 l0_0 l0_1 ((rd_T64 l0_1 x3_2).f0) ((rd_T64 l0_1 x3_2).f1.f0) ((rd_T64 l0_1 x3_2).f1.f1) ((rd_T64 l0_1 x3_2).f1.f2) ((rd_T64 l0_1 x3_2).f2) = some r) ∧ Aside0 (kq ≤ k2) ∧ Aside0 (wc.heap[gb450]? = some (.cells #[(.slice A0_0 l0_0.length c0_0), (.slice (some ad451) l0_1.length c0_1)] 25 (0, 0))) ∧ Aside0 (wc.heap[gb452]? = some (.cells #[.string ((rd_T64 l0_1 x3_2).f0), .int .i64 ((rd_T64 l0_1 x3_2).f1.f0), .string ((rd_T64 l0_1 x3_2).f1.f1), .int .i64 ((rd_T64 l0_1 x3_2).f1.f2), .int .i64 ((rd_T64 l0_1 x3_2).f2)] 64 (0, 0))) ∧ Aside0 (Below w.heap.size w wc))
      case first =>
       have H := HC10.out
       clear HC10
       replace H := Option.bind_eq_some_iff.mp H
       obtain ⟨t453, A150, H⟩ := H
       try dsimp only at H
       have A15 := My.am A150
       clear A150
       by_cases c16 : t453 = true
       rotate_left
       ·replace c16 := Bool.eq_false_iff.mpr c16
        subst c16
        rw [if_neg (show ¬ (false = true) by decide)] at H
        have H' := My.am H
        clear H
        have hnb39 := NB452_450.out
        have hnc39 := NB450_452.out
        have hq40 := My.cz5 BK452
        go_wp2_with (first | ((with_reducible refine gate_callee (f := 43) rfl ?_); refine goesL_ (some 31) rfl rfl Try.func43 (by kernel_rfl) rfl #[.string ((rd_T64 l0_1 x3_2).f0)] rfl My.gx ?_; (with_reducible refine (ententeref07_key.calls ((rd_T64 l0_1 x3_2).f0) false _ A15.out).mono ?_); rintro e w' ⟨rfl, ⟨nd, rfl⟩⟩; refine ⟨_, rfl, ?_⟩))
        go_meet
        case rel => exact ⟨_, (true), My.r1, H', ⟨by have := HJ1.out; have := HK2.out; first | omega | exact Nat.le_refl _⟩, ⟨(My.sv_ BK450)⟩, ⟨(My.sv_ BK452)⟩, ⟨(My.bl_ HB)⟩⟩
       subst c16
       rw [if_pos rfl] at H
       replace H := Option.bind_eq_some_iff.mp H
       obtain ⟨t454, A170, H⟩ := H
       try dsimp only at H
       have A17 := My.am A170
       clear A170
       by_cases c18 : t454 = 0
       rotate_left
       ·rw [if_neg c18] at H
        have c18b0 : (t454 == 0) = false := beq_eq_false_iff_ne.mpr c18
        have c18b1 : (t454 != 0) = true := bne_iff_ne.mpr c18
        (first | rw [c18b0] | (simp only [i64_w, i32_w]; rw [c18b0]) | skip)
        have H' := My.am H
        clear H
        have hnb36 := NB452_450.out
        have hnc36 := NB450_452.out
        have hq37 := My.cz5 BK452
        go_wp2_with (first | ((with_reducible refine gate_callee (f := 43) rfl ?_); refine goesL_ (some 31) rfl rfl Try.func43 (by kernel_rfl) rfl #[.string ((rd_T64 l0_1 x3_2).f0)] rfl My.gx ?_; (with_reducible refine (ententeref07_key.calls ((rd_T64 l0_1 x3_2).f0) true _ A15.out).mono ?_); rintro e w' ⟨rfl, ⟨nd, rfl⟩⟩; refine ⟨_, rfl, ?_⟩) | (go_at_call 44; (with_reducible refine (ententeref06_Check.calls k2 ((rd_T64 l0_1 x3_2).f1.f0) ((rd_T64 l0_1 x3_2).f1.f1) ((rd_T64 l0_1 x3_2).f1.f2) t454 _ A17.out).mono ?_); rintro e w38 ⟨rfl, hb⟩; replace BK450 := My.am (blk_below (g := gb450) (o := .cells #[.slice A0_0 l0_0.length c0_0, .slice (some ad451) l0_1.length c0_1] 25 (0, 0)) ((My.sv_ BK450)) hb); replace BK452 := My.am (blk_below (g := gb452) (o := .cells #[.string ((rd_T64 l0_1 x3_2).f0), .int .i64 ((rd_T64 l0_1 x3_2).f1.f0), .string ((rd_T64 l0_1 x3_2).f1.f1), .int .i64 ((rd_T64 l0_1 x3_2).f1.f2), .int .i64 ((rd_T64 l0_1 x3_2).f2)] 64 (0, 0)) ((My.sv_ BK452)) hb); replace HB := My.st HB hb; (try clear hb)))
        go_meet
        case rel => exact ⟨_, (true), My.r1, H', ⟨by have := HJ1.out; have := HK2.out; first | omega | exact Nat.le_refl _⟩, ⟨(My.at_ BK450)⟩, ⟨(My.at_ BK452)⟩, ⟨(My.bl_ HB)⟩⟩
       rw [if_pos c18] at H
       have c18b0 : (t454 == 0) = true := beq_iff_eq.mpr c18
       have c18b1 : (t454 != 0) = false := bne_eq_false_iff_eq.mpr c18
       clear c18
       (first | rw [c18b0] | (simp only [i64_w, i32_w]; rw [c18b0]) | skip)
       by_cases c19 : ((rd_T64 l0_1 x3_2).f2) < 1
       ·rw [if_pos c19] at H
        have c19b0 := decide_eq_true c19
        clear c19
        have H' := My.am H
        clear H
        have hnb20 := NB452_450.out
        have hnc20 := NB450_452.out
        have hq21 := My.cz5 BK452
        go_wp2_with (first | ((with_reducible refine gate_callee (f := 43) rfl ?_); refine goesL_ (some 31) rfl rfl Try.func43 (by kernel_rfl) rfl #[.string ((rd_T64 l0_1 x3_2).f0)] rfl My.gx ?_; (with_reducible refine (ententeref07_key.calls ((rd_T64 l0_1 x3_2).f0) true _ A15.out).mono ?_); rintro e w' ⟨rfl, ⟨nd, rfl⟩⟩; refine ⟨_, rfl, ?_⟩) | (go_at_call 44; (with_reducible refine (ententeref06_Check.calls k2 ((rd_T64 l0_1 x3_2).f1.f0) ((rd_T64 l0_1 x3_2).f1.f1) ((rd_T64 l0_1 x3_2).f1.f2) t454 _ A17.out).mono ?_); rintro e w22 ⟨rfl, hb⟩; replace BK450 := My.am (blk_below (g := gb450) (o := .cells #[.slice A0_0 l0_0.length c0_0, .slice (some ad451) l0_1.length c0_1] 25 (0, 0)) ((My.sv_ BK450)) hb); replace BK452 := My.am (blk_below (g := gb452) (o := .cells #[.string ((rd_T64 l0_1 x3_2).f0), .int .i64 ((rd_T64 l0_1 x3_2).f1.f0), .string ((rd_T64 l0_1 x3_2).f1.f1), .int .i64 ((rd_T64 l0_1 x3_2).f1.f2), .int .i64 ((rd_T64 l0_1 x3_2).f2)] 64 (0, 0)) ((My.sv_ BK452)) hb); replace HB := My.st HB hb; (try clear hb); have hq23 := My.cz5 BK452))
        go_meet
        case rel => exact ⟨_, (true), My.r1, H', ⟨by have := HJ1.out; have := HK2.out; first | omega | exact Nat.le_refl _⟩, ⟨(My.at_ BK450)⟩, ⟨(My.at_ BK452)⟩, ⟨(My.bl_ HB)⟩⟩
       rw [if_neg c19] at H
       have c19b0 := decide_eq_false c19
       clear c19
       by_cases c24 : ((rd_T64 l0_1 x3_2).f2) > 3
       ·rw [if_pos c24] at H
        have c24b0 : decide (3 < ((rd_T64 l0_1 x3_2).f2)) = true := decide_eq_true c24
        clear c24
        have H' := My.am H
        clear H
        have hnb25 := NB452_450.out
        have hnc25 := NB450_452.out
        have hq26 := My.cz5 BK452
        go_wp2_with (first | ((with_reducible refine gate_callee (f := 43) rfl ?_); refine goesL_ (some 31) rfl rfl Try.func43 (by kernel_rfl) rfl #[.string ((rd_T64 l0_1 x3_2).f0)] rfl My.gx ?_; (with_reducible refine (ententeref07_key.calls ((rd_T64 l0_1 x3_2).f0) true _ A15.out).mono ?_); rintro e w' ⟨rfl, ⟨nd, rfl⟩⟩; refine ⟨_, rfl, ?_⟩) | (go_at_call 44; (with_reducible refine (ententeref06_Check.calls k2 ((rd_T64 l0_1 x3_2).f1.f0) ((rd_T64 l0_1 x3_2).f1.f1) ((rd_T64 l0_1 x3_2).f1.f2) t454 _ A17.out).mono ?_); rintro e w27 ⟨rfl, hb⟩; replace BK450 := My.am (blk_below (g := gb450) (o := .cells #[.slice A0_0 l0_0.length c0_0, .slice (some ad451) l0_1.length c0_1] 25 (0, 0)) ((My.sv_ BK450)) hb); replace BK452 := My.am (blk_below (g := gb452) (o := .cells #[.string ((rd_T64 l0_1 x3_2).f0), .int .i64 ((rd_T64 l0_1 x3_2).f1.f0), .string ((rd_T64 l0_1 x3_2).f1.f1), .int .i64 ((rd_T64 l0_1 x3_2).f1.f2), .int .i64 ((rd_T64 l0_1 x3_2).f2)] 64 (0, 0)) ((My.sv_ BK452)) hb); replace HB := My.st HB hb; (try clear hb); have hq28 := My.cz5 BK452))
        go_meet
        case rel => exact ⟨_, (true), My.r1, H', ⟨by have := HJ1.out; have := HK2.out; first | omega | exact Nat.le_refl _⟩, ⟨(My.at_ BK450)⟩, ⟨(My.at_ BK452)⟩, ⟨(My.bl_ HB)⟩⟩
       rw [if_neg c24] at H
       have c24b0 : decide (3 < ((rd_T64 l0_1 x3_2).f2)) = false := decide_eq_false c24
       clear c24
       replace H := Option.bind_eq_some_iff.mp H
       obtain ⟨t455, A290, H⟩ := H
       try dsimp only at H
       have A29 := My.am A290
       clear A290
       have H' := My.am H
       clear H
       have hnb30 := NB452_450.out
       have hnc30 := NB450_452.out
       have hq31 := My.cz5 BK452
       go_wp2_with (first | ((with_reducible refine gate_callee (f := 43) rfl ?_); refine goesL_ (some 31) rfl rfl Try.func43 (by kernel_rfl) rfl #[.string ((rd_T64 l0_1 x3_2).f0)] rfl My.gx ?_; (with_reducible refine (ententeref07_key.calls ((rd_T64 l0_1 x3_2).f0) true _ A15.out).mono ?_); rintro e w' ⟨rfl, ⟨nd, rfl⟩⟩; refine ⟨_, rfl, ?_⟩) | (go_at_call 44; (with_reducible refine (ententeref06_Check.calls k2 ((rd_T64 l0_1 x3_2).f1.f0) ((rd_T64 l0_1 x3_2).f1.f1) ((rd_T64 l0_1 x3_2).f1.f2) t454 _ A17.out).mono ?_); rintro e w32 ⟨rfl, hb⟩; replace BK450 := My.am (blk_below (g := gb450) (o := .cells #[.slice A0_0 l0_0.length c0_0, .slice (some ad451) l0_1.length c0_1] 25 (0, 0)) ((My.sv_ BK450)) hb); replace BK452 := My.am (blk_below (g := gb452) (o := .cells #[.string ((rd_T64 l0_1 x3_2).f0), .int .i64 ((rd_T64 l0_1 x3_2).f1.f0), .string ((rd_T64 l0_1 x3_2).f1.f1), .int .i64 ((rd_T64 l0_1 x3_2).f1.f2), .int .i64 ((rd_T64 l0_1 x3_2).f2)] 64 (0, 0)) ((My.sv_ BK452)) hb); replace HB := My.st HB hb; (try clear hb); have hq33 := My.cz5 BK452; have hq34 := My.cz2 BK450) | (go_at_call 37; (with_reducible refine (ententeref07_Account.calls k2 _ _ l0_0 _ _ l0_1 ((rd_T64 l0_1 x3_2).f1.f1) t455 _ ?side1 ?side2 ?side3 ?side4 A29.out).mono ?_); (case side1 => exact My.sd_ HR0_0 HB); (case side2 => exact HC0_0.out); (case side3 => exact My.sd_ HR0_1 HB); (case side4 => exact HC0_1.out); rintro e w35 ⟨rfl, hb⟩; replace BK450 := My.ab BK450 hb; replace BK452 := My.ab BK452 hb; replace HB := My.st HB hb; (try clear hb)))
       go_meet
       case rel => exact ⟨_, (decide (t455 < 0)), My.r1, H', ⟨by have := HJ1.out; have := HK2.out; first | omega | exact Nat.le_refl _⟩, ⟨(My.at_ BK450)⟩, ⟨(My.at_ BK452)⟩, ⟨(My.bl_ HB)⟩⟩
      case rest =>
       clear HC10
       try clear c7
       try clear c8
       try clear c8b0
       try clear c9b0
       try clear hq11
       try clear hq14
       try clear hx451_0
       try clear hx451_1
       try clear hx451_2
       try clear hx451_3
       try clear hx451_4
       try clear p451
       try clear q451
       obtain ⟨kq, x56_9, rfl, HA, HJ9, BK450, BK452, HB⟩ := hcut
       cases kq with
       | zero => exact absurd HA.out (by simp [ententeref07_May.j2])
       | succ kj9 =>
        have H := HA.out
        clear HA
        simp only [ententeref07_May.j2] at H
        by_cases c41 : x56_9 = true
        ·subst c41
         rw [if_pos rfl] at H
         obtain rfl := Option.some.inj H
         go_wp2
         go_ret
         exact ⟨My.r2, (My.bl_ HB)⟩
        replace c41 := Bool.eq_false_iff.mpr c41
        subst c41
        rw [if_neg (show ¬ (false = true) by decide)] at H
        by_cases c42 : x3_2 > 0
        rotate_left
        ·rw [if_neg c42] at H
         have c42b0 : decide (0 < x3_2) = false := decide_eq_false c42
         clear c42
         have H' := My.am H
         clear H
         try go_wp2
         replace BK450 := My.am (blk_drew BK450.out)
         replace BK452 := My.am (blk_drew BK452.out)
         replace HB := My.am (below_drew1 HB.out)
         refine start_ (n := 14) (S := fun w' => True) (ds := []) #[false, false, false, false, false, false, false, false, false, false, false, false, false, false] (by kernel_rfl) rfl rfl trivial (fun hHeld => ?_); refine with_tabW ententeref07_May.tab9 ententeref07_May.bits9 (fun HT_ HW_ => ?_)
         generalize wc.drew = w49 at BK450 BK452 HB hHeld ⊢
         refine My.pu_ 0 57 14 HT_.out ?_
         refine My.pu_ 1 58 14 HT_.out ?_
         refine My.pu_ 2 59 14 HT_.out ?_
         refine My.pn_ 3 60 14 HT_.out ?_
         refine My.pn_ 4 61 14 HT_.out ?_
         refine My.pn_ 5 62 14 HT_.out ?_
         refine My.pn_ 6 63 14 HT_.out ?_
         refine My.pn_ 7 64 14 HT_.out ?_
         refine My.pn_ 8 65 14 HT_.out ?_
         refine My.pn_ 9 66 14 HT_.out ?_
         refine My.pn_ 10 67 14 HT_.out ?_
         refine My.pn_ 11 68 14 HT_.out ?_
         refine My.pn_ 12 69 14 HT_.out ?_
         refine My.pu_ 13 70 14 HT_.out ?_
         refine done_ (done_of HT_.out (by kernel_rfl)) ?_
         try go_wp2
         go_roundg kj9
         case measure => have := HJ1.out; have := HK2.out; have := HJ9.out; omega
         case rel => exact ⟨(wrap64 (x3_2 + 1)), My.r1, H', ⟨by have := HJ1.out; have := HK2.out; have := HJ9.out; omega⟩, ⟨(My.at_ BK450)⟩, ⟨(My.bl_ HB)⟩⟩
        rw [if_pos c42] at H
        have c42b0 : decide (0 < x3_2) = true := decide_eq_true c42
        clear c42
        obtain ⟨ji43, hji43⟩ : ∃ j_ : Int, (wrap64 (x3_2 - 1)) = j_ := ⟨_, rfl⟩
        replace H : (if 0 ≤ (ji43) then (if (ji43) < (l0_1.length : Int) then (if (Op.bytesLess (((rd_T64 l0_1 (ji43)).f0).toList) ((rd_T64 l0_1 x3_2).f0).toList) = true then (ententeref07_May.l0 kj9 (wrap64 (x3_2 + 1)) l0_0 l0_1) else (some 2)) else (none)) else (none)) = some r := by first | (rw [hji43] at H; exact H) | (simp only [hji43] at H ⊢; exact H)
        have hji43w : (IntKind.i64.wrap (x3_2 - 1)) = ji43 := (i64_w _).trans hji43
        replace H := My.ds H
        obtain ⟨c44b0, H⟩ := H
        replace H := My.ds H
        obtain ⟨c45b0, H⟩ := H
        by_cases c46 : (Op.bytesLess (((rd_T64 l0_1 (ji43)).f0).toList) ((rd_T64 l0_1 x3_2).f0).toList) = true
        ·rw [if_pos c46] at H
         have c46b0 : (Op.bytesLess (((rd_T64 l0_1 (ji43)).f0).toList) ((rd_T64 l0_1 x3_2).f0).toList) = true := c46
         clear c46
         have H' := My.am H
         clear H
         try go_wp2
         replace BK450 := My.am (blk_drew BK450.out)
         replace BK452 := My.am (blk_drew BK452.out)
         replace HB := My.am (below_drew1 HB.out)
         have p456 : 0 ≤ ((ji43) : Int) := My.as_
         have q456 : (ji43) < (l0_1.length : Int) := My.as_
         obtain ⟨ad456, e456, hx456_0, hx456_1, hx456_2, hx456_3, hx456_4⟩ := at_T64 HR0_1.out (ji43) p456 q456
         have hw456_4 := hx456_4
         have hw456_3 := hx456_3
         have hw456_2 := hx456_2
         have hw456_1 := hx456_1
         have hw456_0 := hx456_0
         obtain rfl : ad451 = ad456 := (by injection e456)
         replace hx456_0 := My.up HB hx456_0
         replace hx456_1 := My.up HB hx456_1
         replace hx456_2 := My.up HB hx456_2
         replace hx456_3 := My.up HB hx456_3
         replace hx456_4 := My.up HB hx456_4
         replace p456 := eq_true p456
         replace q456 := eq_true q456
         refine start_ (n := 14) (S := fun w' => w'.cell? ⟨gb450, 0, none⟩ = some (.slice A0_0 l0_0.length c0_0) ∧ w'.cell? ⟨gb450, 1, none⟩ = some (.slice (some ad451) l0_1.length c0_1) ∧ w'.cell? ⟨gb452, 0, none⟩ = some (.string ((rd_T64 l0_1 x3_2).f0)) ∧ w'.cell? ⟨gb452, 1, none⟩ = some (.int .i64 ((rd_T64 l0_1 x3_2).f1.f0)) ∧ w'.cell? ⟨gb452, 2, none⟩ = some (.string ((rd_T64 l0_1 x3_2).f1.f1)) ∧ w'.cell? ⟨gb452, 3, none⟩ = some (.int .i64 ((rd_T64 l0_1 x3_2).f1.f2)) ∧ w'.cell? ⟨gb452, 4, none⟩ = some (.int .i64 ((rd_T64 l0_1 x3_2).f2)) ∧ w'.cell? (ad451.add (((ji43)).toNat * 5)) = some (.string ((rd_T64 l0_1 (ji43)).f0)) ∧ w'.cell? ⟨(ad451.add (((ji43)).toNat * 5)).block, (ad451.add (((ji43)).toNat * 5)).off + 1, none⟩ = some (.int .i64 ((rd_T64 l0_1 (ji43)).f1.f0)) ∧ w'.cell? ⟨(ad451.add (((ji43)).toNat * 5)).block, (ad451.add (((ji43)).toNat * 5)).off + 2, none⟩ = some (.string ((rd_T64 l0_1 (ji43)).f1.f1)) ∧ w'.cell? ⟨(ad451.add (((ji43)).toNat * 5)).block, (ad451.add (((ji43)).toNat * 5)).off + 3, none⟩ = some (.int .i64 ((rd_T64 l0_1 (ji43)).f1.f2)) ∧ w'.cell? ⟨(ad451.add (((ji43)).toNat * 5)).block, (ad451.add (((ji43)).toNat * 5)).off + 4, none⟩ = some (.int .i64 ((rd_T64 l0_1 (ji43)).f2))) (ds := []) #[false, false, false, false, false, false, false, false, false, false, false, false, false, false] (by kernel_rfl) rfl rfl ⟨My.b_ BK450 0, My.b_ BK450 1, My.b_ BK452 0, My.b_ BK452 1, My.b_ BK452 2, My.b_ BK452 3, My.b_ BK452 4, (My.up HB hw456_0), (My.up HB hw456_1), (My.up HB hw456_2), (My.up HB hw456_3), (My.up HB hw456_4)⟩ (fun hHeld => ?_); refine with_tabW ententeref07_May.tab9 ententeref07_May.bits9 (fun HT_ HW_ => ?_)
         generalize wc.drew = w47 at BK450 BK452 HB hx456_0 hx456_1 hx456_2 hx456_3 hx456_4 hHeld ⊢
         refine My.pu_ 0 57 14 HT_.out ?_
         refine My.pu_ 1 58 14 HT_.out ?_
         refine My.pu_ 2 59 14 HT_.out ?_
         refine My.pu_ 3 60 14 HT_.out ?_
         refine My.pv_ 5 62 14 47 HT_.out ?_
         refine My.pv_ 6 63 14 111 HT_.out ?_
         refine My.pv_ 10 67 14 1135 HT_.out ?_
         refine My.tv_ 4 61 14 1151 HT_.out HW_.out hHeld rfl rfl (by rintro w' ⟨s0, s1, s2, s3, s4, s5, s6, s7, s8, s9, s10, s11⟩; go_simp; with_reducible rfl) ?_
         refine My.pv_ 7 64 14 1279 HT_.out ?_
         refine My.pv_ 8 65 14 1535 HT_.out ?_
         refine My.tv_ 9 66 14 2047 HT_.out HW_.out hHeld rfl rfl (by rintro w' ⟨s0, s1, s2, s3, s4, s5, s6, s7, s8, s9, s10, s11⟩; go_simp; with_reducible rfl) ?_
         refine My.ta_ 11 68 14 HT_.out HW_.out hHeld rfl rfl (by rintro w' ⟨s0, s1, s2, s3, s4, s5, s6, s7, s8, s9, s10, s11⟩; go_simp; with_reducible rfl) ?_
         refine My.pu_ 12 69 14 HT_.out ?_
         refine My.pu_ 13 70 14 HT_.out ?_
         refine done_ (done_of HT_.out (by kernel_rfl)) ?_
         try go_wp2
         go_roundg kj9
         case measure => have := HJ1.out; have := HK2.out; have := HJ9.out; omega
         case rel => exact ⟨(wrap64 (x3_2 + 1)), My.r1, H', ⟨by have := HJ1.out; have := HK2.out; have := HJ9.out; omega⟩, ⟨(My.at_ BK450)⟩, ⟨(My.bl_ HB)⟩⟩
        rw [if_neg c46] at H
        have c46b0 : (Op.bytesLess (((rd_T64 l0_1 (ji43)).f0).toList) ((rd_T64 l0_1 x3_2).f0).toList) = false := by simpa using c46
        clear c46
        obtain rfl := Option.some.inj H
        try go_wp2
        replace BK450 := My.am (blk_drew BK450.out)
        replace BK452 := My.am (blk_drew BK452.out)
        replace HB := My.am (below_drew1 HB.out)
        have p456 : 0 ≤ ((ji43) : Int) := My.as_
        have q456 : (ji43) < (l0_1.length : Int) := My.as_
        obtain ⟨ad456, e456, hx456_0, hx456_1, hx456_2, hx456_3, hx456_4⟩ := at_T64 HR0_1.out (ji43) p456 q456
        have hw456_4 := hx456_4
        have hw456_3 := hx456_3
        have hw456_2 := hx456_2
        have hw456_1 := hx456_1
        have hw456_0 := hx456_0
        obtain rfl : ad451 = ad456 := (by injection e456)
        replace hx456_0 := My.up HB hx456_0
        replace hx456_1 := My.up HB hx456_1
        replace hx456_2 := My.up HB hx456_2
        replace hx456_3 := My.up HB hx456_3
        replace hx456_4 := My.up HB hx456_4
        replace p456 := eq_true p456
        replace q456 := eq_true q456
        refine start_ (n := 14) (S := fun w' => w'.cell? ⟨gb450, 0, none⟩ = some (.slice A0_0 l0_0.length c0_0) ∧ w'.cell? ⟨gb450, 1, none⟩ = some (.slice (some ad451) l0_1.length c0_1) ∧ w'.cell? ⟨gb452, 0, none⟩ = some (.string ((rd_T64 l0_1 x3_2).f0)) ∧ w'.cell? ⟨gb452, 1, none⟩ = some (.int .i64 ((rd_T64 l0_1 x3_2).f1.f0)) ∧ w'.cell? ⟨gb452, 2, none⟩ = some (.string ((rd_T64 l0_1 x3_2).f1.f1)) ∧ w'.cell? ⟨gb452, 3, none⟩ = some (.int .i64 ((rd_T64 l0_1 x3_2).f1.f2)) ∧ w'.cell? ⟨gb452, 4, none⟩ = some (.int .i64 ((rd_T64 l0_1 x3_2).f2)) ∧ w'.cell? (ad451.add (((ji43)).toNat * 5)) = some (.string ((rd_T64 l0_1 (ji43)).f0)) ∧ w'.cell? ⟨(ad451.add (((ji43)).toNat * 5)).block, (ad451.add (((ji43)).toNat * 5)).off + 1, none⟩ = some (.int .i64 ((rd_T64 l0_1 (ji43)).f1.f0)) ∧ w'.cell? ⟨(ad451.add (((ji43)).toNat * 5)).block, (ad451.add (((ji43)).toNat * 5)).off + 2, none⟩ = some (.string ((rd_T64 l0_1 (ji43)).f1.f1)) ∧ w'.cell? ⟨(ad451.add (((ji43)).toNat * 5)).block, (ad451.add (((ji43)).toNat * 5)).off + 3, none⟩ = some (.int .i64 ((rd_T64 l0_1 (ji43)).f1.f2)) ∧ w'.cell? ⟨(ad451.add (((ji43)).toNat * 5)).block, (ad451.add (((ji43)).toNat * 5)).off + 4, none⟩ = some (.int .i64 ((rd_T64 l0_1 (ji43)).f2))) (ds := []) #[false, false, false, false, false, false, false, false, false, false, false, false, false, false] (by kernel_rfl) rfl rfl ⟨My.b_ BK450 0, My.b_ BK450 1, My.b_ BK452 0, My.b_ BK452 1, My.b_ BK452 2, My.b_ BK452 3, My.b_ BK452 4, (My.up HB hw456_0), (My.up HB hw456_1), (My.up HB hw456_2), (My.up HB hw456_3), (My.up HB hw456_4)⟩ (fun hHeld => ?_); refine with_tabW ententeref07_May.tab9 ententeref07_May.bits9 (fun HT_ HW_ => ?_)
        generalize wc.drew = w48 at BK450 BK452 HB hx456_0 hx456_1 hx456_2 hx456_3 hx456_4 hHeld ⊢
        refine My.pu_ 0 57 14 HT_.out ?_
        refine My.pu_ 1 58 14 HT_.out ?_
        refine My.pu_ 2 59 14 HT_.out ?_
        refine My.pu_ 3 60 14 HT_.out ?_
        refine My.pv_ 5 62 14 47 HT_.out ?_
        refine My.pv_ 6 63 14 111 HT_.out ?_
        refine My.pv_ 10 67 14 1135 HT_.out ?_
        refine My.tv_ 4 61 14 1151 HT_.out HW_.out hHeld rfl rfl (by rintro w' ⟨s0, s1, s2, s3, s4, s5, s6, s7, s8, s9, s10, s11⟩; go_simp; with_reducible rfl) ?_
        refine My.pv_ 7 64 14 1279 HT_.out ?_
        refine My.pv_ 8 65 14 1535 HT_.out ?_
        refine My.tv_ 9 66 14 2047 HT_.out HW_.out hHeld rfl rfl (by rintro w' ⟨s0, s1, s2, s3, s4, s5, s6, s7, s8, s9, s10, s11⟩; go_simp; with_reducible rfl) ?_
        refine My.ta_ 11 68 14 HT_.out HW_.out hHeld rfl rfl (by rintro w' ⟨s0, s1, s2, s3, s4, s5, s6, s7, s8, s9, s10, s11⟩; go_simp; with_reducible rfl) ?_
        refine My.pu_ 12 69 14 HT_.out ?_
        refine My.pu_ 13 70 14 HT_.out ?_
        refine done_ (done_of HT_.out (by kernel_rfl)) ?_
        try go_wp2
        go_ret
        exact ⟨by first | rfl | (simp [errW_none, errW_some] <;> rfl) | (simp only [← hji43]; first | rfl | (simp [errW_none, errW_some] <;> rfl)) | (simp [*, errW_none, errW_some] <;> rfl), (My.bl_ HB)⟩
     rw [if_neg c8] at H
     have c8b0 := decide_eq_false c8
     clear c8
     have H' := My.am H
     clear H
     have hq50 := My.cz2 BK450
     go_wp2
     go_loopg [5] k2 (fun kq v5 w' => ∃ (x5_3 : Int), v5 = .int .i64 x5_3 ∧ Aside0 (ententeref07_May.l1 kq x5_3 l0_0 l0_1 = some r) ∧ Aside0 (kq ≤ k2) ∧ Aside0 (w'.heap[gb450]? = some (.cells #[(.slice A0_0 l0_0.length c0_0), (.slice A0_1 l0_1.length c0_1)] 25 (0, 0))) ∧ Aside0 (Below w.heap.size w w'))
     case atStart => exact ⟨(0), My.r1, H', ⟨Nat.le_refl _⟩, ⟨(My.at_ BK450)⟩, ⟨(My.bl_ HB)⟩⟩
     case round =>
      clear H'
      try clear c7
      try clear c8
      try clear c8b0
      try clear hq50
      obtain ⟨x5_3, rfl, HA, HK3, BK450, HB⟩ := hrel
      cases gk with
      | zero => exact absurd HA.out (by simp [ententeref07_May.l1])
      | succ k3 =>
       have H := HA.out
       clear HA
       simp only [ententeref07_May.l1] at H
       by_cases c51 : x5_3 < (l0_0.length : Int)
       rotate_left
       ·rw [if_neg c51] at H
        have c51b0 := decide_eq_false c51
        clear c51
        obtain rfl := Option.some.inj H
        have hq110 := My.cz2 BK450
        go_wp2
        go_ret
        exact ⟨My.r2, (My.bl_ HB)⟩

       rw [if_pos c51] at H
       have c51b0 := decide_eq_true c51
       clear c51
       replace H := My.ds H
       obtain ⟨c52b0, H⟩ := H
       replace H := Option.bind_eq_some_iff.mp H
       obtain ⟨t459, A530, H⟩ := H
       try dsimp only at H
       have A53 := My.am A530
       clear A530
       by_cases c54 : t459 = 0
       rotate_left
       ·rw [if_neg c54] at H
        have c54b0 : (t459 == 0) = false := beq_eq_false_iff_ne.mpr c54
        have c54b1 : (t459 != 0) = true := bne_iff_ne.mpr c54
        obtain rfl := Option.some.inj H
        have hq103 := My.cz2 BK450
        have p457 : 0 ≤ (x5_3 : Int) := My.as_
        have q457 : x5_3 < (l0_0.length : Int) := My.as_
        obtain ⟨ad457, e457, hx457_0, hx457_1, hx457_2, hx457_3, hx457_4, hx457_5, hx457_6⟩ := My.up7 HB (at_T51 HR0_0.out x5_3 p457 q457)
        cases e457
        replace p457 := eq_true p457
        replace q457 := eq_true q457
        try go_wp2_with (first | ((with_reducible refine gate_dst (N := 6) rfl ?_); (try (refine gate_guard (by rfl) ?_; dsimp only)); refine My.bx 6 #[.string (⟨#[]⟩ : ByteArray), .int .i64 0, .int .i64 0, .int .i64 0, .int .i64 0, .int .i64 0, .int .i64 0] 51 ?_; intro gb458 hg w104 hbox hb; have BK458 := My.am (hbox); have GE458 := My.nge hg (My.bl_ HB); replace HB := My.st HB hb; obtain ⟨NB450_458, NB458_450, BK450⟩ := My.nb hg hb BK450; clear hb hbox hg; have hnb105 := NB458_450.out; have hnc105 := NB450_458.out; have hq106 := My.cz7 BK458))
        obtain ⟨w107, hz_⟩ : ∃ z_, z_ = (((((((w104.setCell ⟨gb458, 0, none⟩ (.string ((rd_T51 l0_0 x5_3).f0))).setCell ⟨gb458, 1, none⟩ (.int .i64 ((rd_T51 l0_0 x5_3).f1.f0))).setCell ⟨gb458, 2, none⟩ (.int .i64 ((rd_T51 l0_0 x5_3).f1.f1))).setCell ⟨gb458, 3, none⟩ (.int .i64 ((rd_T51 l0_0 x5_3).f1.f2))).setCell ⟨gb458, 4, none⟩ (.int .i64 ((rd_T51 l0_0 x5_3).f2.f0))).setCell ⟨gb458, 5, none⟩ (.int .i64 ((rd_T51 l0_0 x5_3).f2.f1))).setCell ⟨gb458, 6, none⟩ (.int .i64 ((rd_T51 l0_0 x5_3).f2.f2))) := ⟨_, rfl⟩
        replace BK450 : Aside0 (w107.heap[gb450]? = some (.cells #[.slice (some ad457) l0_0.length c0_0, .slice A0_1 l0_1.length c0_1] 25 (0, 0))) := ⟨by rw [hz_]; exact (My.sv_ BK450)⟩
        replace BK458 : Aside0 (w107.heap[gb458]? = some (.cells #[.string ((rd_T51 l0_0 x5_3).f0), .int .i64 ((rd_T51 l0_0 x5_3).f1.f0), .int .i64 ((rd_T51 l0_0 x5_3).f1.f1), .int .i64 ((rd_T51 l0_0 x5_3).f1.f2), .int .i64 ((rd_T51 l0_0 x5_3).f2.f0), .int .i64 ((rd_T51 l0_0 x5_3).f2.f1), .int .i64 ((rd_T51 l0_0 x5_3).f2.f2)] 51 (0, 0))) := ⟨by rw [hz_]; exact (My.sv_ BK458)⟩
        replace HB : Aside0 (Below w.heap.size w w107) := ⟨by rw [hz_]; repeat (first | (with_reducible first | exact HB.out | apply below_alloc | apply pw_below_drewN | apply below_drew1 | refine below_set ?_ GE450.out | refine below_set ?_ GE458.out) | exact HB.out)⟩
        rw [← hz_]
        clear hz_
        replace BK450 := My.am (blk_drew BK450.out)
        replace BK458 := My.am (blk_drew BK458.out)
        replace HB := My.am (below_drew1 HB.out)
        refine start_ (n := 25) (S := fun w' => w'.cell? ⟨gb458, 0, none⟩ = some (.string ((rd_T51 l0_0 x5_3).f0)) ∧ w'.cell? ⟨gb458, 1, none⟩ = some (.int .i64 ((rd_T51 l0_0 x5_3).f1.f0)) ∧ w'.cell? ⟨gb458, 2, none⟩ = some (.int .i64 ((rd_T51 l0_0 x5_3).f1.f1)) ∧ w'.cell? ⟨gb458, 3, none⟩ = some (.int .i64 ((rd_T51 l0_0 x5_3).f1.f2)) ∧ w'.cell? ⟨gb458, 4, none⟩ = some (.int .i64 ((rd_T51 l0_0 x5_3).f2.f0)) ∧ w'.cell? ⟨gb458, 5, none⟩ = some (.int .i64 ((rd_T51 l0_0 x5_3).f2.f1)) ∧ w'.cell? ⟨gb458, 6, none⟩ = some (.int .i64 ((rd_T51 l0_0 x5_3).f2.f2))) (ds := []) #[false, false, false, false, false, false, false, false, false, false, false, false, false, false, false, false, false, false, false, false, false, false, false, false, false] (by kernel_rfl) rfl rfl ⟨My.b_ BK458 0, My.b_ BK458 1, My.b_ BK458 2, My.b_ BK458 3, My.b_ BK458 4, My.b_ BK458 5, My.b_ BK458 6⟩ (fun hHeld => ?_); refine with_tabW ententeref07_May.tab15 ententeref07_May.bits15 (fun HT_ HW_ => ?_)
        generalize w107.drew = w108 at BK450 BK458 HB hHeld ⊢
        refine My.ta_ 0 83 25 HT_.out HW_.out hHeld rfl rfl (by rintro w' ⟨s0, s1, s2, s3, s4, s5, s6⟩; go_simp; with_reducible rfl) ?_
        refine one_ (i := 1) (N := some 84) (My.Mb 25 3) rfl rfl (one_of HT_.out (by kernel_rfl)) (by decide) (fun K hK => ?_)
        refine goes_ Try.func58 (by kernel_rfl) rfl #[.agg #[.string ((rd_T51 l0_0 x5_3).f0), .int .i64 ((rd_T51 l0_0 x5_3).f1.f0), .int .i64 ((rd_T51 l0_0 x5_3).f1.f1), .int .i64 ((rd_T51 l0_0 x5_3).f1.f2), .int .i64 ((rd_T51 l0_0 x5_3).f2.f0), .int .i64 ((rd_T51 l0_0 x5_3).f2.f1), .int .i64 ((rd_T51 l0_0 x5_3).f2.f2)]] (by rfl) rfl rfl My.gx ?_
        with_reducible refine (ententeref06_May.calls k3 ((rd_T51 l0_0 x5_3).f0) ((rd_T51 l0_0 x5_3).f1.f0) ((rd_T51 l0_0 x5_3).f1.f1) ((rd_T51 l0_0 x5_3).f1.f2) ((rd_T51 l0_0 x5_3).f2.f0) ((rd_T51 l0_0 x5_3).f2.f1) ((rd_T51 l0_0 x5_3).f2.f2) t459 _ A53.out).mono ?_
        rintro e w109 ⟨rfl, hb⟩
        refine ⟨_, rfl, ?_⟩
        replace BK450 := My.ab BK450 hb
        replace BK458 := My.ab BK458 hb
        replace HB := My.st HB hb
        (try clear hb)
        (try clear hb2)
        (try clear hk)
        (try clear hi)
        refine hK.out _ _ ⟨My.b_ BK458 0, My.b_ BK458 1, My.b_ BK458 2, My.b_ BK458 3, My.b_ BK458 4, My.b_ BK458 5, My.b_ BK458 6⟩ (fun hHeld => ?_)
        clear hK K
        refine norm_ (a' := ?_) ?_ ?_
        rotate_left
        ·show Act.put _ (some 84) _ = _
         simp only [Act.put, List.setIfInBounds_toArray, List.set_cons_zero, List.set_cons_succ, i64_w, i32_w]
         rfl
        refine My.pu_ 2 85 25 HT_.out ?_
        refine My.pu_ 3 86 25 HT_.out ?_
        refine My.pn_ 4 87 25 HT_.out ?_
        refine My.pn_ 5 88 25 HT_.out ?_
        refine My.pn_ 6 89 25 HT_.out ?_
        refine My.pn_ 7 90 25 HT_.out ?_
        refine My.pn_ 8 91 25 HT_.out ?_
        refine My.pn_ 9 92 25 HT_.out ?_
        refine My.pn_ 10 93 25 HT_.out ?_
        refine My.pn_ 11 94 25 HT_.out ?_
        refine My.pn_ 12 95 25 HT_.out ?_
        refine My.pn_ 13 96 25 HT_.out ?_
        refine My.pn_ 14 97 25 HT_.out ?_
        refine My.pn_ 15 98 25 HT_.out ?_
        refine My.pn_ 16 99 25 HT_.out ?_
        refine My.pn_ 17 100 25 HT_.out ?_
        refine My.pu_ 18 101 25 HT_.out ?_
        refine My.pu_ 19 102 25 HT_.out ?_
        refine My.pn_ 20 103 25 HT_.out ?_
        refine My.pn_ 21 104 25 HT_.out ?_
        refine My.pn_ 22 105 25 HT_.out ?_
        refine My.pn_ 23 106 25 HT_.out ?_
        refine My.pu_ 24 107 25 HT_.out ?_
        refine done_ (done_of HT_.out (by kernel_rfl)) ?_
        try go_wp2
        go_ret
        exact ⟨My.r2, (My.bl_ HB)⟩
       rw [if_pos c54] at H
       have c54b0 : (t459 == 0) = true := beq_iff_eq.mpr c54
       have c54b1 : (t459 != 0) = false := bne_eq_false_iff_eq.mpr c54
       clear c54
       by_cases c55 : x5_3 > 0
       rotate_left
       ·rw [if_neg c55] at H
        have c55b0 : decide (0 < x5_3) = false := decide_eq_false c55
        clear c55
        replace H := Option.bind_eq_some_iff.mp H
        obtain ⟨t462, A850, H⟩ := H
        try dsimp only at H
        have A85 := My.am A850
        clear A850
        by_cases c86 : t462 = true
        ·subst c86
         rw [if_pos rfl] at H
         have H' := My.am H
         clear H
         have hq87 := My.cz2 BK450
         have p457 : 0 ≤ (x5_3 : Int) := My.as_
         have q457 : x5_3 < (l0_0.length : Int) := My.as_
         obtain ⟨ad457, e457, hx457_0, hx457_1, hx457_2, hx457_3, hx457_4, hx457_5, hx457_6⟩ := My.up7 HB (at_T51 HR0_0.out x5_3 p457 q457)
         cases e457
         replace p457 := eq_true p457
         replace q457 := eq_true q457
         try go_wp2_with (first | ((with_reducible refine gate_dst (N := 6) rfl ?_); (try (refine gate_guard (by rfl) ?_; dsimp only)); refine My.bx 6 #[.string (⟨#[]⟩ : ByteArray), .int .i64 0, .int .i64 0, .int .i64 0, .int .i64 0, .int .i64 0, .int .i64 0] 51 ?_; intro gb458 hg w88 hbox hb; have BK458 := My.am (hbox); have GE458 := My.nge hg (My.bl_ HB); replace HB := My.st HB hb; obtain ⟨NB450_458, NB458_450, BK450⟩ := My.nb hg hb BK450; clear hb hbox hg; have hnb89 := NB458_450.out; have hnc89 := NB450_458.out; have hq90 := My.cz7 BK458))
         obtain ⟨w91, hz_⟩ : ∃ z_, z_ = (((((((w88.setCell ⟨gb458, 0, none⟩ (.string ((rd_T51 l0_0 x5_3).f0))).setCell ⟨gb458, 1, none⟩ (.int .i64 ((rd_T51 l0_0 x5_3).f1.f0))).setCell ⟨gb458, 2, none⟩ (.int .i64 ((rd_T51 l0_0 x5_3).f1.f1))).setCell ⟨gb458, 3, none⟩ (.int .i64 ((rd_T51 l0_0 x5_3).f1.f2))).setCell ⟨gb458, 4, none⟩ (.int .i64 ((rd_T51 l0_0 x5_3).f2.f0))).setCell ⟨gb458, 5, none⟩ (.int .i64 ((rd_T51 l0_0 x5_3).f2.f1))).setCell ⟨gb458, 6, none⟩ (.int .i64 ((rd_T51 l0_0 x5_3).f2.f2))) := ⟨_, rfl⟩
         replace BK450 : Aside0 (w91.heap[gb450]? = some (.cells #[.slice (some ad457) l0_0.length c0_0, .slice A0_1 l0_1.length c0_1] 25 (0, 0))) := ⟨by rw [hz_]; exact (My.sv_ BK450)⟩
         replace BK458 : Aside0 (w91.heap[gb458]? = some (.cells #[.string ((rd_T51 l0_0 x5_3).f0), .int .i64 ((rd_T51 l0_0 x5_3).f1.f0), .int .i64 ((rd_T51 l0_0 x5_3).f1.f1), .int .i64 ((rd_T51 l0_0 x5_3).f1.f2), .int .i64 ((rd_T51 l0_0 x5_3).f2.f0), .int .i64 ((rd_T51 l0_0 x5_3).f2.f1), .int .i64 ((rd_T51 l0_0 x5_3).f2.f2)] 51 (0, 0))) := ⟨by rw [hz_]; exact (My.sv_ BK458)⟩
         replace HB : Aside0 (Below w.heap.size w w91) := ⟨by rw [hz_]; repeat (first | (with_reducible first | exact HB.out | apply below_alloc | apply pw_below_drewN | apply below_drew1 | refine below_set ?_ GE450.out | refine below_set ?_ GE458.out) | exact HB.out)⟩
         rw [← hz_]
         clear hz_
         replace BK450 := My.am (blk_drew BK450.out)
         replace BK458 := My.am (blk_drew BK458.out)
         replace HB := My.am (below_drew1 HB.out)
         refine start_ (n := 25) (S := fun w' => w'.cell? ⟨gb458, 0, none⟩ = some (.string ((rd_T51 l0_0 x5_3).f0)) ∧ w'.cell? ⟨gb458, 1, none⟩ = some (.int .i64 ((rd_T51 l0_0 x5_3).f1.f0)) ∧ w'.cell? ⟨gb458, 2, none⟩ = some (.int .i64 ((rd_T51 l0_0 x5_3).f1.f1)) ∧ w'.cell? ⟨gb458, 3, none⟩ = some (.int .i64 ((rd_T51 l0_0 x5_3).f1.f2)) ∧ w'.cell? ⟨gb458, 4, none⟩ = some (.int .i64 ((rd_T51 l0_0 x5_3).f2.f0)) ∧ w'.cell? ⟨gb458, 5, none⟩ = some (.int .i64 ((rd_T51 l0_0 x5_3).f2.f1)) ∧ w'.cell? ⟨gb458, 6, none⟩ = some (.int .i64 ((rd_T51 l0_0 x5_3).f2.f2)) ∧ w'.cell? ⟨gb450, 0, none⟩ = some (.slice (some ad457) l0_0.length c0_0) ∧ w'.cell? ⟨gb450, 1, none⟩ = some (.slice A0_1 l0_1.length c0_1)) (ds := []) #[false, false, false, false, false, false, false, false, false, false, false, false, false, false, false, false, false, false, false, false, false, false, false, false, false] (by kernel_rfl) rfl rfl ⟨My.b_ BK458 0, My.b_ BK458 1, My.b_ BK458 2, My.b_ BK458 3, My.b_ BK458 4, My.b_ BK458 5, My.b_ BK458 6, My.b_ BK450 0, My.b_ BK450 1⟩ (fun hHeld => ?_); refine with_tabW ententeref07_May.tab15 ententeref07_May.bits15 (fun HT_ HW_ => ?_)
         generalize w91.drew = w92 at BK450 BK458 HB hHeld ⊢
         refine My.ta_ 0 83 25 HT_.out HW_.out hHeld rfl rfl (by rintro w' ⟨s0, s1, s2, s3, s4, s5, s6, s7, s8⟩; go_simp; with_reducible rfl) ?_
         refine one_ (i := 1) (N := some 84) (My.Mb 25 3) rfl rfl (one_of HT_.out (by kernel_rfl)) (by decide) (fun K hK => ?_)
         refine goes_ Try.func58 (by kernel_rfl) rfl #[.agg #[.string ((rd_T51 l0_0 x5_3).f0), .int .i64 ((rd_T51 l0_0 x5_3).f1.f0), .int .i64 ((rd_T51 l0_0 x5_3).f1.f1), .int .i64 ((rd_T51 l0_0 x5_3).f1.f2), .int .i64 ((rd_T51 l0_0 x5_3).f2.f0), .int .i64 ((rd_T51 l0_0 x5_3).f2.f1), .int .i64 ((rd_T51 l0_0 x5_3).f2.f2)]] (by rfl) rfl rfl My.gx ?_
         with_reducible refine (ententeref06_May.calls k3 ((rd_T51 l0_0 x5_3).f0) ((rd_T51 l0_0 x5_3).f1.f0) ((rd_T51 l0_0 x5_3).f1.f1) ((rd_T51 l0_0 x5_3).f1.f2) ((rd_T51 l0_0 x5_3).f2.f0) ((rd_T51 l0_0 x5_3).f2.f1) ((rd_T51 l0_0 x5_3).f2.f2) t459 _ A53.out).mono ?_
         rintro e w93 ⟨rfl, hb⟩
         refine ⟨_, rfl, ?_⟩
         replace BK450 := My.ab BK450 hb
         replace BK458 := My.ab BK458 hb
         replace HB := My.st HB hb
         (try clear hb)
         (try clear hb2)
         (try clear hk)
         (try clear hi)
         refine hK.out _ _ ⟨My.b_ BK458 0, My.b_ BK458 1, My.b_ BK458 2, My.b_ BK458 3, My.b_ BK458 4, My.b_ BK458 5, My.b_ BK458 6, My.b_ BK450 0, My.b_ BK450 1⟩ (fun hHeld => ?_)
         clear hK K
         refine norm_ (a' := ?_) ?_ ?_
         rotate_left
         ·show Act.put _ (some 84) _ = _
          simp only [Act.put, List.setIfInBounds_toArray, List.set_cons_zero, List.set_cons_succ, i64_w, i32_w]
          rfl
         refine My.pu_ 2 85 25 HT_.out ?_
         refine My.pu_ 3 86 25 HT_.out ?_
         refine My.pu_ 4 87 25 HT_.out ?_
         refine My.pu_ 5 88 25 HT_.out ?_
         refine My.pu_ 6 89 25 HT_.out ?_
         refine My.pn_ 7 90 25 HT_.out ?_
         refine My.pn_ 8 91 25 HT_.out ?_
         refine My.pn_ 9 92 25 HT_.out ?_
         refine My.pn_ 10 93 25 HT_.out ?_
         refine My.pn_ 11 94 25 HT_.out ?_
         refine My.pn_ 12 95 25 HT_.out ?_
         refine My.pn_ 13 96 25 HT_.out ?_
         refine My.pn_ 14 97 25 HT_.out ?_
         refine My.pn_ 15 98 25 HT_.out ?_
         refine My.pn_ 16 99 25 HT_.out ?_
         refine My.pu_ 17 100 25 HT_.out ?_
         refine My.pu_ 18 101 25 HT_.out ?_
         refine My.pu_ 19 102 25 HT_.out ?_
         refine My.ta_ 20 103 25 HT_.out HW_.out hHeld rfl rfl (by rintro w' ⟨s0, s1, s2, s3, s4, s5, s6, s7, s8⟩; go_simp; with_reducible rfl) ?_
         refine My.ta_ 21 104 25 HT_.out HW_.out hHeld rfl rfl (by rintro w' ⟨s0, s1, s2, s3, s4, s5, s6, s7, s8⟩; go_simp; with_reducible rfl) ?_
         refine one_ (i := 22) (N := some 105) (My.Mb 25 8388607) rfl rfl (one_of HT_.out (by kernel_rfl)) (by decide) (fun K hK => ?_)
         refine goes_ Try.func59 (by kernel_rfl) rfl #[.agg #[.slice (some ad457) l0_0.length c0_0, .slice A0_1 l0_1.length c0_1], .agg #[.string ((rd_T51 l0_0 x5_3).f0), .int .i64 ((rd_T51 l0_0 x5_3).f1.f0), .int .i64 ((rd_T51 l0_0 x5_3).f1.f1), .int .i64 ((rd_T51 l0_0 x5_3).f1.f2), .int .i64 ((rd_T51 l0_0 x5_3).f2.f0), .int .i64 ((rd_T51 l0_0 x5_3).f2.f1), .int .i64 ((rd_T51 l0_0 x5_3).f2.f2)]] (by rfl) rfl rfl My.gx ?_
         with_reducible refine (ententeref07_pots.calls k3 _ _ l0_0 _ _ l0_1 ((rd_T51 l0_0 x5_3).f0) ((rd_T51 l0_0 x5_3).f1.f0) ((rd_T51 l0_0 x5_3).f1.f1) ((rd_T51 l0_0 x5_3).f1.f2) ((rd_T51 l0_0 x5_3).f2.f0) ((rd_T51 l0_0 x5_3).f2.f1) ((rd_T51 l0_0 x5_3).f2.f2) true _ ?side1 ?side2 ?side3 ?side4 A85.out).mono ?_
         (case side1 => exact My.sd_ HR0_0 HB)
         (case side2 => exact HC0_0.out)
         (case side3 => exact My.sd_ HR0_1 HB)
         (case side4 => exact HC0_1.out)
         rintro e w94 ⟨rfl, hb⟩
         refine ⟨_, rfl, ?_⟩
         replace BK450 := My.ab BK450 hb
         replace BK458 := My.ab BK458 hb
         replace HB := My.st HB hb
         (try clear hb)
         (try clear hb2)
         (try clear hk)
         (try clear hi)
         refine hK.out _ _ ⟨My.b_ BK458 0, My.b_ BK458 1, My.b_ BK458 2, My.b_ BK458 3, My.b_ BK458 4, My.b_ BK458 5, My.b_ BK458 6, My.b_ BK450 0, My.b_ BK450 1⟩ (fun hHeld => ?_)
         clear hK K
         refine norm_ (a' := ?_) ?_ ?_
         rotate_left
         ·show Act.put _ (some 105) _ = _
          simp only [Act.put, List.setIfInBounds_toArray, List.set_cons_zero, List.set_cons_succ, i64_w, i32_w]
          rfl
         refine My.pu_ 23 106 25 HT_.out ?_
         refine My.pu_ 24 107 25 HT_.out ?_
         refine done_ (done_of HT_.out (by kernel_rfl)) ?_
         try go_wp2
         go_roundg k3
         case measure => have := HJ1.out; have := HK2.out; have := HK3.out; omega
         case rel => exact ⟨(wrap64 (x5_3 + 1)), My.r1, H', ⟨by have := HJ1.out; have := HK2.out; have := HK3.out; omega⟩, ⟨(My.at_ BK450)⟩, ⟨(My.bl_ HB)⟩⟩
        replace c86 := Bool.eq_false_iff.mpr c86
        subst c86
        rw [if_neg (show ¬ (false = true) by decide)] at H
        obtain rfl := Option.some.inj H
        have hq95 := My.cz2 BK450
        have p457 : 0 ≤ (x5_3 : Int) := My.as_
        have q457 : x5_3 < (l0_0.length : Int) := My.as_
        obtain ⟨ad457, e457, hx457_0, hx457_1, hx457_2, hx457_3, hx457_4, hx457_5, hx457_6⟩ := My.up7 HB (at_T51 HR0_0.out x5_3 p457 q457)
        cases e457
        replace p457 := eq_true p457
        replace q457 := eq_true q457
        try go_wp2_with (first | ((with_reducible refine gate_dst (N := 6) rfl ?_); (try (refine gate_guard (by rfl) ?_; dsimp only)); refine My.bx 6 #[.string (⟨#[]⟩ : ByteArray), .int .i64 0, .int .i64 0, .int .i64 0, .int .i64 0, .int .i64 0, .int .i64 0] 51 ?_; intro gb458 hg w96 hbox hb; have BK458 := My.am (hbox); have GE458 := My.nge hg (My.bl_ HB); replace HB := My.st HB hb; obtain ⟨NB450_458, NB458_450, BK450⟩ := My.nb hg hb BK450; clear hb hbox hg; have hnb97 := NB458_450.out; have hnc97 := NB450_458.out; have hq98 := My.cz7 BK458))
        obtain ⟨w99, hz_⟩ : ∃ z_, z_ = (((((((w96.setCell ⟨gb458, 0, none⟩ (.string ((rd_T51 l0_0 x5_3).f0))).setCell ⟨gb458, 1, none⟩ (.int .i64 ((rd_T51 l0_0 x5_3).f1.f0))).setCell ⟨gb458, 2, none⟩ (.int .i64 ((rd_T51 l0_0 x5_3).f1.f1))).setCell ⟨gb458, 3, none⟩ (.int .i64 ((rd_T51 l0_0 x5_3).f1.f2))).setCell ⟨gb458, 4, none⟩ (.int .i64 ((rd_T51 l0_0 x5_3).f2.f0))).setCell ⟨gb458, 5, none⟩ (.int .i64 ((rd_T51 l0_0 x5_3).f2.f1))).setCell ⟨gb458, 6, none⟩ (.int .i64 ((rd_T51 l0_0 x5_3).f2.f2))) := ⟨_, rfl⟩
        replace BK450 : Aside0 (w99.heap[gb450]? = some (.cells #[.slice (some ad457) l0_0.length c0_0, .slice A0_1 l0_1.length c0_1] 25 (0, 0))) := ⟨by rw [hz_]; exact (My.sv_ BK450)⟩
        replace BK458 : Aside0 (w99.heap[gb458]? = some (.cells #[.string ((rd_T51 l0_0 x5_3).f0), .int .i64 ((rd_T51 l0_0 x5_3).f1.f0), .int .i64 ((rd_T51 l0_0 x5_3).f1.f1), .int .i64 ((rd_T51 l0_0 x5_3).f1.f2), .int .i64 ((rd_T51 l0_0 x5_3).f2.f0), .int .i64 ((rd_T51 l0_0 x5_3).f2.f1), .int .i64 ((rd_T51 l0_0 x5_3).f2.f2)] 51 (0, 0))) := ⟨by rw [hz_]; exact (My.sv_ BK458)⟩
        replace HB : Aside0 (Below w.heap.size w w99) := ⟨by rw [hz_]; repeat (first | (with_reducible first | exact HB.out | apply below_alloc | apply pw_below_drewN | apply below_drew1 | refine below_set ?_ GE450.out | refine below_set ?_ GE458.out) | exact HB.out)⟩
        rw [← hz_]
        clear hz_
        replace BK450 := My.am (blk_drew BK450.out)
        replace BK458 := My.am (blk_drew BK458.out)
        replace HB := My.am (below_drew1 HB.out)
        refine start_ (n := 25) (S := fun w' => w'.cell? ⟨gb458, 0, none⟩ = some (.string ((rd_T51 l0_0 x5_3).f0)) ∧ w'.cell? ⟨gb458, 1, none⟩ = some (.int .i64 ((rd_T51 l0_0 x5_3).f1.f0)) ∧ w'.cell? ⟨gb458, 2, none⟩ = some (.int .i64 ((rd_T51 l0_0 x5_3).f1.f1)) ∧ w'.cell? ⟨gb458, 3, none⟩ = some (.int .i64 ((rd_T51 l0_0 x5_3).f1.f2)) ∧ w'.cell? ⟨gb458, 4, none⟩ = some (.int .i64 ((rd_T51 l0_0 x5_3).f2.f0)) ∧ w'.cell? ⟨gb458, 5, none⟩ = some (.int .i64 ((rd_T51 l0_0 x5_3).f2.f1)) ∧ w'.cell? ⟨gb458, 6, none⟩ = some (.int .i64 ((rd_T51 l0_0 x5_3).f2.f2)) ∧ w'.cell? ⟨gb450, 0, none⟩ = some (.slice (some ad457) l0_0.length c0_0) ∧ w'.cell? ⟨gb450, 1, none⟩ = some (.slice A0_1 l0_1.length c0_1)) (ds := []) #[false, false, false, false, false, false, false, false, false, false, false, false, false, false, false, false, false, false, false, false, false, false, false, false, false] (by kernel_rfl) rfl rfl ⟨My.b_ BK458 0, My.b_ BK458 1, My.b_ BK458 2, My.b_ BK458 3, My.b_ BK458 4, My.b_ BK458 5, My.b_ BK458 6, My.b_ BK450 0, My.b_ BK450 1⟩ (fun hHeld => ?_); refine with_tabW ententeref07_May.tab15 ententeref07_May.bits15 (fun HT_ HW_ => ?_)
        generalize w99.drew = w100 at BK450 BK458 HB hHeld ⊢
        refine My.ta_ 0 83 25 HT_.out HW_.out hHeld rfl rfl (by rintro w' ⟨s0, s1, s2, s3, s4, s5, s6, s7, s8⟩; go_simp; with_reducible rfl) ?_
        refine one_ (i := 1) (N := some 84) (My.Mb 25 3) rfl rfl (one_of HT_.out (by kernel_rfl)) (by decide) (fun K hK => ?_)
        refine goes_ Try.func58 (by kernel_rfl) rfl #[.agg #[.string ((rd_T51 l0_0 x5_3).f0), .int .i64 ((rd_T51 l0_0 x5_3).f1.f0), .int .i64 ((rd_T51 l0_0 x5_3).f1.f1), .int .i64 ((rd_T51 l0_0 x5_3).f1.f2), .int .i64 ((rd_T51 l0_0 x5_3).f2.f0), .int .i64 ((rd_T51 l0_0 x5_3).f2.f1), .int .i64 ((rd_T51 l0_0 x5_3).f2.f2)]] (by rfl) rfl rfl My.gx ?_
        with_reducible refine (ententeref06_May.calls k3 ((rd_T51 l0_0 x5_3).f0) ((rd_T51 l0_0 x5_3).f1.f0) ((rd_T51 l0_0 x5_3).f1.f1) ((rd_T51 l0_0 x5_3).f1.f2) ((rd_T51 l0_0 x5_3).f2.f0) ((rd_T51 l0_0 x5_3).f2.f1) ((rd_T51 l0_0 x5_3).f2.f2) t459 _ A53.out).mono ?_
        rintro e w101 ⟨rfl, hb⟩
        refine ⟨_, rfl, ?_⟩
        replace BK450 := My.ab BK450 hb
        replace BK458 := My.ab BK458 hb
        replace HB := My.st HB hb
        (try clear hb)
        (try clear hb2)
        (try clear hk)
        (try clear hi)
        refine hK.out _ _ ⟨My.b_ BK458 0, My.b_ BK458 1, My.b_ BK458 2, My.b_ BK458 3, My.b_ BK458 4, My.b_ BK458 5, My.b_ BK458 6, My.b_ BK450 0, My.b_ BK450 1⟩ (fun hHeld => ?_)
        clear hK K
        refine norm_ (a' := ?_) ?_ ?_
        rotate_left
        ·show Act.put _ (some 84) _ = _
         simp only [Act.put, List.setIfInBounds_toArray, List.set_cons_zero, List.set_cons_succ, i64_w, i32_w]
         rfl
        refine My.pu_ 2 85 25 HT_.out ?_
        refine My.pu_ 3 86 25 HT_.out ?_
        refine My.pu_ 4 87 25 HT_.out ?_
        refine My.pu_ 5 88 25 HT_.out ?_
        refine My.pu_ 6 89 25 HT_.out ?_
        refine My.pn_ 7 90 25 HT_.out ?_
        refine My.pn_ 8 91 25 HT_.out ?_
        refine My.pn_ 9 92 25 HT_.out ?_
        refine My.pn_ 10 93 25 HT_.out ?_
        refine My.pn_ 11 94 25 HT_.out ?_
        refine My.pn_ 12 95 25 HT_.out ?_
        refine My.pn_ 13 96 25 HT_.out ?_
        refine My.pn_ 14 97 25 HT_.out ?_
        refine My.pn_ 15 98 25 HT_.out ?_
        refine My.pn_ 16 99 25 HT_.out ?_
        refine My.pu_ 17 100 25 HT_.out ?_
        refine My.pu_ 18 101 25 HT_.out ?_
        refine My.pu_ 19 102 25 HT_.out ?_
        refine My.ta_ 20 103 25 HT_.out HW_.out hHeld rfl rfl (by rintro w' ⟨s0, s1, s2, s3, s4, s5, s6, s7, s8⟩; go_simp; with_reducible rfl) ?_
        refine My.ta_ 21 104 25 HT_.out HW_.out hHeld rfl rfl (by rintro w' ⟨s0, s1, s2, s3, s4, s5, s6, s7, s8⟩; go_simp; with_reducible rfl) ?_
        refine one_ (i := 22) (N := some 105) (My.Mb 25 8388607) rfl rfl (one_of HT_.out (by kernel_rfl)) (by decide) (fun K hK => ?_)
        refine goes_ Try.func59 (by kernel_rfl) rfl #[.agg #[.slice (some ad457) l0_0.length c0_0, .slice A0_1 l0_1.length c0_1], .agg #[.string ((rd_T51 l0_0 x5_3).f0), .int .i64 ((rd_T51 l0_0 x5_3).f1.f0), .int .i64 ((rd_T51 l0_0 x5_3).f1.f1), .int .i64 ((rd_T51 l0_0 x5_3).f1.f2), .int .i64 ((rd_T51 l0_0 x5_3).f2.f0), .int .i64 ((rd_T51 l0_0 x5_3).f2.f1), .int .i64 ((rd_T51 l0_0 x5_3).f2.f2)]] (by rfl) rfl rfl My.gx ?_
        with_reducible refine (ententeref07_pots.calls k3 _ _ l0_0 _ _ l0_1 ((rd_T51 l0_0 x5_3).f0) ((rd_T51 l0_0 x5_3).f1.f0) ((rd_T51 l0_0 x5_3).f1.f1) ((rd_T51 l0_0 x5_3).f1.f2) ((rd_T51 l0_0 x5_3).f2.f0) ((rd_T51 l0_0 x5_3).f2.f1) ((rd_T51 l0_0 x5_3).f2.f2) false _ ?side1 ?side2 ?side3 ?side4 A85.out).mono ?_
        (case side1 => exact My.sd_ HR0_0 HB)
        (case side2 => exact HC0_0.out)
        (case side3 => exact My.sd_ HR0_1 HB)
        (case side4 => exact HC0_1.out)
        rintro e w102 ⟨rfl, hb⟩
        refine ⟨_, rfl, ?_⟩
        replace BK450 := My.ab BK450 hb
        replace BK458 := My.ab BK458 hb
        replace HB := My.st HB hb
        (try clear hb)
        (try clear hb2)
        (try clear hk)
        (try clear hi)
        refine hK.out _ _ ⟨My.b_ BK458 0, My.b_ BK458 1, My.b_ BK458 2, My.b_ BK458 3, My.b_ BK458 4, My.b_ BK458 5, My.b_ BK458 6, My.b_ BK450 0, My.b_ BK450 1⟩ (fun hHeld => ?_)
        clear hK K
        refine norm_ (a' := ?_) ?_ ?_
        rotate_left
        ·show Act.put _ (some 105) _ = _
         simp only [Act.put, List.setIfInBounds_toArray, List.set_cons_zero, List.set_cons_succ, i64_w, i32_w]
         rfl
        refine My.pu_ 23 106 25 HT_.out ?_
        refine My.pu_ 24 107 25 HT_.out ?_
        refine done_ (done_of HT_.out (by kernel_rfl)) ?_
        try go_wp2
        go_ret
        exact ⟨My.r2, (My.bl_ HB)⟩
       rw [if_pos c55] at H
       have c55b0 : decide (0 < x5_3) = true := decide_eq_true c55
       clear c55
       obtain ⟨ji56, hji56⟩ : ∃ j_ : Int, (wrap64 (x5_3 - 1)) = j_ := ⟨_, rfl⟩
       replace H : (if 0 ≤ (ji56) then (if (ji56) < (l0_0.length : Int) then (if (Op.bytesLess (((rd_T51 l0_0 (ji56)).f0).toList) (((rd_T51 l0_0 x5_3).f0).toList)) = true then ((ententeref07_pots.f k3 l0_0 l0_1 ((rd_T51 l0_0 x5_3).f0) ((rd_T51 l0_0 x5_3).f1.f0) ((rd_T51 l0_0 x5_3).f1.f1) ((rd_T51 l0_0 x5_3).f1.f2) ((rd_T51 l0_0 x5_3).f2.f0) ((rd_T51 l0_0 x5_3).f2.f1) ((rd_T51 l0_0 x5_3).f2.f2)).bind fun t461 => (if t461 = true then (ententeref07_May.l1 k3 (wrap64 (x5_3 + 1)) l0_0 l0_1) else (some 2))) else (some 2)) else (none)) else (none)) = some r := by first | (rw [hji56] at H; exact H) | (simp only [hji56] at H ⊢; exact H)
       (try rw [hji56] at A53)
       have hji56w : (IntKind.i64.wrap (x5_3 - 1)) = ji56 := (i64_w _).trans hji56
       replace H := My.ds H
       obtain ⟨c57b0, H⟩ := H
       replace H := My.ds H
       obtain ⟨c58b0, H⟩ := H
       by_cases c59 : (Op.bytesLess (((rd_T51 l0_0 (ji56)).f0).toList) (((rd_T51 l0_0 x5_3).f0).toList)) = true
       rotate_left
       ·rw [if_neg c59] at H
        have c59b0 : (Op.bytesLess (((rd_T51 l0_0 (ji56)).f0).toList) (((rd_T51 l0_0 x5_3).f0).toList)) = false := by simpa using c59
        clear c59
        obtain rfl := Option.some.inj H
        have hq78 := My.cz2 BK450
        have p457 : 0 ≤ (x5_3 : Int) := My.as_
        have q457 : x5_3 < (l0_0.length : Int) := My.as_
        obtain ⟨ad457, e457, hx457_0, hx457_1, hx457_2, hx457_3, hx457_4, hx457_5, hx457_6⟩ := My.up7 HB (at_T51 HR0_0.out x5_3 p457 q457)
        cases e457
        replace p457 := eq_true p457
        replace q457 := eq_true q457
        try go_wp2_with (first | ((with_reducible refine gate_dst (N := 6) rfl ?_); (try (refine gate_guard (by rfl) ?_; dsimp only)); refine My.bx 6 #[.string (⟨#[]⟩ : ByteArray), .int .i64 0, .int .i64 0, .int .i64 0, .int .i64 0, .int .i64 0, .int .i64 0] 51 ?_; intro gb458 hg w79 hbox hb; have BK458 := My.am (hbox); have GE458 := My.nge hg (My.bl_ HB); replace HB := My.st HB hb; obtain ⟨NB450_458, NB458_450, BK450⟩ := My.nb hg hb BK450; clear hb hbox hg; have hnb80 := NB458_450.out; have hnc80 := NB450_458.out; have hq81 := My.cz7 BK458))
        obtain ⟨w82, hz_⟩ : ∃ z_, z_ = (((((((w79.setCell ⟨gb458, 0, none⟩ (.string ((rd_T51 l0_0 x5_3).f0))).setCell ⟨gb458, 1, none⟩ (.int .i64 ((rd_T51 l0_0 x5_3).f1.f0))).setCell ⟨gb458, 2, none⟩ (.int .i64 ((rd_T51 l0_0 x5_3).f1.f1))).setCell ⟨gb458, 3, none⟩ (.int .i64 ((rd_T51 l0_0 x5_3).f1.f2))).setCell ⟨gb458, 4, none⟩ (.int .i64 ((rd_T51 l0_0 x5_3).f2.f0))).setCell ⟨gb458, 5, none⟩ (.int .i64 ((rd_T51 l0_0 x5_3).f2.f1))).setCell ⟨gb458, 6, none⟩ (.int .i64 ((rd_T51 l0_0 x5_3).f2.f2))) := ⟨_, rfl⟩
        replace BK450 : Aside0 (w82.heap[gb450]? = some (.cells #[.slice (some ad457) l0_0.length c0_0, .slice A0_1 l0_1.length c0_1] 25 (0, 0))) := ⟨by rw [hz_]; exact (My.sv_ BK450)⟩
        replace BK458 : Aside0 (w82.heap[gb458]? = some (.cells #[.string ((rd_T51 l0_0 x5_3).f0), .int .i64 ((rd_T51 l0_0 x5_3).f1.f0), .int .i64 ((rd_T51 l0_0 x5_3).f1.f1), .int .i64 ((rd_T51 l0_0 x5_3).f1.f2), .int .i64 ((rd_T51 l0_0 x5_3).f2.f0), .int .i64 ((rd_T51 l0_0 x5_3).f2.f1), .int .i64 ((rd_T51 l0_0 x5_3).f2.f2)] 51 (0, 0))) := ⟨by rw [hz_]; exact (My.sv_ BK458)⟩
        replace HB : Aside0 (Below w.heap.size w w82) := ⟨by rw [hz_]; repeat (first | (with_reducible first | exact HB.out | apply below_alloc | apply pw_below_drewN | apply below_drew1 | refine below_set ?_ GE450.out | refine below_set ?_ GE458.out) | exact HB.out)⟩
        rw [← hz_]
        clear hz_
        replace BK450 := My.am (blk_drew BK450.out)
        replace BK458 := My.am (blk_drew BK458.out)
        replace HB := My.am (below_drew1 HB.out)
        have p460 : 0 ≤ ((ji56) : Int) := My.as_
        have q460 : (ji56) < (l0_0.length : Int) := My.as_
        obtain ⟨ad460, e460, hx460_0, hx460_1, hx460_2, hx460_3, hx460_4, hx460_5, hx460_6⟩ := at_T51 HR0_0.out (ji56) p460 q460
        have hw460_6 := hx460_6
        have hw460_5 := hx460_5
        have hw460_4 := hx460_4
        have hw460_3 := hx460_3
        have hw460_2 := hx460_2
        have hw460_1 := hx460_1
        have hw460_0 := hx460_0
        obtain rfl : ad457 = ad460 := (by injection e460)
        replace hx460_0 := My.up HB hx460_0
        replace hx460_1 := My.up HB hx460_1
        replace hx460_2 := My.up HB hx460_2
        replace hx460_3 := My.up HB hx460_3
        replace hx460_4 := My.up HB hx460_4
        replace hx460_5 := My.up HB hx460_5
        replace hx460_6 := My.up HB hx460_6
        replace p460 := eq_true p460
        replace q460 := eq_true q460
        refine start_ (n := 25) (S := fun w' => w'.cell? ⟨gb458, 0, none⟩ = some (.string ((rd_T51 l0_0 x5_3).f0)) ∧ w'.cell? ⟨gb458, 1, none⟩ = some (.int .i64 ((rd_T51 l0_0 x5_3).f1.f0)) ∧ w'.cell? ⟨gb458, 2, none⟩ = some (.int .i64 ((rd_T51 l0_0 x5_3).f1.f1)) ∧ w'.cell? ⟨gb458, 3, none⟩ = some (.int .i64 ((rd_T51 l0_0 x5_3).f1.f2)) ∧ w'.cell? ⟨gb458, 4, none⟩ = some (.int .i64 ((rd_T51 l0_0 x5_3).f2.f0)) ∧ w'.cell? ⟨gb458, 5, none⟩ = some (.int .i64 ((rd_T51 l0_0 x5_3).f2.f1)) ∧ w'.cell? ⟨gb458, 6, none⟩ = some (.int .i64 ((rd_T51 l0_0 x5_3).f2.f2)) ∧ w'.cell? ⟨gb450, 0, none⟩ = some (.slice (some ad457) l0_0.length c0_0) ∧ w'.cell? ⟨gb450, 1, none⟩ = some (.slice A0_1 l0_1.length c0_1) ∧ w'.cell? (ad457.add (((ji56)).toNat * 7)) = some (.string ((rd_T51 l0_0 (ji56)).f0)) ∧ w'.cell? ⟨(ad457.add (((ji56)).toNat * 7)).block, (ad457.add (((ji56)).toNat * 7)).off + 1, none⟩ = some (.int .i64 ((rd_T51 l0_0 (ji56)).f1.f0)) ∧ w'.cell? ⟨(ad457.add (((ji56)).toNat * 7)).block, (ad457.add (((ji56)).toNat * 7)).off + 2, none⟩ = some (.int .i64 ((rd_T51 l0_0 (ji56)).f1.f1)) ∧ w'.cell? ⟨(ad457.add (((ji56)).toNat * 7)).block, (ad457.add (((ji56)).toNat * 7)).off + 3, none⟩ = some (.int .i64 ((rd_T51 l0_0 (ji56)).f1.f2)) ∧ w'.cell? ⟨(ad457.add (((ji56)).toNat * 7)).block, (ad457.add (((ji56)).toNat * 7)).off + 4, none⟩ = some (.int .i64 ((rd_T51 l0_0 (ji56)).f2.f0)) ∧ w'.cell? ⟨(ad457.add (((ji56)).toNat * 7)).block, (ad457.add (((ji56)).toNat * 7)).off + 5, none⟩ = some (.int .i64 ((rd_T51 l0_0 (ji56)).f2.f1)) ∧ w'.cell? ⟨(ad457.add (((ji56)).toNat * 7)).block, (ad457.add (((ji56)).toNat * 7)).off + 6, none⟩ = some (.int .i64 ((rd_T51 l0_0 (ji56)).f2.f2))) (ds := []) #[false, false, false, false, false, false, false, false, false, false, false, false, false, false, false, false, false, false, false, false, false, false, false, false, false] (by kernel_rfl) rfl rfl ⟨My.b_ BK458 0, My.b_ BK458 1, My.b_ BK458 2, My.b_ BK458 3, My.b_ BK458 4, My.b_ BK458 5, My.b_ BK458 6, My.b_ BK450 0, My.b_ BK450 1, (My.up HB hw460_0), (My.up HB hw460_1), (My.up HB hw460_2), (My.up HB hw460_3), (My.up HB hw460_4), (My.up HB hw460_5), (My.up HB hw460_6)⟩ (fun hHeld => ?_); refine with_tabW ententeref07_May.tab15 ententeref07_May.bits15 (fun HT_ HW_ => ?_)
        generalize w82.drew = w83 at BK450 BK458 HB hx460_0 hx460_1 hx460_2 hx460_3 hx460_4 hx460_5 hx460_6 hHeld ⊢
        refine My.ta_ 0 83 25 HT_.out HW_.out hHeld rfl rfl (by rintro w' ⟨s0, s1, s2, s3, s4, s5, s6, s7, s8, s9, s10, s11, s12, s13, s14, s15⟩; go_simp; with_reducible rfl) ?_
        refine one_ (i := 1) (N := some 84) (My.Mb 25 3) rfl rfl (one_of HT_.out (by kernel_rfl)) (by decide) (fun K hK => ?_)
        refine goes_ Try.func58 (by kernel_rfl) rfl #[.agg #[.string ((rd_T51 l0_0 x5_3).f0), .int .i64 ((rd_T51 l0_0 x5_3).f1.f0), .int .i64 ((rd_T51 l0_0 x5_3).f1.f1), .int .i64 ((rd_T51 l0_0 x5_3).f1.f2), .int .i64 ((rd_T51 l0_0 x5_3).f2.f0), .int .i64 ((rd_T51 l0_0 x5_3).f2.f1), .int .i64 ((rd_T51 l0_0 x5_3).f2.f2)]] (by rfl) rfl rfl My.gx ?_
        with_reducible refine (ententeref06_May.calls k3 ((rd_T51 l0_0 x5_3).f0) ((rd_T51 l0_0 x5_3).f1.f0) ((rd_T51 l0_0 x5_3).f1.f1) ((rd_T51 l0_0 x5_3).f1.f2) ((rd_T51 l0_0 x5_3).f2.f0) ((rd_T51 l0_0 x5_3).f2.f1) ((rd_T51 l0_0 x5_3).f2.f2) t459 _ A53.out).mono ?_
        rintro e w84 ⟨rfl, hb⟩
        refine ⟨_, rfl, ?_⟩
        replace BK450 := My.ab BK450 hb
        replace BK458 := My.ab BK458 hb
        replace HB := My.st HB hb
        (try clear hb)
        (try clear hb2)
        (try clear hk)
        (try clear hi)
        refine hK.out _ _ ⟨My.b_ BK458 0, My.b_ BK458 1, My.b_ BK458 2, My.b_ BK458 3, My.b_ BK458 4, My.b_ BK458 5, My.b_ BK458 6, My.b_ BK450 0, My.b_ BK450 1, (My.up HB hw460_0), (My.up HB hw460_1), (My.up HB hw460_2), (My.up HB hw460_3), (My.up HB hw460_4), (My.up HB hw460_5), (My.up HB hw460_6)⟩ (fun hHeld => ?_)
        clear hK K
        refine norm_ (a' := ?_) ?_ ?_
        rotate_left
        ·show Act.put _ (some 84) _ = _
         simp only [Act.put, List.setIfInBounds_toArray, List.set_cons_zero, List.set_cons_succ, i64_w, i32_w]
         rfl
        refine My.pu_ 2 85 25 HT_.out ?_
        refine My.pu_ 3 86 25 HT_.out ?_
        refine My.pu_ 4 87 25 HT_.out ?_
        refine My.pu_ 5 88 25 HT_.out ?_
        refine My.pu_ 6 89 25 HT_.out ?_
        refine My.pu_ 7 90 25 HT_.out ?_
        refine My.pv_ 9 92 25 767 HT_.out ?_
        refine My.pv_ 10 93 25 1791 HT_.out ?_
        refine My.pv_ 14 97 25 18175 HT_.out ?_
        refine My.tv_ 8 91 25 18431 HT_.out HW_.out hHeld rfl rfl (by rintro w' ⟨s0, s1, s2, s3, s4, s5, s6, s7, s8, s9, s10, s11, s12, s13, s14, s15⟩; go_simp; with_reducible rfl) ?_
        refine My.pv_ 11 94 25 20479 HT_.out ?_
        refine My.pv_ 12 95 25 24575 HT_.out ?_
        refine My.tv_ 13 96 25 32767 HT_.out HW_.out hHeld rfl rfl (by rintro w' ⟨s0, s1, s2, s3, s4, s5, s6, s7, s8, s9, s10, s11, s12, s13, s14, s15⟩; go_simp; with_reducible rfl) ?_
        refine My.ta_ 15 98 25 HT_.out HW_.out hHeld rfl rfl (by rintro w' ⟨s0, s1, s2, s3, s4, s5, s6, s7, s8, s9, s10, s11, s12, s13, s14, s15⟩; go_simp; with_reducible rfl) ?_
        refine My.pu_ 16 99 25 HT_.out ?_
        refine My.pu_ 17 100 25 HT_.out ?_
        refine My.pu_ 18 101 25 HT_.out ?_
        refine My.pu_ 19 102 25 HT_.out ?_
        refine My.pn_ 20 103 25 HT_.out ?_
        refine My.pn_ 21 104 25 HT_.out ?_
        refine My.pn_ 22 105 25 HT_.out ?_
        refine My.pn_ 23 106 25 HT_.out ?_
        refine My.pu_ 24 107 25 HT_.out ?_
        refine done_ (done_of HT_.out (by kernel_rfl)) ?_
        try go_wp2
        go_ret
        exact ⟨by first | rfl | (simp [errW_none, errW_some] <;> rfl) | (simp only [← hji56]; first | rfl | (simp [errW_none, errW_some] <;> rfl)) | (simp [*, errW_none, errW_some] <;> rfl), (My.bl_ HB)⟩
       rw [if_pos c59] at H
       have c59b0 : (Op.bytesLess (((rd_T51 l0_0 (ji56)).f0).toList) (((rd_T51 l0_0 x5_3).f0).toList)) = true := c59
       clear c59
       replace H := Option.bind_eq_some_iff.mp H
       obtain ⟨t461, A600, H⟩ := H
       try dsimp only at H
       have A60 := My.am A600
       clear A600
       by_cases c61 : t461 = true
       ·subst c61
        rw [if_pos rfl] at H
        have H' := My.am H
        clear H
        have hq62 := My.cz2 BK450
        have p457 : 0 ≤ (x5_3 : Int) := My.as_
        have q457 : x5_3 < (l0_0.length : Int) := My.as_
        obtain ⟨ad457, e457, hx457_0, hx457_1, hx457_2, hx457_3, hx457_4, hx457_5, hx457_6⟩ := My.up7 HB (at_T51 HR0_0.out x5_3 p457 q457)
        cases e457
        replace p457 := eq_true p457
        replace q457 := eq_true q457
        try go_wp2_with (first | ((with_reducible refine gate_dst (N := 6) rfl ?_); (try (refine gate_guard (by rfl) ?_; dsimp only)); refine My.bx 6 #[.string (⟨#[]⟩ : ByteArray), .int .i64 0, .int .i64 0, .int .i64 0, .int .i64 0, .int .i64 0, .int .i64 0] 51 ?_; intro gb458 hg w63 hbox hb; have BK458 := My.am (hbox); have GE458 := My.nge hg (My.bl_ HB); replace HB := My.st HB hb; obtain ⟨NB450_458, NB458_450, BK450⟩ := My.nb hg hb BK450; clear hb hbox hg; have hnb64 := NB458_450.out; have hnc64 := NB450_458.out; have hq65 := My.cz7 BK458))
        obtain ⟨w66, hz_⟩ : ∃ z_, z_ = (((((((w63.setCell ⟨gb458, 0, none⟩ (.string ((rd_T51 l0_0 x5_3).f0))).setCell ⟨gb458, 1, none⟩ (.int .i64 ((rd_T51 l0_0 x5_3).f1.f0))).setCell ⟨gb458, 2, none⟩ (.int .i64 ((rd_T51 l0_0 x5_3).f1.f1))).setCell ⟨gb458, 3, none⟩ (.int .i64 ((rd_T51 l0_0 x5_3).f1.f2))).setCell ⟨gb458, 4, none⟩ (.int .i64 ((rd_T51 l0_0 x5_3).f2.f0))).setCell ⟨gb458, 5, none⟩ (.int .i64 ((rd_T51 l0_0 x5_3).f2.f1))).setCell ⟨gb458, 6, none⟩ (.int .i64 ((rd_T51 l0_0 x5_3).f2.f2))) := ⟨_, rfl⟩
        replace BK450 : Aside0 (w66.heap[gb450]? = some (.cells #[.slice (some ad457) l0_0.length c0_0, .slice A0_1 l0_1.length c0_1] 25 (0, 0))) := ⟨by rw [hz_]; exact (My.sv_ BK450)⟩
        replace BK458 : Aside0 (w66.heap[gb458]? = some (.cells #[.string ((rd_T51 l0_0 x5_3).f0), .int .i64 ((rd_T51 l0_0 x5_3).f1.f0), .int .i64 ((rd_T51 l0_0 x5_3).f1.f1), .int .i64 ((rd_T51 l0_0 x5_3).f1.f2), .int .i64 ((rd_T51 l0_0 x5_3).f2.f0), .int .i64 ((rd_T51 l0_0 x5_3).f2.f1), .int .i64 ((rd_T51 l0_0 x5_3).f2.f2)] 51 (0, 0))) := ⟨by rw [hz_]; exact (My.sv_ BK458)⟩
        replace HB : Aside0 (Below w.heap.size w w66) := ⟨by rw [hz_]; repeat (first | (with_reducible first | exact HB.out | apply below_alloc | apply pw_below_drewN | apply below_drew1 | refine below_set ?_ GE450.out | refine below_set ?_ GE458.out) | exact HB.out)⟩
        rw [← hz_]
        clear hz_
        replace BK450 := My.am (blk_drew BK450.out)
        replace BK458 := My.am (blk_drew BK458.out)
        replace HB := My.am (below_drew1 HB.out)
        have p460 : 0 ≤ ((ji56) : Int) := My.as_
        have q460 : (ji56) < (l0_0.length : Int) := My.as_
        obtain ⟨ad460, e460, hx460_0, hx460_1, hx460_2, hx460_3, hx460_4, hx460_5, hx460_6⟩ := at_T51 HR0_0.out (ji56) p460 q460
        have hw460_6 := hx460_6
        have hw460_5 := hx460_5
        have hw460_4 := hx460_4
        have hw460_3 := hx460_3
        have hw460_2 := hx460_2
        have hw460_1 := hx460_1
        have hw460_0 := hx460_0
        obtain rfl : ad457 = ad460 := (by injection e460)
        replace hx460_0 := My.up HB hx460_0
        replace hx460_1 := My.up HB hx460_1
        replace hx460_2 := My.up HB hx460_2
        replace hx460_3 := My.up HB hx460_3
        replace hx460_4 := My.up HB hx460_4
        replace hx460_5 := My.up HB hx460_5
        replace hx460_6 := My.up HB hx460_6
        replace p460 := eq_true p460
        replace q460 := eq_true q460
        refine start_ (n := 25) (S := fun w' => w'.cell? ⟨gb458, 0, none⟩ = some (.string ((rd_T51 l0_0 x5_3).f0)) ∧ w'.cell? ⟨gb458, 1, none⟩ = some (.int .i64 ((rd_T51 l0_0 x5_3).f1.f0)) ∧ w'.cell? ⟨gb458, 2, none⟩ = some (.int .i64 ((rd_T51 l0_0 x5_3).f1.f1)) ∧ w'.cell? ⟨gb458, 3, none⟩ = some (.int .i64 ((rd_T51 l0_0 x5_3).f1.f2)) ∧ w'.cell? ⟨gb458, 4, none⟩ = some (.int .i64 ((rd_T51 l0_0 x5_3).f2.f0)) ∧ w'.cell? ⟨gb458, 5, none⟩ = some (.int .i64 ((rd_T51 l0_0 x5_3).f2.f1)) ∧ w'.cell? ⟨gb458, 6, none⟩ = some (.int .i64 ((rd_T51 l0_0 x5_3).f2.f2)) ∧ w'.cell? ⟨gb450, 0, none⟩ = some (.slice (some ad457) l0_0.length c0_0) ∧ w'.cell? ⟨gb450, 1, none⟩ = some (.slice A0_1 l0_1.length c0_1) ∧ w'.cell? (ad457.add (((ji56)).toNat * 7)) = some (.string ((rd_T51 l0_0 (ji56)).f0)) ∧ w'.cell? ⟨(ad457.add (((ji56)).toNat * 7)).block, (ad457.add (((ji56)).toNat * 7)).off + 1, none⟩ = some (.int .i64 ((rd_T51 l0_0 (ji56)).f1.f0)) ∧ w'.cell? ⟨(ad457.add (((ji56)).toNat * 7)).block, (ad457.add (((ji56)).toNat * 7)).off + 2, none⟩ = some (.int .i64 ((rd_T51 l0_0 (ji56)).f1.f1)) ∧ w'.cell? ⟨(ad457.add (((ji56)).toNat * 7)).block, (ad457.add (((ji56)).toNat * 7)).off + 3, none⟩ = some (.int .i64 ((rd_T51 l0_0 (ji56)).f1.f2)) ∧ w'.cell? ⟨(ad457.add (((ji56)).toNat * 7)).block, (ad457.add (((ji56)).toNat * 7)).off + 4, none⟩ = some (.int .i64 ((rd_T51 l0_0 (ji56)).f2.f0)) ∧ w'.cell? ⟨(ad457.add (((ji56)).toNat * 7)).block, (ad457.add (((ji56)).toNat * 7)).off + 5, none⟩ = some (.int .i64 ((rd_T51 l0_0 (ji56)).f2.f1)) ∧ w'.cell? ⟨(ad457.add (((ji56)).toNat * 7)).block, (ad457.add (((ji56)).toNat * 7)).off + 6, none⟩ = some (.int .i64 ((rd_T51 l0_0 (ji56)).f2.f2))) (ds := []) #[false, false, false, false, false, false, false, false, false, false, false, false, false, false, false, false, false, false, false, false, false, false, false, false, false] (by kernel_rfl) rfl rfl ⟨My.b_ BK458 0, My.b_ BK458 1, My.b_ BK458 2, My.b_ BK458 3, My.b_ BK458 4, My.b_ BK458 5, My.b_ BK458 6, My.b_ BK450 0, My.b_ BK450 1, (My.up HB hw460_0), (My.up HB hw460_1), (My.up HB hw460_2), (My.up HB hw460_3), (My.up HB hw460_4), (My.up HB hw460_5), (My.up HB hw460_6)⟩ (fun hHeld => ?_); refine with_tabW ententeref07_May.tab15 ententeref07_May.bits15 (fun HT_ HW_ => ?_)
        generalize w66.drew = w67 at BK450 BK458 HB hx460_0 hx460_1 hx460_2 hx460_3 hx460_4 hx460_5 hx460_6 hHeld ⊢
        refine My.ta_ 0 83 25 HT_.out HW_.out hHeld rfl rfl (by rintro w' ⟨s0, s1, s2, s3, s4, s5, s6, s7, s8, s9, s10, s11, s12, s13, s14, s15⟩; go_simp; with_reducible rfl) ?_
        refine one_ (i := 1) (N := some 84) (My.Mb 25 3) rfl rfl (one_of HT_.out (by kernel_rfl)) (by decide) (fun K hK => ?_)
        refine goes_ Try.func58 (by kernel_rfl) rfl #[.agg #[.string ((rd_T51 l0_0 x5_3).f0), .int .i64 ((rd_T51 l0_0 x5_3).f1.f0), .int .i64 ((rd_T51 l0_0 x5_3).f1.f1), .int .i64 ((rd_T51 l0_0 x5_3).f1.f2), .int .i64 ((rd_T51 l0_0 x5_3).f2.f0), .int .i64 ((rd_T51 l0_0 x5_3).f2.f1), .int .i64 ((rd_T51 l0_0 x5_3).f2.f2)]] (by rfl) rfl rfl My.gx ?_
        with_reducible refine (ententeref06_May.calls k3 ((rd_T51 l0_0 x5_3).f0) ((rd_T51 l0_0 x5_3).f1.f0) ((rd_T51 l0_0 x5_3).f1.f1) ((rd_T51 l0_0 x5_3).f1.f2) ((rd_T51 l0_0 x5_3).f2.f0) ((rd_T51 l0_0 x5_3).f2.f1) ((rd_T51 l0_0 x5_3).f2.f2) t459 _ A53.out).mono ?_
        rintro e w68 ⟨rfl, hb⟩
        refine ⟨_, rfl, ?_⟩
        replace BK450 := My.ab BK450 hb
        replace BK458 := My.ab BK458 hb
        replace HB := My.st HB hb
        (try clear hb)
        (try clear hb2)
        (try clear hk)
        (try clear hi)
        refine hK.out _ _ ⟨My.b_ BK458 0, My.b_ BK458 1, My.b_ BK458 2, My.b_ BK458 3, My.b_ BK458 4, My.b_ BK458 5, My.b_ BK458 6, My.b_ BK450 0, My.b_ BK450 1, (My.up HB hw460_0), (My.up HB hw460_1), (My.up HB hw460_2), (My.up HB hw460_3), (My.up HB hw460_4), (My.up HB hw460_5), (My.up HB hw460_6)⟩ (fun hHeld => ?_)
        clear hK K
        refine norm_ (a' := ?_) ?_ ?_
        rotate_left
        ·show Act.put _ (some 84) _ = _
         simp only [Act.put, List.setIfInBounds_toArray, List.set_cons_zero, List.set_cons_succ, i64_w, i32_w]
         rfl
        refine My.pu_ 2 85 25 HT_.out ?_
        refine My.pu_ 3 86 25 HT_.out ?_
        refine My.pu_ 4 87 25 HT_.out ?_
        refine My.pu_ 5 88 25 HT_.out ?_
        refine My.pu_ 6 89 25 HT_.out ?_
        refine My.pu_ 7 90 25 HT_.out ?_
        refine My.pv_ 9 92 25 767 HT_.out ?_
        refine My.pv_ 10 93 25 1791 HT_.out ?_
        refine My.pv_ 14 97 25 18175 HT_.out ?_
        refine My.tv_ 8 91 25 18431 HT_.out HW_.out hHeld rfl rfl (by rintro w' ⟨s0, s1, s2, s3, s4, s5, s6, s7, s8, s9, s10, s11, s12, s13, s14, s15⟩; go_simp; with_reducible rfl) ?_
        refine My.pv_ 11 94 25 20479 HT_.out ?_
        refine My.pv_ 12 95 25 24575 HT_.out ?_
        refine My.tv_ 13 96 25 32767 HT_.out HW_.out hHeld rfl rfl (by rintro w' ⟨s0, s1, s2, s3, s4, s5, s6, s7, s8, s9, s10, s11, s12, s13, s14, s15⟩; go_simp; with_reducible rfl) ?_
        refine My.ta_ 15 98 25 HT_.out HW_.out hHeld rfl rfl (by rintro w' ⟨s0, s1, s2, s3, s4, s5, s6, s7, s8, s9, s10, s11, s12, s13, s14, s15⟩; go_simp; with_reducible rfl) ?_
        refine My.pu_ 16 99 25 HT_.out ?_
        refine My.pu_ 17 100 25 HT_.out ?_
        refine My.pu_ 18 101 25 HT_.out ?_
        refine My.pu_ 19 102 25 HT_.out ?_
        refine My.ta_ 20 103 25 HT_.out HW_.out hHeld rfl rfl (by rintro w' ⟨s0, s1, s2, s3, s4, s5, s6, s7, s8, s9, s10, s11, s12, s13, s14, s15⟩; go_simp; with_reducible rfl) ?_
        refine My.ta_ 21 104 25 HT_.out HW_.out hHeld rfl rfl (by rintro w' ⟨s0, s1, s2, s3, s4, s5, s6, s7, s8, s9, s10, s11, s12, s13, s14, s15⟩; go_simp; with_reducible rfl) ?_
        refine one_ (i := 22) (N := some 105) (My.Mb 25 8388607) rfl rfl (one_of HT_.out (by kernel_rfl)) (by decide) (fun K hK => ?_)
        refine goes_ Try.func59 (by kernel_rfl) rfl #[.agg #[.slice (some ad457) l0_0.length c0_0, .slice A0_1 l0_1.length c0_1], .agg #[.string ((rd_T51 l0_0 x5_3).f0), .int .i64 ((rd_T51 l0_0 x5_3).f1.f0), .int .i64 ((rd_T51 l0_0 x5_3).f1.f1), .int .i64 ((rd_T51 l0_0 x5_3).f1.f2), .int .i64 ((rd_T51 l0_0 x5_3).f2.f0), .int .i64 ((rd_T51 l0_0 x5_3).f2.f1), .int .i64 ((rd_T51 l0_0 x5_3).f2.f2)]] (by rfl) rfl rfl My.gx ?_
        with_reducible refine (ententeref07_pots.calls k3 _ _ l0_0 _ _ l0_1 ((rd_T51 l0_0 x5_3).f0) ((rd_T51 l0_0 x5_3).f1.f0) ((rd_T51 l0_0 x5_3).f1.f1) ((rd_T51 l0_0 x5_3).f1.f2) ((rd_T51 l0_0 x5_3).f2.f0) ((rd_T51 l0_0 x5_3).f2.f1) ((rd_T51 l0_0 x5_3).f2.f2) true _ ?side1 ?side2 ?side3 ?side4 A60.out).mono ?_
        (case side1 => exact My.sd_ HR0_0 HB)
        (case side2 => exact HC0_0.out)
        (case side3 => exact My.sd_ HR0_1 HB)
        (case side4 => exact HC0_1.out)
        rintro e w69 ⟨rfl, hb⟩
        refine ⟨_, rfl, ?_⟩
        replace BK450 := My.ab BK450 hb
        replace BK458 := My.ab BK458 hb
        replace HB := My.st HB hb
        (try clear hb)
        (try clear hb2)
        (try clear hk)
        (try clear hi)
        refine hK.out _ _ ⟨My.b_ BK458 0, My.b_ BK458 1, My.b_ BK458 2, My.b_ BK458 3, My.b_ BK458 4, My.b_ BK458 5, My.b_ BK458 6, My.b_ BK450 0, My.b_ BK450 1, (My.up HB hw460_0), (My.up HB hw460_1), (My.up HB hw460_2), (My.up HB hw460_3), (My.up HB hw460_4), (My.up HB hw460_5), (My.up HB hw460_6)⟩ (fun hHeld => ?_)
        clear hK K
        refine norm_ (a' := ?_) ?_ ?_
        rotate_left
        ·show Act.put _ (some 105) _ = _
         simp only [Act.put, List.setIfInBounds_toArray, List.set_cons_zero, List.set_cons_succ, i64_w, i32_w]
         rfl
        refine My.pu_ 23 106 25 HT_.out ?_
        refine My.pu_ 24 107 25 HT_.out ?_
        refine done_ (done_of HT_.out (by kernel_rfl)) ?_
        try go_wp2
        go_roundg k3
        case measure => have := HJ1.out; have := HK2.out; have := HK3.out; omega
        case rel => exact ⟨(wrap64 (x5_3 + 1)), My.r1, H', ⟨by have := HJ1.out; have := HK2.out; have := HK3.out; omega⟩, ⟨(My.at_ BK450)⟩, ⟨(My.bl_ HB)⟩⟩
       replace c61 := Bool.eq_false_iff.mpr c61
       subst c61
       rw [if_neg (show ¬ (false = true) by decide)] at H
       obtain rfl := Option.some.inj H
       have hq70 := My.cz2 BK450
       have p457 : 0 ≤ (x5_3 : Int) := My.as_
       have q457 : x5_3 < (l0_0.length : Int) := My.as_
       obtain ⟨ad457, e457, hx457_0, hx457_1, hx457_2, hx457_3, hx457_4, hx457_5, hx457_6⟩ := My.up7 HB (at_T51 HR0_0.out x5_3 p457 q457)
       cases e457
       replace p457 := eq_true p457
       replace q457 := eq_true q457
       try go_wp2_with (first | ((with_reducible refine gate_dst (N := 6) rfl ?_); (try (refine gate_guard (by rfl) ?_; dsimp only)); refine My.bx 6 #[.string (⟨#[]⟩ : ByteArray), .int .i64 0, .int .i64 0, .int .i64 0, .int .i64 0, .int .i64 0, .int .i64 0] 51 ?_; intro gb458 hg w71 hbox hb; have BK458 := My.am (hbox); have GE458 := My.nge hg (My.bl_ HB); replace HB := My.st HB hb; obtain ⟨NB450_458, NB458_450, BK450⟩ := My.nb hg hb BK450; clear hb hbox hg; have hnb72 := NB458_450.out; have hnc72 := NB450_458.out; have hq73 := My.cz7 BK458))
       obtain ⟨w74, hz_⟩ : ∃ z_, z_ = (((((((w71.setCell ⟨gb458, 0, none⟩ (.string ((rd_T51 l0_0 x5_3).f0))).setCell ⟨gb458, 1, none⟩ (.int .i64 ((rd_T51 l0_0 x5_3).f1.f0))).setCell ⟨gb458, 2, none⟩ (.int .i64 ((rd_T51 l0_0 x5_3).f1.f1))).setCell ⟨gb458, 3, none⟩ (.int .i64 ((rd_T51 l0_0 x5_3).f1.f2))).setCell ⟨gb458, 4, none⟩ (.int .i64 ((rd_T51 l0_0 x5_3).f2.f0))).setCell ⟨gb458, 5, none⟩ (.int .i64 ((rd_T51 l0_0 x5_3).f2.f1))).setCell ⟨gb458, 6, none⟩ (.int .i64 ((rd_T51 l0_0 x5_3).f2.f2))) := ⟨_, rfl⟩
       replace BK450 : Aside0 (w74.heap[gb450]? = some (.cells #[.slice (some ad457) l0_0.length c0_0, .slice A0_1 l0_1.length c0_1] 25 (0, 0))) := ⟨by rw [hz_]; exact (My.sv_ BK450)⟩
       replace BK458 : Aside0 (w74.heap[gb458]? = some (.cells #[.string ((rd_T51 l0_0 x5_3).f0), .int .i64 ((rd_T51 l0_0 x5_3).f1.f0), .int .i64 ((rd_T51 l0_0 x5_3).f1.f1), .int .i64 ((rd_T51 l0_0 x5_3).f1.f2), .int .i64 ((rd_T51 l0_0 x5_3).f2.f0), .int .i64 ((rd_T51 l0_0 x5_3).f2.f1), .int .i64 ((rd_T51 l0_0 x5_3).f2.f2)] 51 (0, 0))) := ⟨by rw [hz_]; exact (My.sv_ BK458)⟩
       replace HB : Aside0 (Below w.heap.size w w74) := ⟨by rw [hz_]; repeat (first | (with_reducible first | exact HB.out | apply below_alloc | apply pw_below_drewN | apply below_drew1 | refine below_set ?_ GE450.out | refine below_set ?_ GE458.out) | exact HB.out)⟩
       rw [← hz_]
       clear hz_
       replace BK450 := My.am (blk_drew BK450.out)
       replace BK458 := My.am (blk_drew BK458.out)
       replace HB := My.am (below_drew1 HB.out)
       have p460 : 0 ≤ ((ji56) : Int) := My.as_
       have q460 : (ji56) < (l0_0.length : Int) := My.as_
       obtain ⟨ad460, e460, hx460_0, hx460_1, hx460_2, hx460_3, hx460_4, hx460_5, hx460_6⟩ := at_T51 HR0_0.out (ji56) p460 q460
       have hw460_6 := hx460_6
       have hw460_5 := hx460_5
       have hw460_4 := hx460_4
       have hw460_3 := hx460_3
       have hw460_2 := hx460_2
       have hw460_1 := hx460_1
       have hw460_0 := hx460_0
       obtain rfl : ad457 = ad460 := (by injection e460)
       replace hx460_0 := My.up HB hx460_0
       replace hx460_1 := My.up HB hx460_1
       replace hx460_2 := My.up HB hx460_2
       replace hx460_3 := My.up HB hx460_3
       replace hx460_4 := My.up HB hx460_4
       replace hx460_5 := My.up HB hx460_5
       replace hx460_6 := My.up HB hx460_6
       replace p460 := eq_true p460
       replace q460 := eq_true q460
       refine start_ (n := 25) (S := fun w' => w'.cell? ⟨gb458, 0, none⟩ = some (.string ((rd_T51 l0_0 x5_3).f0)) ∧ w'.cell? ⟨gb458, 1, none⟩ = some (.int .i64 ((rd_T51 l0_0 x5_3).f1.f0)) ∧ w'.cell? ⟨gb458, 2, none⟩ = some (.int .i64 ((rd_T51 l0_0 x5_3).f1.f1)) ∧ w'.cell? ⟨gb458, 3, none⟩ = some (.int .i64 ((rd_T51 l0_0 x5_3).f1.f2)) ∧ w'.cell? ⟨gb458, 4, none⟩ = some (.int .i64 ((rd_T51 l0_0 x5_3).f2.f0)) ∧ w'.cell? ⟨gb458, 5, none⟩ = some (.int .i64 ((rd_T51 l0_0 x5_3).f2.f1)) ∧ w'.cell? ⟨gb458, 6, none⟩ = some (.int .i64 ((rd_T51 l0_0 x5_3).f2.f2)) ∧ w'.cell? ⟨gb450, 0, none⟩ = some (.slice (some ad457) l0_0.length c0_0) ∧ w'.cell? ⟨gb450, 1, none⟩ = some (.slice A0_1 l0_1.length c0_1) ∧ w'.cell? (ad457.add (((ji56)).toNat * 7)) = some (.string ((rd_T51 l0_0 (ji56)).f0)) ∧ w'.cell? ⟨(ad457.add (((ji56)).toNat * 7)).block, (ad457.add (((ji56)).toNat * 7)).off + 1, none⟩ = some (.int .i64 ((rd_T51 l0_0 (ji56)).f1.f0)) ∧ w'.cell? ⟨(ad457.add (((ji56)).toNat * 7)).block, (ad457.add (((ji56)).toNat * 7)).off + 2, none⟩ = some (.int .i64 ((rd_T51 l0_0 (ji56)).f1.f1)) ∧ w'.cell? ⟨(ad457.add (((ji56)).toNat * 7)).block, (ad457.add (((ji56)).toNat * 7)).off + 3, none⟩ = some (.int .i64 ((rd_T51 l0_0 (ji56)).f1.f2)) ∧ w'.cell? ⟨(ad457.add (((ji56)).toNat * 7)).block, (ad457.add (((ji56)).toNat * 7)).off + 4, none⟩ = some (.int .i64 ((rd_T51 l0_0 (ji56)).f2.f0)) ∧ w'.cell? ⟨(ad457.add (((ji56)).toNat * 7)).block, (ad457.add (((ji56)).toNat * 7)).off + 5, none⟩ = some (.int .i64 ((rd_T51 l0_0 (ji56)).f2.f1)) ∧ w'.cell? ⟨(ad457.add (((ji56)).toNat * 7)).block, (ad457.add (((ji56)).toNat * 7)).off + 6, none⟩ = some (.int .i64 ((rd_T51 l0_0 (ji56)).f2.f2))) (ds := []) #[false, false, false, false, false, false, false, false, false, false, false, false, false, false, false, false, false, false, false, false, false, false, false, false, false] (by kernel_rfl) rfl rfl ⟨My.b_ BK458 0, My.b_ BK458 1, My.b_ BK458 2, My.b_ BK458 3, My.b_ BK458 4, My.b_ BK458 5, My.b_ BK458 6, My.b_ BK450 0, My.b_ BK450 1, (My.up HB hw460_0), (My.up HB hw460_1), (My.up HB hw460_2), (My.up HB hw460_3), (My.up HB hw460_4), (My.up HB hw460_5), (My.up HB hw460_6)⟩ (fun hHeld => ?_); refine with_tabW ententeref07_May.tab15 ententeref07_May.bits15 (fun HT_ HW_ => ?_)
       generalize w74.drew = w75 at BK450 BK458 HB hx460_0 hx460_1 hx460_2 hx460_3 hx460_4 hx460_5 hx460_6 hHeld ⊢
       refine My.ta_ 0 83 25 HT_.out HW_.out hHeld rfl rfl (by rintro w' ⟨s0, s1, s2, s3, s4, s5, s6, s7, s8, s9, s10, s11, s12, s13, s14, s15⟩; go_simp; with_reducible rfl) ?_
       refine one_ (i := 1) (N := some 84) (My.Mb 25 3) rfl rfl (one_of HT_.out (by kernel_rfl)) (by decide) (fun K hK => ?_)
       refine goes_ Try.func58 (by kernel_rfl) rfl #[.agg #[.string ((rd_T51 l0_0 x5_3).f0), .int .i64 ((rd_T51 l0_0 x5_3).f1.f0), .int .i64 ((rd_T51 l0_0 x5_3).f1.f1), .int .i64 ((rd_T51 l0_0 x5_3).f1.f2), .int .i64 ((rd_T51 l0_0 x5_3).f2.f0), .int .i64 ((rd_T51 l0_0 x5_3).f2.f1), .int .i64 ((rd_T51 l0_0 x5_3).f2.f2)]] (by rfl) rfl rfl My.gx ?_
       with_reducible refine (ententeref06_May.calls k3 ((rd_T51 l0_0 x5_3).f0) ((rd_T51 l0_0 x5_3).f1.f0) ((rd_T51 l0_0 x5_3).f1.f1) ((rd_T51 l0_0 x5_3).f1.f2) ((rd_T51 l0_0 x5_3).f2.f0) ((rd_T51 l0_0 x5_3).f2.f1) ((rd_T51 l0_0 x5_3).f2.f2) t459 _ A53.out).mono ?_
       rintro e w76 ⟨rfl, hb⟩
       refine ⟨_, rfl, ?_⟩
       replace BK450 := My.ab BK450 hb
       replace BK458 := My.ab BK458 hb
       replace HB := My.st HB hb
       (try clear hb)
       (try clear hb2)
       (try clear hk)
       (try clear hi)
       refine hK.out _ _ ⟨My.b_ BK458 0, My.b_ BK458 1, My.b_ BK458 2, My.b_ BK458 3, My.b_ BK458 4, My.b_ BK458 5, My.b_ BK458 6, My.b_ BK450 0, My.b_ BK450 1, (My.up HB hw460_0), (My.up HB hw460_1), (My.up HB hw460_2), (My.up HB hw460_3), (My.up HB hw460_4), (My.up HB hw460_5), (My.up HB hw460_6)⟩ (fun hHeld => ?_)
       clear hK K
       refine norm_ (a' := ?_) ?_ ?_
       rotate_left
       ·show Act.put _ (some 84) _ = _
        simp only [Act.put, List.setIfInBounds_toArray, List.set_cons_zero, List.set_cons_succ, i64_w, i32_w]
        rfl
       refine My.pu_ 2 85 25 HT_.out ?_
       refine My.pu_ 3 86 25 HT_.out ?_
       refine My.pu_ 4 87 25 HT_.out ?_
       refine My.pu_ 5 88 25 HT_.out ?_
       refine My.pu_ 6 89 25 HT_.out ?_
       refine My.pu_ 7 90 25 HT_.out ?_
       refine My.pv_ 9 92 25 767 HT_.out ?_
       refine My.pv_ 10 93 25 1791 HT_.out ?_
       refine My.pv_ 14 97 25 18175 HT_.out ?_
       refine My.tv_ 8 91 25 18431 HT_.out HW_.out hHeld rfl rfl (by rintro w' ⟨s0, s1, s2, s3, s4, s5, s6, s7, s8, s9, s10, s11, s12, s13, s14, s15⟩; go_simp; with_reducible rfl) ?_
       refine My.pv_ 11 94 25 20479 HT_.out ?_
       refine My.pv_ 12 95 25 24575 HT_.out ?_
       refine My.tv_ 13 96 25 32767 HT_.out HW_.out hHeld rfl rfl (by rintro w' ⟨s0, s1, s2, s3, s4, s5, s6, s7, s8, s9, s10, s11, s12, s13, s14, s15⟩; go_simp; with_reducible rfl) ?_
       refine My.ta_ 15 98 25 HT_.out HW_.out hHeld rfl rfl (by rintro w' ⟨s0, s1, s2, s3, s4, s5, s6, s7, s8, s9, s10, s11, s12, s13, s14, s15⟩; go_simp; with_reducible rfl) ?_
       refine My.pu_ 16 99 25 HT_.out ?_
       refine My.pu_ 17 100 25 HT_.out ?_
       refine My.pu_ 18 101 25 HT_.out ?_
       refine My.pu_ 19 102 25 HT_.out ?_
       refine My.ta_ 20 103 25 HT_.out HW_.out hHeld rfl rfl (by rintro w' ⟨s0, s1, s2, s3, s4, s5, s6, s7, s8, s9, s10, s11, s12, s13, s14, s15⟩; go_simp; with_reducible rfl) ?_
       refine My.ta_ 21 104 25 HT_.out HW_.out hHeld rfl rfl (by rintro w' ⟨s0, s1, s2, s3, s4, s5, s6, s7, s8, s9, s10, s11, s12, s13, s14, s15⟩; go_simp; with_reducible rfl) ?_
       refine one_ (i := 22) (N := some 105) (My.Mb 25 8388607) rfl rfl (one_of HT_.out (by kernel_rfl)) (by decide) (fun K hK => ?_)
       refine goes_ Try.func59 (by kernel_rfl) rfl #[.agg #[.slice (some ad457) l0_0.length c0_0, .slice A0_1 l0_1.length c0_1], .agg #[.string ((rd_T51 l0_0 x5_3).f0), .int .i64 ((rd_T51 l0_0 x5_3).f1.f0), .int .i64 ((rd_T51 l0_0 x5_3).f1.f1), .int .i64 ((rd_T51 l0_0 x5_3).f1.f2), .int .i64 ((rd_T51 l0_0 x5_3).f2.f0), .int .i64 ((rd_T51 l0_0 x5_3).f2.f1), .int .i64 ((rd_T51 l0_0 x5_3).f2.f2)]] (by rfl) rfl rfl My.gx ?_
       with_reducible refine (ententeref07_pots.calls k3 _ _ l0_0 _ _ l0_1 ((rd_T51 l0_0 x5_3).f0) ((rd_T51 l0_0 x5_3).f1.f0) ((rd_T51 l0_0 x5_3).f1.f1) ((rd_T51 l0_0 x5_3).f1.f2) ((rd_T51 l0_0 x5_3).f2.f0) ((rd_T51 l0_0 x5_3).f2.f1) ((rd_T51 l0_0 x5_3).f2.f2) false _ ?side1 ?side2 ?side3 ?side4 A60.out).mono ?_
       (case side1 => exact My.sd_ HR0_0 HB)
       (case side2 => exact HC0_0.out)
       (case side3 => exact My.sd_ HR0_1 HB)
       (case side4 => exact HC0_1.out)
       rintro e w77 ⟨rfl, hb⟩
       refine ⟨_, rfl, ?_⟩
       replace BK450 := My.ab BK450 hb
       replace BK458 := My.ab BK458 hb
       replace HB := My.st HB hb
       (try clear hb)
       (try clear hb2)
       (try clear hk)
       (try clear hi)
       refine hK.out _ _ ⟨My.b_ BK458 0, My.b_ BK458 1, My.b_ BK458 2, My.b_ BK458 3, My.b_ BK458 4, My.b_ BK458 5, My.b_ BK458 6, My.b_ BK450 0, My.b_ BK450 1, (My.up HB hw460_0), (My.up HB hw460_1), (My.up HB hw460_2), (My.up HB hw460_3), (My.up HB hw460_4), (My.up HB hw460_5), (My.up HB hw460_6)⟩ (fun hHeld => ?_)
       clear hK K
       refine norm_ (a' := ?_) ?_ ?_
       rotate_left
       ·show Act.put _ (some 105) _ = _
        simp only [Act.put, List.setIfInBounds_toArray, List.set_cons_zero, List.set_cons_succ, i64_w, i32_w]
        rfl
       refine My.pu_ 23 106 25 HT_.out ?_
       refine My.pu_ 24 107 25 HT_.out ?_
       refine done_ (done_of HT_.out (by kernel_rfl)) ?_
       try go_wp2
       go_ret
       exact ⟨by first | rfl | (simp [errW_none, errW_some] <;> rfl) | (simp only [← hji56]; first | rfl | (simp [errW_none, errW_some] <;> rfl)) | (simp [*, errW_none, errW_some] <;> rfl), (My.bl_ HB)⟩
end Go.Proofs.Ytikanbdhpafbiaa.PZ
