-- Written by a program of this session (wip/tools/mp.py over the kit's printer); Lean checks it.
import Derived.Test.YtcgmoeiknkdljaaPAx0
import Derived.Test.YtcgmoeiknkdljaaPAx10
import Derived.Test.YtcgmoeiknkdljaaPAx11
namespace Go.Proofs.Ytcgmoeiknkdljaa.PA
open Go.RowKit Go.Proofs.YtcgmoeiknkdljaaW.PrintWords Go.Proofs.YtcgmoeiknkdljaaW.PrintLast Go.Proofs.YtcgmoeiknkdljaaW.PrintMore
attribute [local go_sem] max2_int min2_int max_two min_two max_three min_three max_four min_four   -- for this text's walks alone
set_option linter.unusedVariables false
set_option maxHeartbeats 8000000
set_option maxRecDepth 100000
set_option linter.unusedSimpArgs false

/-! ### ententeref13_Check: function 29 -/
mutual
def ententeref13_Check.j0 : Nat → Bool → Int → Int → Int → List (S62) → ByteArray → Int → Option (Int)
 | 0, _, _, _, _, _, _, _ => none
 | k + 1, x23, x258000, x258001, x258002, x258003, x258004, x258005 => if x23 = true then (some 130) else (if x258000 = 1 then ((ententeref06_Name.f k x258004).bind fun t259 => (if t259 = true then (ententeref13_Check.j1 k false x258000 x258001 x258002 x258003 x258004 x258005) else (ententeref13_Check.j1 k true x258000 x258001 x258002 x258003 x258004 x258005))) else (ententeref13_Check.j1 k (x258004.toList != ([] : List UInt8)) x258000 x258001 x258002 x258003 x258004 x258005))
def ententeref13_Check.j1 : Nat → Bool → Int → Int → Int → List (S62) → ByteArray → Int → Option (Int)
 | 0, _, _, _, _, _, _, _ => none
 | k + 1, x42, x258000, x258001, x258002, x258003, x258004, x258005 => if x42 = true then (some 130) else (if x258000 = 6 then (if x258005 < 1 then (some 130) else (if x258005 > 9 then (some 130) else (some 0))) else (if x258005 = 0 then (some 0) else (some 130)))
end
def ententeref13_Check.f (k : Nat) (a0_0 : Int) (a0_1 : Int) (a0_2 : Int) (l0_3 : List (S62)) (a0_4 : ByteArray) (a0_5 : Int) : Option (Int) := if a0_0 < 1 then (ententeref13_Check.j0 k true a0_0 a0_1 a0_2 l0_3 a0_4 a0_5) else (if a0_0 > 7 then (ententeref13_Check.j0 k true a0_0 a0_1 a0_2 l0_3 a0_4 a0_5) else ((ententeref03_Check.f k a0_1 a0_2 l0_3).bind fun t258 => (if t258 = 0 then (ententeref13_Check.j0 k ((l0_3.length : Int) == 0) a0_0 a0_1 a0_2 l0_3 a0_4 a0_5) else (ententeref13_Check.j0 k true a0_0 a0_1 a0_2 l0_3 a0_4 a0_5))))
theorem ententeref13_Check.mono_l : ∀ k, (∀ y0 y1 y2 y3 y4 y5 y6, LeO (ententeref13_Check.j0 k y0 y1 y2 y3 y4 y5 y6) (ententeref13_Check.j0 (k + 1) y0 y1 y2 y3 y4 y5 y6)) ∧ (∀ y0 y1 y2 y3 y4 y5 y6, LeO (ententeref13_Check.j1 k y0 y1 y2 y3 y4 y5 y6) (ententeref13_Check.j1 (k + 1) y0 y1 y2 y3 y4 y5 y6))
 | 0 => ⟨fun _ _ _ _ _ _ _ r h => by simp [ententeref13_Check.j0] at h, fun _ _ _ _ _ _ _ r h => by simp [ententeref13_Check.j1] at h⟩
 | k + 1 => by
  obtain ⟨ih0, ih1⟩ := ententeref13_Check.mono_l k
  refine ⟨?_, ?_⟩
  ·intro y0 y1 y2 y3 y4 y5 y6
   unfold ententeref13_Check.j0
   repeat' (with_reducible first | exact ih0 _ _ _ _ _ _ _ | exact ih1 _ _ _ _ _ _ _ | exact ententeref03_Check.mono _ _ _ _ | exact ententeref06_Name.mono _ _ | exact LeO.refl _ | exact LeO.none _ | apply LeO.ite | refine LeO.bind ?_ (fun _ => ?_))
  intro y0 y1 y2 y3 y4 y5 y6
  unfold ententeref13_Check.j1
  repeat' (with_reducible first | exact ih0 _ _ _ _ _ _ _ | exact ih1 _ _ _ _ _ _ _ | exact ententeref03_Check.mono _ _ _ _ | exact ententeref06_Name.mono _ _ | exact LeO.refl _ | exact LeO.none _ | apply LeO.ite | refine LeO.bind ?_ (fun _ => ?_))
theorem ententeref13_Check.mono : ∀ a0 a1 a2 a3 a4 a5 k, LeO (ententeref13_Check.f k a0 a1 a2 a3 a4 a5) (ententeref13_Check.f (k + 1) a0 a1 a2 a3 a4 a5) := by
 intro a0 a1 a2 a3 a4 a5 k
 obtain ⟨ih0, ih1⟩ := ententeref13_Check.mono_l k
 unfold ententeref13_Check.f
 repeat' (with_reducible first | exact ih0 _ _ _ _ _ _ _ | exact ih1 _ _ _ _ _ _ _ | exact ententeref03_Check.mono _ _ _ _ | exact ententeref06_Name.mono _ _ | exact LeO.refl _ | exact LeO.none _ | apply LeO.ite | refine LeO.bind ?_ (fun _ => ?_))
theorem ententeref13_Check.calls (k : Nat) (a0_0 : Int) (a0_1 : Int) (a0_2 : Int) (A0_3 : Option Addr) (c0_3 : Nat) (l0_3 : List (S62)) (a0_4 : ByteArray) (a0_5 : Int) (r : Int) (w : World) (hr0_3 : Kd.C k62 w A0_3 l0_3.length l0_3) (hc0_3 : l0_3.length ≤ c0_3) (h : ententeref13_Check.f k a0_0 a0_1 a0_2 l0_3 a0_4 a0_5 = some r) :
  Calls Try.prog 29 #[.agg #[.int .i64 a0_0, .int .i64 a0_1, .int .i64 a0_2, .slice A0_3 l0_3.length c0_3, .string a0_4, .int .i64 a0_5]] w fun e w' => e = .returned (.int .i64 r) ∧ Below w.heap.size w w' := by
 have hu37 := Try.underlying37
 have hu35 := Try.underlying35
 have HR0_3 := My.am hr0_3
 have HC0_3 := My.am hc0_3
 clear hr0_3 hc0_3
 have HB := My.am (Below.refl w.heap.size w)
 unfold ententeref13_Check.f at h
 have H := h
 clear h
 have HC2 := My.am H
 clear H
 go_enter Try.func29, Try.ntmps29
 go_upto_region 1 with (first | ((with_reducible refine gate_dst (N := 1) rfl ?_); (try (refine gate_guard (by rfl) ?_; dsimp only)); refine My.bx 1 #[.int .i64 a0_0, .int .i64 a0_1, .int .i64 a0_2, .slice A0_3 l0_3.length c0_3, .string a0_4, .int .i64 a0_5] 37 ?_; intro gb257 hg w3 hbox hb; have BK257 := My.am (hbox); have GE257 := My.nge hg (My.bl_ HB); replace HB := My.st HB hb; clear hb hbox hg))
 (try simp only [Act.put, List.setIfInBounds_toArray, List.set_cons_zero, List.set_cons_succ])
 go_cut [23] (fun v23 wc => ∃ (kq : Nat) (x23_1 : Bool), v23 = .bool x23_1 ∧ Aside0 (ententeref13_Check.j0 kq x23_1 a0_0 a0_1 a0_2 l0_3 a0_4 a0_5 = some r) ∧ Aside0 (kq ≤ k) ∧ Aside0 (wc.heap[gb257]? = some (.cells #[.int .i64 a0_0, .int .i64 a0_1, .int .i64 a0_2, (.slice A0_3 l0_3.length c0_3), .string a0_4, .int .i64 a0_5] 37 (0, 0))) ∧ Aside0 (Below w.heap.size w wc))
 case first =>
  have H := HC2.out
  clear HC2
  by_cases c4 : a0_0 < 1
  ·rw [if_pos c4] at H
   have c4b0 := decide_eq_true c4
   clear c4
   (first | rw [c4b0] | (simp only [i64_w, i32_w]; rw [c4b0]) | skip)
   have H' := My.am H
   clear H
   have hq5 := My.cz6 BK257
   go_wp2
   go_meet
   case rel => exact ⟨_, (true), My.r1, H', ⟨My.r4⟩, ⟨(My.at_ BK257)⟩, ⟨(My.bl_ HB)⟩⟩
  ·rw [if_neg c4] at H
   have c4b0 := decide_eq_false c4
   clear c4
   (first | rw [c4b0] | (simp only [i64_w, i32_w]; rw [c4b0]) | skip)
   by_cases c6 : a0_0 > 7
   ·rw [if_pos c6] at H
    have c6b0 : decide (7 < a0_0) = true := decide_eq_true c6
    clear c6
    have H' := My.am H
    clear H
    have hq7 := My.cz6 BK257
    go_wp2
    go_meet
    case rel => exact ⟨_, (true), My.r1, H', ⟨My.r4⟩, ⟨(My.at_ BK257)⟩, ⟨(My.bl_ HB)⟩⟩
   rw [if_neg c6] at H
   have c6b0 : decide (7 < a0_0) = false := decide_eq_false c6
   clear c6
   replace H := Option.bind_eq_some_iff.mp H
   obtain ⟨t258, A80, H⟩ := H
   try dsimp only at H
   have A8 := My.am A80
   clear A80
   by_cases c9 : t258 = 0
   ·rw [if_pos c9] at H
    have c9b0 : (t258 == 0) = true := beq_iff_eq.mpr c9
    have c9b1 : (t258 != 0) = false := bne_eq_false_iff_eq.mpr c9
    clear c9
    have H' := My.am H
    clear H
    have hq10 := My.cz6 BK257
    go_wp2_with (first | (go_at_call 42; (with_reducible refine (ententeref03_Check.calls k a0_1 a0_2 _ _ l0_3 t258 _ ?side1 ?side2 A8.out).mono ?_); (case side1 => exact My.sd_ HR0_3 HB); (case side2 => exact HC0_3.out); rintro e w11 ⟨rfl, hb⟩; replace BK257 := My.ab BK257 hb; replace HB := My.st HB hb; (try clear hb); have hq12 := My.cz6 BK257))
    go_meet
    case rel => exact ⟨_, (((l0_3.length : Int) == 0)), My.r1, H', ⟨My.r4⟩, ⟨(My.at_ BK257)⟩, ⟨(My.bl_ HB)⟩⟩
   rw [if_neg c9] at H
   have c9b0 : (t258 == 0) = false := beq_eq_false_iff_ne.mpr c9
   have c9b1 : (t258 != 0) = true := bne_iff_ne.mpr c9
   have H' := My.am H
   clear H
   have hq13 := My.cz6 BK257
   go_wp2_with (first | (go_at_call 42; (with_reducible refine (ententeref03_Check.calls k a0_1 a0_2 _ _ l0_3 t258 _ ?side1 ?side2 A8.out).mono ?_); (case side1 => exact My.sd_ HR0_3 HB); (case side2 => exact HC0_3.out); rintro e w14 ⟨rfl, hb⟩; replace BK257 := My.ab BK257 hb; replace HB := My.st HB hb; (try clear hb)))
   go_meet
   case rel => exact ⟨_, (true), My.r1, H', ⟨My.r4⟩, ⟨(My.at_ BK257)⟩, ⟨(My.bl_ HB)⟩⟩
 case rest =>
  clear HC2
  obtain ⟨kq, x23_1, rfl, HA, HJ1, BK257, HB⟩ := hcut
  cases kq with
  | zero => exact absurd HA.out (by simp [ententeref13_Check.j0])
  | succ kj1 =>
   have H := HA.out
   clear HA
   simp only [ententeref13_Check.j0] at H
   by_cases c15 : x23_1 = true
   ·subst c15
    rw [if_pos rfl] at H
    obtain rfl := Option.some.inj H
    go_wp2
    go_ret
    exact ⟨My.r2, (My.bl_ HB)⟩
   replace c15 := Bool.eq_false_iff.mpr c15
   subst c15
   rw [if_neg (show ¬ (false = true) by decide)] at H
   have HC16 := My.am H
   clear H
   go_upto_region 3 with (fail)
   go_cut [42] (fun v42 wc => ∃ (kq : Nat) (x42_15 : Bool), v42 = .bool x42_15 ∧ Aside0 (ententeref13_Check.j1 kq x42_15 a0_0 a0_1 a0_2 l0_3 a0_4 a0_5 = some r) ∧ Aside0 (kq ≤ kj1) ∧ Aside0 (wc.heap[gb257]? = some (.cells #[.int .i64 a0_0, .int .i64 a0_1, .int .i64 a0_2, (.slice A0_3 l0_3.length c0_3), .string a0_4, .int .i64 a0_5] 37 (0, 0))) ∧ Aside0 (Below w.heap.size w wc))
   case first =>
    have H := HC16.out
    clear HC16
    by_cases c17 : a0_0 = 1
    rotate_left
    ·rw [if_neg c17] at H
     have c17b0 : (a0_0 == 1) = false := beq_eq_false_iff_ne.mpr c17
     have c17b1 : (a0_0 != 1) = true := bne_iff_ne.mpr c17
     (first | rw [c17b0] | (simp only [i64_w, i32_w]; rw [c17b0]) | skip)
     have H' := My.am H
     clear H
     have hq22 := My.cz6 BK257
     go_wp2
     (first | go_meet | (refine Met.intro ?_; go_step; (repeat apply Exists.intro); refine ⟨?rel, ?act⟩; (case act => simp only [c17b0]; rfl)))
     case rel => exact ⟨_, ((a0_4.toList != ([] : List UInt8))), (by cases a0_4.toList <;> rfl), H', ⟨by have := HJ1.out; first | omega | exact Nat.le_refl _⟩, ⟨(My.at_ BK257)⟩, ⟨(My.bl_ HB)⟩⟩
    rw [if_pos c17] at H
    have c17b0 : (a0_0 == 1) = true := beq_iff_eq.mpr c17
    have c17b1 : (a0_0 != 1) = false := bne_eq_false_iff_eq.mpr c17
    clear c17
    (first | rw [c17b0] | (simp only [i64_w, i32_w]; rw [c17b0]) | skip)
    replace H := Option.bind_eq_some_iff.mp H
    obtain ⟨t259, A180, H⟩ := H
    try dsimp only at H
    have A18 := My.am A180
    clear A180
    by_cases c19 : t259 = true
    ·subst c19
     rw [if_pos rfl] at H
     have H' := My.am H
     clear H
     have hq20 := My.cz6 BK257
     go_wp2_with (first | (go_at_call 43; (with_reducible refine (ententeref06_Name.calls kj1 a0_4 true _ A18.out).mono ?_); rintro e w' ⟨rfl, ⟨nd, rfl⟩⟩))
     go_meet
     case rel => exact ⟨_, (false), My.r1, H', ⟨by have := HJ1.out; first | omega | exact Nat.le_refl _⟩, ⟨(My.at_ BK257)⟩, ⟨(My.bl_ HB)⟩⟩
    replace c19 := Bool.eq_false_iff.mpr c19
    subst c19
    rw [if_neg (show ¬ (false = true) by decide)] at H
    have H' := My.am H
    clear H
    have hq21 := My.cz6 BK257
    go_wp2_with (first | (go_at_call 43; (with_reducible refine (ententeref06_Name.calls kj1 a0_4 false _ A18.out).mono ?_); rintro e w' ⟨rfl, ⟨nd, rfl⟩⟩))
    go_meet
    case rel => exact ⟨_, (true), My.r1, H', ⟨by have := HJ1.out; first | omega | exact Nat.le_refl _⟩, ⟨(My.at_ BK257)⟩, ⟨(My.bl_ HB)⟩⟩
   case rest =>
    clear HC16
    try clear c15
    obtain ⟨kq, x42_15, rfl, HA, HJ15, BK257, HB⟩ := hcut
    cases kq with
    | zero => exact absurd HA.out (by simp [ententeref13_Check.j1])
    | succ kj15 =>
     have H := HA.out
     clear HA
     simp only [ententeref13_Check.j1] at H
     by_cases c23 : x42_15 = true
     ·subst c23
      rw [if_pos rfl] at H
      obtain rfl := Option.some.inj H
      go_wp2
      go_ret
      exact ⟨My.r2, (My.bl_ HB)⟩
     replace c23 := Bool.eq_false_iff.mpr c23
     subst c23
     rw [if_neg (show ¬ (false = true) by decide)] at H
     by_cases c24 : a0_0 = 6
     ·rw [if_pos c24] at H
      have c24b0 : (a0_0 == 6) = true := beq_iff_eq.mpr c24
      have c24b1 : (a0_0 != 6) = false := bne_eq_false_iff_eq.mpr c24
      clear c24
      by_cases c25 : a0_5 < 1
      ·rw [if_pos c25] at H
       have c25b0 := decide_eq_true c25
       clear c25
       obtain rfl := Option.some.inj H
       have hq26 := My.cz6 BK257
       go_wp2
       go_ret
       exact ⟨My.r2, (My.bl_ HB)⟩
      rw [if_neg c25] at H
      have c25b0 := decide_eq_false c25
      clear c25
      by_cases c27 : a0_5 > 9
      ·rw [if_pos c27] at H
       have c27b0 : decide (9 < a0_5) = true := decide_eq_true c27
       clear c27
       obtain rfl := Option.some.inj H
       have hq28 := My.cz6 BK257
       go_wp2
       go_ret
       exact ⟨My.r2, (My.bl_ HB)⟩
      rw [if_neg c27] at H
      have c27b0 : decide (9 < a0_5) = false := decide_eq_false c27
      clear c27
      obtain rfl := Option.some.inj H
      have hq29 := My.cz6 BK257
      go_wp2
      go_ret
      exact ⟨My.r2, (My.bl_ HB)⟩
     rw [if_neg c24] at H
     have c24b0 : (a0_0 == 6) = false := beq_eq_false_iff_ne.mpr c24
     have c24b1 : (a0_0 != 6) = true := bne_iff_ne.mpr c24
     by_cases c30 : a0_5 = 0
     ·rw [if_pos c30] at H
      have c30b0 : (a0_5 == 0) = true := beq_iff_eq.mpr c30
      have c30b1 : (a0_5 != 0) = false := bne_eq_false_iff_eq.mpr c30
      clear c30
      obtain rfl := Option.some.inj H
      have hq31 := My.cz6 BK257
      go_wp2
      go_ret
      exact ⟨My.r2, (My.bl_ HB)⟩
     rw [if_neg c30] at H
     have c30b0 : (a0_5 == 0) = false := beq_eq_false_iff_ne.mpr c30
     have c30b1 : (a0_5 != 0) = true := bne_iff_ne.mpr c30
     obtain rfl := Option.some.inj H
     have hq32 := My.cz6 BK257
     go_wp2
     go_ret
     exact ⟨My.r2, (My.bl_ HB)⟩

/-! ### ententeref03_number: function 56 -/
def ententeref03_number.f (a0 : Int) (a1 : Int) : Option (Int) := if a0 < a1 then (some (-1)) else (if a0 > a1 then (some 1) else (some 0))
theorem ententeref03_number.calls (a0 : Int) (a1 : Int) (r : Int) (w : World) (h : ententeref03_number.f a0 a1 = some r) :
  Calls Try.prog 56 #[.int .i64 a0, .int .i64 a1] w fun e w' => e = .returned (.int .i64 r) ∧ Drawn0 w w' := by
 unfold ententeref03_number.f at h
 have H := h
 clear h
 by_cases c3 : a0 < a1
 ·rw [if_pos c3] at H
  have c3b0 := decide_eq_true c3
  clear c3
  obtain rfl := Option.some.inj H
  go_enter Try.func56, Try.ntmps56
  go_wp2
  go_ret
  exact ⟨by first | rfl | (simp; done) | (simp [*]; done), by repeat (first | exact Drawn0.refl _ | apply Drawn0.step)⟩
 ·rw [if_neg c3] at H
  have c3b0 := decide_eq_false c3
  clear c3
  by_cases c4 : a0 > a1
  ·rw [if_pos c4] at H
   have c4b0 : decide (a1 < a0) = true := decide_eq_true c4
   clear c4
   obtain rfl := Option.some.inj H
   go_enter Try.func56, Try.ntmps56
   go_wp2
   go_ret
   exact ⟨by first | rfl | (simp; done) | (simp [*]; done), by repeat (first | exact Drawn0.refl _ | apply Drawn0.step)⟩
  rw [if_neg c4] at H
  have c4b0 : decide (a1 < a0) = false := decide_eq_false c4
  clear c4
  obtain rfl := Option.some.inj H
  go_enter Try.func56, Try.ntmps56
  go_wp2
  go_ret
  exact ⟨by first | rfl | (simp; done) | (simp [*]; done), by repeat (first | exact Drawn0.refl _ | apply Drawn0.step)⟩

end Go.Proofs.Ytcgmoeiknkdljaa.PA
