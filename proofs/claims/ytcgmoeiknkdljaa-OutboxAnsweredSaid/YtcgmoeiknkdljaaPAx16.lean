-- Written by a program of this session (wip/tools/mp.py over the kit's printer); Lean checks it.
import Derived.Test.YtcgmoeiknkdljaaPAx0
import Derived.Test.YtcgmoeiknkdljaaPAx12
import Derived.Test.YtcgmoeiknkdljaaPAx14
import Derived.Test.YtcgmoeiknkdljaaPAx15
namespace Go.Proofs.Ytcgmoeiknkdljaa.PA
open Go.RowKit Go.Proofs.YtcgmoeiknkdljaaW.PrintWords Go.Proofs.YtcgmoeiknkdljaaW.PrintLast Go.Proofs.YtcgmoeiknkdljaaW.PrintMore
attribute [local go_sem] max2_int min2_int max_two min_two max_three min_three max_four min_four   -- for this text's walks alone
set_option linter.unusedVariables false
set_option maxHeartbeats 8000000
set_option maxRecDepth 100000
set_option linter.unusedSimpArgs false

/-! ### ententeref19_time: function 28 -/
def ententeref19_time.f (a0 : Int) : Option (Bool) := if a0 ≥ 0 then (some (decide (a0 ≤ 1000000000))) else (some false)
theorem ententeref19_time.calls (a0 : Int) (r : Bool) (w : World) (h : ententeref19_time.f a0 = some r) :
  Calls Try.prog 28 #[.int .i64 a0] w fun e w' => e = .returned (.bool r) ∧ Drawn0 w w' := by
 unfold ententeref19_time.f at h
 have H := h
 clear h
 by_cases c2 : a0 ≥ 0
 ·rw [if_pos c2] at H
  have c2b0 : decide (0 ≤ a0) = true := decide_eq_true c2
  clear c2
  obtain rfl := Option.some.inj H
  go_enter Try.func28, Try.ntmps28
  go_wp2
  go_ret
  exact ⟨by first | rfl | (simp; done) | (simp [*]; done), by repeat (first | exact Drawn0.refl _ | apply Drawn0.step)⟩
 ·rw [if_neg c2] at H
  have c2b0 : decide (0 ≤ a0) = false := decide_eq_false c2
  clear c2
  obtain rfl := Option.some.inj H
  go_enter Try.func28, Try.ntmps28
  go_wp2
  go_ret
  exact ⟨by first | rfl | (simp; done) | (simp [*]; done), by repeat (first | exact Drawn0.refl _ | apply Drawn0.step)⟩

/-! ### ententeref19_Push: function 10 -/
mutual
def ententeref19_Push.j0 : Nat → List (S46) → Int → Int → List (S37) → Bool → Option ((List (S46)) × Int)
 | 0, _, _, _, _, _ => none
 | k + 1, x0, x1, x2, x3, x28 => if x28 = true then (some (([] : List (S46)), 2)) else ((some (([] : List (S46)) : List (S46))).bind fun y297 => (if y297.length + x0.length < 1466015503701 then (ententeref19_Push.l0 k x1 x2 x3 (y297 ++ x0) 0) else (none)))
def ententeref19_Push.l0 : Nat → Int → Int → List (S37) → List (S46) → Int → Option ((List (S46)) × Int)
 | 0, _, _, _, _, _ => none
 | k + 1, x1, x2, x3, x10, x11 => if x11 < (x3.length : Int) then (if 0 ≤ x11 then ((ententeref13_Check.f k ((rd_T37 x3 x11).f0) ((rd_T37 x3 x11).f1.f0) ((rd_T37 x3 x11).f1.f1) ((rd_T37 x3 x11).f1.f2) ((rd_T37 x3 x11).f2) ((rd_T37 x3 x11).f3)).bind fun t304 => (if t304 = 0 then ((ententeref19_among.f k x10 ((rd_T37 x3 x11).f0) ((rd_T37 x3 x11).f1.f0) ((rd_T37 x3 x11).f1.f1) ((rd_T37 x3 x11).f1.f2) ((rd_T37 x3 x11).f2) ((rd_T37 x3 x11).f3)).bind fun t306 => (if t306 = true then (ententeref19_Push.l0 k x1 x2 x3 x10 (wrap64 (x11 + 1))) else (if (x10.length : Int) = 12 then (some (([] : List (S46)), 190)) else (if (x10.length : Int) > 0 then (if 0 ≤ (wrap64 ((x10.length : Int) - 1)) then (if (wrap64 ((x10.length : Int) - 1)) < (x10.length : Int) then (ententeref19_Push.j2 k x1 x2 x3 x10 x11 x1 (decide (((rd_T46 x10 (wrap64 ((x10.length : Int) - 1))).f0) ≥ x1))) else (none)) else (none)) else (ententeref19_Push.j2 k x1 x2 x3 x10 x11 x1 false))))) else (some (([] : List (S46)), 130)))) else (none)) else (some (x10, 0))
def ententeref19_Push.j2 : Nat → Int → Int → List (S37) → List (S46) → Int → Int → Bool → Option ((List (S46)) × Int)
 | 0, _, _, _, _, _, _, _ => none
 | k + 1, x1, x2, x3, x10, x11, x12, x67 => if x67 = true then (if 0 ≤ (wrap64 ((x10.length : Int) - 1)) then (if (wrap64 ((x10.length : Int) - 1)) < (x10.length : Int) then (if (wrap64 (((rd_T46 x10 (wrap64 ((x10.length : Int) - 1))).f0) + 1)) > 1000000000 then (some (([] : List (S46)), 180)) else (if 0 ≤ x11 then (if x11 < (x3.length : Int) then (if x10.length < 1466015503701 then (ententeref19_Push.l0 k x1 x2 x3 (x10 ++ [(⟨wrap64 (((rd_T46 x10 (wrap64 ((x10.length : Int) - 1))).f0) + 1), x2, 0, (⟨(rd_T37 x3 x11).f0, (⟨(rd_T37 x3 x11).f1.f0, (rd_T37 x3 x11).f1.f1, (rd_T37 x3 x11).f1.f2⟩ : S35), (rd_T37 x3 x11).f2, (rd_T37 x3 x11).f3⟩ : S37)⟩ : S46)]) (wrap64 (x11 + 1))) else (none)) else (none)) else (none))) else (none)) else (none)) else (if x12 > 1000000000 then (some (([] : List (S46)), 180)) else (if 0 ≤ x11 then (if x11 < (x3.length : Int) then (if x10.length < 1466015503701 then (ententeref19_Push.l0 k x1 x2 x3 (x10 ++ [(⟨x12, x2, 0, (⟨(rd_T37 x3 x11).f0, (⟨(rd_T37 x3 x11).f1.f0, (rd_T37 x3 x11).f1.f1, (rd_T37 x3 x11).f1.f2⟩ : S35), (rd_T37 x3 x11).f2, (rd_T37 x3 x11).f3⟩ : S37)⟩ : S46)]) (wrap64 (x11 + 1))) else (none)) else (none)) else (none)))
end
def ententeref19_Push.f (k : Nat) (l0 : List (S46)) (a1 : Int) (a2 : Int) (l3 : List (S37)) : Option ((List (S46)) × Int) := (ententeref19_May.f k l0).bind fun t295 => (if t295 = 0 then ((ententeref19_time.f a2).bind fun t296 => (if t296 = true then (if a1 < 1 then (ententeref19_Push.j0 k l0 a1 a2 l3 true) else (ententeref19_Push.j0 k l0 a1 a2 l3 (decide (a1 > 1000000001)))) else (ententeref19_Push.j0 k l0 a1 a2 l3 true))) else (ententeref19_Push.j0 k l0 a1 a2 l3 true))
theorem ententeref19_Push.mono_l : ∀ k, (∀ y0 y1 y2 y3 y4, LeO (ententeref19_Push.j0 k y0 y1 y2 y3 y4) (ententeref19_Push.j0 (k + 1) y0 y1 y2 y3 y4)) ∧ (∀ y0 y1 y2 y3 y4, LeO (ententeref19_Push.l0 k y0 y1 y2 y3 y4) (ententeref19_Push.l0 (k + 1) y0 y1 y2 y3 y4)) ∧ (∀ y0 y1 y2 y3 y4 y5 y6, LeO (ententeref19_Push.j2 k y0 y1 y2 y3 y4 y5 y6) (ententeref19_Push.j2 (k + 1) y0 y1 y2 y3 y4 y5 y6))
 | 0 => ⟨fun _ _ _ _ _ r h => by simp [ententeref19_Push.j0] at h, fun _ _ _ _ _ r h => by simp [ententeref19_Push.l0] at h, fun _ _ _ _ _ _ _ r h => by simp [ententeref19_Push.j2] at h⟩
 | k + 1 => by
  obtain ⟨ih0, ih1, ih2⟩ := ententeref19_Push.mono_l k
  refine ⟨?_, ?_, ?_⟩
  ·intro y0 y1 y2 y3 y4
   unfold ententeref19_Push.j0
   repeat' (with_reducible first | exact ih0 _ _ _ _ _ | exact ih1 _ _ _ _ _ | exact ih2 _ _ _ _ _ _ _ | exact ententeref13_Check.mono _ _ _ _ _ _ _ | exact ententeref19_May.mono _ _ | exact ententeref19_among.mono _ _ _ _ _ _ _ _ | exact LeO.refl _ | exact LeO.none _ | apply LeO.ite | refine LeO.bind ?_ (fun _ => ?_))
  ·intro y0 y1 y2 y3 y4
   unfold ententeref19_Push.l0
   repeat' (with_reducible first | exact ih0 _ _ _ _ _ | exact ih1 _ _ _ _ _ | exact ih2 _ _ _ _ _ _ _ | exact ententeref13_Check.mono _ _ _ _ _ _ _ | exact ententeref19_May.mono _ _ | exact ententeref19_among.mono _ _ _ _ _ _ _ _ | exact LeO.refl _ | exact LeO.none _ | apply LeO.ite | refine LeO.bind ?_ (fun _ => ?_))
  intro y0 y1 y2 y3 y4 y5 y6
  unfold ententeref19_Push.j2
  repeat' (with_reducible first | exact ih0 _ _ _ _ _ | exact ih1 _ _ _ _ _ | exact ih2 _ _ _ _ _ _ _ | exact ententeref13_Check.mono _ _ _ _ _ _ _ | exact ententeref19_May.mono _ _ | exact ententeref19_among.mono _ _ _ _ _ _ _ _ | exact LeO.refl _ | exact LeO.none _ | apply LeO.ite | refine LeO.bind ?_ (fun _ => ?_))
theorem ententeref19_Push.mono : ∀ a0 a1 a2 a3 k, LeO (ententeref19_Push.f k a0 a1 a2 a3) (ententeref19_Push.f (k + 1) a0 a1 a2 a3) := by
 intro a0 a1 a2 a3 k
 obtain ⟨ih0, ih1, ih2⟩ := ententeref19_Push.mono_l k
 unfold ententeref19_Push.f
 repeat' (with_reducible first | exact ih0 _ _ _ _ _ | exact ih1 _ _ _ _ _ | exact ih2 _ _ _ _ _ _ _ | exact ententeref13_Check.mono _ _ _ _ _ _ _ | exact ententeref19_May.mono _ _ | exact ententeref19_among.mono _ _ _ _ _ _ _ _ | exact LeO.refl _ | exact LeO.none _ | apply LeO.ite | refine LeO.bind ?_ (fun _ => ?_))
theorem ententeref19_Push.calls (k : Nat) (P0_ : Nat → Prop) (A0 : Option Addr) (c0 : Nat) (l0 : List (S46)) (a1 : Int) (a2 : Int) (P3_ : Nat → Prop) (A3 : Option Addr) (c3 : Nat) (l3 : List (S37)) (r1 : List (S46)) (r2 : Int) (w : World) (hs0 : Kd.V k46 46 w w.heap.size (fun k_ => P0_ k_) (.slice A0 l0.length c0) l0) (hs3 : Kd.V k37 37 w w.heap.size (fun k_ => P3_ k_) (.slice A3 l3.length c3) l3) (h : ententeref19_Push.f k l0 a1 a2 l3 = some (r1, r2)) :
  Calls Try.prog 10 #[.slice A0 l0.length c0, .int .i64 a1, .int .i64 a2, .slice A3 l3.length c3] w fun e w' => ∃ v0_ : Value, e = .returned (.tuple #[v0_, .int .i64 r2]) ∧ Kd.N k46 46 w' w.heap.size (fun k_ => ((P0_ k_ ∨ P3_ k_) ∨ w.heap.size ≤ k_)) v0_ r1 ∧ Below w.heap.size w w' := by
 have hu37 := Try.underlying37
 have hu46 := Try.underlying46
 have HO0 := My.am (show Kd.V k46 46 w w.heap.size (fun k_ => ((P0_ k_ ∨ P3_ k_) ∨ w.heap.size ≤ k_)) (.slice A0 l0.length c0) l0 from Kd.V_mono hs0 (fun k_ hk => .inl (.inl hk)))
 have HO3 := My.am (show Kd.V k37 37 w w.heap.size (fun k_ => ((P0_ k_ ∨ P3_ k_) ∨ w.heap.size ≤ k_)) (.slice A3 l3.length c3) l3 from Kd.V_mono hs3 (fun k_ hk => .inl (.inr hk)))
 have HB := My.am (Below.refl w.heap.size w)
 unfold ententeref19_Push.f at h
 have H := h
 clear h
 have HC5 := My.am H
 clear H
 go_enter Try.func10, Try.ntmps10
 go_upto_region 1 with (fail)
 go_cut [28] (fun v28 wc => ∃ (kq : Nat) (x28_4 : Bool), v28 = .bool x28_4 ∧ Aside0 (ententeref19_Push.j0 kq l0 a1 a2 l3 x28_4 = some (r1, r2)) ∧ Aside0 (kq ≤ k) ∧ Aside0 (Kd.V k46 46 wc w.heap.size (fun k_ => ((P0_ k_ ∨ P3_ k_) ∨ w.heap.size ≤ k_)) (.slice A0 l0.length c0) l0) ∧ Aside0 (Kd.V k37 37 wc w.heap.size (fun k_ => ((P0_ k_ ∨ P3_ k_) ∨ w.heap.size ≤ k_)) (.slice A3 l3.length c3) l3) ∧ Aside0 (Below w.heap.size w wc))
 case first =>
  have H := HC5.out
  clear HC5
  replace H := Option.bind_eq_some_iff.mp H
  obtain ⟨t295, A60, H⟩ := H
  try dsimp only at H
  have A6 := My.am A60
  clear A60
  by_cases c7 : t295 = 0
  ·rw [if_pos c7] at H
   have c7b0 : (t295 == 0) = true := beq_iff_eq.mpr c7
   have c7b1 : (t295 != 0) = false := bne_eq_false_iff_eq.mpr c7
   clear c7
   (first | rw [c7b0] | (simp only [i64_w, i32_w]; rw [c7b0]) | skip)
   replace H := Option.bind_eq_some_iff.mp H
   obtain ⟨t296, A80, H⟩ := H
   try dsimp only at H
   have A8 := My.am A80
   clear A80
   by_cases c9 : t296 = true
   ·subst c9
    rw [if_pos rfl] at H
    by_cases c10 : a1 < 1
    ·rw [if_pos c10] at H
     have c10b0 := decide_eq_true c10
     clear c10
     have H' := My.am H
     clear H
     go_wp2_with (first | ((with_reducible refine gate_callee (f := 14) rfl ?_); refine goesL_ (some 14) rfl rfl Try.func14 (by kernel_rfl) rfl #[.slice A0 l0.length c0] rfl My.gx ?_; (with_reducible refine (ententeref19_May.calls k _ _ l0 t295 _ ?side1 ?side2 A6.out).mono ?_); (case side1 => repeat (first | exact (Kd.V_reads' HO0.out).2.2 | (with_reducible refine Kd.C_alloc ?_ _) | (with_reducible refine Kd.C_drewN ?_ _) | (with_reducible refine Kd.C_drew ?_))); (case side2 => exact (Kd.V_reads' HO0.out).2.1); rintro e w11 ⟨rfl, hb⟩; refine ⟨_, rfl, ?_⟩; replace HO0 := My.am (Kd.V_below (My.dV HO0.out) hb); replace HO3 := My.am (Kd.V_below (My.dV HO3.out) hb); replace HB := My.st HB hb; (try clear hb)) | (go_at_call 28; (with_reducible refine (ententeref19_time.calls a2 true _ A8.out).mono ?_); rintro e w' ⟨rfl, ⟨nd, rfl⟩⟩))
     go_meet
     case rel => exact ⟨_, (true), My.r1, H', ⟨My.r4⟩, ⟨My.dV HO0.out⟩, ⟨My.dV HO3.out⟩, ⟨(My.bl_ HB)⟩⟩
    rw [if_neg c10] at H
    have c10b0 := decide_eq_false c10
    clear c10
    have H' := My.am H
    clear H
    go_wp2_with (first | ((with_reducible refine gate_callee (f := 14) rfl ?_); refine goesL_ (some 14) rfl rfl Try.func14 (by kernel_rfl) rfl #[.slice A0 l0.length c0] rfl My.gx ?_; (with_reducible refine (ententeref19_May.calls k _ _ l0 t295 _ ?side1 ?side2 A6.out).mono ?_); (case side1 => repeat (first | exact (Kd.V_reads' HO0.out).2.2 | (with_reducible refine Kd.C_alloc ?_ _) | (with_reducible refine Kd.C_drewN ?_ _) | (with_reducible refine Kd.C_drew ?_))); (case side2 => exact (Kd.V_reads' HO0.out).2.1); rintro e w12 ⟨rfl, hb⟩; refine ⟨_, rfl, ?_⟩; replace HO0 := My.am (Kd.V_below (My.dV HO0.out) hb); replace HO3 := My.am (Kd.V_below (My.dV HO3.out) hb); replace HB := My.st HB hb; (try clear hb)) | (go_at_call 28; (with_reducible refine (ententeref19_time.calls a2 true _ A8.out).mono ?_); rintro e w' ⟨rfl, ⟨nd, rfl⟩⟩))
    go_meet
    case rel => exact ⟨_, (decide (a1 > 1000000001)), My.r1, H', ⟨My.r4⟩, ⟨My.dV HO0.out⟩, ⟨My.dV HO3.out⟩, ⟨(My.bl_ HB)⟩⟩
   replace c9 := Bool.eq_false_iff.mpr c9
   subst c9
   rw [if_neg (show ¬ (false = true) by decide)] at H
   have H' := My.am H
   clear H
   go_wp2_with (first | ((with_reducible refine gate_callee (f := 14) rfl ?_); refine goesL_ (some 14) rfl rfl Try.func14 (by kernel_rfl) rfl #[.slice A0 l0.length c0] rfl My.gx ?_; (with_reducible refine (ententeref19_May.calls k _ _ l0 t295 _ ?side1 ?side2 A6.out).mono ?_); (case side1 => repeat (first | exact (Kd.V_reads' HO0.out).2.2 | (with_reducible refine Kd.C_alloc ?_ _) | (with_reducible refine Kd.C_drewN ?_ _) | (with_reducible refine Kd.C_drew ?_))); (case side2 => exact (Kd.V_reads' HO0.out).2.1); rintro e w13 ⟨rfl, hb⟩; refine ⟨_, rfl, ?_⟩; replace HO0 := My.am (Kd.V_below (My.dV HO0.out) hb); replace HO3 := My.am (Kd.V_below (My.dV HO3.out) hb); replace HB := My.st HB hb; (try clear hb)) | (go_at_call 28; (with_reducible refine (ententeref19_time.calls a2 false _ A8.out).mono ?_); rintro e w' ⟨rfl, ⟨nd, rfl⟩⟩))
   go_meet
   case rel => exact ⟨_, (true), My.r1, H', ⟨My.r4⟩, ⟨My.dV HO0.out⟩, ⟨My.dV HO3.out⟩, ⟨(My.bl_ HB)⟩⟩
  ·rw [if_neg c7] at H
   have c7b0 : (t295 == 0) = false := beq_eq_false_iff_ne.mpr c7
   have c7b1 : (t295 != 0) = true := bne_iff_ne.mpr c7
   (first | rw [c7b0] | (simp only [i64_w, i32_w]; rw [c7b0]) | skip)
   have H' := My.am H
   clear H
   go_wp2_with (first | ((with_reducible refine gate_callee (f := 14) rfl ?_); refine goesL_ (some 14) rfl rfl Try.func14 (by kernel_rfl) rfl #[.slice A0 l0.length c0] rfl My.gx ?_; (with_reducible refine (ententeref19_May.calls k _ _ l0 t295 _ ?side1 ?side2 A6.out).mono ?_); (case side1 => repeat (first | exact (Kd.V_reads' HO0.out).2.2 | (with_reducible refine Kd.C_alloc ?_ _) | (with_reducible refine Kd.C_drewN ?_ _) | (with_reducible refine Kd.C_drew ?_))); (case side2 => exact (Kd.V_reads' HO0.out).2.1); rintro e w14 ⟨rfl, hb⟩; refine ⟨_, rfl, ?_⟩; replace HO0 := My.am (Kd.V_below (My.dV HO0.out) hb); replace HO3 := My.am (Kd.V_below (My.dV HO3.out) hb); replace HB := My.st HB hb; (try clear hb)))
   go_meet
   case rel => exact ⟨_, (true), My.r1, H', ⟨My.r4⟩, ⟨My.dV HO0.out⟩, ⟨My.dV HO3.out⟩, ⟨(My.bl_ HB)⟩⟩
 case rest =>
  clear HC5
  try clear c3
  obtain ⟨kq, x28_4, rfl, HA, HJ4, HO_0, HO_3, HB⟩ := hcut
  cases kq with
  | zero => exact absurd HA.out (by simp [ententeref19_Push.j0])
  | succ kj4 =>
   have H := HA.out
   clear HA
   simp only [ententeref19_Push.j0] at H
   by_cases c15 : x28_4 = true
   ·subst c15
    rw [if_pos rfl] at H
    simp only [Option.some.injEq, Prod.mk.injEq] at H
    obtain ⟨rfl, rfl⟩ := H
    go_wp2
    go_ret2
    exact ⟨_, My.r2, by first | exact Kd.S_nil _ _ _ _ _ | exact Kd.N_nil _ _ _ _ _ | exact Kd.V_nil _ _ _ _ _ | exact Kd.Q_nil _ _ _ _ _ | exact Kd.R_nil _ _ _ _ _, (My.bl_ HB)⟩
   replace c15 := Bool.eq_false_iff.mpr c15
   subst c15
   rw [if_neg (show ¬ (false = true) by decide)] at H
   obtain ⟨y297, hy297⟩ : ∃ y_ : List (S46), y_ = (([] : List (S46))) := ⟨_, rfl⟩
   replace H : (if y297.length + l0.length < 1466015503701 then (ententeref19_Push.l0 kj4 a1 a2 l3 (y297 ++ l0) 0) else (none)) = some (r1, r2) := by first | (rw [hy297]; with_reducible exact H) | (have H2_ := (Option.bind_some _ _).symm.trans H; rw [hy297]; with_reducible exact H2_) | (have H2_ := (Option.bind_some _ _).symm.trans H; with_reducible exact H2_) | with_reducible exact H | (rw [hy297]; exact H) | exact H
   have Ny297 := My.am hy297
   clear hy297
   by_cases c16 : y297.length + l0.length < 1466015503701
   rotate_left
   ·exact My.nn c16 H

   rw [if_pos c16] at H
   have LMc16 := My.am c16
   clear c16
   obtain ⟨y300, hy300⟩ : ∃ y_ : List (S46), y_ = (y297 ++ l0) := ⟨_, rfl⟩
   replace H : (ententeref19_Push.l0 kj4 a1 a2 l3 y300 0) = some (r1, r2) := by first | (rw [hy300]; with_reducible exact H) | (have H2_ := (Option.bind_some _ _).symm.trans H; rw [hy300]; with_reducible exact H2_) | (have H2_ := (Option.bind_some _ _).symm.trans H; with_reducible exact H2_) | with_reducible exact H | (rw [hy300]; exact H) | exact H
   have Ny300 := My.am hy300
   clear hy300
   have H' := My.am H
   clear H
   go_wp2_with (first | ((with_reducible refine gate_dst (N := 29) rfl ?_); (try (refine gate_guard (by rfl) ?_; dsimp only)); refine Kd.N_lit k46 _ 46 ?hg (N' := 29) ?hd (xs := ([] : List (S46))) (inner := []) (ok := (fun k_ => ((P0_ k_ ∨ P3_ k_) ∨ w.heap.size ≤ k_))) (okp := (fun k_ => ((P0_ k_ ∨ P3_ k_) ∨ w.heap.size ≤ k_))) ?hr ?hp (fun _ hk => hk) ((show ∀ k_, wc.heap.size ≤ k_ → (fun k_ => ((P0_ k_ ∨ P3_ k_) ∨ w.heap.size ≤ k_)) k_ from fun k_ hk => (.inr (Nat.le_trans (below_size (My.bl_ HB)) hk))) _ (Nat.le_refl _)) (Below.refl _ _) (Nat.le_refl _) (by simp) ?_; (case hd => rfl); (case hg => rfl); (case hr => first | (go_simp; done) | (go_simp; rfl)); (case hp => exact (Reps.none _ _)); intro v298 w17 ho18 hb hg_ hnew_; clear hg_ hnew_; (first | rw [← Ny297.out] at ho18 | (simp only [Int.reduceToNat] at ho18; rw [← Ny297.out] at ho18)); replace HO_0 := My.am (Kd.V_elder' (My.dV HO_0.out) (Kd.N_base ho18) hb); replace HO_3 := My.am (Kd.V_elder' (My.dV HO_3.out) (Kd.N_base ho18) hb); have HO299 := My.am (Kd.N_lower ho18 (below_size (My.bl_ HB))); replace HB := My.st HB hb; clear hb ho18) | ((with_reducible refine gate_builtin (b := .append) (xs := #[.tmp 29, .tmp 30]) rfl ?_); (try (refine gate_guard (by rfl) ?_; dsimp only)); at_builtin; refine Kd.N_append_rows k46 (w0 := w) w.heap.size rfl (.tmp 29) (.tmp 30) 22 46 (.agg #[(.int .i64 0), (.int .i64 0), (.int .i64 0), (.int .i64 0), (.int .i64 0), (.int .i64 0), (.slice none 0 0), (.string ⟨#[]⟩), (.int .i64 0)]) 96 rfl Try.underlying22 info46 rfl (by decide) (by omega) v298 y297 l0 _ _ _ (fun k_ => ((P0_ k_ ∨ P3_ k_) ∨ w.heap.size ≤ k_)) (fun k_ => ((fun k_ => ((P0_ k_ ∨ P3_ k_) ∨ w.heap.size ≤ k_))) k_ ∧ some k_ ≠ (v298 : Value).ownBlock) rfl rfl ?aO ?aR (fun _ hk => hk) ?aF ?aB ?aS ?aL ?_; (case aR => exact (by skip; exact Kd.V_F (Kd.V_mono (ok' := (fun k_ => ((fun k_ => ((P0_ k_ ∨ P3_ k_) ∨ w.heap.size ≤ k_))) k_ ∧ some k_ ≠ (v298 : Value).ownBlock)) (HO_0.out) (fun k_ hk => ⟨hk.1, hk.2⟩)))); (case aB => exact (My.bl_ HB)); (case aF => exact (fun k_ hk => (.inr (Nat.le_trans (below_size (My.bl_ HB)) hk)))); (case aO => exact (by (with_reducible repeat (first | apply Kd.N_alloc | apply Kd.N_drewN | apply Kd.N_drew)); exact HO299.out)); (case aS => exact (below_size (My.bl_ HB))); (case aL => have := LMc16.out; omega); intro v301 w19 ho hb hg hat; rw [← Ny300.out] at ho; replace HO_3 := My.am (Kd.V_afterv (ok := (fun k_ => ((P0_ k_ ∨ P3_ k_) ∨ w.heap.size ≤ k_))) (My.dV HO_3.out) hg hat); replace HB := My.am (hb); have HO302 := My.am (ho); (try clear HO299); clear ho hb hg hat))
   go_loopg [10, 11] kj4 (fun kq v10 v11 w' => ∃ (x10_2 : List (S46)) (x11_2 : Int), v11 = .int .i64 x11_2 ∧ Aside0 (ententeref19_Push.l0 kq a1 a2 l3 x10_2 x11_2 = some (r1, r2)) ∧ Aside0 (kq ≤ kj4) ∧ Aside0 (Kd.V k37 37 w' w.heap.size (fun k_ => ((P0_ k_ ∨ P3_ k_) ∨ w.heap.size ≤ k_) ∧ some k_ ≠ (v10 : Value).ownBlock) (.slice A3 l3.length c3) l3) ∧ Aside0 (Kd.N k46 46 w' w.heap.size (fun k_ => ((P0_ k_ ∨ P3_ k_) ∨ w.heap.size ≤ k_)) v10 x10_2) ∧ Aside0 (Below w.heap.size w w'))
   case atStart => exact ⟨(y300), (0), My.r1, H', ⟨Nat.le_refl _⟩, ⟨My.dV HO_3.out⟩, ⟨by (with_reducible repeat (first | apply Kd.N_alloc | apply Kd.N_drewN | apply Kd.N_drew)); exact HO302.out⟩, ⟨(My.bl_ HB)⟩⟩
   case round =>
    clear H'
    try clear c3
    try clear c15
    try clear c16
    obtain ⟨x10_2, x11_2, rfl, HA, HK2, HO_3, HO_10, HB⟩ := hrel
    cases gk with
    | zero => exact absurd HA.out (by simp [ententeref19_Push.l0])
    | succ k2 =>
     have H := HA.out
     clear HA
     simp only [ententeref19_Push.l0] at H
     by_cases c20 : x11_2 < (l3.length : Int)
     rotate_left
     ·rw [if_neg c20] at H
      have c20b0 := decide_eq_false c20
      clear c20
      simp only [Option.some.injEq, Prod.mk.injEq] at H
      obtain ⟨rfl, rfl⟩ := H
      go_wp2
      go_ret2
      exact ⟨_, My.r2, by (with_reducible repeat (first | apply Kd.N_alloc | apply Kd.N_drewN | apply Kd.N_drew)); exact HO_10.out, (My.bl_ HB)⟩
     rw [if_pos c20] at H
     have c20b0 := decide_eq_true c20
     clear c20
     replace H := My.ds H
     obtain ⟨c21b0, H⟩ := H
     replace H := Option.bind_eq_some_iff.mp H
     obtain ⟨t304, A220, H⟩ := H
     try dsimp only at H
     have A22 := My.am A220
     clear A220
     by_cases c23 : t304 = 0
     rotate_left
     ·rw [if_neg c23] at H
      have c23b0 : (t304 == 0) = false := beq_eq_false_iff_ne.mpr c23
      have c23b1 : (t304 != 0) = true := bne_iff_ne.mpr c23
      simp only [Option.some.injEq, Prod.mk.injEq] at H
      obtain ⟨rfl, rfl⟩ := H
      have p303 : 0 ≤ (x11_2 : Int) := My.as_
      have q303 : x11_2 < (l3.length : Int) := My.as_
      obtain ⟨ad303, A303_3, c303_3, e303, hx303_0, hx303_1, hx303_2, hx303_3, hx303_4, hx303_5, hl303_3, hi303_3⟩ := at_T37 (Kd.V_reads' HO_3.out).2.2 x11_2 p303 q303
      cases e303
      obtain ⟨ce303, hce303, hMe303, hcc303⟩ := Kd.V_get HO_3.out z37 x11_2 p303 (by first | exact q303 | exact My.as_ | (have e_ := (Kd.V_reads' HO_3.out).1; omega))
      obtain ⟨ua303_3, uc303_3, rfl, ul303_3, ge303_3⟩ := k37_openF hMe303
      have hv303_3 := hcc303 3 _ rfl
      rw [add_field _ _ 3 (by omega)] at hv303_3
      replace hv303_3 := Option.some.inj (hv303_3.symm.trans hx303_3)
      injection hv303_3 with hva_ hvn_ hvc_
      rw [hva_] at ge303_3
      rw [hvc_] at ul303_3
      have HL303_3 := My.am (show Kd.V k62 62 _ w.heap.size _ _ ((rd_T37 l3 x11_2).f1.f2) from Kd.V_mk ul303_3 ge303_3)
      clear hva_ hvn_ hvc_ ge303_3 ul303_3
      clear hcc303 hce303
      have HR303_3 := My.am hi303_3
      have HC303_3 := My.am hl303_3
      clear hi303_3 hl303_3
      replace p303 := eq_true p303
      replace q303 := eq_true q303
      go_wp2_with (first | ((with_reducible refine gate_callee (f := 29) rfl ?_); refine goesL_ (some 42) rfl rfl Try.func29 (by kernel_rfl) rfl #[.agg #[.int .i64 ((rd_T37 l3 x11_2).f0), .int .i64 ((rd_T37 l3 x11_2).f1.f0), .int .i64 ((rd_T37 l3 x11_2).f1.f1), .slice A303_3 ((rd_T37 l3 x11_2).f1.f2).length c303_3, .string ((rd_T37 l3 x11_2).f2), .int .i64 ((rd_T37 l3 x11_2).f3)]] rfl My.gx ?_; (with_reducible refine (ententeref13_Check.calls k2 ((rd_T37 l3 x11_2).f0) ((rd_T37 l3 x11_2).f1.f0) ((rd_T37 l3 x11_2).f1.f1) _ _ ((rd_T37 l3 x11_2).f1.f2) ((rd_T37 l3 x11_2).f2) ((rd_T37 l3 x11_2).f3) t304 _ ?side1 ?side2 A22.out).mono ?_); (case side1 => repeat (first | exact (by repeat (first | (with_reducible exact HR303_3.out) | (with_reducible refine Kd.C_alloc ?_ _) | (with_reducible refine Kd.C_drewN ?_ _) | (with_reducible refine Kd.C_drew ?_) | exact HR303_3.out)) | (with_reducible refine Kd.C_alloc ?_ _) | (with_reducible refine Kd.C_drewN ?_ _) | (with_reducible refine Kd.C_drew ?_))); (case side2 => exact HC303_3.out); rintro e w55 ⟨rfl, hb⟩; refine ⟨_, rfl, ?_⟩; replace HO_10 := My.am (Kd.N_below (by (with_reducible repeat (first | apply Kd.N_alloc | apply Kd.N_drewN | apply Kd.N_drew)); exact HO_10.out) hb); replace HL303_3 := My.am (Kd.V_below (My.dV HL303_3.out) hb); replace HR303_3 := My.am (Kd.C_below (by repeat (first | (with_reducible exact HR303_3.out) | (with_reducible refine Kd.C_alloc ?_ _) | (with_reducible refine Kd.C_drewN ?_ _) | (with_reducible refine Kd.C_drew ?_) | exact HR303_3.out)) hb); replace HB := My.st HB hb; (try clear hb)))
      go_ret2
      exact ⟨_, My.r2, by first | exact Kd.S_nil _ _ _ _ _ | exact Kd.N_nil _ _ _ _ _ | exact Kd.V_nil _ _ _ _ _ | exact Kd.Q_nil _ _ _ _ _ | exact Kd.R_nil _ _ _ _ _, (My.bl_ HB)⟩
     rw [if_pos c23] at H
     have c23b0 : (t304 == 0) = true := beq_iff_eq.mpr c23
     have c23b1 : (t304 != 0) = false := bne_eq_false_iff_eq.mpr c23
     clear c23
     replace H := Option.bind_eq_some_iff.mp H
     obtain ⟨t306, A240, H⟩ := H
     try dsimp only at H
     have A24 := My.am A240
     clear A240
     by_cases c25 : t306 = true
     ·subst c25
      rw [if_pos rfl] at H
      have H' := My.am H
      clear H
      have p303 : 0 ≤ (x11_2 : Int) := My.as_
      have q303 : x11_2 < (l3.length : Int) := My.as_
      obtain ⟨ad303, A303_3, c303_3, e303, hx303_0, hx303_1, hx303_2, hx303_3, hx303_4, hx303_5, hl303_3, hi303_3⟩ := at_T37 (Kd.V_reads' HO_3.out).2.2 x11_2 p303 q303
      cases e303
      obtain ⟨ce303, hce303, hMe303, hcc303⟩ := Kd.V_get HO_3.out z37 x11_2 p303 (by first | exact q303 | exact My.as_ | (have e_ := (Kd.V_reads' HO_3.out).1; omega))
      obtain ⟨ua303_3, uc303_3, rfl, ul303_3, ge303_3⟩ := k37_openF hMe303
      have hv303_3 := hcc303 3 _ rfl
      rw [add_field _ _ 3 (by omega)] at hv303_3
      replace hv303_3 := Option.some.inj (hv303_3.symm.trans hx303_3)
      injection hv303_3 with hva_ hvn_ hvc_
      rw [hva_] at ge303_3
      rw [hvc_] at ul303_3
      have HL303_3 := My.am (show Kd.V k62 62 _ w.heap.size _ _ ((rd_T37 l3 x11_2).f1.f2) from Kd.V_mk ul303_3 ge303_3)
      clear hva_ hvn_ hvc_ ge303_3 ul303_3
      clear hcc303 hce303
      have HR303_3 := My.am hi303_3
      have HC303_3 := My.am hl303_3
      clear hi303_3 hl303_3
      replace p303 := eq_true p303
      replace q303 := eq_true q303
      go_wp2_with (first | ((with_reducible refine gate_callee (f := 29) rfl ?_); refine goesL_ (some 42) rfl rfl Try.func29 (by kernel_rfl) rfl #[.agg #[.int .i64 ((rd_T37 l3 x11_2).f0), .int .i64 ((rd_T37 l3 x11_2).f1.f0), .int .i64 ((rd_T37 l3 x11_2).f1.f1), .slice A303_3 ((rd_T37 l3 x11_2).f1.f2).length c303_3, .string ((rd_T37 l3 x11_2).f2), .int .i64 ((rd_T37 l3 x11_2).f3)]] rfl My.gx ?_; (with_reducible refine (ententeref13_Check.calls k2 ((rd_T37 l3 x11_2).f0) ((rd_T37 l3 x11_2).f1.f0) ((rd_T37 l3 x11_2).f1.f1) _ _ ((rd_T37 l3 x11_2).f1.f2) ((rd_T37 l3 x11_2).f2) ((rd_T37 l3 x11_2).f3) t304 _ ?side1 ?side2 A22.out).mono ?_); (case side1 => repeat (first | exact (by repeat (first | (with_reducible exact HR303_3.out) | (with_reducible refine Kd.C_alloc ?_ _) | (with_reducible refine Kd.C_drewN ?_ _) | (with_reducible refine Kd.C_drew ?_) | exact HR303_3.out)) | (with_reducible refine Kd.C_alloc ?_ _) | (with_reducible refine Kd.C_drewN ?_ _) | (with_reducible refine Kd.C_drew ?_))); (case side2 => exact HC303_3.out); rintro e w26 ⟨rfl, hb⟩; refine ⟨_, rfl, ?_⟩; replace HO_3 := My.am (Kd.V_below (My.dV HO_3.out) hb); replace HO_10 := My.am (Kd.N_below (by (with_reducible repeat (first | apply Kd.N_alloc | apply Kd.N_drewN | apply Kd.N_drew)); exact HO_10.out) hb); replace HL303_3 := My.am (Kd.V_below (My.dV HL303_3.out) hb); replace HR303_3 := My.am (Kd.C_below (by repeat (first | (with_reducible exact HR303_3.out) | (with_reducible refine Kd.C_alloc ?_ _) | (with_reducible refine Kd.C_drewN ?_ _) | (with_reducible refine Kd.C_drew ?_) | exact HR303_3.out)) hb); replace HB := My.st HB hb; (try clear hb); have p305 : 0 ≤ (x11_2 : Int) := My.as_; have q305 : x11_2 < (l3.length : Int) := My.as_; obtain ⟨ad305, A305_3, c305_3, e305, hx305_0, hx305_1, hx305_2, hx305_3, hx305_4, hx305_5, hl305_3, hi305_3⟩ := at_T37 (Kd.V_reads' HO_3.out).2.2 x11_2 p305 q305; obtain rfl : ad303 = ad305 := (by injection e305); obtain ⟨ce305, hce305, hMe305, hcc305⟩ := Kd.V_get HO_3.out z37 x11_2 p305 (by first | exact q305 | exact My.as_ | (have e_ := (Kd.V_reads' HO_3.out).1; omega)); obtain ⟨ua305_3, uc305_3, rfl, ul305_3, ge305_3⟩ := k37_openF hMe305; have hv305_3 := hcc305 3 _ rfl; rw [add_field _ _ 3 (by omega)] at hv305_3; replace hv305_3 := Option.some.inj (hv305_3.symm.trans hx305_3); injection hv305_3 with hva_ hvn_ hvc_; rw [hva_] at ge305_3; rw [hvc_] at ul305_3; have HL305_3 := My.am (show Kd.V k62 62 _ w.heap.size _ _ ((rd_T37 l3 x11_2).f1.f2) from Kd.V_mk ul305_3 ge305_3); clear hva_ hvn_ hvc_ ge305_3 ul305_3; clear hcc305 hce305; have HR305_3 := My.am hi305_3; have HC305_3 := My.am hl305_3; clear hi305_3 hl305_3; replace p305 := eq_true p305; replace q305 := eq_true q305; obtain ⟨Ao27, co27, eo27⟩ := Kd.N_slice HO_10.out; subst eo27) | ((with_reducible refine gate_callee (f := 30) rfl ?_); refine goesL_ (some 49) rfl rfl Try.func30 (by kernel_rfl) rfl #[.slice Ao27 x10_2.length co27, .agg #[.int .i64 ((rd_T37 l3 x11_2).f0), .int .i64 ((rd_T37 l3 x11_2).f1.f0), .int .i64 ((rd_T37 l3 x11_2).f1.f1), .slice A305_3 ((rd_T37 l3 x11_2).f1.f2).length c305_3, .string ((rd_T37 l3 x11_2).f2), .int .i64 ((rd_T37 l3 x11_2).f3)]] rfl My.gx ?_; (with_reducible refine (ententeref19_among.calls k2 _ _ x10_2 ((rd_T37 l3 x11_2).f0) ((rd_T37 l3 x11_2).f1.f0) ((rd_T37 l3 x11_2).f1.f1) _ _ ((rd_T37 l3 x11_2).f1.f2) ((rd_T37 l3 x11_2).f2) ((rd_T37 l3 x11_2).f3) true _ ?side1 ?side2 ?side3 ?side4 A24.out).mono ?_); (case side1 => repeat (first | exact (Kd.N_reads' HO_10.out).2.2 | (with_reducible refine Kd.C_alloc ?_ _) | (with_reducible refine Kd.C_drewN ?_ _) | (with_reducible refine Kd.C_drew ?_))); (case side2 => exact (Kd.N_reads' HO_10.out).2.1); (case side3 => repeat (first | exact (by repeat (first | (with_reducible exact HR305_3.out) | (with_reducible refine Kd.C_alloc ?_ _) | (with_reducible refine Kd.C_drewN ?_ _) | (with_reducible refine Kd.C_drew ?_) | exact HR305_3.out)) | (with_reducible refine Kd.C_alloc ?_ _) | (with_reducible refine Kd.C_drewN ?_ _) | (with_reducible refine Kd.C_drew ?_))); (case side4 => exact HC305_3.out); rintro e w28 ⟨rfl, hb⟩; refine ⟨_, rfl, ?_⟩; replace HO_3 := My.am (Kd.V_below (My.dV HO_3.out) hb); replace HO_10 := My.am (Kd.N_below (by (with_reducible repeat (first | apply Kd.N_alloc | apply Kd.N_drewN | apply Kd.N_drew)); exact HO_10.out) hb); replace HL303_3 := My.am (Kd.V_below (My.dV HL303_3.out) hb); replace HL305_3 := My.am (Kd.V_below (My.dV HL305_3.out) hb); replace HR303_3 := My.am (Kd.C_below (by repeat (first | (with_reducible exact HR303_3.out) | (with_reducible refine Kd.C_alloc ?_ _) | (with_reducible refine Kd.C_drewN ?_ _) | (with_reducible refine Kd.C_drew ?_) | exact HR303_3.out)) hb); replace HR305_3 := My.am (Kd.C_below (by repeat (first | (with_reducible exact HR305_3.out) | (with_reducible refine Kd.C_alloc ?_ _) | (with_reducible refine Kd.C_drewN ?_ _) | (with_reducible refine Kd.C_drew ?_) | exact HR305_3.out)) hb); replace HB := My.st HB hb; (try clear hb)))
      go_roundg k2
      case measure => have := HJ4.out; have := HK2.out; omega
      case rel => exact ⟨(x10_2), (wrap64 (x11_2 + 1)), My.r1, H', ⟨by have := HJ4.out; have := HK2.out; omega⟩, ⟨My.dV HO_3.out⟩, ⟨by (with_reducible repeat (first | apply Kd.N_alloc | apply Kd.N_drewN | apply Kd.N_drew)); exact HO_10.out⟩, ⟨(My.bl_ HB)⟩⟩
     replace c25 := Bool.eq_false_iff.mpr c25
     subst c25
     rw [if_neg (show ¬ (false = true) by decide)] at H
     by_cases c29 : (x10_2.length : Int) = 12
     ·rw [if_pos c29] at H
      have c29b0 : ((x10_2.length : Int) == 12) = true := beq_iff_eq.mpr c29
      have c29b1 : ((x10_2.length : Int) != 12) = false := bne_eq_false_iff_eq.mpr c29
      clear c29
      simp only [Option.some.injEq, Prod.mk.injEq] at H
      obtain ⟨rfl, rfl⟩ := H
      have p303 : 0 ≤ (x11_2 : Int) := My.as_
      have q303 : x11_2 < (l3.length : Int) := My.as_
      obtain ⟨ad303, A303_3, c303_3, e303, hx303_0, hx303_1, hx303_2, hx303_3, hx303_4, hx303_5, hl303_3, hi303_3⟩ := at_T37 (Kd.V_reads' HO_3.out).2.2 x11_2 p303 q303
      cases e303
      obtain ⟨ce303, hce303, hMe303, hcc303⟩ := Kd.V_get HO_3.out z37 x11_2 p303 (by first | exact q303 | exact My.as_ | (have e_ := (Kd.V_reads' HO_3.out).1; omega))
      obtain ⟨ua303_3, uc303_3, rfl, ul303_3, ge303_3⟩ := k37_openF hMe303
      have hv303_3 := hcc303 3 _ rfl
      rw [add_field _ _ 3 (by omega)] at hv303_3
      replace hv303_3 := Option.some.inj (hv303_3.symm.trans hx303_3)
      injection hv303_3 with hva_ hvn_ hvc_
      rw [hva_] at ge303_3
      rw [hvc_] at ul303_3
      have HL303_3 := My.am (show Kd.V k62 62 _ w.heap.size _ _ ((rd_T37 l3 x11_2).f1.f2) from Kd.V_mk ul303_3 ge303_3)
      clear hva_ hvn_ hvc_ ge303_3 ul303_3
      clear hcc303 hce303
      have HR303_3 := My.am hi303_3
      have HC303_3 := My.am hl303_3
      clear hi303_3 hl303_3
      replace p303 := eq_true p303
      replace q303 := eq_true q303
      go_wp2_with (first | ((with_reducible refine gate_callee (f := 29) rfl ?_); refine goesL_ (some 42) rfl rfl Try.func29 (by kernel_rfl) rfl #[.agg #[.int .i64 ((rd_T37 l3 x11_2).f0), .int .i64 ((rd_T37 l3 x11_2).f1.f0), .int .i64 ((rd_T37 l3 x11_2).f1.f1), .slice A303_3 ((rd_T37 l3 x11_2).f1.f2).length c303_3, .string ((rd_T37 l3 x11_2).f2), .int .i64 ((rd_T37 l3 x11_2).f3)]] rfl My.gx ?_; (with_reducible refine (ententeref13_Check.calls k2 ((rd_T37 l3 x11_2).f0) ((rd_T37 l3 x11_2).f1.f0) ((rd_T37 l3 x11_2).f1.f1) _ _ ((rd_T37 l3 x11_2).f1.f2) ((rd_T37 l3 x11_2).f2) ((rd_T37 l3 x11_2).f3) t304 _ ?side1 ?side2 A22.out).mono ?_); (case side1 => repeat (first | exact (by repeat (first | (with_reducible exact HR303_3.out) | (with_reducible refine Kd.C_alloc ?_ _) | (with_reducible refine Kd.C_drewN ?_ _) | (with_reducible refine Kd.C_drew ?_) | exact HR303_3.out)) | (with_reducible refine Kd.C_alloc ?_ _) | (with_reducible refine Kd.C_drewN ?_ _) | (with_reducible refine Kd.C_drew ?_))); (case side2 => exact HC303_3.out); rintro e w30 ⟨rfl, hb⟩; refine ⟨_, rfl, ?_⟩; replace HO_3 := My.am (Kd.V_below (My.dV HO_3.out) hb); replace HO_10 := My.am (Kd.N_below (by (with_reducible repeat (first | apply Kd.N_alloc | apply Kd.N_drewN | apply Kd.N_drew)); exact HO_10.out) hb); replace HL303_3 := My.am (Kd.V_below (My.dV HL303_3.out) hb); replace HR303_3 := My.am (Kd.C_below (by repeat (first | (with_reducible exact HR303_3.out) | (with_reducible refine Kd.C_alloc ?_ _) | (with_reducible refine Kd.C_drewN ?_ _) | (with_reducible refine Kd.C_drew ?_) | exact HR303_3.out)) hb); replace HB := My.st HB hb; (try clear hb); have p305 : 0 ≤ (x11_2 : Int) := My.as_; have q305 : x11_2 < (l3.length : Int) := My.as_; obtain ⟨ad305, A305_3, c305_3, e305, hx305_0, hx305_1, hx305_2, hx305_3, hx305_4, hx305_5, hl305_3, hi305_3⟩ := at_T37 (Kd.V_reads' HO_3.out).2.2 x11_2 p305 q305; obtain rfl : ad303 = ad305 := (by injection e305); obtain ⟨ce305, hce305, hMe305, hcc305⟩ := Kd.V_get HO_3.out z37 x11_2 p305 (by first | exact q305 | exact My.as_ | (have e_ := (Kd.V_reads' HO_3.out).1; omega)); obtain ⟨ua305_3, uc305_3, rfl, ul305_3, ge305_3⟩ := k37_openF hMe305; have hv305_3 := hcc305 3 _ rfl; rw [add_field _ _ 3 (by omega)] at hv305_3; replace hv305_3 := Option.some.inj (hv305_3.symm.trans hx305_3); injection hv305_3 with hva_ hvn_ hvc_; rw [hva_] at ge305_3; rw [hvc_] at ul305_3; have HL305_3 := My.am (show Kd.V k62 62 _ w.heap.size _ _ ((rd_T37 l3 x11_2).f1.f2) from Kd.V_mk ul305_3 ge305_3); clear hva_ hvn_ hvc_ ge305_3 ul305_3; clear hcc305 hce305; have HR305_3 := My.am hi305_3; have HC305_3 := My.am hl305_3; clear hi305_3 hl305_3; replace p305 := eq_true p305; replace q305 := eq_true q305; obtain ⟨Ao31, co31, eo31⟩ := Kd.N_slice HO_10.out; subst eo31) | ((with_reducible refine gate_callee (f := 30) rfl ?_); refine goesL_ (some 49) rfl rfl Try.func30 (by kernel_rfl) rfl #[.slice Ao31 x10_2.length co31, .agg #[.int .i64 ((rd_T37 l3 x11_2).f0), .int .i64 ((rd_T37 l3 x11_2).f1.f0), .int .i64 ((rd_T37 l3 x11_2).f1.f1), .slice A305_3 ((rd_T37 l3 x11_2).f1.f2).length c305_3, .string ((rd_T37 l3 x11_2).f2), .int .i64 ((rd_T37 l3 x11_2).f3)]] rfl My.gx ?_; (with_reducible refine (ententeref19_among.calls k2 _ _ x10_2 ((rd_T37 l3 x11_2).f0) ((rd_T37 l3 x11_2).f1.f0) ((rd_T37 l3 x11_2).f1.f1) _ _ ((rd_T37 l3 x11_2).f1.f2) ((rd_T37 l3 x11_2).f2) ((rd_T37 l3 x11_2).f3) false _ ?side1 ?side2 ?side3 ?side4 A24.out).mono ?_); (case side1 => repeat (first | exact (Kd.N_reads' HO_10.out).2.2 | (with_reducible refine Kd.C_alloc ?_ _) | (with_reducible refine Kd.C_drewN ?_ _) | (with_reducible refine Kd.C_drew ?_))); (case side2 => exact (Kd.N_reads' HO_10.out).2.1); (case side3 => repeat (first | exact (by repeat (first | (with_reducible exact HR305_3.out) | (with_reducible refine Kd.C_alloc ?_ _) | (with_reducible refine Kd.C_drewN ?_ _) | (with_reducible refine Kd.C_drew ?_) | exact HR305_3.out)) | (with_reducible refine Kd.C_alloc ?_ _) | (with_reducible refine Kd.C_drewN ?_ _) | (with_reducible refine Kd.C_drew ?_))); (case side4 => exact HC305_3.out); rintro e w32 ⟨rfl, hb⟩; refine ⟨_, rfl, ?_⟩; replace HO_3 := My.am (Kd.V_below (My.dV HO_3.out) hb); replace HO_10 := My.am (Kd.N_below (by (with_reducible repeat (first | apply Kd.N_alloc | apply Kd.N_drewN | apply Kd.N_drew)); exact HO_10.out) hb); replace HL303_3 := My.am (Kd.V_below (My.dV HL303_3.out) hb); replace HL305_3 := My.am (Kd.V_below (My.dV HL305_3.out) hb); replace HR303_3 := My.am (Kd.C_below (by repeat (first | (with_reducible exact HR303_3.out) | (with_reducible refine Kd.C_alloc ?_ _) | (with_reducible refine Kd.C_drewN ?_ _) | (with_reducible refine Kd.C_drew ?_) | exact HR303_3.out)) hb); replace HR305_3 := My.am (Kd.C_below (by repeat (first | (with_reducible exact HR305_3.out) | (with_reducible refine Kd.C_alloc ?_ _) | (with_reducible refine Kd.C_drewN ?_ _) | (with_reducible refine Kd.C_drew ?_) | exact HR305_3.out)) hb); replace HB := My.st HB hb; (try clear hb)))
      go_ret2
      exact ⟨_, My.r2, by first | exact Kd.S_nil _ _ _ _ _ | exact Kd.N_nil _ _ _ _ _ | exact Kd.V_nil _ _ _ _ _ | exact Kd.Q_nil _ _ _ _ _ | exact Kd.R_nil _ _ _ _ _, (My.bl_ HB)⟩
     rw [if_neg c29] at H
     have c29b0 : ((x10_2.length : Int) == 12) = false := beq_eq_false_iff_ne.mpr c29
     have c29b1 : ((x10_2.length : Int) != 12) = true := bne_iff_ne.mpr c29
     have HC33 := My.am H
     clear H
     have p303 : 0 ≤ (x11_2 : Int) := My.as_
     have q303 : x11_2 < (l3.length : Int) := My.as_
     obtain ⟨ad303, A303_3, c303_3, e303, hx303_0, hx303_1, hx303_2, hx303_3, hx303_4, hx303_5, hl303_3, hi303_3⟩ := at_T37 (Kd.V_reads' HO_3.out).2.2 x11_2 p303 q303
     cases e303
     obtain ⟨ce303, hce303, hMe303, hcc303⟩ := Kd.V_get HO_3.out z37 x11_2 p303 (by first | exact q303 | exact My.as_ | (have e_ := (Kd.V_reads' HO_3.out).1; omega))
     obtain ⟨ua303_3, uc303_3, rfl, ul303_3, ge303_3⟩ := k37_openF hMe303
     have hv303_3 := hcc303 3 _ rfl
     rw [add_field _ _ 3 (by omega)] at hv303_3
     replace hv303_3 := Option.some.inj (hv303_3.symm.trans hx303_3)
     injection hv303_3 with hva_ hvn_ hvc_
     rw [hva_] at ge303_3
     rw [hvc_] at ul303_3
     have HL303_3 := My.am (show Kd.V k62 62 _ w.heap.size _ _ ((rd_T37 l3 x11_2).f1.f2) from Kd.V_mk ul303_3 ge303_3)
     clear hva_ hvn_ hvc_ ge303_3 ul303_3
     clear hcc303 hce303
     have HR303_3 := My.am hi303_3
     have HC303_3 := My.am hl303_3
     clear hi303_3 hl303_3
     replace p303 := eq_true p303
     replace q303 := eq_true q303
     go_upto_region 13 with (first | ((with_reducible refine gate_callee (f := 29) rfl ?_); refine goesL_ (some 42) rfl rfl Try.func29 (by kernel_rfl) rfl #[.agg #[.int .i64 ((rd_T37 l3 x11_2).f0), .int .i64 ((rd_T37 l3 x11_2).f1.f0), .int .i64 ((rd_T37 l3 x11_2).f1.f1), .slice A303_3 ((rd_T37 l3 x11_2).f1.f2).length c303_3, .string ((rd_T37 l3 x11_2).f2), .int .i64 ((rd_T37 l3 x11_2).f3)]] rfl My.gx ?_; (with_reducible refine (ententeref13_Check.calls k2 ((rd_T37 l3 x11_2).f0) ((rd_T37 l3 x11_2).f1.f0) ((rd_T37 l3 x11_2).f1.f1) _ _ ((rd_T37 l3 x11_2).f1.f2) ((rd_T37 l3 x11_2).f2) ((rd_T37 l3 x11_2).f3) t304 _ ?side1 ?side2 A22.out).mono ?_); (case side1 => repeat (first | exact (by repeat (first | (with_reducible exact HR303_3.out) | (with_reducible refine Kd.C_alloc ?_ _) | (with_reducible refine Kd.C_drewN ?_ _) | (with_reducible refine Kd.C_drew ?_) | exact HR303_3.out)) | (with_reducible refine Kd.C_alloc ?_ _) | (with_reducible refine Kd.C_drewN ?_ _) | (with_reducible refine Kd.C_drew ?_))); (case side2 => exact HC303_3.out); rintro e w34 ⟨rfl, hb⟩; refine ⟨_, rfl, ?_⟩; replace HO_3 := My.am (Kd.V_below (My.dV HO_3.out) hb); replace HO_10 := My.am (Kd.N_below (by (with_reducible repeat (first | apply Kd.N_alloc | apply Kd.N_drewN | apply Kd.N_drew)); exact HO_10.out) hb); replace HL303_3 := My.am (Kd.V_below (My.dV HL303_3.out) hb); replace HR303_3 := My.am (Kd.C_below (by repeat (first | (with_reducible exact HR303_3.out) | (with_reducible refine Kd.C_alloc ?_ _) | (with_reducible refine Kd.C_drewN ?_ _) | (with_reducible refine Kd.C_drew ?_) | exact HR303_3.out)) hb); replace HB := My.st HB hb; (try clear hb); have p305 : 0 ≤ (x11_2 : Int) := My.as_; have q305 : x11_2 < (l3.length : Int) := My.as_; obtain ⟨ad305, A305_3, c305_3, e305, hx305_0, hx305_1, hx305_2, hx305_3, hx305_4, hx305_5, hl305_3, hi305_3⟩ := at_T37 (Kd.V_reads' HO_3.out).2.2 x11_2 p305 q305; obtain rfl : ad303 = ad305 := (by injection e305); obtain ⟨ce305, hce305, hMe305, hcc305⟩ := Kd.V_get HO_3.out z37 x11_2 p305 (by first | exact q305 | exact My.as_ | (have e_ := (Kd.V_reads' HO_3.out).1; omega)); obtain ⟨ua305_3, uc305_3, rfl, ul305_3, ge305_3⟩ := k37_openF hMe305; have hv305_3 := hcc305 3 _ rfl; rw [add_field _ _ 3 (by omega)] at hv305_3; replace hv305_3 := Option.some.inj (hv305_3.symm.trans hx305_3); injection hv305_3 with hva_ hvn_ hvc_; rw [hva_] at ge305_3; rw [hvc_] at ul305_3; have HL305_3 := My.am (show Kd.V k62 62 _ w.heap.size _ _ ((rd_T37 l3 x11_2).f1.f2) from Kd.V_mk ul305_3 ge305_3); clear hva_ hvn_ hvc_ ge305_3 ul305_3; clear hcc305 hce305; have HR305_3 := My.am hi305_3; have HC305_3 := My.am hl305_3; clear hi305_3 hl305_3; replace p305 := eq_true p305; replace q305 := eq_true q305; obtain ⟨Ao35, co35, eo35⟩ := Kd.N_slice HO_10.out; subst eo35) | ((with_reducible refine gate_callee (f := 30) rfl ?_); refine goesL_ (some 49) rfl rfl Try.func30 (by kernel_rfl) rfl #[.slice Ao35 x10_2.length co35, .agg #[.int .i64 ((rd_T37 l3 x11_2).f0), .int .i64 ((rd_T37 l3 x11_2).f1.f0), .int .i64 ((rd_T37 l3 x11_2).f1.f1), .slice A305_3 ((rd_T37 l3 x11_2).f1.f2).length c305_3, .string ((rd_T37 l3 x11_2).f2), .int .i64 ((rd_T37 l3 x11_2).f3)]] rfl My.gx ?_; (with_reducible refine (ententeref19_among.calls k2 _ _ x10_2 ((rd_T37 l3 x11_2).f0) ((rd_T37 l3 x11_2).f1.f0) ((rd_T37 l3 x11_2).f1.f1) _ _ ((rd_T37 l3 x11_2).f1.f2) ((rd_T37 l3 x11_2).f2) ((rd_T37 l3 x11_2).f3) false _ ?side1 ?side2 ?side3 ?side4 A24.out).mono ?_); (case side1 => repeat (first | exact (Kd.N_reads' HO_10.out).2.2 | (with_reducible refine Kd.C_alloc ?_ _) | (with_reducible refine Kd.C_drewN ?_ _) | (with_reducible refine Kd.C_drew ?_))); (case side2 => exact (Kd.N_reads' HO_10.out).2.1); (case side3 => repeat (first | exact (by repeat (first | (with_reducible exact HR305_3.out) | (with_reducible refine Kd.C_alloc ?_ _) | (with_reducible refine Kd.C_drewN ?_ _) | (with_reducible refine Kd.C_drew ?_) | exact HR305_3.out)) | (with_reducible refine Kd.C_alloc ?_ _) | (with_reducible refine Kd.C_drewN ?_ _) | (with_reducible refine Kd.C_drew ?_))); (case side4 => exact HC305_3.out); rintro e w36 ⟨rfl, hb⟩; refine ⟨_, rfl, ?_⟩; replace HO_3 := My.am (Kd.V_below (My.dV HO_3.out) hb); replace HO_10 := My.am (Kd.N_below (by (with_reducible repeat (first | apply Kd.N_alloc | apply Kd.N_drewN | apply Kd.N_drew)); exact HO_10.out) hb); replace HL303_3 := My.am (Kd.V_below (My.dV HL303_3.out) hb); replace HL305_3 := My.am (Kd.V_below (My.dV HL305_3.out) hb); replace HR303_3 := My.am (Kd.C_below (by repeat (first | (with_reducible exact HR303_3.out) | (with_reducible refine Kd.C_alloc ?_ _) | (with_reducible refine Kd.C_drewN ?_ _) | (with_reducible refine Kd.C_drew ?_) | exact HR303_3.out)) hb); replace HR305_3 := My.am (Kd.C_below (by repeat (first | (with_reducible exact HR305_3.out) | (with_reducible refine Kd.C_alloc ?_ _) | (with_reducible refine Kd.C_drewN ?_ _) | (with_reducible refine Kd.C_drew ?_) | exact HR305_3.out)) hb); replace HB := My.st HB hb; (try clear hb)))
     (try simp only [Act.put, List.setIfInBounds_toArray, List.set_cons_zero, List.set_cons_succ])
     go_cut [67] (fun v67 wc => ∃ (kq : Nat) (x67_32 : Bool), v67 = .bool x67_32 ∧ Aside0 (ententeref19_Push.j2 kq a1 a2 l3 x10_2 x11_2 a1 x67_32 = some (r1, r2)) ∧ Aside0 (kq ≤ k2) ∧ Aside0 (Kd.V k37 37 wc w.heap.size (fun k_ => ((P0_ k_ ∨ P3_ k_) ∨ w.heap.size ≤ k_) ∧ some k_ ≠ ((.slice Ao35 x10_2.length co35) : Value).ownBlock) (.slice (some ad303) l3.length c3) l3) ∧ Aside0 (Kd.N k46 46 wc w.heap.size (fun k_ => ((P0_ k_ ∨ P3_ k_) ∨ w.heap.size ≤ k_)) (.slice Ao35 x10_2.length co35) x10_2) ∧ Aside0 (Kd.C k62 wc A303_3 ((rd_T37 l3 x11_2).f1.f2).length ((rd_T37 l3 x11_2).f1.f2)) ∧ Aside0 (Kd.C k62 wc A305_3 ((rd_T37 l3 x11_2).f1.f2).length ((rd_T37 l3 x11_2).f1.f2)) ∧ Aside0 (Below w.heap.size w wc))
     case first =>
      have H := HC33.out
      clear HC33
      by_cases c37 : (x10_2.length : Int) > 0
      rotate_left
      ·rw [if_neg c37] at H
       have c37b0 : decide (0 < (x10_2.length : Int)) = false := decide_eq_false c37
       have c37b1 : decide (0 < x10_2.length) = false := decide_eq_false (by omega)
       clear c37
       (first | rw [c37b0] | (simp only [i64_w, i32_w]; rw [c37b0]) | skip)
       have H' := My.am H
       clear H
       go_wp2
       go_meet
       case rel => exact ⟨_, (false), My.r1, H', ⟨by have := HJ4.out; have := HK2.out; first | omega | exact Nat.le_refl _⟩, ⟨My.dV HO_3.out⟩, ⟨by (with_reducible repeat (first | apply Kd.N_alloc | apply Kd.N_drewN | apply Kd.N_drew)); exact HO_10.out⟩, ⟨by repeat (first | (with_reducible exact HR303_3.out) | (with_reducible refine Kd.C_alloc ?_ _) | (with_reducible refine Kd.C_drewN ?_ _) | (with_reducible refine Kd.C_drew ?_) | exact HR303_3.out)⟩, ⟨by repeat (first | (with_reducible exact HR305_3.out) | (with_reducible refine Kd.C_alloc ?_ _) | (with_reducible refine Kd.C_drewN ?_ _) | (with_reducible refine Kd.C_drew ?_) | exact HR305_3.out)⟩, ⟨(My.bl_ HB)⟩⟩
      rw [if_pos c37] at H
      have c37b0 : decide (0 < (x10_2.length : Int)) = true := decide_eq_true c37
      have c37b1 : decide (0 < x10_2.length) = true := decide_eq_true (by omega)
      clear c37
      (first | rw [c37b0] | (simp only [i64_w, i32_w]; rw [c37b0]) | skip)
      obtain ⟨ji38, hji38⟩ : ∃ j_ : Int, (wrap64 ((x10_2.length : Int) - 1)) = j_ := ⟨_, rfl⟩
      replace H : (if 0 ≤ (ji38) then (if (ji38) < (x10_2.length : Int) then (ententeref19_Push.j2 k2 a1 a2 l3 x10_2 x11_2 a1 (decide (((rd_T46 x10_2 (ji38)).f0) ≥ a1))) else (none)) else (none)) = some (r1, r2) := by first | (rw [hji38] at H; exact H) | (simp only [hji38] at H ⊢; exact H)
      have hji38w : (IntKind.i64.wrap ((x10_2.length : Int) - 1)) = ji38 := (i64_w _).trans hji38
      replace H := My.ds H
      obtain ⟨c39b0, H⟩ := H
      replace H := My.ds H
      obtain ⟨c40b0, H⟩ := H
      have H' := My.am H
      clear H
      have p307 : 0 ≤ ((ji38) : Int) := My.as_
      have q307 : (ji38) < (x10_2.length : Int) := My.as_
      obtain ⟨ad307, A307_6, c307_6, e307, hx307_0, hx307_1, hx307_2, hx307_3, hx307_4, hx307_5, hx307_6, hx307_7, hx307_8, hl307_6, hi307_6⟩ := at_T46 (Kd.N_reads' HO_10.out).2.2 (ji38) p307 q307
      cases e307
      obtain ⟨ce307, hce307, hMe307, hcc307⟩ := Kd.N_get HO_10.out z46 (ji38) p307 (by first | exact q307 | exact My.as_ | (have e_ := (Kd.N_reads' HO_10.out).1; omega))
      obtain ⟨ua307_6, uc307_6, rfl, ul307_6, ge307_6⟩ := k46_openF hMe307
      have hv307_6 := hcc307 6 _ rfl
      rw [add_field _ _ 6 (by omega)] at hv307_6
      replace hv307_6 := Option.some.inj (hv307_6.symm.trans hx307_6)
      injection hv307_6 with hva_ hvn_ hvc_
      rw [hva_] at ge307_6
      rw [hvc_] at ul307_6
      have HL307_6 := My.am (show Kd.V k62 62 _ w.heap.size _ _ ((rd_T46 x10_2 (ji38)).f3.f1.f2) from Kd.V_mk ul307_6 ge307_6)
      clear hva_ hvn_ hvc_ ge307_6 ul307_6
      clear hcc307 hce307
      have HR307_6 := My.am hi307_6
      have HC307_6 := My.am hl307_6
      clear hi307_6 hl307_6
      replace p307 := eq_true p307
      replace q307 := eq_true q307
      go_wp2
      go_meet
      case rel => exact ⟨_, (decide (((rd_T46 x10_2 (ji38)).f0) ≥ a1)), (by first | rfl | (simp; done) | (simp only [← hji38] <;> (first | rfl | simp)) | (simp [*]; done)), H', ⟨by have := HJ4.out; have := HK2.out; first | omega | exact Nat.le_refl _⟩, ⟨My.dV HO_3.out⟩, ⟨by (with_reducible repeat (first | apply Kd.N_alloc | apply Kd.N_drewN | apply Kd.N_drew)); exact HO_10.out⟩, ⟨by repeat (first | (with_reducible exact HR303_3.out) | (with_reducible refine Kd.C_alloc ?_ _) | (with_reducible refine Kd.C_drewN ?_ _) | (with_reducible refine Kd.C_drew ?_) | exact HR303_3.out)⟩, ⟨by repeat (first | (with_reducible exact HR305_3.out) | (with_reducible refine Kd.C_alloc ?_ _) | (with_reducible refine Kd.C_drewN ?_ _) | (with_reducible refine Kd.C_drew ?_) | exact HR305_3.out)⟩, ⟨(My.bl_ HB)⟩⟩
     case rest =>
      clear HC33
      try clear c3
      try clear c15
      try clear c16
      try clear c20
      try clear c20b0
      try clear c21b0
      try clear c23
      try clear c23b0
      try clear c23b1
      try clear c25
      try clear c29
      try clear c29b0
      try clear c29b1
      try clear hx303_0
      try clear hx303_1
      try clear hx303_2
      try clear hx303_3
      try clear hx303_4
      try clear hx303_5
      try clear hx305_0
      try clear hx305_1
      try clear hx305_2
      try clear hx305_3
      try clear hx305_4
      try clear hx305_5
      try clear p303
      try clear p305
      try clear q303
      try clear q305
      obtain ⟨kq, x67_32, rfl, HA, HJ32, HO_3, HO_10, HR303_3, HR305_3, HB⟩ := hcut
      cases kq with
      | zero => exact absurd HA.out (by simp [ententeref19_Push.j2])
      | succ kj32 =>
       have H := HA.out
       clear HA
       simp only [ententeref19_Push.j2] at H
       by_cases c41 : x67_32 = true
       rotate_left
       ·replace c41 := Bool.eq_false_iff.mpr c41
        subst c41
        rw [if_neg (show ¬ (false = true) by decide)] at H
        by_cases c50 : a1 > 1000000000
        ·rw [if_pos c50] at H
         have c50b0 : decide (1000000000 < a1) = true := decide_eq_true c50
         clear c50
         simp only [Option.some.injEq, Prod.mk.injEq] at H
         obtain ⟨rfl, rfl⟩ := H
         go_wp2
         go_ret2
         exact ⟨_, My.r2, by first | exact Kd.S_nil _ _ _ _ _ | exact Kd.N_nil _ _ _ _ _ | exact Kd.V_nil _ _ _ _ _ | exact Kd.Q_nil _ _ _ _ _ | exact Kd.R_nil _ _ _ _ _, (My.bl_ HB)⟩
        rw [if_neg c50] at H
        have c50b0 : decide (1000000000 < a1) = false := decide_eq_false c50
        clear c50
        replace H := My.ds H
        obtain ⟨c51b0, H⟩ := H
        replace H := My.ds H
        obtain ⟨c52b0, H⟩ := H
        by_cases c53 : x10_2.length < 1466015503701
        rotate_left
        ·exact My.nn c53 H
        rw [if_pos c53] at H
        have LMc53 := My.am c53
        clear c53
        obtain ⟨y314, hy314⟩ : ∃ y_ : List (S46), y_ = (x10_2 ++ [(⟨a1, a2, 0, (⟨(rd_T37 l3 x11_2).f0, (⟨(rd_T37 l3 x11_2).f1.f0, (rd_T37 l3 x11_2).f1.f1, (rd_T37 l3 x11_2).f1.f2⟩ : S35), (rd_T37 l3 x11_2).f2, (rd_T37 l3 x11_2).f3⟩ : S37)⟩ : S46)]) := ⟨_, rfl⟩
        replace H : (ententeref19_Push.l0 kj32 a1 a2 l3 y314 (wrap64 (x11_2 + 1))) = some (r1, r2) := by first | (rw [hy314]; with_reducible exact H) | (have H2_ := (Option.bind_some _ _).symm.trans H; rw [hy314]; with_reducible exact H2_) | (have H2_ := (Option.bind_some _ _).symm.trans H; with_reducible exact H2_) | with_reducible exact H | (rw [hy314]; exact H) | exact H
        have Ny314 := My.am hy314
        clear hy314
        have H' := My.am H
        clear H
        have p313 : 0 ≤ (x11_2 : Int) := My.as_
        have q313 : x11_2 < (l3.length : Int) := My.as_
        obtain ⟨ad313, A313_3, c313_3, e313, hx313_0, hx313_1, hx313_2, hx313_3, hx313_4, hx313_5, hl313_3, hi313_3⟩ := at_T37 (Kd.V_reads' HO_3.out).2.2 x11_2 p313 q313
        obtain rfl : ad303 = ad313 := (by injection e313)
        obtain ⟨ce313, hce313, hMe313, hcc313⟩ := Kd.V_get HO_3.out z37 x11_2 p313 (by first | exact q313 | exact My.as_ | (have e_ := (Kd.V_reads' HO_3.out).1; omega))
        obtain ⟨ua313_3, uc313_3, rfl, ul313_3, ge313_3⟩ := k37_openF hMe313
        have hv313_3 := hcc313 3 _ rfl
        rw [add_field _ _ 3 (by omega)] at hv313_3
        replace hv313_3 := Option.some.inj (hv313_3.symm.trans hx313_3)
        injection hv313_3 with hva_ hvn_ hvc_
        rw [hva_] at ge313_3
        rw [hvc_] at ul313_3
        have HL313_3 := My.am (show Kd.V k62 62 _ w.heap.size _ _ ((rd_T37 l3 x11_2).f1.f2) from Kd.V_mk ul313_3 ge313_3)
        clear hva_ hvn_ hvc_ ge313_3 ul313_3
        clear hcc313 hce313
        have HR313_3 := My.am hi313_3
        have HC313_3 := My.am hl313_3
        clear hi313_3 hl313_3
        replace p313 := eq_true p313
        replace q313 := eq_true q313
        go_wp2_with (first | ((with_reducible refine gate_builtin (b := .append) (xs := #[.tmp 78, .tmp 86]) rfl ?_); (try (refine gate_guard (by rfl) ?_; dsimp only)); at_builtin; refine Kd.N_append k46 (w0 := w) w.heap.size rfl (.tmp 78) (.tmp 86) 22 46 (.agg #[(.int .i64 0), (.int .i64 0), (.int .i64 0), (.int .i64 0), (.int .i64 0), (.int .i64 0), (.slice none 0 0), (.string ⟨#[]⟩), (.int .i64 0)]) 96 rfl Try.underlying22 info46 rfl (by decide) (by omega) (.slice Ao35 x10_2.length co35) x10_2 (⟨a1, a2, 0, (⟨(rd_T37 l3 x11_2).f0, (⟨(rd_T37 l3 x11_2).f1.f0, (rd_T37 l3 x11_2).f1.f1, (rd_T37 l3 x11_2).f1.f2⟩ : S35), (rd_T37 l3 x11_2).f2, (rd_T37 l3 x11_2).f3⟩ : S37)⟩ : S46) [.int .i64 a1, .int .i64 a2, .int .i64 0, .int .i64 ((rd_T37 l3 x11_2).f0), .int .i64 ((rd_T37 l3 x11_2).f1.f0), .int .i64 ((rd_T37 l3 x11_2).f1.f1), .slice A313_3 ((rd_T37 l3 x11_2).f1.f2).length c313_3, .string ((rd_T37 l3 x11_2).f2), .int .i64 ((rd_T37 l3 x11_2).f3)] (fun k_ => ((P0_ k_ ∨ P3_ k_) ∨ w.heap.size ≤ k_)) (fun k_ => ((fun k_ => ((P0_ k_ ∨ P3_ k_) ∨ w.heap.size ≤ k_))) k_ ∧ some k_ ≠ (.slice Ao35 x10_2.length co35 : Value).ownBlock) rfl rfl ?aP (fun _ hk => hk) ?aF ?aO ?aB ?aS ?aL ?_; (case aP => exact (k46_mkF _ _ (⟨a1, a2, 0, (⟨(rd_T37 l3 x11_2).f0, (⟨(rd_T37 l3 x11_2).f1.f0, (rd_T37 l3 x11_2).f1.f1, (rd_T37 l3 x11_2).f1.f2⟩ : S35), (rd_T37 l3 x11_2).f2, (rd_T37 l3 x11_2).f3⟩ : S37)⟩ : S46) (Kd.V_reads' (Kd.V_mono (ok' := (fun k_ => ((fun k_ => ((P0_ k_ ∨ P3_ k_) ∨ w.heap.size ≤ k_))) k_ ∧ some k_ ≠ (.slice Ao35 x10_2.length co35 : Value).ownBlock)) (HL313_3.out) (fun k_ hk => ⟨hk.1, hk.2⟩))).2.1 (Kd.V_F (Kd.V_mono (ok' := (fun k_ => ((fun k_ => ((P0_ k_ ∨ P3_ k_) ∨ w.heap.size ≤ k_))) k_ ∧ some k_ ≠ (.slice Ao35 x10_2.length co35 : Value).ownBlock)) (HL313_3.out) (fun k_ hk => ⟨hk.1, hk.2⟩))))); (case aB => exact (My.bl_ HB)); (case aF => exact (fun k_ hk => (.inr (Nat.le_trans (below_size (My.bl_ HB)) hk)))); (case aO => exact (by (with_reducible repeat (first | apply Kd.N_alloc | apply Kd.N_drewN | apply Kd.N_drew)); exact HO_10.out)); (case aS => exact (below_size (My.bl_ HB))); (case aL => have := LMc53.out; omega); intro v315 w54 ho hb hg hat; rw [← Ny314.out] at ho; replace HO_3 := My.am (Kd.V_afterv (ok := (fun k_ => ((P0_ k_ ∨ P3_ k_) ∨ w.heap.size ≤ k_))) (My.dV HO_3.out) hg hat); replace HL313_3 := My.am (Kd.V_afterv (ok := (fun k_ => ((P0_ k_ ∨ P3_ k_) ∨ w.heap.size ≤ k_))) (My.dV HL313_3.out) hg hat); replace HB := My.am (hb); have HO316 := My.am (ho); (try clear HO_10); clear ho hb hg hat))
        go_roundg kj32
        case measure => have := HJ4.out; have := HK2.out; have := HJ32.out; omega
        case rel => exact ⟨(y314), (wrap64 (x11_2 + 1)), My.r1, H', ⟨by have := HJ4.out; have := HK2.out; have := HJ32.out; omega⟩, ⟨My.dV HO_3.out⟩, ⟨by (with_reducible repeat (first | apply Kd.N_alloc | apply Kd.N_drewN | apply Kd.N_drew)); exact HO316.out⟩, ⟨(My.bl_ HB)⟩⟩
       subst c41
       rw [if_pos rfl] at H
       obtain ⟨ji42, hji42⟩ : ∃ j_ : Int, (wrap64 ((x10_2.length : Int) - 1)) = j_ := ⟨_, rfl⟩
       replace H : (if 0 ≤ (ji42) then (if (ji42) < (x10_2.length : Int) then (if (wrap64 (((rd_T46 x10_2 (ji42)).f0) + 1)) > 1000000000 then (some (([] : List (S46)), 180)) else (if 0 ≤ x11_2 then (if x11_2 < (l3.length : Int) then (if x10_2.length < 1466015503701 then (ententeref19_Push.l0 kj32 a1 a2 l3 (x10_2 ++ [(⟨wrap64 (((rd_T46 x10_2 (ji42)).f0) + 1), a2, 0, (⟨(rd_T37 l3 x11_2).f0, (⟨(rd_T37 l3 x11_2).f1.f0, (rd_T37 l3 x11_2).f1.f1, (rd_T37 l3 x11_2).f1.f2⟩ : S35), (rd_T37 l3 x11_2).f2, (rd_T37 l3 x11_2).f3⟩ : S37)⟩ : S46)]) (wrap64 (x11_2 + 1))) else (none)) else (none)) else (none))) else (none)) else (none)) = some (r1, r2) := by first | (rw [hji42] at H; exact H) | (simp only [hji42] at H ⊢; exact H)
       have hji42w : (IntKind.i64.wrap ((x10_2.length : Int) - 1)) = ji42 := (i64_w _).trans hji42
       replace H := My.ds H
       obtain ⟨c43b0, H⟩ := H
       replace H := My.ds H
       obtain ⟨c44b0, H⟩ := H
       by_cases c45 : (wrap64 (((rd_T46 x10_2 (ji42)).f0) + 1)) > 1000000000
       ·rw [if_pos c45] at H
        have c45b0 : decide (1000000000 < (wrap64 (((rd_T46 x10_2 (ji42)).f0) + 1))) = true := decide_eq_true c45
        clear c45
        simp only [Option.some.injEq, Prod.mk.injEq] at H
        obtain ⟨rfl, rfl⟩ := H
        have p308 : 0 ≤ ((ji42) : Int) := My.as_
        have q308 : (ji42) < (x10_2.length : Int) := My.as_
        obtain ⟨ad308, A308_6, c308_6, e308, hx308_0, hx308_1, hx308_2, hx308_3, hx308_4, hx308_5, hx308_6, hx308_7, hx308_8, hl308_6, hi308_6⟩ := at_T46 (Kd.N_reads' HO_10.out).2.2 (ji42) p308 q308
        cases e308
        obtain ⟨ce308, hce308, hMe308, hcc308⟩ := Kd.N_get HO_10.out z46 (ji42) p308 (by first | exact q308 | exact My.as_ | (have e_ := (Kd.N_reads' HO_10.out).1; omega))
        obtain ⟨ua308_6, uc308_6, rfl, ul308_6, ge308_6⟩ := k46_openF hMe308
        have hv308_6 := hcc308 6 _ rfl
        rw [add_field _ _ 6 (by omega)] at hv308_6
        replace hv308_6 := Option.some.inj (hv308_6.symm.trans hx308_6)
        injection hv308_6 with hva_ hvn_ hvc_
        rw [hva_] at ge308_6
        rw [hvc_] at ul308_6
        have HL308_6 := My.am (show Kd.V k62 62 _ w.heap.size _ _ ((rd_T46 x10_2 (ji42)).f3.f1.f2) from Kd.V_mk ul308_6 ge308_6)
        clear hva_ hvn_ hvc_ ge308_6 ul308_6
        clear hcc308 hce308
        have HR308_6 := My.am hi308_6
        have HC308_6 := My.am hl308_6
        clear hi308_6 hl308_6
        replace p308 := eq_true p308
        replace q308 := eq_true q308
        go_wp2
        go_ret2
        exact ⟨_, by first | rfl | (simp [errW_none, errW_some] <;> rfl) | (simp only [← hji42]; first | rfl | (simp [errW_none, errW_some] <;> rfl)) | (simp [*, errW_none, errW_some] <;> rfl), by first | exact Kd.S_nil _ _ _ _ _ | exact Kd.N_nil _ _ _ _ _ | exact Kd.V_nil _ _ _ _ _ | exact Kd.Q_nil _ _ _ _ _ | exact Kd.R_nil _ _ _ _ _, (My.bl_ HB)⟩
       rw [if_neg c45] at H
       have c45b0 : decide (1000000000 < (wrap64 (((rd_T46 x10_2 (ji42)).f0) + 1))) = false := decide_eq_false c45
       clear c45
       replace H := My.ds H
       obtain ⟨c46b0, H⟩ := H
       replace H := My.ds H
       obtain ⟨c47b0, H⟩ := H
       by_cases c48 : x10_2.length < 1466015503701
       rotate_left
       ·exact My.nn c48 H
       rw [if_pos c48] at H
       have LMc48 := My.am c48
       clear c48
       obtain ⟨y310, hy310⟩ : ∃ y_ : List (S46), y_ = (x10_2 ++ [(⟨wrap64 (((rd_T46 x10_2 (ji42)).f0) + 1), a2, 0, (⟨(rd_T37 l3 x11_2).f0, (⟨(rd_T37 l3 x11_2).f1.f0, (rd_T37 l3 x11_2).f1.f1, (rd_T37 l3 x11_2).f1.f2⟩ : S35), (rd_T37 l3 x11_2).f2, (rd_T37 l3 x11_2).f3⟩ : S37)⟩ : S46)]) := ⟨_, rfl⟩
       replace H : (ententeref19_Push.l0 kj32 a1 a2 l3 y310 (wrap64 (x11_2 + 1))) = some (r1, r2) := by first | (rw [hy310]; with_reducible exact H) | (have H2_ := (Option.bind_some _ _).symm.trans H; rw [hy310]; with_reducible exact H2_) | (have H2_ := (Option.bind_some _ _).symm.trans H; with_reducible exact H2_) | with_reducible exact H | (rw [hy310]; exact H) | exact H
       have Ny310 := My.am hy310
       clear hy310
       have H' := My.am H
       clear H
       have p308 : 0 ≤ ((ji42) : Int) := My.as_
       have q308 : (ji42) < (x10_2.length : Int) := My.as_
       obtain ⟨ad308, A308_6, c308_6, e308, hx308_0, hx308_1, hx308_2, hx308_3, hx308_4, hx308_5, hx308_6, hx308_7, hx308_8, hl308_6, hi308_6⟩ := at_T46 (Kd.N_reads' HO_10.out).2.2 (ji42) p308 q308
       cases e308
       obtain ⟨ce308, hce308, hMe308, hcc308⟩ := Kd.N_get HO_10.out z46 (ji42) p308 (by first | exact q308 | exact My.as_ | (have e_ := (Kd.N_reads' HO_10.out).1; omega))
       obtain ⟨ua308_6, uc308_6, rfl, ul308_6, ge308_6⟩ := k46_openF hMe308
       have hv308_6 := hcc308 6 _ rfl
       rw [add_field _ _ 6 (by omega)] at hv308_6
       replace hv308_6 := Option.some.inj (hv308_6.symm.trans hx308_6)
       injection hv308_6 with hva_ hvn_ hvc_
       rw [hva_] at ge308_6
       rw [hvc_] at ul308_6
       have HL308_6 := My.am (show Kd.V k62 62 _ w.heap.size _ _ ((rd_T46 x10_2 (ji42)).f3.f1.f2) from Kd.V_mk ul308_6 ge308_6)
       clear hva_ hvn_ hvc_ ge308_6 ul308_6
       clear hcc308 hce308
       have HR308_6 := My.am hi308_6
       have HC308_6 := My.am hl308_6
       clear hi308_6 hl308_6
       replace p308 := eq_true p308
       replace q308 := eq_true q308
       have p309 : 0 ≤ (x11_2 : Int) := My.as_
       have q309 : x11_2 < (l3.length : Int) := My.as_
       obtain ⟨ad309, A309_3, c309_3, e309, hx309_0, hx309_1, hx309_2, hx309_3, hx309_4, hx309_5, hl309_3, hi309_3⟩ := at_T37 (Kd.V_reads' HO_3.out).2.2 x11_2 p309 q309
       obtain rfl : ad303 = ad309 := (by injection e309)
       obtain ⟨ce309, hce309, hMe309, hcc309⟩ := Kd.V_get HO_3.out z37 x11_2 p309 (by first | exact q309 | exact My.as_ | (have e_ := (Kd.V_reads' HO_3.out).1; omega))
       obtain ⟨ua309_3, uc309_3, rfl, ul309_3, ge309_3⟩ := k37_openF hMe309
       have hv309_3 := hcc309 3 _ rfl
       rw [add_field _ _ 3 (by omega)] at hv309_3
       replace hv309_3 := Option.some.inj (hv309_3.symm.trans hx309_3)
       injection hv309_3 with hva_ hvn_ hvc_
       rw [hva_] at ge309_3
       rw [hvc_] at ul309_3
       have HL309_3 := My.am (show Kd.V k62 62 _ w.heap.size _ _ ((rd_T37 l3 x11_2).f1.f2) from Kd.V_mk ul309_3 ge309_3)
       clear hva_ hvn_ hvc_ ge309_3 ul309_3
       clear hcc309 hce309
       have HR309_3 := My.am hi309_3
       have HC309_3 := My.am hl309_3
       clear hi309_3 hl309_3
       replace p309 := eq_true p309
       replace q309 := eq_true q309
       go_wp2_with (first | ((with_reducible refine gate_builtin (b := .append) (xs := #[.tmp 78, .tmp 86]) rfl ?_); (try (refine gate_guard (by rfl) ?_; dsimp only)); at_builtin; refine Kd.N_append k46 (w0 := w) w.heap.size rfl (.tmp 78) (.tmp 86) 22 46 (.agg #[(.int .i64 0), (.int .i64 0), (.int .i64 0), (.int .i64 0), (.int .i64 0), (.int .i64 0), (.slice none 0 0), (.string ⟨#[]⟩), (.int .i64 0)]) 96 rfl Try.underlying22 info46 rfl (by decide) (by omega) (.slice (some ad308) x10_2.length co35) x10_2 (⟨wrap64 (((rd_T46 x10_2 (ji42)).f0) + 1), a2, 0, (⟨(rd_T37 l3 x11_2).f0, (⟨(rd_T37 l3 x11_2).f1.f0, (rd_T37 l3 x11_2).f1.f1, (rd_T37 l3 x11_2).f1.f2⟩ : S35), (rd_T37 l3 x11_2).f2, (rd_T37 l3 x11_2).f3⟩ : S37)⟩ : S46) [.int .i64 (wrap64 (((rd_T46 x10_2 (ji42)).f0) + 1)), .int .i64 a2, .int .i64 0, .int .i64 ((rd_T37 l3 x11_2).f0), .int .i64 ((rd_T37 l3 x11_2).f1.f0), .int .i64 ((rd_T37 l3 x11_2).f1.f1), .slice A309_3 ((rd_T37 l3 x11_2).f1.f2).length c309_3, .string ((rd_T37 l3 x11_2).f2), .int .i64 ((rd_T37 l3 x11_2).f3)] (fun k_ => ((P0_ k_ ∨ P3_ k_) ∨ w.heap.size ≤ k_)) (fun k_ => ((fun k_ => ((P0_ k_ ∨ P3_ k_) ∨ w.heap.size ≤ k_))) k_ ∧ some k_ ≠ (.slice (some ad308) x10_2.length co35 : Value).ownBlock) rfl rfl ?aP (fun _ hk => hk) ?aF ?aO ?aB ?aS ?aL ?_; (case aP => exact (k46_mkF _ _ (⟨wrap64 (((rd_T46 x10_2 (ji42)).f0) + 1), a2, 0, (⟨(rd_T37 l3 x11_2).f0, (⟨(rd_T37 l3 x11_2).f1.f0, (rd_T37 l3 x11_2).f1.f1, (rd_T37 l3 x11_2).f1.f2⟩ : S35), (rd_T37 l3 x11_2).f2, (rd_T37 l3 x11_2).f3⟩ : S37)⟩ : S46) (Kd.V_reads' (Kd.V_mono (ok' := (fun k_ => ((fun k_ => ((P0_ k_ ∨ P3_ k_) ∨ w.heap.size ≤ k_))) k_ ∧ some k_ ≠ (.slice (some ad308) x10_2.length co35 : Value).ownBlock)) (HL309_3.out) (fun k_ hk => ⟨hk.1, hk.2⟩))).2.1 (Kd.V_F (Kd.V_mono (ok' := (fun k_ => ((fun k_ => ((P0_ k_ ∨ P3_ k_) ∨ w.heap.size ≤ k_))) k_ ∧ some k_ ≠ (.slice (some ad308) x10_2.length co35 : Value).ownBlock)) (HL309_3.out) (fun k_ hk => ⟨hk.1, hk.2⟩))))); (case aB => exact (My.bl_ HB)); (case aF => exact (fun k_ hk => (.inr (Nat.le_trans (below_size (My.bl_ HB)) hk)))); (case aO => exact (by (with_reducible repeat (first | apply Kd.N_alloc | apply Kd.N_drewN | apply Kd.N_drew)); exact HO_10.out)); (case aS => exact (below_size (My.bl_ HB))); (case aL => have := LMc48.out; omega); intro v311 w49 ho hb hg hat; rw [← Ny310.out] at ho; replace HO_3 := My.am (Kd.V_afterv (ok := (fun k_ => ((P0_ k_ ∨ P3_ k_) ∨ w.heap.size ≤ k_))) (My.dV HO_3.out) hg hat); replace HL308_6 := My.am (Kd.V_afterv (ok := (fun k_ => ((P0_ k_ ∨ P3_ k_) ∨ w.heap.size ≤ k_))) (My.dV HL308_6.out) hg hat); replace HL309_3 := My.am (Kd.V_afterv (ok := (fun k_ => ((P0_ k_ ∨ P3_ k_) ∨ w.heap.size ≤ k_))) (My.dV HL309_3.out) hg hat); replace HB := My.am (hb); have HO312 := My.am (ho); (try clear HO_10); clear ho hb hg hat))
       go_roundg kj32
       case measure => have := HJ4.out; have := HK2.out; have := HJ32.out; omega
       case rel => exact ⟨(y310), (wrap64 (x11_2 + 1)), My.r1, H', ⟨by have := HJ4.out; have := HK2.out; have := HJ32.out; omega⟩, ⟨My.dV HO_3.out⟩, ⟨by (with_reducible repeat (first | apply Kd.N_alloc | apply Kd.N_drewN | apply Kd.N_drew)); exact HO312.out⟩, ⟨(My.bl_ HB)⟩⟩
/-! ### ententeref19_Has: function 12 -/
def ententeref19_Has.f (k : Nat) (l0 : List (S46)) (a1_0 : Int) (a1_1 : Int) (a1_2 : Int) (l1_3 : List (S62)) (a1_4 : ByteArray) (a1_5 : Int) : Option (Bool) := (ententeref19_May.f k l0).bind fun t318 => (if t318 = 0 then ((ententeref19_among.f k l0 a1_0 a1_1 a1_2 l1_3 a1_4 a1_5).bind fun t319 => (some t319)) else (some false))
theorem ententeref19_Has.mono : ∀ a0 a1 a2 a3 a4 a5 a6 k, LeO (ententeref19_Has.f k a0 a1 a2 a3 a4 a5 a6) (ententeref19_Has.f (k + 1) a0 a1 a2 a3 a4 a5 a6) := by
 intro a0 a1 a2 a3 a4 a5 a6 k
 unfold ententeref19_Has.f
 repeat' (with_reducible first | exact ententeref19_May.mono _ _ | exact ententeref19_among.mono _ _ _ _ _ _ _ _ | exact LeO.refl _ | exact LeO.none _ | apply LeO.ite | refine LeO.bind ?_ (fun _ => ?_))
theorem ententeref19_Has.calls (k : Nat) (A0 : Option Addr) (c0 : Nat) (l0 : List (S46)) (a1_0 : Int) (a1_1 : Int) (a1_2 : Int) (A1_3 : Option Addr) (c1_3 : Nat) (l1_3 : List (S62)) (a1_4 : ByteArray) (a1_5 : Int) (r : Bool) (w : World) (hr0 : Kd.C k46 w A0 l0.length l0) (hc0 : l0.length ≤ c0) (hr1_3 : Kd.C k62 w A1_3 l1_3.length l1_3) (hc1_3 : l1_3.length ≤ c1_3) (h : ententeref19_Has.f k l0 a1_0 a1_1 a1_2 l1_3 a1_4 a1_5 = some r) :
  Calls Try.prog 12 #[.slice A0 l0.length c0, .agg #[.int .i64 a1_0, .int .i64 a1_1, .int .i64 a1_2, .slice A1_3 l1_3.length c1_3, .string a1_4, .int .i64 a1_5]] w fun e w' => e = .returned (.bool r) ∧ Below w.heap.size w w' := by
 have hu37 := Try.underlying37
 have HR0 := My.am hr0
 have HC0 := My.am hc0
 clear hr0 hc0
 have HR1_3 := My.am hr1_3
 have HC1_3 := My.am hc1_3
 clear hr1_3 hc1_3
 have HB := My.am (Below.refl w.heap.size w)
 unfold ententeref19_Has.f at h
 have H := h
 clear h
 replace H := Option.bind_eq_some_iff.mp H
 obtain ⟨t318, A30, H⟩ := H
 try dsimp only at H
 have A3 := My.am A30
 clear A30
 by_cases c4 : t318 = 0
 ·rw [if_pos c4] at H
  have c4b0 : (t318 == 0) = true := beq_iff_eq.mpr c4
  have c4b1 : (t318 != 0) = false := bne_eq_false_iff_eq.mpr c4
  clear c4
  replace H := Option.bind_eq_some_iff.mp H
  obtain ⟨t319, A50, H⟩ := H
  try dsimp only at H
  have A5 := My.am A50
  clear A50
  obtain rfl := Option.some.inj H
  go_enter Try.func12, Try.ntmps12
  go_wp2_with (first | ((with_reducible refine gate_dst (N := 3) rfl ?_); refine My.bx 3 #[.int .i64 a1_0, .int .i64 a1_1, .int .i64 a1_2, .slice A1_3 l1_3.length c1_3, .string a1_4, .int .i64 a1_5] 37 ?_; intro gb317 hg w6 hbox hb; have BK317 := My.am (hbox); have GE317 := My.nge hg (My.bl_ HB); replace HB := My.st HB hb; clear hb hbox hg) | ((with_reducible refine gate_callee (f := 14) rfl ?_); refine goesL_ (some 6) rfl rfl Try.func14 (by kernel_rfl) rfl #[.slice A0 l0.length c0] rfl My.gx ?_; (with_reducible refine (ententeref19_May.calls k _ _ l0 t318 _ ?side1 ?side2 A3.out).mono ?_); (case side1 => exact My.sd_ HR0 HB); (case side2 => exact HC0.out); rintro e w7 ⟨rfl, hb⟩; refine ⟨_, rfl, ?_⟩; replace BK317 := My.ab BK317 hb; replace HB := My.st HB hb; (try clear hb); have hq8 := My.cz6 BK317) | (go_at_call 30; (with_reducible refine (ententeref19_among.calls k _ _ l0 a1_0 a1_1 a1_2 _ _ l1_3 a1_4 a1_5 t319 _ ?side1 ?side2 ?side3 ?side4 A5.out).mono ?_); (case side1 => exact My.sd_ HR0 HB); (case side2 => exact HC0.out); (case side3 => exact My.sd_ HR1_3 HB); (case side4 => exact HC1_3.out); rintro e w9 ⟨rfl, hb⟩; replace HB := My.st HB hb; (try clear hb)))
  go_ret
  exact ⟨My.r2, (My.bl_ HB)⟩
 ·rw [if_neg c4] at H
  have c4b0 : (t318 == 0) = false := beq_eq_false_iff_ne.mpr c4
  have c4b1 : (t318 != 0) = true := bne_iff_ne.mpr c4
  obtain rfl := Option.some.inj H
  go_enter Try.func12, Try.ntmps12
  go_wp2_with (first | ((with_reducible refine gate_dst (N := 3) rfl ?_); refine My.bx 3 #[.int .i64 a1_0, .int .i64 a1_1, .int .i64 a1_2, .slice A1_3 l1_3.length c1_3, .string a1_4, .int .i64 a1_5] 37 ?_; intro gb317 hg w10 hbox hb; have GE317 := My.nge hg (My.bl_ HB); replace HB := My.st HB hb; clear hb hbox hg) | ((with_reducible refine gate_callee (f := 14) rfl ?_); refine goesL_ (some 6) rfl rfl Try.func14 (by kernel_rfl) rfl #[.slice A0 l0.length c0] rfl My.gx ?_; (with_reducible refine (ententeref19_May.calls k _ _ l0 t318 _ ?side1 ?side2 A3.out).mono ?_); (case side1 => exact My.sd_ HR0 HB); (case side2 => exact HC0.out); rintro e w11 ⟨rfl, hb⟩; refine ⟨_, rfl, ?_⟩; replace HB := My.st HB hb; (try clear hb)))
  go_ret
  exact ⟨My.r2, (My.bl_ HB)⟩

end Go.Proofs.Ytcgmoeiknkdljaa.PA
