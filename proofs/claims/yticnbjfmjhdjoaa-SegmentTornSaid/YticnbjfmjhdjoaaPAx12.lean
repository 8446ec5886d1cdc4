-- Written by a program of this session (wip/tools/mp.py over the kit's printer); Lean checks it.
import Derived.Test.YticnbjfmjhdjoaaPAx0
import Derived.Test.YticnbjfmjhdjoaaPAx1
import Derived.Test.YticnbjfmjhdjoaaPAx2
import Derived.Test.YticnbjfmjhdjoaaPAx5
import Derived.Test.YticnbjfmjhdjoaaPAx6
namespace Go.Proofs.Yticnbjfmjhdjoaa.PA
open Go.RowKit Go.Proofs.YticnbjfmjhdjoaaW.PrintWords Go.Proofs.YticnbjfmjhdjoaaW.PrintLast Go.Proofs.YticnbjfmjhdjoaaW.PrintMore
attribute [local go_sem] max2_int min2_int max_two min_two max_three min_three max_four min_four   -- for this text's walks alone
set_option linter.unusedVariables false
set_option linter.unusedSimpArgs false

/-! ### ententelaw16_SegmentTorn: function 6 -/
mutual
def ententelaw16_SegmentTorn.j0 : Nat → List ByteArray → ByteArray → Int → Bool → Option (Bool)
  | 0, _, _, _, _ => none
  | k + 1, x0, x1, x2, x27 => if x27 = true then ((ententelaw16_awake.f k).bind fun t348 => (some t348)) else ((segment_Next.f k x0).bind fun bt349 => ((segment_Begin.f k x1).bind fun bt351 => (if bt349.2 = 0 then (if bt351.2 = 0 then (if x2 < 1 then (ententelaw16_SegmentTorn.j1 k x0 x1 x2 bt349.1 bt351.1 true) else (ententelaw16_SegmentTorn.j1 k x0 x1 x2 bt349.1 bt351.1 (decide (x2 > (bt351.1.size : Int))))) else (ententelaw16_SegmentTorn.j1 k x0 x1 x2 bt349.1 bt351.1 true)) else (ententelaw16_SegmentTorn.j1 k x0 x1 x2 bt349.1 bt351.1 true))))
def ententelaw16_SegmentTorn.j1 : Nat → List ByteArray → ByteArray → Int → ByteArray → ByteArray → Bool → Option (Bool)
  | 0, _, _, _, _, _, _ => none
  | k + 1, x0, x1, x2, x7, x9, x54 => if x54 = true then ((ententelaw16_awake.f k).bind fun t353 => (some t353)) else (if 0 ≤ x2 then (if x2 ≤ (x9.size : Int) then ((segment_Look.f k (([(⟨1, x7, 0⟩ : S46), (⟨2, x9.extract 0 (x2 : Int).toNat, 0⟩ : S46)] : List (S46)))).bind fun bt359 => (if bt359.2.2.2.2 = 0 then (ententelaw16_SegmentTorn.j2 k x0 x1 x2 x7 x9 ((bt359.2.2.2.1.length : Int) != 1) bt359.1 bt359.2.1 bt359.2.2.1 bt359.2.2.2.1) else (ententelaw16_SegmentTorn.j2 k x0 x1 x2 x7 x9 true bt359.1 bt359.2.1 bt359.2.2.1 bt359.2.2.2.1))) else (none)) else (none))
def ententelaw16_SegmentTorn.j2 : Nat → List ByteArray → ByteArray → Int → ByteArray → ByteArray → Bool → Int → Int → List ByteArray → List Int → Option (Bool)
  | 0, _, _, _, _, _, _, _, _, _, _ => none
  | k + 1, x0, x1, x2, x7, x9, x76, x369000, x369001, x369002, x369003 => if x76 = true then (some false) else (if x2 < (x9.size : Int) then (if x369000 = 1 then (if x369001 = (x7.size : Int) then ((ententeref16_Same.f k x369002 x0).bind fun t369 => (if t369 = true then (if 0 < (x369003.length : Int) then (if (rd x369003 0) = 2 then ((ententelaw16_awake.f k).bind fun t371 => (some t371)) else (some false)) else (none)) else (some false))) else (some false)) else (some false)) else (if x369000 = 2 then (if x369001 = (x9.size : Int) then ((ententeref16_Same.f k x369002 (([x1] : List ByteArray))).bind fun t375 => (if t375 = true then (if 0 < (x369003.length : Int) then (if (rd x369003 0) = 1 then ((ententelaw16_awake.f k).bind fun t377 => (some t377)) else (some false)) else (none)) else (some false))) else (some false)) else (some false)))
end
def ententelaw16_SegmentTorn.f (k : Nat) (l0 : List ByteArray) (a1 : ByteArray) (a2 : Int) : Option (Bool) := (ententelaw01_Small.f k l0).bind fun t347 => (if t347 = true then (if (a1.size : Int) > 30000 then (ententelaw16_SegmentTorn.j0 k l0 a1 a2 true) else (ententelaw16_SegmentTorn.j0 k l0 a1 a2 ((l0.length : Int) == 0))) else (ententelaw16_SegmentTorn.j0 k l0 a1 a2 true))
theorem ententelaw16_SegmentTorn.mono_l : ∀ k, (∀ y0 y1 y2 y3, LeO (ententelaw16_SegmentTorn.j0 k y0 y1 y2 y3) (ententelaw16_SegmentTorn.j0 (k + 1) y0 y1 y2 y3)) ∧ (∀ y0 y1 y2 y3 y4 y5, LeO (ententelaw16_SegmentTorn.j1 k y0 y1 y2 y3 y4 y5) (ententelaw16_SegmentTorn.j1 (k + 1) y0 y1 y2 y3 y4 y5)) ∧ (∀ y0 y1 y2 y3 y4 y5 y6 y7 y8 y9, LeO (ententelaw16_SegmentTorn.j2 k y0 y1 y2 y3 y4 y5 y6 y7 y8 y9) (ententelaw16_SegmentTorn.j2 (k + 1) y0 y1 y2 y3 y4 y5 y6 y7 y8 y9))
  | 0 => ⟨fun _ _ _ _ r h => by simp [ententelaw16_SegmentTorn.j0] at h, fun _ _ _ _ _ _ r h => by simp [ententelaw16_SegmentTorn.j1] at h, fun _ _ _ _ _ _ _ _ _ _ r h => by simp [ententelaw16_SegmentTorn.j2] at h⟩
  | k + 1 => by
    obtain ⟨ih0, ih1, ih2⟩ := ententelaw16_SegmentTorn.mono_l k
    refine ⟨?_, ?_, ?_⟩
    · intro y0 y1 y2 y3
      unfold ententelaw16_SegmentTorn.j0
      repeat' first
      | (with_reducible exact ih0 _ _ _ _)
      | (with_reducible exact ih1 _ _ _ _ _ _)
      | (with_reducible exact ih2 _ _ _ _ _ _ _ _ _ _)
      | (with_reducible exact ententelaw01_Small.mono _ _)
      | (with_reducible exact ententelaw16_awake.mono _)
      | (with_reducible exact ententeref16_Same.mono _ _ _)
      | (with_reducible exact segment_Begin.mono _ _)
      | (with_reducible exact segment_Look.mono _ _)
      | (with_reducible exact segment_Next.mono _ _)
      | (with_reducible exact LeO.refl _)
      | (with_reducible exact LeO.none _)
      | (with_reducible refine LeO.ite ?_ ?_)
      | (with_reducible refine LeO.bind ?_ (fun _ => ?_))
      | exact ih0 _ _ _ _
      | exact ih1 _ _ _ _ _ _
      | exact ih2 _ _ _ _ _ _ _ _ _ _
      | exact ententelaw01_Small.mono _ _
      | exact ententelaw16_awake.mono _
      | exact ententeref16_Same.mono _ _ _
      | exact segment_Begin.mono _ _
      | exact segment_Look.mono _ _
      | exact segment_Next.mono _ _
      | exact LeO.none _
      | refine LeO.ite ?_ ?_
      | refine LeO.bind ?_ (fun _ => ?_)
    · intro y0 y1 y2 y3 y4 y5
      unfold ententelaw16_SegmentTorn.j1
      repeat' first
      | (with_reducible exact ih0 _ _ _ _)
      | (with_reducible exact ih1 _ _ _ _ _ _)
      | (with_reducible exact ih2 _ _ _ _ _ _ _ _ _ _)
      | (with_reducible exact ententelaw01_Small.mono _ _)
      | (with_reducible exact ententelaw16_awake.mono _)
      | (with_reducible exact ententeref16_Same.mono _ _ _)
      | (with_reducible exact segment_Begin.mono _ _)
      | (with_reducible exact segment_Look.mono _ _)
      | (with_reducible exact segment_Next.mono _ _)
      | (with_reducible exact LeO.refl _)
      | (with_reducible exact LeO.none _)
      | (with_reducible refine LeO.ite ?_ ?_)
      | (with_reducible refine LeO.bind ?_ (fun _ => ?_))
      | exact ih0 _ _ _ _
      | exact ih1 _ _ _ _ _ _
      | exact ih2 _ _ _ _ _ _ _ _ _ _
      | exact ententelaw01_Small.mono _ _
      | exact ententelaw16_awake.mono _
      | exact ententeref16_Same.mono _ _ _
      | exact segment_Begin.mono _ _
      | exact segment_Look.mono _ _
      | exact segment_Next.mono _ _
      | exact LeO.none _
      | refine LeO.ite ?_ ?_
      | refine LeO.bind ?_ (fun _ => ?_)
    · intro y0 y1 y2 y3 y4 y5 y6 y7 y8 y9
      unfold ententelaw16_SegmentTorn.j2
      repeat' first
      | (with_reducible exact ih0 _ _ _ _)
      | (with_reducible exact ih1 _ _ _ _ _ _)
      | (with_reducible exact ih2 _ _ _ _ _ _ _ _ _ _)
      | (with_reducible exact ententelaw01_Small.mono _ _)
      | (with_reducible exact ententelaw16_awake.mono _)
      | (with_reducible exact ententeref16_Same.mono _ _ _)
      | (with_reducible exact segment_Begin.mono _ _)
      | (with_reducible exact segment_Look.mono _ _)
      | (with_reducible exact segment_Next.mono _ _)
      | (with_reducible exact LeO.refl _)
      | (with_reducible exact LeO.none _)
      | (with_reducible refine LeO.ite ?_ ?_)
      | (with_reducible refine LeO.bind ?_ (fun _ => ?_))
      | exact ih0 _ _ _ _
      | exact ih1 _ _ _ _ _ _
      | exact ih2 _ _ _ _ _ _ _ _ _ _
      | exact ententelaw01_Small.mono _ _
      | exact ententelaw16_awake.mono _
      | exact ententeref16_Same.mono _ _ _
      | exact segment_Begin.mono _ _
      | exact segment_Look.mono _ _
      | exact segment_Next.mono _ _
      | exact LeO.none _
      | refine LeO.ite ?_ ?_
      | refine LeO.bind ?_ (fun _ => ?_)
theorem ententelaw16_SegmentTorn.mono : ∀ a0 a1 a2 k, LeO (ententelaw16_SegmentTorn.f k a0 a1 a2) (ententelaw16_SegmentTorn.f (k + 1) a0 a1 a2) := by
  intro a0 a1 a2 k
  obtain ⟨ih0, ih1, ih2⟩ := ententelaw16_SegmentTorn.mono_l k
  unfold ententelaw16_SegmentTorn.f
  repeat' first
      | (with_reducible exact ih0 _ _ _ _)
      | (with_reducible exact ih1 _ _ _ _ _ _)
      | (with_reducible exact ih2 _ _ _ _ _ _ _ _ _ _)
      | (with_reducible exact ententelaw01_Small.mono _ _)
      | (with_reducible exact ententelaw16_awake.mono _)
      | (with_reducible exact ententeref16_Same.mono _ _ _)
      | (with_reducible exact segment_Begin.mono _ _)
      | (with_reducible exact segment_Look.mono _ _)
      | (with_reducible exact segment_Next.mono _ _)
      | (with_reducible exact LeO.refl _)
      | (with_reducible exact LeO.none _)
      | (with_reducible refine LeO.ite ?_ ?_)
      | (with_reducible refine LeO.bind ?_ (fun _ => ?_))
      | exact ih0 _ _ _ _
      | exact ih1 _ _ _ _ _ _
      | exact ih2 _ _ _ _ _ _ _ _ _ _
      | exact ententelaw01_Small.mono _ _
      | exact ententelaw16_awake.mono _
      | exact ententeref16_Same.mono _ _ _
      | exact segment_Begin.mono _ _
      | exact segment_Look.mono _ _
      | exact segment_Next.mono _ _
      | exact LeO.none _
      | refine LeO.ite ?_ ?_
      | refine LeO.bind ?_ (fun _ => ?_)
def ententelaw16_SegmentTorn.T7 : Bool × List (List Nat × List Nat) := (true, [([], []), ([0], [0]), ([], []), ([], []), ([2, 3], [2, 3]), ([4], [4]), ([], []), ([], []), ([6, 1, 0, 1, 6, 7], [1, 6]), ([7, 5, 8, 0, 1, 2, 3, 4, 5, 6, 7, 8], [5, 7])])
def ententelaw16_SegmentTorn.B7 : List Nat := [0, 1, 0, 0, 12, 28, 0, 0, 195, 511]
theorem ententelaw16_SegmentTorn.tab7 : rtab .any (opsOf Try.f6 7) = ententelaw16_SegmentTorn.T7 := by kernel_rfl
theorem ententelaw16_SegmentTorn.bits7 : waitsOk ententelaw16_SegmentTorn.T7.2 ententelaw16_SegmentTorn.B7 = true := by kernel_rfl
set_option maxHeartbeats 8000000 in
set_option maxRecDepth 100000 in
theorem ententelaw16_SegmentTorn.calls (k : Nat) (A0 : Option Addr) (c0 : Nat) (l0 : List ByteArray) (a1 : ByteArray) (a2 : Int) (r : Bool) (w : World) (hr0 : Kd.C Kd.string w A0 l0.length l0) (hc0 : l0.length ≤ c0) (ht : r = true) (h : ententelaw16_SegmentTorn.f k l0 a1 a2 = some r) :
    Calls Try.prog 6 #[.slice A0 l0.length c0, .string a1, .int .i64 a2] w fun e w' => e = .returned (.bool r) ∧ Below w.heap.size w w' := by
  have hu46 := Try.underlying46
  have hu37 := Try.underlying37
  have HR0 := Aside0.mk hr0
  have HC0 := Aside0.mk hc0
  clear hr0 hc0
  have HB := Aside0.mk (Below.refl w.heap.size w)
  have HT := Aside0.mk ht
  clear ht
  have H : ((ententelaw01_Small.f k l0).bind fun t347 => (if t347 = true then (if (a1.size : Int) > 30000 then (ententelaw16_SegmentTorn.j0 k l0 a1 a2 true) else (ententelaw16_SegmentTorn.j0 k l0 a1 a2 ((l0.length : Int) == 0))) else (ententelaw16_SegmentTorn.j0 k l0 a1 a2 true))) = some r := h
  clear h
  have HC4 := Aside0.mk H
  clear H
  go_enter Try.func6, Try.ntmps6
  go_upto_region 1 with (fail)
  go_cut [27] (fun v27 wc => ∃ (kq : Nat) (x27_3 : Bool), v27 = .bool x27_3 ∧ Aside0 (ententelaw16_SegmentTorn.j0 kq l0 a1 a2 x27_3 = some r) ∧ Aside0 (kq ≤ k) ∧ Aside0 (Below w.heap.size w wc))
  case first =>
    have H := HC4.out
    clear HC4
    replace H := Option.bind_eq_some_iff.mp H
    obtain ⟨t347, A50, H⟩ := H
    replace H : (if t347 = true then (if (a1.size : Int) > 30000 then (ententelaw16_SegmentTorn.j0 k l0 a1 a2 true) else (ententelaw16_SegmentTorn.j0 k l0 a1 a2 ((l0.length : Int) == 0))) else (ententelaw16_SegmentTorn.j0 k l0 a1 a2 true)) = some r := H
    have A5 := Aside0.mk A50
    clear A50
    by_cases c6 : t347 = true
    · subst c6
      have H1 : (if (a1.size : Int) > 30000 then (ententelaw16_SegmentTorn.j0 k l0 a1 a2 true) else (ententelaw16_SegmentTorn.j0 k l0 a1 a2 ((l0.length : Int) == 0))) = some r := by rw [if_pos rfl] at H; exact H
      clear H
      have H := H1
      clear H1
      by_cases c7 : (a1.size : Int) > 30000
      · rw [if_pos c7] at H
        have c7b0 : decide (30000 < (a1.size : Int)) = true := decide_eq_true c7
        have c7b1 : decide (30000 < a1.size) = true := decide_eq_true (by omega)
        clear c7
        (first | rw [c7b0] | (simp only [i64_w, i32_w]; rw [c7b0]) | skip)
        have H' := Aside0.mk H
        clear H
        go_wp2_with (first | ((with_reducible refine gate_callee (f := 7) rfl ?_); refine goesL_ (some 16) rfl rfl Try.func7 (by kernel_rfl) rfl #[.slice A0 l0.length c0] rfl (by (try simp only [List.map_toArray, List.map_cons, List.map_nil]); first | done | rfl | (simp only [List.length_drop, List.length_take]; rfl)) ?_; (with_reducible refine (ententelaw01_Small.calls k _ _ l0 true _ ?side1 ?side2 A5.out).mono ?_); (case side1 => repeat (first | exact (Kd.C_below HR0.out HB.out) | (with_reducible refine Kd.C_alloc ?_ _) | (with_reducible refine Kd.C_drewN ?_ _) | (with_reducible refine Kd.C_drew ?_))); (case side2 => exact HC0.out); rintro e w8 ⟨rfl, hb⟩; refine ⟨_, rfl, ?_⟩; have n0_ := Aside0.mk (below_step (by repeat (first | (with_reducible first | exact HB.out | apply below_alloc | apply pw_below_drewN | apply below_drew1) | exact HB.out)) hb); clear HB; have HB := n0_; clear n0_; (try clear hb); (try clear hb2); (try clear hk); (try clear hi)))
        go_meet
        case rel => exact ⟨_, (true), (by first | rfl | (simp; done) | (simp [*]; done)), H', ⟨by first | omega | exact Nat.le_refl _⟩, ⟨by repeat (first | (with_reducible first | exact HB.out | apply below_alloc | apply pw_below_drewN | apply below_drew1) | exact HB.out)⟩⟩
      · rw [if_neg c7] at H
        have c7b0 : decide (30000 < (a1.size : Int)) = false := decide_eq_false c7
        have c7b1 : decide (30000 < a1.size) = false := decide_eq_false (by omega)
        clear c7
        (first | rw [c7b0] | (simp only [i64_w, i32_w]; rw [c7b0]) | skip)
        have H' := Aside0.mk H
        clear H
        go_wp2_with (first | ((with_reducible refine gate_callee (f := 7) rfl ?_); refine goesL_ (some 16) rfl rfl Try.func7 (by kernel_rfl) rfl #[.slice A0 l0.length c0] rfl (by (try simp only [List.map_toArray, List.map_cons, List.map_nil]); first | done | rfl | (simp only [List.length_drop, List.length_take]; rfl)) ?_; (with_reducible refine (ententelaw01_Small.calls k _ _ l0 true _ ?side1 ?side2 A5.out).mono ?_); (case side1 => repeat (first | exact (Kd.C_below HR0.out HB.out) | (with_reducible refine Kd.C_alloc ?_ _) | (with_reducible refine Kd.C_drewN ?_ _) | (with_reducible refine Kd.C_drew ?_))); (case side2 => exact HC0.out); rintro e w9 ⟨rfl, hb⟩; refine ⟨_, rfl, ?_⟩; have n0_ := Aside0.mk (below_step (by repeat (first | (with_reducible first | exact HB.out | apply below_alloc | apply pw_below_drewN | apply below_drew1) | exact HB.out)) hb); clear HB; have HB := n0_; clear n0_; (try clear hb); (try clear hb2); (try clear hk); (try clear hi)))
        go_meet
        case rel => exact ⟨_, (((l0.length : Int) == 0)), (by first | rfl | (simp; done) | (simp [*]; done)), H', ⟨by first | omega | exact Nat.le_refl _⟩, ⟨by repeat (first | (with_reducible first | exact HB.out | apply below_alloc | apply pw_below_drewN | apply below_drew1) | exact HB.out)⟩⟩
    · replace c6 := Bool.eq_false_iff.mpr c6
      subst c6
      have H1 : (ententelaw16_SegmentTorn.j0 k l0 a1 a2 true) = some r := by rw [if_neg (show ¬ (false = true) by decide)] at H; exact H
      clear H
      have H := H1
      clear H1
      have H' := Aside0.mk H
      clear H
      go_wp2_with (first | ((with_reducible refine gate_callee (f := 7) rfl ?_); refine goesL_ (some 16) rfl rfl Try.func7 (by kernel_rfl) rfl #[.slice A0 l0.length c0] rfl (by (try simp only [List.map_toArray, List.map_cons, List.map_nil]); first | done | rfl | (simp only [List.length_drop, List.length_take]; rfl)) ?_; (with_reducible refine (ententelaw01_Small.calls k _ _ l0 false _ ?side1 ?side2 A5.out).mono ?_); (case side1 => repeat (first | exact (Kd.C_below HR0.out HB.out) | (with_reducible refine Kd.C_alloc ?_ _) | (with_reducible refine Kd.C_drewN ?_ _) | (with_reducible refine Kd.C_drew ?_))); (case side2 => exact HC0.out); rintro e w10 ⟨rfl, hb⟩; refine ⟨_, rfl, ?_⟩; have n0_ := Aside0.mk (below_step (by repeat (first | (with_reducible first | exact HB.out | apply below_alloc | apply pw_below_drewN | apply below_drew1) | exact HB.out)) hb); clear HB; have HB := n0_; clear n0_; (try clear hb); (try clear hb2); (try clear hk); (try clear hi)))
      go_meet
      case rel => exact ⟨_, (true), (by first | rfl | (simp; done) | (simp [*]; done)), H', ⟨by first | omega | exact Nat.le_refl _⟩, ⟨by repeat (first | (with_reducible first | exact HB.out | apply below_alloc | apply pw_below_drewN | apply below_drew1) | exact HB.out)⟩⟩
  case rest =>
    clear HC4
    try clear p2
    try clear c6
    try clear c7
    try clear c7b0
    try clear c7b1
    obtain ⟨kq, x27_3, rfl, HA, HJ3, HB⟩ := hcut
    cases kq with
    | zero => exact absurd HA.out (by simp [ententelaw16_SegmentTorn.j0])
    | succ kj3 =>
      have H := HA.out
      clear HA
      simp only [ententelaw16_SegmentTorn.j0] at H
      by_cases c11 : x27_3 = true
      · subst c11
        have H1 : ((ententelaw16_awake.f kj3).bind fun t348 => (some t348)) = some r := by rw [if_pos rfl] at H; exact H
        clear H
        have H := H1
        clear H1
        replace H := Option.bind_eq_some_iff.mp H
        obtain ⟨t348, A120, H⟩ := H
        replace H : (some t348) = some r := H
        have A12 := Aside0.mk A120
        clear A120
        obtain rfl := Option.some.inj H
        go_wp2_with (first | ((with_reducible refine gate_callee (f := 8) rfl ?_); refine goesL_ (some 28) rfl rfl Try.func8 (by kernel_rfl) rfl #[] rfl (by (try simp only [List.map_toArray, List.map_cons, List.map_nil]); first | done | rfl | (simp only [List.length_drop, List.length_take]; rfl)) ?_; (with_reducible refine (ententelaw16_awake.calls kj3  t348 _ A12.out).mono ?_); rintro e w13 ⟨rfl, hb⟩; refine ⟨_, rfl, ?_⟩; have n0_ := Aside0.mk (below_step (by repeat (first | (with_reducible first | exact HB.out | apply below_alloc | apply pw_below_drewN | apply below_drew1) | exact HB.out)) hb); clear HB; have HB := n0_; clear n0_; (try clear hb); (try clear hb2); (try clear hk); (try clear hi)))
        go_ret
        exact ⟨by first | rfl | (simp [errW_none, errW_some] <;> rfl) | (simp [*, errW_none, errW_some] <;> rfl), by repeat (first | (with_reducible first | exact HB.out | apply below_alloc | apply pw_below_drewN | apply below_drew1) | exact HB.out)⟩
      · replace c11 := Bool.eq_false_iff.mpr c11
        subst c11
        have H1 : ((segment_Next.f kj3 l0).bind fun bt349 => ((segment_Begin.f kj3 a1).bind fun bt351 => (if bt349.2 = 0 then (if bt351.2 = 0 then (if a2 < 1 then (ententelaw16_SegmentTorn.j1 kj3 l0 a1 a2 bt349.1 bt351.1 true) else (ententelaw16_SegmentTorn.j1 kj3 l0 a1 a2 bt349.1 bt351.1 (decide (a2 > (bt351.1.size : Int))))) else (ententelaw16_SegmentTorn.j1 kj3 l0 a1 a2 bt349.1 bt351.1 true)) else (ententelaw16_SegmentTorn.j1 kj3 l0 a1 a2 bt349.1 bt351.1 true)))) = some r := by rw [if_neg (show ¬ (false = true) by decide)] at H; exact H
        clear H
        have H := H1
        clear H1
        replace H := Option.bind_eq_some_iff.mp H
        obtain ⟨⟨t349, t350⟩, A140, H⟩ := H
        replace H : ((segment_Begin.f kj3 a1).bind fun bt351 => (if t350 = 0 then (if bt351.2 = 0 then (if a2 < 1 then (ententelaw16_SegmentTorn.j1 kj3 l0 a1 a2 t349 bt351.1 true) else (ententelaw16_SegmentTorn.j1 kj3 l0 a1 a2 t349 bt351.1 (decide (a2 > (bt351.1.size : Int))))) else (ententelaw16_SegmentTorn.j1 kj3 l0 a1 a2 t349 bt351.1 true)) else (ententelaw16_SegmentTorn.j1 kj3 l0 a1 a2 t349 bt351.1 true))) = some r := H
        have A14 := Aside0.mk A140
        clear A140
        replace H := Option.bind_eq_some_iff.mp H
        obtain ⟨⟨t351, t352⟩, A150, H⟩ := H
        replace H : (if t350 = 0 then (if t352 = 0 then (if a2 < 1 then (ententelaw16_SegmentTorn.j1 kj3 l0 a1 a2 t349 t351 true) else (ententelaw16_SegmentTorn.j1 kj3 l0 a1 a2 t349 t351 (decide (a2 > (t351.size : Int))))) else (ententelaw16_SegmentTorn.j1 kj3 l0 a1 a2 t349 t351 true)) else (ententelaw16_SegmentTorn.j1 kj3 l0 a1 a2 t349 t351 true)) = some r := H
        have A15 := Aside0.mk A150
        clear A150
        have HC16 := Aside0.mk H
        clear H
        go_upto_region 5 with (first | ((with_reducible refine gate_callee (f := 11) rfl ?_); refine goesL_ (some 31) rfl rfl Try.func11 (by kernel_rfl) rfl #[.slice A0 l0.length c0] rfl (by (try simp only [List.map_toArray, List.map_cons, List.map_nil]); first | done | rfl | (simp only [List.length_drop, List.length_take]; rfl)) ?_; (with_reducible refine (segment_Next.calls kj3 _ _ l0 t349 t350 _ ?side1 ?side2 A14.out).mono ?_); (case side1 => repeat (first | exact (Kd.C_below HR0.out HB.out) | (with_reducible refine Kd.C_alloc ?_ _) | (with_reducible refine Kd.C_drewN ?_ _) | (with_reducible refine Kd.C_drew ?_))); (case side2 => exact HC0.out); rintro e w17 ⟨rfl, hb⟩; refine ⟨_, rfl, ?_⟩; have n0_ := Aside0.mk (below_step (by repeat (first | (with_reducible first | exact HB.out | apply below_alloc | apply pw_below_drewN | apply below_drew1) | exact HB.out)) hb); clear HB; have HB := n0_; clear n0_; (try clear hb); (try clear hb2); (try clear hk); (try clear hi)) | ((with_reducible refine gate_callee (f := 9) rfl ?_); refine goesL_ (some 36) rfl rfl Try.func9 (by kernel_rfl) rfl #[.string a1] rfl (by (try simp only [List.map_toArray, List.map_cons, List.map_nil]); first | done | rfl | (simp only [List.length_drop, List.length_take]; rfl)) ?_; (with_reducible refine (segment_Begin.calls kj3 a1 t351 t352 _ A15.out).mono ?_); rintro e w18 ⟨rfl, hb⟩; refine ⟨_, rfl, ?_⟩; have n0_ := Aside0.mk (below_step (by repeat (first | (with_reducible first | exact HB.out | apply below_alloc | apply pw_below_drewN | apply below_drew1) | exact HB.out)) hb); clear HB; have HB := n0_; clear n0_; (try clear hb); (try clear hb2); (try clear hk); (try clear hi)))
        (try simp only [Act.put, List.setIfInBounds_toArray, List.set_cons_zero, List.set_cons_succ])
        go_cut [54] (fun v54 wc => ∃ (kq : Nat) (x54_15 : Bool), v54 = .bool x54_15 ∧ Aside0 (ententelaw16_SegmentTorn.j1 kq l0 a1 a2 t349 t351 x54_15 = some r) ∧ Aside0 (kq ≤ kj3) ∧ Aside0 (Below w.heap.size w wc))
        case first =>
          have H := HC16.out
          clear HC16
          by_cases c19 : t350 = 0
          · rw [if_pos c19] at H
            have c19b0 : (t350 == 0) = true := beq_iff_eq.mpr c19
            have c19b1 : (t350 != 0) = false := bne_eq_false_iff_eq.mpr c19
            clear c19
            (first | rw [c19b0] | (simp only [i64_w, i32_w]; rw [c19b0]) | skip)
            by_cases c20 : t352 = 0
            · rw [if_pos c20] at H
              have c20b0 : (t352 == 0) = true := beq_iff_eq.mpr c20
              have c20b1 : (t352 != 0) = false := bne_eq_false_iff_eq.mpr c20
              clear c20
              by_cases c21 : a2 < 1
              · rw [if_pos c21] at H
                have c21b0 : decide (a2 < 1) = true := decide_eq_true c21
                clear c21
                have H' := Aside0.mk H
                clear H
                go_wp2
                go_meet
                case rel => exact ⟨_, (true), (by first | rfl | (simp; done) | (simp [*]; done)), H', ⟨by have := HJ3.out; first | omega | exact Nat.le_refl _⟩, ⟨by repeat (first | (with_reducible first | exact HB.out | apply below_alloc | apply pw_below_drewN | apply below_drew1) | exact HB.out)⟩⟩
              · rw [if_neg c21] at H
                have c21b0 : decide (a2 < 1) = false := decide_eq_false c21
                clear c21
                have H' := Aside0.mk H
                clear H
                go_wp2
                go_meet
                case rel => exact ⟨_, (decide (a2 > (t351.size : Int))), (by first | rfl | (simp; done) | (simp [*]; done)), H', ⟨by have := HJ3.out; first | omega | exact Nat.le_refl _⟩, ⟨by repeat (first | (with_reducible first | exact HB.out | apply below_alloc | apply pw_below_drewN | apply below_drew1) | exact HB.out)⟩⟩
            · rw [if_neg c20] at H
              have c20b0 : (t352 == 0) = false := beq_eq_false_iff_ne.mpr c20
              have c20b1 : (t352 != 0) = true := bne_iff_ne.mpr c20
              have H' := Aside0.mk H
              clear H
              go_wp2
              go_meet
              case rel => exact ⟨_, (true), (by first | rfl | (simp; done) | (simp [*]; done)), H', ⟨by have := HJ3.out; first | omega | exact Nat.le_refl _⟩, ⟨by repeat (first | (with_reducible first | exact HB.out | apply below_alloc | apply pw_below_drewN | apply below_drew1) | exact HB.out)⟩⟩
          · rw [if_neg c19] at H
            have c19b0 : (t350 == 0) = false := beq_eq_false_iff_ne.mpr c19
            have c19b1 : (t350 != 0) = true := bne_iff_ne.mpr c19
            (first | rw [c19b0] | (simp only [i64_w, i32_w]; rw [c19b0]) | skip)
            have H' := Aside0.mk H
            clear H
            go_wp2
            go_meet
            case rel => exact ⟨_, (true), (by first | rfl | (simp; done) | (simp [*]; done)), H', ⟨by have := HJ3.out; first | omega | exact Nat.le_refl _⟩, ⟨by repeat (first | (with_reducible first | exact HB.out | apply below_alloc | apply pw_below_drewN | apply below_drew1) | exact HB.out)⟩⟩
        case rest =>
          clear HC16
          try clear c1
          try clear c2
          try clear p2
          try clear c6
          try clear c7
          try clear c7b0
          try clear c7b1
          try clear c8
          try clear c9
          try clear c11
          try clear c19
          try clear c19b0
          try clear c19b1
          try clear c20
          try clear c20b0
          try clear c20b1
          try clear c21
          try clear c21b0
          try clear p2
          obtain ⟨kq, x54_15, rfl, HA, HJ15, HB⟩ := hcut
          cases kq with
          | zero => exact absurd HA.out (by simp [ententelaw16_SegmentTorn.j1])
          | succ kj15 =>
            have H := HA.out
            clear HA
            simp only [ententelaw16_SegmentTorn.j1] at H
            by_cases c22 : x54_15 = true
            · subst c22
              have H1 : ((ententelaw16_awake.f kj15).bind fun t353 => (some t353)) = some r := by rw [if_pos rfl] at H; exact H
              clear H
              have H := H1
              clear H1
              replace H := Option.bind_eq_some_iff.mp H
              obtain ⟨t353, A230, H⟩ := H
              replace H : (some t353) = some r := H
              have A23 := Aside0.mk A230
              clear A230
              obtain rfl := Option.some.inj H
              go_wp2_with (first | ((with_reducible refine gate_callee (f := 8) rfl ?_); refine goesL_ (some 55) rfl rfl Try.func8 (by kernel_rfl) rfl #[] rfl (by (try simp only [List.map_toArray, List.map_cons, List.map_nil]); first | done | rfl | (simp only [List.length_drop, List.length_take]; rfl)) ?_; (with_reducible refine (ententelaw16_awake.calls kj15  t353 _ A23.out).mono ?_); rintro e w24 ⟨rfl, hb⟩; refine ⟨_, rfl, ?_⟩; have n0_ := Aside0.mk (below_step (by repeat (first | (with_reducible first | exact HB.out | apply below_alloc | apply pw_below_drewN | apply below_drew1) | exact HB.out)) hb); clear HB; have HB := n0_; clear n0_; (try clear hb); (try clear hb2); (try clear hk); (try clear hi)))
              go_ret
              exact ⟨by first | rfl | (simp [errW_none, errW_some] <;> rfl) | (simp [*, errW_none, errW_some] <;> rfl), by repeat (first | (with_reducible first | exact HB.out | apply below_alloc | apply pw_below_drewN | apply below_drew1) | exact HB.out)⟩
            · replace c22 := Bool.eq_false_iff.mpr c22
              subst c22
              have H1 : (if 0 ≤ a2 then (if a2 ≤ (t351.size : Int) then ((segment_Look.f kj15 (([(⟨1, t349, 0⟩ : S46), (⟨2, t351.extract 0 (a2 : Int).toNat, 0⟩ : S46)] : List (S46)))).bind fun bt359 => (if bt359.2.2.2.2 = 0 then (ententelaw16_SegmentTorn.j2 kj15 l0 a1 a2 t349 t351 ((bt359.2.2.2.1.length : Int) != 1) bt359.1 bt359.2.1 bt359.2.2.1 bt359.2.2.2.1) else (ententelaw16_SegmentTorn.j2 kj15 l0 a1 a2 t349 t351 true bt359.1 bt359.2.1 bt359.2.2.1 bt359.2.2.2.1))) else (none)) else (none)) = some r := by rw [if_neg (show ¬ (false = true) by decide)] at H; exact H
              clear H
              have H := H1
              clear H1
              by_cases c25 : 0 ≤ a2
              · rw [if_pos c25] at H
                have c25b0 := eq_true c25
                have c25b1 : decide (0 ≤ a2) = true := decide_eq_true c25
                clear c25
                by_cases c26 : a2 ≤ (t351.size : Int)
                · rw [if_pos c26] at H
                  have c26b0 := eq_true c26
                  have c26b1 : decide (a2 ≤ (t351.size : Int)) = true := decide_eq_true c26
                  clear c26
                  obtain ⟨y356, hy356⟩ : ∃ y_ : List (S46), y_ = (([(⟨1, t349, 0⟩ : S46), (⟨2, t351.extract 0 (a2 : Int).toNat, 0⟩ : S46)] : List (S46))) := ⟨_, rfl⟩
                  replace H : ((segment_Look.f kj15 y356).bind fun bt359 => (if bt359.2.2.2.2 = 0 then (ententelaw16_SegmentTorn.j2 kj15 l0 a1 a2 t349 t351 ((bt359.2.2.2.1.length : Int) != 1) bt359.1 bt359.2.1 bt359.2.2.1 bt359.2.2.2.1) else (ententelaw16_SegmentTorn.j2 kj15 l0 a1 a2 t349 t351 true bt359.1 bt359.2.1 bt359.2.2.1 bt359.2.2.2.1))) = some r := by first | (rw [hy356]; with_reducible exact H) | (have H2_ := (Option.bind_some _ _).symm.trans H; rw [hy356]; with_reducible exact H2_) | (have H2_ := (Option.bind_some _ _).symm.trans H; with_reducible exact H2_) | with_reducible exact H | (rw [hy356]; exact H) | exact H
                  have Ny356 := Aside0.mk hy356
                  clear hy356
                  replace H := Option.bind_eq_some_iff.mp H
                  obtain ⟨⟨t359, t360, t361, t364, t367⟩, A270, H⟩ := H
                  replace H : (if t367 = 0 then (ententelaw16_SegmentTorn.j2 kj15 l0 a1 a2 t349 t351 ((t364.length : Int) != 1) t359 t360 t361 t364) else (ententelaw16_SegmentTorn.j2 kj15 l0 a1 a2 t349 t351 true t359 t360 t361 t364)) = some r := H
                  have A27 := Aside0.mk A270
                  clear A270
                  have HC28 := Aside0.mk H
                  clear H
                  try go_wp2
                  have n0_ := Aside0.mk (below_drew1 HB.out)
                  clear HB
                  have HB := n0_
                  clear n0_
                  refine start_ (n := 10) (S := fun w' => True) (ds := []) #[false, false, false, false, false, false, false, false, false, false] (by kernel_rfl) rfl rfl trivial (fun hHeld => ?_); refine with_tabW ententelaw16_SegmentTorn.tab7 ententelaw16_SegmentTorn.bits7 (fun HT_ HW_ => ?_)
                  generalize wc.drew = w29 at HB hHeld ⊢
                  refine pure_ (i := 0) (N := some 56) (v := ?_) (a' := ?_) #[true, false, false, false, false, false, false, false, false, false] rfl rfl (any_of HT_.out (by kernel_rfl)) (fun _ _ _ h => h) (Or.inl ⟨by rfl, ?_⟩) ?_ ?_
                  rotate_left
                  · intro w'
                    go_simp
                    with_reducible rfl
                  rotate_left
                  · simp only [Act.put, List.setIfInBounds_toArray, List.set_cons_zero, List.set_cons_succ, i64_w, i32_w]
                    rfl
                  refine pure_ (i := 1) (N := some 57) (v := ?_) (a' := ?_) #[true, true, false, false, false, false, false, false, false, false] rfl rfl (any_of HT_.out (by kernel_rfl)) (fun _ _ _ h => h) (Or.inl ⟨by rfl, ?_⟩) ?_ ?_
                  rotate_left
                  · intro w'
                    go_simp
                    with_reducible rfl
                  rotate_left
                  · simp only [Act.put, List.setIfInBounds_toArray, List.set_cons_zero, List.set_cons_succ, i64_w, i32_w]
                    rfl
                  refine pure_ (i := 2) (N := some 58) (v := ?_) (a' := ?_) #[true, true, true, false, false, false, false, false, false, false] rfl rfl (any_of HT_.out (by kernel_rfl)) (fun _ _ _ h => h) (Or.inl ⟨by rfl, ?_⟩) ?_ ?_
                  rotate_left
                  · intro w'
                    go_simp
                    with_reducible rfl
                  rotate_left
                  · simp only [Act.put, List.setIfInBounds_toArray, List.set_cons_zero, List.set_cons_succ, i64_w, i32_w]
                    rfl
                  refine pure_ (i := 3) (N := some 59) (v := ?_) (a' := ?_) #[true, true, true, true, false, false, false, false, false, false] rfl rfl (any_of HT_.out (by kernel_rfl)) (fun _ _ _ h => h) (Or.inl ⟨by rfl, ?_⟩) ?_ ?_
                  rotate_left
                  · intro w'
                    go_simp
                    with_reducible rfl
                  rotate_left
                  · simp only [Act.put, List.setIfInBounds_toArray, List.set_cons_zero, List.set_cons_succ, i64_w, i32_w]
                    rfl
                  refine pure_ (i := 4) (N := some 60) (v := ?_) (a' := ?_) #[true, true, true, true, true, false, false, false, false, false] rfl rfl (any_of HT_.out (by kernel_rfl)) (fun _ _ _ h => h) (Or.inl ⟨by rfl, ?_⟩) ?_ ?_
                  rotate_left
                  · intro w'
                    go_simp
                    with_reducible rfl
                  rotate_left
                  · simp only [Act.put, List.setIfInBounds_toArray, List.set_cons_zero, List.set_cons_succ, i64_w, i32_w]
                    rfl
                  refine pure_ (i := 5) (N := some 61) (v := ?_) (a' := ?_) #[true, true, true, true, true, true, false, false, false, false] rfl rfl (any_of HT_.out (by kernel_rfl)) (fun _ _ _ h => h) (Or.inl ⟨by rfl, ?_⟩) ?_ ?_
                  rotate_left
                  · intro w'
                    go_simp
                    with_reducible rfl
                  rotate_left
                  · simp only [Act.put, List.setIfInBounds_toArray, List.set_cons_zero, List.set_cons_succ, i64_w, i32_w]
                    rfl
                  refine join_ (σ := Nat × Nat) 2 #[true, true, true, true, true, true, true, true, false, false] (fun s_ => [(11, .pointer (some ⟨s_.1, 0, none⟩)), (12, .pointer (some ⟨s_.2, 0, none⟩))]) (fun s_ w' => (w'.heap[s_.1]? = some (.cells #[.int .i64 0, .string (⟨#[]⟩ : ByteArray), .int .i64 0] 46 (0, 0))) ∧ (w'.heap[s_.2]? = some (.cells #[.int .i64 0, .string (⟨#[]⟩ : ByteArray), .int .i64 0] 46 (0, 0))) ∧ (w.heap.size ≤ s_.1) ∧ (w.heap.size ≤ s_.1) ∧ (s_.2 ≠ s_.1) ∧ (s_.1 ≠ s_.2) ∧ (w.heap.size ≤ s_.2) ∧ (w.heap.size ≤ s_.2) ∧ (Below w.heap.size w w')) ?_ ?_
                  rotate_left
                  · intro hCont
                    refine two_ (i := 6) (j := 7) (Ni := some 11) (Nj := some 12) #[true, true, true, true, true, true, true, false, false, false] #[true, true, true, true, true, true, false, true, false, false] rfl rfl rfl rfl (two_of HT_.out (by kernel_rfl)) (by decide) (by decide) (fun K hK => ?_) (fun K hK => ?_)
                    · skip
                      refine box_step ?hg (N := 11) ?hd (cs := #[.int .i64 0, .string (⟨#[]⟩ : ByteArray), .int .i64 0]) (t := 46) ?hr ?_; (case hd => rfl); (case hg => rfl); (case hr => first | (go_simp; done) | (go_simp; rfl))
                      intro gb354 hg w30 hbox hb
                      have n0_ := Aside0.mk (below_step (by repeat (first | (with_reducible first | exact HB.out | apply below_alloc | apply pw_below_drewN | apply below_drew1) | exact HB.out)) hb)
                      have n1_ := Aside0.mk (hbox)
                      have n2_ := Aside0.mk ((by rw [hg]; exact (below_size (by repeat (first | (with_reducible first | exact HB.out | apply below_alloc | apply pw_below_drewN | apply below_drew1) | exact HB.out))) : w.heap.size ≤ gb354))
                      have n3_ := Aside0.mk ((by rw [hg]; exact (below_size (by repeat (first | (with_reducible first | exact HB.out | apply below_alloc | apply pw_below_drewN | apply below_drew1) | exact HB.out))) : w.heap.size ≤ gb354))
                      clear HB
                      have HB := n0_
                      have BK354 := n1_
                      have GW354 := n2_
                      have GE354 := n3_
                      clear n0_ n1_ n2_ n3_
                      clear hb hbox hg
                      refine hK.out _ _ trivial (fun hHeld => ?_)
                      clear hK K
                      refine norm_ (a' := ?_) ?_ ?_
                      rotate_left
                      · show Act.put _ (some 11) _ = _
                        simp only [Act.put, List.setIfInBounds_toArray, List.set_cons_zero, List.set_cons_succ, i64_w, i32_w]
                        rfl
                      refine one_ (i := 7) (N := some 12) #[true, true, true, true, true, true, true, true, false, false] rfl rfl (one_of HT_.out (by kernel_rfl)) (by decide) (fun K hK => ?_)
                      refine box_step ?hg (N := 12) ?hd (cs := #[.int .i64 0, .string (⟨#[]⟩ : ByteArray), .int .i64 0]) (t := 46) ?hr ?_; (case hd => rfl); (case hg => rfl); (case hr => first | (go_simp; done) | (go_simp; rfl))
                      intro gb355 hg w31 hbox hb
                      have n0_ := Aside0.mk (blk_below (g := gb354) (o := .cells #[.int .i64 0, .string (⟨#[]⟩ : ByteArray), .int .i64 0] 46 (0, 0)) (by (with_reducible repeat (first | refine blk_drewN ?_ _ | refine blk_drew ?_ | refine blk_alloc ?_ _)); exact BK354.out) hb)
                      have n1_ := Aside0.mk (below_step (by repeat (first | (with_reducible first | exact HB.out | apply below_alloc | apply pw_below_drewN | apply below_drew1 | refine below_set ?_ GE354.out) | exact HB.out)) hb)
                      have n2_ := Aside0.mk (hbox)
                      have n3_ := Aside0.mk ((by rw [hg]; exact (below_size (by repeat (first | (with_reducible first | exact HB.out | apply below_alloc | apply pw_below_drewN | apply below_drew1 | refine below_set ?_ GE354.out) | exact HB.out))) : w.heap.size ≤ gb355))
                      have n4_ := Aside0.mk ((by rw [hg]; exact (below_size (by repeat (first | (with_reducible first | exact HB.out | apply below_alloc | apply pw_below_drewN | apply below_drew1 | refine below_set ?_ GE354.out) | exact HB.out))) : w.heap.size ≤ gb355))
                      have n5_ := Aside0.mk ((by rw [hg]; exact Nat.ne_of_lt (blk_lt (g := gb354) (o := .cells #[.int .i64 0, .string (⟨#[]⟩ : ByteArray), .int .i64 0] 46 (0, 0)) (by (with_reducible repeat (first | refine blk_drewN ?_ _ | refine blk_drew ?_ | refine blk_alloc ?_ _)); exact BK354.out)) : gb354 ≠ gb355))
                      have n6_ := Aside0.mk ((by rw [hg]; exact Nat.ne_of_gt (blk_lt (g := gb354) (o := .cells #[.int .i64 0, .string (⟨#[]⟩ : ByteArray), .int .i64 0] 46 (0, 0)) (by (with_reducible repeat (first | refine blk_drewN ?_ _ | refine blk_drew ?_ | refine blk_alloc ?_ _)); exact BK354.out)) : gb355 ≠ gb354))
                      clear BK354
                      clear HB
                      have BK354 := n0_
                      have HB := n1_
                      have BK355 := n2_
                      have GW355 := n3_
                      have GE355 := n4_
                      have NB354_355 := n5_
                      have NB355_354 := n6_
                      clear n0_ n1_ n2_ n3_ n4_ n5_ n6_
                      clear hb hbox hg
                      refine hK.out _ _ trivial (fun hHeld => ?_)
                      clear hK K
                      refine norm_ (a' := ?_) ?_ ?_
                      rotate_left
                      · show Act.put _ (some 12) _ = _
                        simp only [Act.put, List.setIfInBounds_toArray, List.set_cons_zero, List.set_cons_succ, i64_w, i32_w]
                        rfl
                      exact norm_ (by simp only [putAll, Act.put, List.setIfInBounds_toArray, List.set_cons_zero, List.set_cons_succ]) (hCont (gb354, gb355) _ ⟨(by (with_reducible repeat (first | refine blk_drewN ?_ _ | refine blk_drew ?_ | refine blk_alloc ?_ _)); exact BK354.out), (by (with_reducible repeat (first | refine blk_drewN ?_ _ | refine blk_drew ?_ | refine blk_alloc ?_ _)); exact BK355.out), GW354.out, GE354.out, NB355_354.out, NB354_355.out, GW355.out, GE355.out, (by repeat (first | (with_reducible first | exact HB.out | apply below_alloc | apply pw_below_drewN | apply below_drew1 | refine below_set ?_ GE354.out | refine below_set ?_ GE355.out) | exact HB.out))⟩)
                    · skip
                      refine box_step ?hg (N := 12) ?hd (cs := #[.int .i64 0, .string (⟨#[]⟩ : ByteArray), .int .i64 0]) (t := 46) ?hr ?_; (case hd => rfl); (case hg => rfl); (case hr => first | (go_simp; done) | (go_simp; rfl))
                      intro gb355 hg w30 hbox hb
                      have n0_ := Aside0.mk (below_step (by repeat (first | (with_reducible first | exact HB.out | apply below_alloc | apply pw_below_drewN | apply below_drew1) | exact HB.out)) hb)
                      have n1_ := Aside0.mk (hbox)
                      have n2_ := Aside0.mk ((by rw [hg]; exact (below_size (by repeat (first | (with_reducible first | exact HB.out | apply below_alloc | apply pw_below_drewN | apply below_drew1) | exact HB.out))) : w.heap.size ≤ gb355))
                      have n3_ := Aside0.mk ((by rw [hg]; exact (below_size (by repeat (first | (with_reducible first | exact HB.out | apply below_alloc | apply pw_below_drewN | apply below_drew1) | exact HB.out))) : w.heap.size ≤ gb355))
                      clear HB
                      have HB := n0_
                      have BK355 := n1_
                      have GW355 := n2_
                      have GE355 := n3_
                      clear n0_ n1_ n2_ n3_
                      clear hb hbox hg
                      refine hK.out _ _ trivial (fun hHeld => ?_)
                      clear hK K
                      refine norm_ (a' := ?_) ?_ ?_
                      rotate_left
                      · show Act.put _ (some 12) _ = _
                        simp only [Act.put, List.setIfInBounds_toArray, List.set_cons_zero, List.set_cons_succ, i64_w, i32_w]
                        rfl
                      refine one_ (i := 6) (N := some 11) #[true, true, true, true, true, true, true, true, false, false] rfl rfl (one_of HT_.out (by kernel_rfl)) (by decide) (fun K hK => ?_)
                      refine box_step ?hg (N := 11) ?hd (cs := #[.int .i64 0, .string (⟨#[]⟩ : ByteArray), .int .i64 0]) (t := 46) ?hr ?_; (case hd => rfl); (case hg => rfl); (case hr => first | (go_simp; done) | (go_simp; rfl))
                      intro gb354 hg w31 hbox hb
                      have n0_ := Aside0.mk (blk_below (g := gb355) (o := .cells #[.int .i64 0, .string (⟨#[]⟩ : ByteArray), .int .i64 0] 46 (0, 0)) (by (with_reducible repeat (first | refine blk_drewN ?_ _ | refine blk_drew ?_ | refine blk_alloc ?_ _)); exact BK355.out) hb)
                      have n1_ := Aside0.mk (below_step (by repeat (first | (with_reducible first | exact HB.out | apply below_alloc | apply pw_below_drewN | apply below_drew1 | refine below_set ?_ GE355.out) | exact HB.out)) hb)
                      have n2_ := Aside0.mk (hbox)
                      have n3_ := Aside0.mk ((by rw [hg]; exact (below_size (by repeat (first | (with_reducible first | exact HB.out | apply below_alloc | apply pw_below_drewN | apply below_drew1 | refine below_set ?_ GE355.out) | exact HB.out))) : w.heap.size ≤ gb354))
                      have n4_ := Aside0.mk ((by rw [hg]; exact (below_size (by repeat (first | (with_reducible first | exact HB.out | apply below_alloc | apply pw_below_drewN | apply below_drew1 | refine below_set ?_ GE355.out) | exact HB.out))) : w.heap.size ≤ gb354))
                      have n5_ := Aside0.mk ((by rw [hg]; exact Nat.ne_of_lt (blk_lt (g := gb355) (o := .cells #[.int .i64 0, .string (⟨#[]⟩ : ByteArray), .int .i64 0] 46 (0, 0)) (by (with_reducible repeat (first | refine blk_drewN ?_ _ | refine blk_drew ?_ | refine blk_alloc ?_ _)); exact BK355.out)) : gb355 ≠ gb354))
                      have n6_ := Aside0.mk ((by rw [hg]; exact Nat.ne_of_gt (blk_lt (g := gb355) (o := .cells #[.int .i64 0, .string (⟨#[]⟩ : ByteArray), .int .i64 0] 46 (0, 0)) (by (with_reducible repeat (first | refine blk_drewN ?_ _ | refine blk_drew ?_ | refine blk_alloc ?_ _)); exact BK355.out)) : gb354 ≠ gb355))
                      clear BK355
                      clear HB
                      have BK355 := n0_
                      have HB := n1_
                      have BK354 := n2_
                      have GW354 := n3_
                      have GE354 := n4_
                      have NB355_354 := n5_
                      have NB354_355 := n6_
                      clear n0_ n1_ n2_ n3_ n4_ n5_ n6_
                      clear hb hbox hg
                      refine hK.out _ _ trivial (fun hHeld => ?_)
                      clear hK K
                      refine norm_ (a' := ?_) ?_ ?_
                      rotate_left
                      · show Act.put _ (some 11) _ = _
                        simp only [Act.put, List.setIfInBounds_toArray, List.set_cons_zero, List.set_cons_succ, i64_w, i32_w]
                        rfl
                      exact norm_ (by simp only [putAll, Act.put, List.setIfInBounds_toArray, List.set_cons_zero, List.set_cons_succ]) (hCont (gb354, gb355) _ ⟨(by (with_reducible repeat (first | refine blk_drewN ?_ _ | refine blk_drew ?_ | refine blk_alloc ?_ _)); exact BK354.out), (by (with_reducible repeat (first | refine blk_drewN ?_ _ | refine blk_drew ?_ | refine blk_alloc ?_ _)); exact BK355.out), GW354.out, GE354.out, NB355_354.out, NB354_355.out, GW355.out, GE355.out, (by repeat (first | (with_reducible first | exact HB.out | apply below_alloc | apply pw_below_drewN | apply below_drew1 | refine below_set ?_ GE355.out | refine below_set ?_ GE354.out) | exact HB.out))⟩)
                  rintro ⟨gb354, gb355⟩ w32 ⟨h0_, h1_, h2_, h3_, h4_, h5_, h6_, h7_, h8_⟩
                  have n0_ : Aside0 (w32.heap[gb354]? = some (.cells #[.int .i64 0, .string (⟨#[]⟩ : ByteArray), .int .i64 0] 46 (0, 0))) := ⟨h0_⟩
                  have n1_ : Aside0 (w32.heap[gb355]? = some (.cells #[.int .i64 0, .string (⟨#[]⟩ : ByteArray), .int .i64 0] 46 (0, 0))) := ⟨h1_⟩
                  have n2_ : Aside0 (w.heap.size ≤ gb354) := ⟨h2_⟩
                  have n3_ : Aside0 (w.heap.size ≤ gb354) := ⟨h3_⟩
                  have n4_ : Aside0 (gb355 ≠ gb354) := ⟨h4_⟩
                  have n5_ : Aside0 (gb354 ≠ gb355) := ⟨h5_⟩
                  have n6_ : Aside0 (w.heap.size ≤ gb355) := ⟨h6_⟩
                  have n7_ : Aside0 (w.heap.size ≤ gb355) := ⟨h7_⟩
                  have n8_ : Aside0 (Below w.heap.size w w32) := ⟨h8_⟩
                  clear HB
                  clear h0_ h1_ h2_ h3_ h4_ h5_ h6_ h7_ h8_
                  have BK354 := n0_
                  have BK355 := n1_
                  have GW354 := n2_
                  have GE354 := n3_
                  have NB355_354 := n4_
                  have NB354_355 := n5_
                  have GW355 := n6_
                  have GE355 := n7_
                  have HB := n8_
                  clear n0_ n1_ n2_ n3_ n4_ n5_ n6_ n7_ n8_
                  have hHeld := trivial
                  refine norm_ (a' := ?_) ?_ ?_
                  rotate_left
                  · simp only [putAll, Act.put, List.setIfInBounds_toArray, List.set_cons_zero, List.set_cons_succ]
                    rfl
                  refine one_ (i := 8) (N := none) #[true, true, true, true, true, true, true, true, true, false] rfl rfl (one_of HT_.out (by kernel_rfl)) (by decide) (fun K hK => ?_)
                  have hs33 : w32.cell? ⟨gb354, 0, none⟩ = some (.int .i64 0) := (blk_cell BK354.out 0).trans rfl
                  have hfs33 := blk_frozen BK354.out 0
                  have hns33_1 := NB355_354.out
                  have hms33_1 := NB354_355.out
                  have hs34 : w32.cell? ⟨gb354, 1, none⟩ = some (.string (⟨#[]⟩ : ByteArray)) := (blk_cell BK354.out 1).trans rfl
                  have hfs34 := blk_frozen BK354.out 1
                  have hns34_1 := NB355_354.out
                  have hms34_1 := NB354_355.out
                  have hs35 : w32.cell? ⟨gb354, 2, none⟩ = some (.int .i64 0) := (blk_cell BK354.out 2).trans rfl
                  have hfs35 := blk_frozen BK354.out 2
                  have hns35_1 := NB355_354.out
                  have hms35_1 := NB354_355.out
                  refine skip_ (w1 := ?_) (by rfl) rfl ?_ ?_
                  rotate_left
                  · go_simp
                    rfl
                  refine hK.out _ _ trivial (fun hHeld => ?_)
                  clear hK K
                  refine one_ (i := 9) (N := none) #[true, true, true, true, true, true, true, true, true, true] rfl rfl (one_of HT_.out (by kernel_rfl)) (by decide) (fun K hK => ?_)
                  have hs36 : w32.cell? ⟨gb355, 0, none⟩ = some (.int .i64 0) := (blk_cell BK355.out 0).trans rfl
                  have hfs36 := blk_frozen BK355.out 0
                  have hns36_0 := NB354_355.out
                  have hms36_0 := NB355_354.out
                  have hs37 : w32.cell? ⟨gb355, 1, none⟩ = some (.string (⟨#[]⟩ : ByteArray)) := (blk_cell BK355.out 1).trans rfl
                  have hfs37 := blk_frozen BK355.out 1
                  have hns37_0 := NB354_355.out
                  have hms37_0 := NB355_354.out
                  have hs38 : w32.cell? ⟨gb355, 2, none⟩ = some (.int .i64 0) := (blk_cell BK355.out 2).trans rfl
                  have hfs38 := blk_frozen BK355.out 2
                  have hns38_0 := NB354_355.out
                  have hms38_0 := NB355_354.out
                  refine skip_ (w1 := ?_) (by rfl) rfl ?_ ?_
                  rotate_left
                  · go_simp
                    rfl
                  refine hK.out _ _ trivial (fun hHeld => ?_)
                  clear hK K
                  refine done_ (done_of HT_.out (by kernel_rfl)) ?_
                  have hnb39 := NB354_355.out
                  have hnc39 := NB355_354.out
                  have hcz40_0 : w32.cell? ⟨gb354, 0, none⟩ = some (.int .i64 0) := (blk_cell BK354.out 0).trans rfl
                  have hcz40_1 : w32.cell? ⟨gb354, 1, none⟩ = some (.string (⟨#[]⟩ : ByteArray)) := (blk_cell BK354.out 1).trans rfl
                  have hcz40_2 : w32.cell? ⟨gb354, 2, none⟩ = some (.int .i64 0) := (blk_cell BK354.out 2).trans rfl
                  have hfz40_0 := blk_frozen BK354.out 0
                  have hfz40_1 := blk_frozen BK354.out 1
                  have hfz40_2 := blk_frozen BK354.out 2
                  have hcz41_0 : w32.cell? ⟨gb355, 0, none⟩ = some (.int .i64 0) := (blk_cell BK355.out 0).trans rfl
                  have hcz41_1 : w32.cell? ⟨gb355, 1, none⟩ = some (.string (⟨#[]⟩ : ByteArray)) := (blk_cell BK355.out 1).trans rfl
                  have hcz41_2 : w32.cell? ⟨gb355, 2, none⟩ = some (.int .i64 0) := (blk_cell BK355.out 2).trans rfl
                  have hfz41_0 := blk_frozen BK355.out 0
                  have hfz41_1 := blk_frozen BK355.out 1
                  have hfz41_2 := blk_frozen BK355.out 2
                  go_upto_region 9 with (first | ((with_reducible refine gate_dst (N := 65) rfl ?_); (try (refine gate_guard (by rfl) ?_; dsimp only)); refine Kd.R_lit k46 _ 46 ?hg (N := 65) ?hd (xs := ([(⟨1, t349, 0⟩ : S46), (⟨2, t351.extract 0 (a2 : Int).toNat, 0⟩ : S46)] : List (S46))) (inner := [.int .i64 1, .string t349, .int .i64 0, .int .i64 2, .string (t351.extract 0 (a2 : Int).toNat), .int .i64 0]) (ok := fun _ => True) (okp := fun _ => True) ?hr ?hp (fun _ hk => hk) trivial (Below.refl _ _) (Nat.le_refl _) (by simp) ?_; (case hd => rfl); (case hg => rfl); (case hr => first | (go_simp; done) | (go_simp; rfl)); (case hp => exact (Reps.c3 (show Kd.M k46 _ _ _ (⟨1, t349, 0⟩ : S46) [.int .i64 1, .string t349, .int .i64 0] from (k46_mkM _ _ _ (⟨1, t349, 0⟩ : S46) )) (Reps.c3 (show Kd.M k46 _ _ _ (⟨2, t351.extract 0 (a2 : Int).toNat, 0⟩ : S46) [.int .i64 2, .string (t351.extract 0 (a2 : Int).toNat), .int .i64 0] from (k46_mkM _ _ _ (⟨2, t351.extract 0 (a2 : Int).toNat, 0⟩ : S46) )) (Reps.none _ _)))); intro v357 w42 ho43 hb hg_ hnew_; clear hg_ hnew_; (first | rw [← Ny356.out] at ho43 | (simp only [Int.reduceToNat] at ho43; rw [← Ny356.out] at ho43)); have n0_ := Aside0.mk (Kd.R_lower (Kd.R_newB (Kd.R_newB ho43 (g := gb354) (o := .cells #[.int .i64 1, .string t349, .int .i64 0] 46 (0, 0)) (by (with_reducible repeat (first | refine blk_drewN ?_ _ | refine blk_drew ?_ | refine blk_alloc ?_ _)); refine blk_far ?_ NB354_355.out _; (with_reducible repeat (first | refine blk_drewN ?_ _ | refine blk_drew ?_ | refine blk_alloc ?_ _)); refine blk_far ?_ NB354_355.out _; (with_reducible repeat (first | refine blk_drewN ?_ _ | refine blk_drew ?_ | refine blk_alloc ?_ _)); refine blk_far ?_ NB354_355.out _; (with_reducible repeat (first | refine blk_drewN ?_ _ | refine blk_drew ?_ | refine blk_alloc ?_ _)); refine blk_put (cs := #[.int .i64 1, .string t349, .int .i64 0]) ?_ 2 _ rfl; (with_reducible repeat (first | refine blk_drewN ?_ _ | refine blk_drew ?_ | refine blk_alloc ?_ _)); refine blk_put (cs := #[.int .i64 1, .string (⟨#[]⟩ : ByteArray), .int .i64 0]) ?_ 1 _ rfl; (with_reducible repeat (first | refine blk_drewN ?_ _ | refine blk_drew ?_ | refine blk_alloc ?_ _)); refine blk_put (cs := #[.int .i64 0, .string (⟨#[]⟩ : ByteArray), .int .i64 0]) ?_ 0 _ rfl; (with_reducible repeat (first | refine blk_drewN ?_ _ | refine blk_drew ?_ | refine blk_alloc ?_ _)); exact BK354.out)) (g := gb355) (o := .cells #[.int .i64 2, .string (t351.extract 0 (a2 : Int).toNat), .int .i64 0] 46 (0, 0)) (by (with_reducible repeat (first | refine blk_drewN ?_ _ | refine blk_drew ?_ | refine blk_alloc ?_ _)); refine blk_put (cs := #[.int .i64 2, .string (t351.extract 0 (a2 : Int).toNat), .int .i64 0]) ?_ 2 _ rfl; (with_reducible repeat (first | refine blk_drewN ?_ _ | refine blk_drew ?_ | refine blk_alloc ?_ _)); refine blk_put (cs := #[.int .i64 2, .string (⟨#[]⟩ : ByteArray), .int .i64 0]) ?_ 1 _ rfl; (with_reducible repeat (first | refine blk_drewN ?_ _ | refine blk_drew ?_ | refine blk_alloc ?_ _)); refine blk_put (cs := #[.int .i64 0, .string (⟨#[]⟩ : ByteArray), .int .i64 0]) ?_ 0 _ rfl; (with_reducible repeat (first | refine blk_drewN ?_ _ | refine blk_drew ?_ | refine blk_alloc ?_ _)); refine blk_far ?_ NB355_354.out _; (with_reducible repeat (first | refine blk_drewN ?_ _ | refine blk_drew ?_ | refine blk_alloc ?_ _)); refine blk_far ?_ NB355_354.out _; (with_reducible repeat (first | refine blk_drewN ?_ _ | refine blk_drew ?_ | refine blk_alloc ?_ _)); refine blk_far ?_ NB355_354.out _; (with_reducible repeat (first | refine blk_drewN ?_ _ | refine blk_drew ?_ | refine blk_alloc ?_ _)); exact BK355.out)) (below_size (by repeat (first | (with_reducible first | exact HB.out | apply below_alloc | apply pw_below_drewN | apply below_drew1 | refine below_set ?_ GE354.out | refine below_set ?_ GE355.out) | exact HB.out)))); have n1_ := Aside0.mk (blk_below (g := gb354) (o := .cells #[.int .i64 1, .string t349, .int .i64 0] 46 (0, 0)) (by (with_reducible repeat (first | refine blk_drewN ?_ _ | refine blk_drew ?_ | refine blk_alloc ?_ _)); refine blk_far ?_ NB354_355.out _; (with_reducible repeat (first | refine blk_drewN ?_ _ | refine blk_drew ?_ | refine blk_alloc ?_ _)); refine blk_far ?_ NB354_355.out _; (with_reducible repeat (first | refine blk_drewN ?_ _ | refine blk_drew ?_ | refine blk_alloc ?_ _)); refine blk_far ?_ NB354_355.out _; (with_reducible repeat (first | refine blk_drewN ?_ _ | refine blk_drew ?_ | refine blk_alloc ?_ _)); refine blk_put (cs := #[.int .i64 1, .string t349, .int .i64 0]) ?_ 2 _ rfl; (with_reducible repeat (first | refine blk_drewN ?_ _ | refine blk_drew ?_ | refine blk_alloc ?_ _)); refine blk_put (cs := #[.int .i64 1, .string (⟨#[]⟩ : ByteArray), .int .i64 0]) ?_ 1 _ rfl; (with_reducible repeat (first | refine blk_drewN ?_ _ | refine blk_drew ?_ | refine blk_alloc ?_ _)); refine blk_put (cs := #[.int .i64 0, .string (⟨#[]⟩ : ByteArray), .int .i64 0]) ?_ 0 _ rfl; (with_reducible repeat (first | refine blk_drewN ?_ _ | refine blk_drew ?_ | refine blk_alloc ?_ _)); exact BK354.out) hb); have n2_ := Aside0.mk (blk_below (g := gb355) (o := .cells #[.int .i64 2, .string (t351.extract 0 (a2 : Int).toNat), .int .i64 0] 46 (0, 0)) (by (with_reducible repeat (first | refine blk_drewN ?_ _ | refine blk_drew ?_ | refine blk_alloc ?_ _)); refine blk_put (cs := #[.int .i64 2, .string (t351.extract 0 (a2 : Int).toNat), .int .i64 0]) ?_ 2 _ rfl; (with_reducible repeat (first | refine blk_drewN ?_ _ | refine blk_drew ?_ | refine blk_alloc ?_ _)); refine blk_put (cs := #[.int .i64 2, .string (⟨#[]⟩ : ByteArray), .int .i64 0]) ?_ 1 _ rfl; (with_reducible repeat (first | refine blk_drewN ?_ _ | refine blk_drew ?_ | refine blk_alloc ?_ _)); refine blk_put (cs := #[.int .i64 0, .string (⟨#[]⟩ : ByteArray), .int .i64 0]) ?_ 0 _ rfl; (with_reducible repeat (first | refine blk_drewN ?_ _ | refine blk_drew ?_ | refine blk_alloc ?_ _)); refine blk_far ?_ NB355_354.out _; (with_reducible repeat (first | refine blk_drewN ?_ _ | refine blk_drew ?_ | refine blk_alloc ?_ _)); refine blk_far ?_ NB355_354.out _; (with_reducible repeat (first | refine blk_drewN ?_ _ | refine blk_drew ?_ | refine blk_alloc ?_ _)); refine blk_far ?_ NB355_354.out _; (with_reducible repeat (first | refine blk_drewN ?_ _ | refine blk_drew ?_ | refine blk_alloc ?_ _)); exact BK355.out) hb); have n3_ := Aside0.mk (below_step (by repeat (first | (with_reducible first | exact HB.out | apply below_alloc | apply pw_below_drewN | apply below_drew1 | refine below_set ?_ GE354.out | refine below_set ?_ GE355.out) | exact HB.out)) hb); clear BK354; clear BK355; clear HB; have HO358 := n0_; have BK354 := n1_; have BK355 := n2_; have HB := n3_; clear n0_ n1_ n2_ n3_; clear hb ho43; obtain ⟨Ao44, co44, eo44⟩ := Kd.R_slice HO358.out; subst eo44) | ((with_reducible refine gate_callee (f := 14) rfl ?_); refine goesL_ (some 66) rfl rfl Try.func14 (by kernel_rfl) rfl #[.slice Ao44 y356.length co44] rfl (by (try simp only [List.map_toArray, List.map_cons, List.map_nil]); first | done | rfl | (simp only [List.length_drop, List.length_take]; rfl)) ?_; (with_reducible refine (segment_Look.calls kj15 _ _ y356 t359 t360 t361 t364 t367 _ ?side1 ?side2 A27.out).mono ?_); (case side1 => repeat (first | exact (Kd.R_reads' HO358.out).2.2 | (with_reducible refine Kd.C_alloc ?_ _) | (with_reducible refine Kd.C_drewN ?_ _) | (with_reducible refine Kd.C_drew ?_))); (case side2 => exact (Kd.R_reads' HO358.out).2.1); rintro e w45 ⟨v362, v365, rfl, ho0, ho1, hb⟩; refine ⟨_, rfl, ?_⟩; have n0_ := Aside0.mk (Kd.R_below (by (with_reducible repeat (first | apply Kd.R_alloc | apply Kd.R_drewN | apply Kd.R_drew)); exact HO358.out) hb); have n1_ := Aside0.mk (Kd.R_lower ho0 (below_size (by repeat (first | (with_reducible first | exact HB.out | apply below_alloc | apply pw_below_drewN | apply below_drew1 | refine below_set ?_ GE354.out | refine below_set ?_ GE355.out) | exact HB.out)))); have n2_ := Aside0.mk (Kd.R_lower ho1 (below_size (by repeat (first | (with_reducible first | exact HB.out | apply below_alloc | apply pw_below_drewN | apply below_drew1 | refine below_set ?_ GE354.out | refine below_set ?_ GE355.out) | exact HB.out)))); have n3_ := Aside0.mk (blk_below (g := gb354) (o := .cells #[.int .i64 1, .string t349, .int .i64 0] 46 (0, 0)) (by (with_reducible repeat (first | refine blk_drewN ?_ _ | refine blk_drew ?_ | refine blk_alloc ?_ _)); exact BK354.out) hb); have n4_ := Aside0.mk (blk_below (g := gb355) (o := .cells #[.int .i64 2, .string (t351.extract 0 (a2 : Int).toNat), .int .i64 0] 46 (0, 0)) (by (with_reducible repeat (first | refine blk_drewN ?_ _ | refine blk_drew ?_ | refine blk_alloc ?_ _)); exact BK355.out) hb); have n5_ := Aside0.mk (below_step (by repeat (first | (with_reducible first | exact HB.out | apply below_alloc | apply pw_below_drewN | apply below_drew1 | refine below_set ?_ GE354.out | refine below_set ?_ GE355.out) | exact HB.out)) hb); clear HO358; clear BK354; clear BK355; clear HB; have HO358 := n0_; have HO363 := n1_; have HO366 := n2_; have BK354 := n3_; have BK355 := n4_; have HB := n5_; clear n0_ n1_ n2_ n3_ n4_ n5_; (try clear hb); (try clear hb2); (try clear hk); (try clear hi); (try clear ho0); (try clear ho1)) | ((with_reducible refine gate_dst (N := 13) rfl ?_); (try (refine gate_guard (by rfl) ?_; dsimp only)); refine box_event ?hg (N := 13) ?hd (cs := #[.int .i64 0, .int .i64 0, .slice none 0 0, .slice none 0 0]) (t := 37) ?hr ?_; (case hd => rfl); (case hg => rfl); (case hr => first | (go_simp; done) | (go_simp; rfl)); intro gb368 hg w46 hbox hb; have n0_ := Aside0.mk (Kd.R_below (by (with_reducible repeat (first | apply Kd.R_alloc | apply Kd.R_drewN | apply Kd.R_drew)); exact HO358.out) hb); have n1_ := Aside0.mk (Kd.R_below (by (with_reducible repeat (first | apply Kd.R_alloc | apply Kd.R_drewN | apply Kd.R_drew)); exact HO363.out) hb); have n2_ := Aside0.mk (Kd.R_below (by (with_reducible repeat (first | apply Kd.R_alloc | apply Kd.R_drewN | apply Kd.R_drew)); exact HO366.out) hb); have n3_ := Aside0.mk (blk_below (g := gb354) (o := .cells #[.int .i64 1, .string t349, .int .i64 0] 46 (0, 0)) (by (with_reducible repeat (first | refine blk_drewN ?_ _ | refine blk_drew ?_ | refine blk_alloc ?_ _)); exact BK354.out) hb); have n4_ := Aside0.mk (blk_below (g := gb355) (o := .cells #[.int .i64 2, .string (t351.extract 0 (a2 : Int).toNat), .int .i64 0] 46 (0, 0)) (by (with_reducible repeat (first | refine blk_drewN ?_ _ | refine blk_drew ?_ | refine blk_alloc ?_ _)); exact BK355.out) hb); have n5_ := Aside0.mk (below_step (by repeat (first | (with_reducible first | exact HB.out | apply below_alloc | apply pw_below_drewN | apply below_drew1 | refine below_set ?_ GE354.out | refine below_set ?_ GE355.out) | exact HB.out)) hb); have n6_ := Aside0.mk (hbox); have n7_ := Aside0.mk ((by rw [hg]; exact (below_size (by repeat (first | (with_reducible first | exact HB.out | apply below_alloc | apply pw_below_drewN | apply below_drew1 | refine below_set ?_ GE354.out | refine below_set ?_ GE355.out) | exact HB.out))) : w.heap.size ≤ gb368)); have n8_ := Aside0.mk ((by rw [hg]; exact (below_size (by repeat (first | (with_reducible first | exact HB.out | apply below_alloc | apply pw_below_drewN | apply below_drew1 | refine below_set ?_ GE354.out | refine below_set ?_ GE355.out) | exact HB.out))) : w.heap.size ≤ gb368)); have n9_ := Aside0.mk ((by rw [hg]; exact Nat.ne_of_lt (blk_lt (g := gb354) (o := .cells #[.int .i64 1, .string t349, .int .i64 0] 46 (0, 0)) (by (with_reducible repeat (first | refine blk_drewN ?_ _ | refine blk_drew ?_ | refine blk_alloc ?_ _)); exact BK354.out)) : gb354 ≠ gb368)); have n10_ := Aside0.mk ((by rw [hg]; exact Nat.ne_of_gt (blk_lt (g := gb354) (o := .cells #[.int .i64 1, .string t349, .int .i64 0] 46 (0, 0)) (by (with_reducible repeat (first | refine blk_drewN ?_ _ | refine blk_drew ?_ | refine blk_alloc ?_ _)); exact BK354.out)) : gb368 ≠ gb354)); have n11_ := Aside0.mk ((by rw [hg]; exact Nat.ne_of_lt (blk_lt (g := gb355) (o := .cells #[.int .i64 2, .string (t351.extract 0 (a2 : Int).toNat), .int .i64 0] 46 (0, 0)) (by (with_reducible repeat (first | refine blk_drewN ?_ _ | refine blk_drew ?_ | refine blk_alloc ?_ _)); exact BK355.out)) : gb355 ≠ gb368)); have n12_ := Aside0.mk ((by rw [hg]; exact Nat.ne_of_gt (blk_lt (g := gb355) (o := .cells #[.int .i64 2, .string (t351.extract 0 (a2 : Int).toNat), .int .i64 0] 46 (0, 0)) (by (with_reducible repeat (first | refine blk_drewN ?_ _ | refine blk_drew ?_ | refine blk_alloc ?_ _)); exact BK355.out)) : gb368 ≠ gb355)); clear HO358; clear HO363; clear HO366; clear BK354; clear BK355; clear HB; have HO358 := n0_; have HO363 := n1_; have HO366 := n2_; have BK354 := n3_; have BK355 := n4_; have HB := n5_; have BK368 := n6_; have GW368 := n7_; have GE368 := n8_; have NB354_368 := n9_; have NB368_354 := n10_; have NB355_368 := n11_; have NB368_355 := n12_; clear n0_ n1_ n2_ n3_ n4_ n5_ n6_ n7_ n8_ n9_ n10_ n11_ n12_; clear hb hbox hg; have hnb47 := NB368_354.out; have hnc47 := NB354_368.out; have hnb48 := NB368_355.out; have hnc48 := NB355_368.out; have hcz49_0 : w46.cell? ⟨gb368, 0, none⟩ = some (.int .i64 0) := (blk_cell BK368.out 0).trans rfl; have hcz49_1 : w46.cell? ⟨gb368, 1, none⟩ = some (.int .i64 0) := (blk_cell BK368.out 1).trans rfl; have hcz49_2 : w46.cell? ⟨gb368, 2, none⟩ = some (.slice none 0 0) := (blk_cell BK368.out 2).trans rfl; have hcz49_3 : w46.cell? ⟨gb368, 3, none⟩ = some (.slice none 0 0) := (blk_cell BK368.out 3).trans rfl; have hfz49_0 := blk_frozen BK368.out 0; have hfz49_1 := blk_frozen BK368.out 1; have hfz49_2 := blk_frozen BK368.out 2; have hfz49_3 := blk_frozen BK368.out 3; obtain ⟨Ao50, co50, eo50⟩ := Kd.R_slice HO363.out; subst eo50; obtain ⟨Ao51, co51, eo51⟩ := Kd.R_slice HO366.out; subst eo51))
                  (try simp only [Act.put, List.setIfInBounds_toArray, List.set_cons_zero, List.set_cons_succ])
                  go_cut [76] (fun v76 wc => ∃ (kq : Nat) (x76_27 : Bool), v76 = .bool x76_27 ∧ Aside0 (ententelaw16_SegmentTorn.j2 kq l0 a1 a2 t349 t351 x76_27 t359 t360 t361 t364 = some r) ∧ Aside0 (kq ≤ kj15) ∧ Aside0 (Kd.R Kd.string 9 wc w.heap.size (fun _ => True) (.slice Ao50 t361.length co50) t361) ∧ Aside0 (Kd.R (Kd.int .i64) 3 wc w.heap.size (fun _ => True) (.slice Ao51 t364.length co51) t364) ∧ Aside0 (wc.heap[gb354]? = some (.cells #[.int .i64 1, .string t349, .int .i64 0] 46 (0, 0))) ∧ Aside0 (wc.heap[gb355]? = some (.cells #[.int .i64 2, .string (t351.extract 0 (a2 : Int).toNat), .int .i64 0] 46 (0, 0))) ∧ Aside0 (wc.heap[gb368]? = some (.cells #[.int .i64 t359, .int .i64 t360, (.slice Ao50 t361.length co50), (.slice Ao51 t364.length co51)] 37 (0, 0))) ∧ Aside0 (Below w.heap.size w wc))
                  case first =>
                    have H := HC28.out
                    clear HC28
                    by_cases c52 : t367 = 0
                    · rw [if_pos c52] at H
                      have c52b0 : (t367 == 0) = true := beq_iff_eq.mpr c52
                      have c52b1 : (t367 != 0) = false := bne_eq_false_iff_eq.mpr c52
                      clear c52
                      (first | rw [c52b0] | (simp only [i64_w, i32_w]; rw [c52b0]) | skip)
                      have H' := Aside0.mk H
                      clear H
                      have hnb53 := NB368_354.out
                      have hnc53 := NB354_368.out
                      have hnb54 := NB368_355.out
                      have hnc54 := NB355_368.out
                      have hcz55_0 : w46.cell? ⟨gb368, 0, none⟩ = some (.int .i64 0) := (blk_cell BK368.out 0).trans rfl
                      have hcz55_1 : w46.cell? ⟨gb368, 1, none⟩ = some (.int .i64 0) := (blk_cell BK368.out 1).trans rfl
                      have hcz55_2 : w46.cell? ⟨gb368, 2, none⟩ = some (.slice none 0 0) := (blk_cell BK368.out 2).trans rfl
                      have hcz55_3 : w46.cell? ⟨gb368, 3, none⟩ = some (.slice none 0 0) := (blk_cell BK368.out 3).trans rfl
                      have hfz55_0 := blk_frozen BK368.out 0
                      have hfz55_1 := blk_frozen BK368.out 1
                      have hfz55_2 := blk_frozen BK368.out 2
                      have hfz55_3 := blk_frozen BK368.out 3
                      go_wp2
                      go_meet
                      case rel => exact ⟨_, (((t364.length : Int) != 1)), (by first | rfl | (simp; done) | (simp [*]; done)), H', ⟨by have := HJ3.out; have := HJ15.out; first | omega | exact Nat.le_refl _⟩, ⟨by (with_reducible repeat (first | apply Kd.R_alloc | apply Kd.R_drewN | apply Kd.R_drew)); exact Kd.R_mono (Kd.R_far (p := ⟨gb368, 3, none⟩) (Kd.R_far (p := ⟨gb368, 2, none⟩) (Kd.R_far (p := ⟨gb368, 1, none⟩) (Kd.R_far (p := ⟨gb368, 0, none⟩) (Kd.R_types HO363.out BK368.out (by decide)) (fun _ hk => hk.2) (.int .i64 t359)) (fun _ hk => hk.2) (.int .i64 t360)) (fun _ hk => hk.2) (.slice Ao50 t361.length co50)) (fun _ hk => hk.2) (.slice Ao51 t364.length co51)) (fun _ hk => trivial)⟩, ⟨by (with_reducible repeat (first | apply Kd.R_alloc | apply Kd.R_drewN | apply Kd.R_drew)); exact Kd.R_mono (Kd.R_far (p := ⟨gb368, 3, none⟩) (Kd.R_far (p := ⟨gb368, 2, none⟩) (Kd.R_far (p := ⟨gb368, 1, none⟩) (Kd.R_far (p := ⟨gb368, 0, none⟩) (Kd.R_types HO366.out BK368.out (by decide)) (fun _ hk => hk.2) (.int .i64 t359)) (fun _ hk => hk.2) (.int .i64 t360)) (fun _ hk => hk.2) (.slice Ao50 t361.length co50)) (fun _ hk => hk.2) (.slice Ao51 t364.length co51)) (fun _ hk => trivial)⟩, ⟨by (with_reducible repeat (first | refine blk_drewN ?_ _ | refine blk_drew ?_ | refine blk_alloc ?_ _)); refine blk_far ?_ NB354_368.out _; (with_reducible repeat (first | refine blk_drewN ?_ _ | refine blk_drew ?_ | refine blk_alloc ?_ _)); refine blk_far ?_ NB354_368.out _; (with_reducible repeat (first | refine blk_drewN ?_ _ | refine blk_drew ?_ | refine blk_alloc ?_ _)); refine blk_far ?_ NB354_368.out _; (with_reducible repeat (first | refine blk_drewN ?_ _ | refine blk_drew ?_ | refine blk_alloc ?_ _)); refine blk_far ?_ NB354_368.out _; (with_reducible repeat (first | refine blk_drewN ?_ _ | refine blk_drew ?_ | refine blk_alloc ?_ _)); exact BK354.out⟩, ⟨by (with_reducible repeat (first | refine blk_drewN ?_ _ | refine blk_drew ?_ | refine blk_alloc ?_ _)); refine blk_far ?_ NB355_368.out _; (with_reducible repeat (first | refine blk_drewN ?_ _ | refine blk_drew ?_ | refine blk_alloc ?_ _)); refine blk_far ?_ NB355_368.out _; (with_reducible repeat (first | refine blk_drewN ?_ _ | refine blk_drew ?_ | refine blk_alloc ?_ _)); refine blk_far ?_ NB355_368.out _; (with_reducible repeat (first | refine blk_drewN ?_ _ | refine blk_drew ?_ | refine blk_alloc ?_ _)); refine blk_far ?_ NB355_368.out _; (with_reducible repeat (first | refine blk_drewN ?_ _ | refine blk_drew ?_ | refine blk_alloc ?_ _)); exact BK355.out⟩, ⟨by (with_reducible repeat (first | refine blk_drewN ?_ _ | refine blk_drew ?_ | refine blk_alloc ?_ _)); refine blk_put (cs := #[.int .i64 t359, .int .i64 t360, .slice Ao50 t361.length co50, .slice none 0 0]) ?_ 3 _ rfl; (with_reducible repeat (first | refine blk_drewN ?_ _ | refine blk_drew ?_ | refine blk_alloc ?_ _)); refine blk_put (cs := #[.int .i64 t359, .int .i64 t360, .slice none 0 0, .slice none 0 0]) ?_ 2 _ rfl; (with_reducible repeat (first | refine blk_drewN ?_ _ | refine blk_drew ?_ | refine blk_alloc ?_ _)); refine blk_put (cs := #[.int .i64 t359, .int .i64 0, .slice none 0 0, .slice none 0 0]) ?_ 1 _ rfl; (with_reducible repeat (first | refine blk_drewN ?_ _ | refine blk_drew ?_ | refine blk_alloc ?_ _)); refine blk_put (cs := #[.int .i64 0, .int .i64 0, .slice none 0 0, .slice none 0 0]) ?_ 0 _ rfl; (with_reducible repeat (first | refine blk_drewN ?_ _ | refine blk_drew ?_ | refine blk_alloc ?_ _)); exact BK368.out⟩, ⟨by repeat (first | (with_reducible first | exact HB.out | apply below_alloc | apply pw_below_drewN | apply below_drew1 | refine below_set ?_ GE354.out | refine below_set ?_ GE355.out | refine below_set ?_ GE368.out) | exact HB.out)⟩⟩
                    · rw [if_neg c52] at H
                      have c52b0 : (t367 == 0) = false := beq_eq_false_iff_ne.mpr c52
                      have c52b1 : (t367 != 0) = true := bne_iff_ne.mpr c52
                      (first | rw [c52b0] | (simp only [i64_w, i32_w]; rw [c52b0]) | skip)
                      have H' := Aside0.mk H
                      clear H
                      go_wp2
                      go_meet
                      case rel => exact ⟨_, (true), (by first | rfl | (simp; done) | (simp [*]; done)), H', ⟨by have := HJ3.out; have := HJ15.out; first | omega | exact Nat.le_refl _⟩, ⟨by (with_reducible repeat (first | apply Kd.R_alloc | apply Kd.R_drewN | apply Kd.R_drew)); exact Kd.R_mono (Kd.R_far (p := ⟨gb368, 3, none⟩) (Kd.R_far (p := ⟨gb368, 2, none⟩) (Kd.R_far (p := ⟨gb368, 1, none⟩) (Kd.R_far (p := ⟨gb368, 0, none⟩) (Kd.R_types HO363.out BK368.out (by decide)) (fun _ hk => hk.2) (.int .i64 t359)) (fun _ hk => hk.2) (.int .i64 t360)) (fun _ hk => hk.2) (.slice Ao50 t361.length co50)) (fun _ hk => hk.2) (.slice Ao51 t364.length co51)) (fun _ hk => trivial)⟩, ⟨by (with_reducible repeat (first | apply Kd.R_alloc | apply Kd.R_drewN | apply Kd.R_drew)); exact Kd.R_mono (Kd.R_far (p := ⟨gb368, 3, none⟩) (Kd.R_far (p := ⟨gb368, 2, none⟩) (Kd.R_far (p := ⟨gb368, 1, none⟩) (Kd.R_far (p := ⟨gb368, 0, none⟩) (Kd.R_types HO366.out BK368.out (by decide)) (fun _ hk => hk.2) (.int .i64 t359)) (fun _ hk => hk.2) (.int .i64 t360)) (fun _ hk => hk.2) (.slice Ao50 t361.length co50)) (fun _ hk => hk.2) (.slice Ao51 t364.length co51)) (fun _ hk => trivial)⟩, ⟨by (with_reducible repeat (first | refine blk_drewN ?_ _ | refine blk_drew ?_ | refine blk_alloc ?_ _)); refine blk_far ?_ NB354_368.out _; (with_reducible repeat (first | refine blk_drewN ?_ _ | refine blk_drew ?_ | refine blk_alloc ?_ _)); refine blk_far ?_ NB354_368.out _; (with_reducible repeat (first | refine blk_drewN ?_ _ | refine blk_drew ?_ | refine blk_alloc ?_ _)); refine blk_far ?_ NB354_368.out _; (with_reducible repeat (first | refine blk_drewN ?_ _ | refine blk_drew ?_ | refine blk_alloc ?_ _)); refine blk_far ?_ NB354_368.out _; (with_reducible repeat (first | refine blk_drewN ?_ _ | refine blk_drew ?_ | refine blk_alloc ?_ _)); exact BK354.out⟩, ⟨by (with_reducible repeat (first | refine blk_drewN ?_ _ | refine blk_drew ?_ | refine blk_alloc ?_ _)); refine blk_far ?_ NB355_368.out _; (with_reducible repeat (first | refine blk_drewN ?_ _ | refine blk_drew ?_ | refine blk_alloc ?_ _)); refine blk_far ?_ NB355_368.out _; (with_reducible repeat (first | refine blk_drewN ?_ _ | refine blk_drew ?_ | refine blk_alloc ?_ _)); refine blk_far ?_ NB355_368.out _; (with_reducible repeat (first | refine blk_drewN ?_ _ | refine blk_drew ?_ | refine blk_alloc ?_ _)); refine blk_far ?_ NB355_368.out _; (with_reducible repeat (first | refine blk_drewN ?_ _ | refine blk_drew ?_ | refine blk_alloc ?_ _)); exact BK355.out⟩, ⟨by (with_reducible repeat (first | refine blk_drewN ?_ _ | refine blk_drew ?_ | refine blk_alloc ?_ _)); refine blk_put (cs := #[.int .i64 t359, .int .i64 t360, .slice Ao50 t361.length co50, .slice none 0 0]) ?_ 3 _ rfl; (with_reducible repeat (first | refine blk_drewN ?_ _ | refine blk_drew ?_ | refine blk_alloc ?_ _)); refine blk_put (cs := #[.int .i64 t359, .int .i64 t360, .slice none 0 0, .slice none 0 0]) ?_ 2 _ rfl; (with_reducible repeat (first | refine blk_drewN ?_ _ | refine blk_drew ?_ | refine blk_alloc ?_ _)); refine blk_put (cs := #[.int .i64 t359, .int .i64 0, .slice none 0 0, .slice none 0 0]) ?_ 1 _ rfl; (with_reducible repeat (first | refine blk_drewN ?_ _ | refine blk_drew ?_ | refine blk_alloc ?_ _)); refine blk_put (cs := #[.int .i64 0, .int .i64 0, .slice none 0 0, .slice none 0 0]) ?_ 0 _ rfl; (with_reducible repeat (first | refine blk_drewN ?_ _ | refine blk_drew ?_ | refine blk_alloc ?_ _)); exact BK368.out⟩, ⟨by repeat (first | (with_reducible first | exact HB.out | apply below_alloc | apply pw_below_drewN | apply below_drew1 | refine below_set ?_ GE354.out | refine below_set ?_ GE355.out | refine below_set ?_ GE368.out) | exact HB.out)⟩⟩
                  case rest =>
                    clear HC28
                    try clear c1
                    try clear c2
                    try clear p2
                    try clear c3
                    try clear c4
                    try clear c5
                    try clear c6
                    try clear c7
                    try clear c7b0
                    try clear c7b1
                    try clear c8
                    try clear c9
                    try clear c11
                    try clear c14
                    try clear c19
                    try clear c19b0
                    try clear c19b1
                    try clear c20
                    try clear c20b0
                    try clear c20b1
                    try clear c21
                    try clear c21b0
                    try clear c22
                    try clear c25
                    try clear c25b0
                    try clear c25b1
                    try clear c26
                    try clear c26b0
                    try clear c26b1
                    try clear c39
                    try clear c47
                    try clear c48
                    try clear c52
                    try clear c52b0
                    try clear c52b1
                    try clear c53
                    try clear c54
                    try clear hcz40_0
                    try clear hcz40_1
                    try clear hcz40_2
                    try clear hcz41_0
                    try clear hcz41_1
                    try clear hcz41_2
                    try clear hcz49_0
                    try clear hcz49_1
                    try clear hcz49_2
                    try clear hcz49_3
                    try clear hcz55_0
                    try clear hcz55_1
                    try clear hcz55_2
                    try clear hcz55_3
                    try clear hfz40_0
                    try clear hfz40_1
                    try clear hfz40_2
                    try clear hfz41_0
                    try clear hfz41_1
                    try clear hfz41_2
                    try clear hfz49_0
                    try clear hfz49_1
                    try clear hfz49_2
                    try clear hfz49_3
                    try clear hfz55_0
                    try clear hfz55_1
                    try clear hfz55_2
                    try clear hfz55_3
                    try clear p2
                    obtain ⟨kq, x76_27, rfl, HA, HJ27, HO_369002, HO_369003, BK354, BK355, BK368, HB⟩ := hcut
                    cases kq with
                    | zero => exact absurd HA.out (by simp [ententelaw16_SegmentTorn.j2])
                    | succ kj27 =>
                      have H := HA.out
                      clear HA
                      simp only [ententelaw16_SegmentTorn.j2] at H
                      by_cases c56 : x76_27 = true
                      · subst c56
                        have H1 : (some false) = some r := by rw [if_pos rfl] at H; exact H
                        clear H
                        have H := H1
                        clear H1
                        exact absurd ((Option.some.inj H).trans HT.out) Bool.false_ne_true
                      · replace c56 := Bool.eq_false_iff.mpr c56
                        subst c56
                        have H1 : (if a2 < (t351.size : Int) then (if t359 = 1 then (if t360 = (t349.size : Int) then ((ententeref16_Same.f kj27 t361 l0).bind fun t369 => (if t369 = true then (if 0 < (t364.length : Int) then (if (rd t364 0) = 2 then ((ententelaw16_awake.f kj27).bind fun t371 => (some t371)) else (some false)) else (none)) else (some false))) else (some false)) else (some false)) else (if t359 = 2 then (if t360 = (t351.size : Int) then ((ententeref16_Same.f kj27 t361 (([a1] : List ByteArray))).bind fun t375 => (if t375 = true then (if 0 < (t364.length : Int) then (if (rd t364 0) = 1 then ((ententelaw16_awake.f kj27).bind fun t377 => (some t377)) else (some false)) else (none)) else (some false))) else (some false)) else (some false))) = some r := by rw [if_neg (show ¬ (false = true) by decide)] at H; exact H
                        clear H
                        have H := H1
                        clear H1
                        by_cases c57 : a2 < (t351.size : Int)
                        · rw [if_pos c57] at H
                          have c57b0 : decide (a2 < (t351.size : Int)) = true := decide_eq_true c57
                          clear c57
                          by_cases c58 : t359 = 1
                          · rw [if_pos c58] at H
                            have c58b0 : (t359 == 1) = true := beq_iff_eq.mpr c58
                            have c58b1 : (t359 != 1) = false := bne_eq_false_iff_eq.mpr c58
                            clear c58
                            by_cases c59 : t360 = (t349.size : Int)
                            · rw [if_pos c59] at H
                              have c59b0 : (t360 == (t349.size : Int)) = true := beq_iff_eq.mpr c59
                              have c59b1 : (t360 != (t349.size : Int)) = false := bne_eq_false_iff_eq.mpr c59
                              clear c59
                              replace H := Option.bind_eq_some_iff.mp H
                              obtain ⟨t369, A600, H⟩ := H
                              replace H : (if t369 = true then (if 0 < (t364.length : Int) then (if (rd t364 0) = 2 then ((ententelaw16_awake.f kj27).bind fun t371 => (some t371)) else (some false)) else (none)) else (some false)) = some r := H
                              have A60 := Aside0.mk A600
                              clear A600
                              by_cases c61 : t369 = true
                              · subst c61
                                have H1 : (if 0 < (t364.length : Int) then (if (rd t364 0) = 2 then ((ententelaw16_awake.f kj27).bind fun t371 => (some t371)) else (some false)) else (none)) = some r := by rw [if_pos rfl] at H; exact H
                                clear H
                                have H := H1
                                clear H1
                                by_cases c62 : 0 < (t364.length : Int)
                                · rw [if_pos c62] at H
                                  have c62b0 : decide (0 < (t364.length : Int)) = true := decide_eq_true c62
                                  have c62b1 : decide (0 < t364.length) = true := decide_eq_true (by omega)
                                  clear c62
                                  by_cases c63 : (rd t364 0) = 2
                                  · rw [if_pos c63] at H
                                    have c63b0 : ((rd t364 0) == 2) = true := beq_iff_eq.mpr c63
                                    have c63b1 : ((rd t364 0) != 2) = false := bne_eq_false_iff_eq.mpr c63
                                    clear c63
                                    replace H := Option.bind_eq_some_iff.mp H
                                    obtain ⟨t371, A640, H⟩ := H
                                    replace H : (some t371) = some r := H
                                    have A64 := Aside0.mk A640
                                    clear A640
                                    obtain rfl := Option.some.inj H
                                    have hnb65 := NB368_354.out
                                    have hnc65 := NB354_368.out
                                    have hnb66 := NB368_355.out
                                    have hnc66 := NB355_368.out
                                    have hcz67_0 : wc.cell? ⟨gb368, 0, none⟩ = some (.int .i64 t359) := (blk_cell BK368.out 0).trans rfl
                                    have hcz67_1 : wc.cell? ⟨gb368, 1, none⟩ = some (.int .i64 t360) := (blk_cell BK368.out 1).trans rfl
                                    have hcz67_2 : wc.cell? ⟨gb368, 2, none⟩ = some (.slice Ao50 t361.length co50) := (blk_cell BK368.out 2).trans rfl
                                    have hcz67_3 : wc.cell? ⟨gb368, 3, none⟩ = some (.slice Ao51 t364.length co51) := (blk_cell BK368.out 3).trans rfl
                                    have hfz67_0 := blk_frozen BK368.out 0
                                    have hfz67_1 := blk_frozen BK368.out 1
                                    have hfz67_2 := blk_frozen BK368.out 2
                                    have hfz67_3 := blk_frozen BK368.out 3
                                    go_wp2_with (first | (go_at_call 16; (with_reducible refine (ententeref16_Same.calls kj27 _ _ t361 _ _ l0 true _ ?side1 ?side2 ?side3 ?side4 A60.out).mono ?_); (case side1 => repeat (first | exact (Kd.R_reads' HO_369002.out).2.2 | (with_reducible refine Kd.C_alloc ?_ _) | (with_reducible refine Kd.C_drewN ?_ _) | (with_reducible refine Kd.C_drew ?_))); (case side2 => exact (Kd.R_reads' HO_369002.out).2.1); (case side3 => repeat (first | exact (Kd.C_below HR0.out HB.out) | (with_reducible refine Kd.C_alloc ?_ _) | (with_reducible refine Kd.C_drewN ?_ _) | (with_reducible refine Kd.C_drew ?_))); (case side4 => exact HC0.out); rintro e w' ⟨rfl, ⟨nd, rfl⟩⟩; have p370 : 0 ≤ (0 : Int) := (by omega); have q370 : 0 < (t364.length : Int) := of_decide_eq_true (by first | (with_reducible assumption) | assumption); obtain ⟨ad370, e370, hx370_0⟩ := Kd.at_int (Kd.R_reads' HO_369003.out).2.2 0 p370 q370; cases e370; have qi370 : (0 < t364.length) = True := eq_true (by omega); (try rw [show ((0 : Int)).toNat = 0 from rfl] at hx370_0); (try rw [Addr.add_zero'] at hx370_0); replace p370 := eq_true p370; replace q370 := eq_true q370) | (go_at_call 8; (with_reducible refine (ententelaw16_awake.calls kj27  t371 _ A64.out).mono ?_); rintro e w68 ⟨rfl, hb⟩; have n0_ := Aside0.mk (Kd.R_below (by (with_reducible repeat (first | apply Kd.R_alloc | apply Kd.R_drewN | apply Kd.R_drew)); exact HO_369002.out) hb); have n1_ := Aside0.mk (Kd.R_below (by (with_reducible repeat (first | apply Kd.R_alloc | apply Kd.R_drewN | apply Kd.R_drew)); exact HO_369003.out) hb); have n2_ := Aside0.mk (blk_below (g := gb354) (o := .cells #[.int .i64 1, .string t349, .int .i64 0] 46 (0, 0)) (by (with_reducible repeat (first | refine blk_drewN ?_ _ | refine blk_drew ?_ | refine blk_alloc ?_ _)); exact BK354.out) hb); have n3_ := Aside0.mk (blk_below (g := gb355) (o := .cells #[.int .i64 2, .string (t351.extract 0 (a2 : Int).toNat), .int .i64 0] 46 (0, 0)) (by (with_reducible repeat (first | refine blk_drewN ?_ _ | refine blk_drew ?_ | refine blk_alloc ?_ _)); exact BK355.out) hb); have n4_ := Aside0.mk (blk_below (g := gb368) (o := .cells #[.int .i64 t359, .int .i64 t360, .slice Ao50 t361.length co50, .slice (some ad370) t364.length co51] 37 (0, 0)) (by (with_reducible repeat (first | refine blk_drewN ?_ _ | refine blk_drew ?_ | refine blk_alloc ?_ _)); exact BK368.out) hb); have n5_ := Aside0.mk (below_step (by repeat (first | (with_reducible first | exact HB.out | apply below_alloc | apply pw_below_drewN | apply below_drew1 | refine below_set ?_ GE354.out | refine below_set ?_ GE355.out | refine below_set ?_ GE368.out) | exact HB.out)) hb); clear HO_369002; clear HO_369003; clear BK354; clear BK355; clear BK368; clear HB; have HO_369002 := n0_; have HO_369003 := n1_; have BK354 := n2_; have BK355 := n3_; have BK368 := n4_; have HB := n5_; clear n0_ n1_ n2_ n3_ n4_ n5_; (try clear hb); (try clear hb2); (try clear hk); (try clear hi)))
                                    go_ret
                                    exact ⟨by first | rfl | (simp [errW_none, errW_some] <;> rfl) | (simp [*, errW_none, errW_some] <;> rfl), by repeat (first | (with_reducible first | exact HB.out | apply below_alloc | apply pw_below_drewN | apply below_drew1 | refine below_set ?_ GE354.out | refine below_set ?_ GE355.out | refine below_set ?_ GE368.out) | exact HB.out)⟩
                                  · rw [if_neg c63] at H
                                    have c63b0 : ((rd t364 0) == 2) = false := beq_eq_false_iff_ne.mpr c63
                                    have c63b1 : ((rd t364 0) != 2) = true := bne_iff_ne.mpr c63
                                    exact absurd ((Option.some.inj H).trans HT.out) Bool.false_ne_true
                                · rw [if_neg c62] at H
                                  exact absurd H (by simp)
                              · replace c61 := Bool.eq_false_iff.mpr c61
                                subst c61
                                have H1 : (some false) = some r := by rw [if_neg (show ¬ (false = true) by decide)] at H; exact H
                                clear H
                                have H := H1
                                clear H1
                                exact absurd ((Option.some.inj H).trans HT.out) Bool.false_ne_true
                            · rw [if_neg c59] at H
                              have c59b0 : (t360 == (t349.size : Int)) = false := beq_eq_false_iff_ne.mpr c59
                              have c59b1 : (t360 != (t349.size : Int)) = true := bne_iff_ne.mpr c59
                              exact absurd ((Option.some.inj H).trans HT.out) Bool.false_ne_true
                          · rw [if_neg c58] at H
                            have c58b0 : (t359 == 1) = false := beq_eq_false_iff_ne.mpr c58
                            have c58b1 : (t359 != 1) = true := bne_iff_ne.mpr c58
                            exact absurd ((Option.some.inj H).trans HT.out) Bool.false_ne_true
                        · rw [if_neg c57] at H
                          have c57b0 : decide (a2 < (t351.size : Int)) = false := decide_eq_false c57
                          clear c57
                          by_cases c69 : t359 = 2
                          · rw [if_pos c69] at H
                            have c69b0 : (t359 == 2) = true := beq_iff_eq.mpr c69
                            have c69b1 : (t359 != 2) = false := bne_eq_false_iff_eq.mpr c69
                            clear c69
                            by_cases c70 : t360 = (t351.size : Int)
                            · rw [if_pos c70] at H
                              have c70b0 : (t360 == (t351.size : Int)) = true := beq_iff_eq.mpr c70
                              have c70b1 : (t360 != (t351.size : Int)) = false := bne_eq_false_iff_eq.mpr c70
                              clear c70
                              obtain ⟨y372, hy372⟩ : ∃ y_ : List ByteArray, y_ = (([a1] : List ByteArray)) := ⟨_, rfl⟩
                              replace H : ((ententeref16_Same.f kj27 t361 y372).bind fun t375 => (if t375 = true then (if 0 < (t364.length : Int) then (if (rd t364 0) = 1 then ((ententelaw16_awake.f kj27).bind fun t377 => (some t377)) else (some false)) else (none)) else (some false))) = some r := by first | (rw [hy372]; with_reducible exact H) | (have H2_ := (Option.bind_some _ _).symm.trans H; rw [hy372]; with_reducible exact H2_) | (have H2_ := (Option.bind_some _ _).symm.trans H; with_reducible exact H2_) | with_reducible exact H | (rw [hy372]; exact H) | exact H
                              have Ny372 := Aside0.mk hy372
                              clear hy372
                              replace H := Option.bind_eq_some_iff.mp H
                              obtain ⟨t375, A710, H⟩ := H
                              replace H : (if t375 = true then (if 0 < (t364.length : Int) then (if (rd t364 0) = 1 then ((ententelaw16_awake.f kj27).bind fun t377 => (some t377)) else (some false)) else (none)) else (some false)) = some r := H
                              have A71 := Aside0.mk A710
                              clear A710
                              by_cases c72 : t375 = true
                              · subst c72
                                have H1 : (if 0 < (t364.length : Int) then (if (rd t364 0) = 1 then ((ententelaw16_awake.f kj27).bind fun t377 => (some t377)) else (some false)) else (none)) = some r := by rw [if_pos rfl] at H; exact H
                                clear H
                                have H := H1
                                clear H1
                                by_cases c73 : 0 < (t364.length : Int)
                                · rw [if_pos c73] at H
                                  have c73b0 : decide (0 < (t364.length : Int)) = true := decide_eq_true c73
                                  have c73b1 : decide (0 < t364.length) = true := decide_eq_true (by omega)
                                  clear c73
                                  by_cases c74 : (rd t364 0) = 1
                                  · rw [if_pos c74] at H
                                    have c74b0 : ((rd t364 0) == 1) = true := beq_iff_eq.mpr c74
                                    have c74b1 : ((rd t364 0) != 1) = false := bne_eq_false_iff_eq.mpr c74
                                    clear c74
                                    replace H := Option.bind_eq_some_iff.mp H
                                    obtain ⟨t377, A750, H⟩ := H
                                    replace H : (some t377) = some r := H
                                    have A75 := Aside0.mk A750
                                    clear A750
                                    obtain rfl := Option.some.inj H
                                    have hnb76 := NB368_354.out
                                    have hnc76 := NB354_368.out
                                    have hnb77 := NB368_355.out
                                    have hnc77 := NB355_368.out
                                    have hcz78_0 : wc.cell? ⟨gb368, 0, none⟩ = some (.int .i64 t359) := (blk_cell BK368.out 0).trans rfl
                                    have hcz78_1 : wc.cell? ⟨gb368, 1, none⟩ = some (.int .i64 t360) := (blk_cell BK368.out 1).trans rfl
                                    have hcz78_2 : wc.cell? ⟨gb368, 2, none⟩ = some (.slice Ao50 t361.length co50) := (blk_cell BK368.out 2).trans rfl
                                    have hcz78_3 : wc.cell? ⟨gb368, 3, none⟩ = some (.slice Ao51 t364.length co51) := (blk_cell BK368.out 3).trans rfl
                                    have hfz78_0 := blk_frozen BK368.out 0
                                    have hfz78_1 := blk_frozen BK368.out 1
                                    have hfz78_2 := blk_frozen BK368.out 2
                                    have hfz78_3 := blk_frozen BK368.out 3
                                    go_wp2_with (first | ((with_reducible refine gate_dst (N := 121) rfl ?_); (try (refine gate_guard (by rfl) ?_; dsimp only)); refine Kd.R_lit Kd.string _ 9 ?hg (N := 121) ?hd (xs := ([a1] : List ByteArray)) (inner := [.string a1]) (ok := fun _ => True) (okp := fun _ => True) ?hr ?hp (fun _ hk => hk) trivial (Below.refl _ _) (Nat.le_refl _) (by simp) ?_; (case hd => rfl); (case hg => rfl); (case hr => first | (go_simp; done) | (go_simp; rfl)); (case hp => exact (Reps.one (show Kd.M Kd.string _ _ _ a1 [.string a1] from rfl) (Reps.none _ _))); intro v373 w79 ho80 hb hg_ hnew_; clear hg_ hnew_; (first | rw [← Ny372.out] at ho80 | (simp only [Int.reduceToNat] at ho80; rw [← Ny372.out] at ho80)); have n0_ := Aside0.mk (Kd.R_elder' (by (with_reducible repeat (first | apply Kd.R_alloc | apply Kd.R_drewN | apply Kd.R_drew)); exact HO_369002.out) (Kd.R_base ho80) hb); have n1_ := Aside0.mk (Kd.R_below (by (with_reducible repeat (first | apply Kd.R_alloc | apply Kd.R_drewN | apply Kd.R_drew)); exact HO_369003.out) hb); have n2_ := Aside0.mk (Kd.R_lower (Kd.R_new' ho80 (Kd.R_lt (by (with_reducible repeat (first | apply Kd.R_alloc | apply Kd.R_drewN | apply Kd.R_drew)); exact HO_369002.out))) (below_size (by repeat (first | (with_reducible first | exact HB.out | apply below_alloc | apply pw_below_drewN | apply below_drew1 | refine below_set ?_ GE354.out | refine below_set ?_ GE355.out | refine below_set ?_ GE368.out) | exact HB.out)))); have n3_ := Aside0.mk (blk_below (g := gb354) (o := .cells #[.int .i64 1, .string t349, .int .i64 0] 46 (0, 0)) (by (with_reducible repeat (first | refine blk_drewN ?_ _ | refine blk_drew ?_ | refine blk_alloc ?_ _)); exact BK354.out) hb); have n4_ := Aside0.mk (blk_below (g := gb355) (o := .cells #[.int .i64 2, .string (t351.extract 0 (a2 : Int).toNat), .int .i64 0] 46 (0, 0)) (by (with_reducible repeat (first | refine blk_drewN ?_ _ | refine blk_drew ?_ | refine blk_alloc ?_ _)); exact BK355.out) hb); have n5_ := Aside0.mk (blk_below (g := gb368) (o := .cells #[.int .i64 t359, .int .i64 t360, .slice Ao50 t361.length co50, .slice Ao51 t364.length co51] 37 (0, 0)) (by (with_reducible repeat (first | refine blk_drewN ?_ _ | refine blk_drew ?_ | refine blk_alloc ?_ _)); exact BK368.out) hb); have n6_ := Aside0.mk (below_step (by repeat (first | (with_reducible first | exact HB.out | apply below_alloc | apply pw_below_drewN | apply below_drew1 | refine below_set ?_ GE354.out | refine below_set ?_ GE355.out | refine below_set ?_ GE368.out) | exact HB.out)) hb); clear HO_369002; clear HO_369003; clear BK354; clear BK355; clear BK368; clear HB; have HO_369002 := n0_; have HO_369003 := n1_; have HO374 := n2_; have BK354 := n3_; have BK355 := n4_; have BK368 := n5_; have HB := n6_; clear n0_ n1_ n2_ n3_ n4_ n5_ n6_; clear hb ho80; obtain ⟨Ao81, co81, eo81⟩ := Kd.R_slice HO374.out; subst eo81) | (go_at_call 16; (with_reducible refine (ententeref16_Same.calls kj27 _ _ t361 _ _ y372 true _ ?side1 ?side2 ?side3 ?side4 A71.out).mono ?_); (case side1 => repeat (first | exact (Kd.R_reads' HO_369002.out).2.2 | (with_reducible refine Kd.C_alloc ?_ _) | (with_reducible refine Kd.C_drewN ?_ _) | (with_reducible refine Kd.C_drew ?_))); (case side2 => exact (Kd.R_reads' HO_369002.out).2.1); (case side3 => repeat (first | exact (Kd.R_reads' HO374.out).2.2 | (with_reducible refine Kd.C_alloc ?_ _) | (with_reducible refine Kd.C_drewN ?_ _) | (with_reducible refine Kd.C_drew ?_))); (case side4 => exact (Kd.R_reads' HO374.out).2.1); rintro e w' ⟨rfl, ⟨nd, rfl⟩⟩; have hcz82_0 : w79.cell? ⟨gb368, 0, none⟩ = some (.int .i64 t359) := (blk_cell BK368.out 0).trans rfl; have hcz82_1 : w79.cell? ⟨gb368, 1, none⟩ = some (.int .i64 t360) := (blk_cell BK368.out 1).trans rfl; have hcz82_2 : w79.cell? ⟨gb368, 2, none⟩ = some (.slice Ao50 t361.length co50) := (blk_cell BK368.out 2).trans rfl; have hcz82_3 : w79.cell? ⟨gb368, 3, none⟩ = some (.slice Ao51 t364.length co51) := (blk_cell BK368.out 3).trans rfl; have hfz82_0 := blk_frozen BK368.out 0; have hfz82_1 := blk_frozen BK368.out 1; have hfz82_2 := blk_frozen BK368.out 2; have hfz82_3 := blk_frozen BK368.out 3; have p376 : 0 ≤ (0 : Int) := (by omega); have q376 : 0 < (t364.length : Int) := of_decide_eq_true (by first | (with_reducible assumption) | assumption); obtain ⟨ad376, e376, hx376_0⟩ := Kd.at_int (Kd.R_reads' HO_369003.out).2.2 0 p376 q376; cases e376; have qi376 : (0 < t364.length) = True := eq_true (by omega); (try rw [show ((0 : Int)).toNat = 0 from rfl] at hx376_0); (try rw [Addr.add_zero'] at hx376_0); replace p376 := eq_true p376; replace q376 := eq_true q376) | (go_at_call 8; (with_reducible refine (ententelaw16_awake.calls kj27  t377 _ A75.out).mono ?_); rintro e w83 ⟨rfl, hb⟩; have n0_ := Aside0.mk (Kd.R_below (by (with_reducible repeat (first | apply Kd.R_alloc | apply Kd.R_drewN | apply Kd.R_drew)); exact HO_369002.out) hb); have n1_ := Aside0.mk (Kd.R_below (by (with_reducible repeat (first | apply Kd.R_alloc | apply Kd.R_drewN | apply Kd.R_drew)); exact HO_369003.out) hb); have n2_ := Aside0.mk (Kd.R_below (by (with_reducible repeat (first | apply Kd.R_alloc | apply Kd.R_drewN | apply Kd.R_drew)); exact HO374.out) hb); have n3_ := Aside0.mk (blk_below (g := gb354) (o := .cells #[.int .i64 1, .string t349, .int .i64 0] 46 (0, 0)) (by (with_reducible repeat (first | refine blk_drewN ?_ _ | refine blk_drew ?_ | refine blk_alloc ?_ _)); exact BK354.out) hb); have n4_ := Aside0.mk (blk_below (g := gb355) (o := .cells #[.int .i64 2, .string (t351.extract 0 (a2 : Int).toNat), .int .i64 0] 46 (0, 0)) (by (with_reducible repeat (first | refine blk_drewN ?_ _ | refine blk_drew ?_ | refine blk_alloc ?_ _)); exact BK355.out) hb); have n5_ := Aside0.mk (blk_below (g := gb368) (o := .cells #[.int .i64 t359, .int .i64 t360, .slice Ao50 t361.length co50, .slice (some ad376) t364.length co51] 37 (0, 0)) (by (with_reducible repeat (first | refine blk_drewN ?_ _ | refine blk_drew ?_ | refine blk_alloc ?_ _)); exact BK368.out) hb); have n6_ := Aside0.mk (below_step (by repeat (first | (with_reducible first | exact HB.out | apply below_alloc | apply pw_below_drewN | apply below_drew1 | refine below_set ?_ GE354.out | refine below_set ?_ GE355.out | refine below_set ?_ GE368.out) | exact HB.out)) hb); clear HO_369002; clear HO_369003; clear HO374; clear BK354; clear BK355; clear BK368; clear HB; have HO_369002 := n0_; have HO_369003 := n1_; have HO374 := n2_; have BK354 := n3_; have BK355 := n4_; have BK368 := n5_; have HB := n6_; clear n0_ n1_ n2_ n3_ n4_ n5_ n6_; (try clear hb); (try clear hb2); (try clear hk); (try clear hi)))
                                    go_ret
                                    exact ⟨by first | rfl | (simp [errW_none, errW_some] <;> rfl) | (simp [*, errW_none, errW_some] <;> rfl), by repeat (first | (with_reducible first | exact HB.out | apply below_alloc | apply pw_below_drewN | apply below_drew1 | refine below_set ?_ GE354.out | refine below_set ?_ GE355.out | refine below_set ?_ GE368.out) | exact HB.out)⟩
                                  · rw [if_neg c74] at H
                                    have c74b0 : ((rd t364 0) == 1) = false := beq_eq_false_iff_ne.mpr c74
                                    have c74b1 : ((rd t364 0) != 1) = true := bne_iff_ne.mpr c74
                                    exact absurd ((Option.some.inj H).trans HT.out) Bool.false_ne_true
                                · rw [if_neg c73] at H
                                  exact absurd H (by simp)
                              · replace c72 := Bool.eq_false_iff.mpr c72
                                subst c72
                                have H1 : (some false) = some r := by rw [if_neg (show ¬ (false = true) by decide)] at H; exact H
                                clear H
                                have H := H1
                                clear H1
                                exact absurd ((Option.some.inj H).trans HT.out) Bool.false_ne_true
                            · rw [if_neg c70] at H
                              have c70b0 : (t360 == (t351.size : Int)) = false := beq_eq_false_iff_ne.mpr c70
                              have c70b1 : (t360 != (t351.size : Int)) = true := bne_iff_ne.mpr c70
                              exact absurd ((Option.some.inj H).trans HT.out) Bool.false_ne_true
                          · rw [if_neg c69] at H
                            have c69b0 : (t359 == 2) = false := beq_eq_false_iff_ne.mpr c69
                            have c69b1 : (t359 != 2) = true := bne_iff_ne.mpr c69
                            exact absurd ((Option.some.inj H).trans HT.out) Bool.false_ne_true
                · rw [if_neg c26] at H
                  exact absurd H (by simp)
              · rw [if_neg c25] at H
                exact absurd H (by simp)

/-- THE ONE PURE STATEMENT of ententelaw16_SegmentTorn. -/
def ententelaw16_SegmentTorn.Pure : Prop := ∀ (l0 : List ByteArray) (a1 : ByteArray) (a2 : Int), (l0.length ≤ 9223372036854775807 ∧ l0.length * 16 ≤ 140737488351232 ∧ ∀ y_ ∈ l0, y_.size ≤ 140737488351232) → a1.size ≤ 140737488351232 → (Lit.int .i64 a2).wf = true → ∃ k, ententelaw16_SegmentTorn.f k l0 a1 a2 = some true

end Go.Proofs.Yticnbjfmjhdjoaa.PA
