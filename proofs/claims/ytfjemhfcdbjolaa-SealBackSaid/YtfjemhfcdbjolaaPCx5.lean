-- Written by a program of this session (wip/tools/mp.py over the kit's printer); Lean checks it.
import Derived.Test.YtfjemhfcdbjolaaPCx0
import Derived.Test.YtfjemhfcdbjolaaPCx1
import Derived.Test.YtfjemhfcdbjolaaPCx3
import Derived.Test.YtfjemhfcdbjolaaPCx4
namespace Go.Proofs.Ytfjemhfcdbjolaa.PC
open Go.RowKit Go.Proofs.YtfjemhfcdbjolaaW.PrintWords Go.Proofs.YtfjemhfcdbjolaaW.PrintLast Go.Proofs.YtfjemhfcdbjolaaW.PrintMore
attribute [local go_sem] max2_int min2_int max_two min_two max_three min_three max_four min_four   -- for this text's walks alone
set_option linter.unusedVariables false
set_option linter.unusedSimpArgs false

/-! ### ententelaw02_SealBack: function 7 -/
mutual
def ententelaw02_SealBack.j0 : Nat → Int → List ByteArray → Int → ByteArray → List Int → Bool → Option (Bool)
  | 0, _, _, _, _, _, _ => none
  | k + 1, x0, x1, x2, x7, x8, x41 => if x41 = true then ((ententelaw02_awake.f k).bind fun t159 => (some t159)) else ((seal_Cut.f k x7 x0).bind fun bt160 => (ententelaw02_SealBack.l0 k x0 x1 x2 x7 x8 bt160.1 bt160.2.1 bt160.2.2 0 0))
def ententelaw02_SealBack.j2 : Nat → Int → List ByteArray → Int → ByteArray → List ByteArray → Int → Int → Int → Int → Option (Bool)
  | 0, _, _, _, _, _, _, _, _, _ => none
  | k + 1, x0, x1, x2, x7, x10, x11, x12, x13, x14 => if 0 ≤ x2 then (if x2 ≤ (x7.size : Int) then ((seal_Cut.f k (x7.extract 0 (x2 : Int).toNat) x0).bind fun bt167 => (if x14 < x2 then (ententelaw02_SealBack.j3 k x1 x7 x10 x11 x12 x13 x14 bt167.1 bt167.2.1 bt167.2.2 10) else (ententelaw02_SealBack.j3 k x1 x7 x10 x11 x12 x13 x14 bt167.1 bt167.2.1 bt167.2.2 0))) else (none)) else (none)
def ententelaw02_SealBack.j3 : Nat → List ByteArray → ByteArray → List ByteArray → Int → Int → Int → Int → List ByteArray → Int → Int → Int → Option (Bool)
  | 0, _, _, _, _, _, _, _, _, _, _, _ => none
  | k + 1, x1, x7, x10, x11, x12, x13, x14, x15, x16, x17, x18 => if (x1.length : Int) = 0 then (if (wrap64 ((wrap64 ((wrap64 ((x10.length : Int) + (x15.length : Int))) + x11)) + x16)) = 0 then ((ententelaw02_awake.f k).bind fun t172 => (some t172)) else (some false)) else ((ententeref01_Same.f k x10 x1).bind fun t173 => (if t173 = true then (if x11 = (x7.size : Int) then (if x12 = 0 then (if 0 ≤ x13 then (if x13 ≤ (x1.length : Int) then ((ententeref01_Same.f k x15 (x1.take (x13 : Int).toNat)).bind fun t175 => (if t175 = true then (if x16 = x14 then (if x17 = x18 then ((ententelaw02_awake.f k).bind fun t176 => (some t176)) else (some false)) else (some false)) else (some false))) else (none)) else (none)) else (some false)) else (some false)) else (some false)))
def ententelaw02_SealBack.l0 : Nat → Int → List ByteArray → Int → ByteArray → List Int → List ByteArray → Int → Int → Int → Int → Option (Bool)
  | 0, _, _, _, _, _, _, _, _, _, _ => none
  | k + 1, x0, x1, x2, x7, x8, x10, x11, x12, x13, x14 => if x13 < (x8.length : Int) then (if 0 ≤ x13 then (if (rd x8 x13) ≤ x2 then (ententelaw02_SealBack.l0 k x0 x1 x2 x7 x8 x10 x11 x12 (wrap64 (x13 + 1)) (rd x8 x13)) else (ententelaw02_SealBack.j2 k x0 x1 x2 x7 x10 x11 x12 x13 x14)) else (none)) else (ententelaw02_SealBack.j2 k x0 x1 x2 x7 x10 x11 x12 x13 x14)
end
def ententelaw02_SealBack.f (k : Nat) (a0 : Int) (l1 : List ByteArray) (a2 : Int) : Option (Bool) := (ententelaw01_Small.f k l1).bind fun t152 => (if t152 = true then ((ententelaw02_sealed.f k a0 l1).bind fun bt154 => (if bt154.2.2 = true then (if a2 < 0 then (ententelaw02_SealBack.j0 k a0 l1 a2 bt154.1 bt154.2.1 true) else (ententelaw02_SealBack.j0 k a0 l1 a2 bt154.1 bt154.2.1 (decide (a2 > (bt154.1.size : Int))))) else (ententelaw02_SealBack.j0 k a0 l1 a2 bt154.1 bt154.2.1 true))) else ((ententelaw02_awake.f k).bind fun t153 => (some t153)))
theorem ententelaw02_SealBack.mono_l : ∀ k, (∀ y0 y1 y2 y3 y4 y5, LeO (ententelaw02_SealBack.j0 k y0 y1 y2 y3 y4 y5) (ententelaw02_SealBack.j0 (k + 1) y0 y1 y2 y3 y4 y5)) ∧ (∀ y0 y1 y2 y3 y4 y5 y6 y7 y8, LeO (ententelaw02_SealBack.j2 k y0 y1 y2 y3 y4 y5 y6 y7 y8) (ententelaw02_SealBack.j2 (k + 1) y0 y1 y2 y3 y4 y5 y6 y7 y8)) ∧ (∀ y0 y1 y2 y3 y4 y5 y6 y7 y8 y9 y10, LeO (ententelaw02_SealBack.j3 k y0 y1 y2 y3 y4 y5 y6 y7 y8 y9 y10) (ententelaw02_SealBack.j3 (k + 1) y0 y1 y2 y3 y4 y5 y6 y7 y8 y9 y10)) ∧ (∀ y0 y1 y2 y3 y4 y5 y6 y7 y8 y9, LeO (ententelaw02_SealBack.l0 k y0 y1 y2 y3 y4 y5 y6 y7 y8 y9) (ententelaw02_SealBack.l0 (k + 1) y0 y1 y2 y3 y4 y5 y6 y7 y8 y9))
  | 0 => ⟨fun _ _ _ _ _ _ r h => by simp [ententelaw02_SealBack.j0] at h, fun _ _ _ _ _ _ _ _ _ r h => by simp [ententelaw02_SealBack.j2] at h, fun _ _ _ _ _ _ _ _ _ _ _ r h => by simp [ententelaw02_SealBack.j3] at h, fun _ _ _ _ _ _ _ _ _ _ r h => by simp [ententelaw02_SealBack.l0] at h⟩
  | k + 1 => by
    obtain ⟨ih0, ih1, ih2, ih3⟩ := ententelaw02_SealBack.mono_l k
    refine ⟨?_, ?_, ?_, ?_⟩
    · intro y0 y1 y2 y3 y4 y5
      unfold ententelaw02_SealBack.j0
      repeat' first
      | (with_reducible exact ih0 _ _ _ _ _ _)
      | (with_reducible exact ih1 _ _ _ _ _ _ _ _ _)
      | (with_reducible exact ih2 _ _ _ _ _ _ _ _ _ _ _)
      | (with_reducible exact ih3 _ _ _ _ _ _ _ _ _ _)
      | (with_reducible exact ententelaw01_Small.mono _ _)
      | (with_reducible exact ententelaw02_awake.mono _)
      | (with_reducible exact ententelaw02_sealed.mono _ _ _)
      | (with_reducible exact ententeref01_Same.mono _ _ _)
      | (with_reducible exact seal_Cut.mono _ _ _)
      | (with_reducible exact LeO.refl _)
      | (with_reducible exact LeO.none _)
      | (with_reducible refine LeO.ite ?_ ?_)
      | (with_reducible refine LeO.bind ?_ (fun _ => ?_))
      | exact ih0 _ _ _ _ _ _
      | exact ih1 _ _ _ _ _ _ _ _ _
      | exact ih2 _ _ _ _ _ _ _ _ _ _ _
      | exact ih3 _ _ _ _ _ _ _ _ _ _
      | exact ententelaw01_Small.mono _ _
      | exact ententelaw02_awake.mono _
      | exact ententelaw02_sealed.mono _ _ _
      | exact ententeref01_Same.mono _ _ _
      | exact seal_Cut.mono _ _ _
      | exact LeO.none _
      | refine LeO.ite ?_ ?_
      | refine LeO.bind ?_ (fun _ => ?_)
    · intro y0 y1 y2 y3 y4 y5 y6 y7 y8
      unfold ententelaw02_SealBack.j2
      repeat' first
      | (with_reducible exact ih0 _ _ _ _ _ _)
      | (with_reducible exact ih1 _ _ _ _ _ _ _ _ _)
      | (with_reducible exact ih2 _ _ _ _ _ _ _ _ _ _ _)
      | (with_reducible exact ih3 _ _ _ _ _ _ _ _ _ _)
      | (with_reducible exact ententelaw01_Small.mono _ _)
      | (with_reducible exact ententelaw02_awake.mono _)
      | (with_reducible exact ententelaw02_sealed.mono _ _ _)
      | (with_reducible exact ententeref01_Same.mono _ _ _)
      | (with_reducible exact seal_Cut.mono _ _ _)
      | (with_reducible exact LeO.refl _)
      | (with_reducible exact LeO.none _)
      | (with_reducible refine LeO.ite ?_ ?_)
      | (with_reducible refine LeO.bind ?_ (fun _ => ?_))
      | exact ih0 _ _ _ _ _ _
      | exact ih1 _ _ _ _ _ _ _ _ _
      | exact ih2 _ _ _ _ _ _ _ _ _ _ _
      | exact ih3 _ _ _ _ _ _ _ _ _ _
      | exact ententelaw01_Small.mono _ _
      | exact ententelaw02_awake.mono _
      | exact ententelaw02_sealed.mono _ _ _
      | exact ententeref01_Same.mono _ _ _
      | exact seal_Cut.mono _ _ _
      | exact LeO.none _
      | refine LeO.ite ?_ ?_
      | refine LeO.bind ?_ (fun _ => ?_)
    · intro y0 y1 y2 y3 y4 y5 y6 y7 y8 y9 y10
      unfold ententelaw02_SealBack.j3
      repeat' first
      | (with_reducible exact ih0 _ _ _ _ _ _)
      | (with_reducible exact ih1 _ _ _ _ _ _ _ _ _)
      | (with_reducible exact ih2 _ _ _ _ _ _ _ _ _ _ _)
      | (with_reducible exact ih3 _ _ _ _ _ _ _ _ _ _)
      | (with_reducible exact ententelaw01_Small.mono _ _)
      | (with_reducible exact ententelaw02_awake.mono _)
      | (with_reducible exact ententelaw02_sealed.mono _ _ _)
      | (with_reducible exact ententeref01_Same.mono _ _ _)
      | (with_reducible exact seal_Cut.mono _ _ _)
      | (with_reducible exact LeO.refl _)
      | (with_reducible exact LeO.none _)
      | (with_reducible refine LeO.ite ?_ ?_)
      | (with_reducible refine LeO.bind ?_ (fun _ => ?_))
      | exact ih0 _ _ _ _ _ _
      | exact ih1 _ _ _ _ _ _ _ _ _
      | exact ih2 _ _ _ _ _ _ _ _ _ _ _
      | exact ih3 _ _ _ _ _ _ _ _ _ _
      | exact ententelaw01_Small.mono _ _
      | exact ententelaw02_awake.mono _
      | exact ententelaw02_sealed.mono _ _ _
      | exact ententeref01_Same.mono _ _ _
      | exact seal_Cut.mono _ _ _
      | exact LeO.none _
      | refine LeO.ite ?_ ?_
      | refine LeO.bind ?_ (fun _ => ?_)
    · intro y0 y1 y2 y3 y4 y5 y6 y7 y8 y9
      unfold ententelaw02_SealBack.l0
      repeat' first
      | (with_reducible exact ih0 _ _ _ _ _ _)
      | (with_reducible exact ih1 _ _ _ _ _ _ _ _ _)
      | (with_reducible exact ih2 _ _ _ _ _ _ _ _ _ _ _)
      | (with_reducible exact ih3 _ _ _ _ _ _ _ _ _ _)
      | (with_reducible exact ententelaw01_Small.mono _ _)
      | (with_reducible exact ententelaw02_awake.mono _)
      | (with_reducible exact ententelaw02_sealed.mono _ _ _)
      | (with_reducible exact ententeref01_Same.mono _ _ _)
      | (with_reducible exact seal_Cut.mono _ _ _)
      | (with_reducible exact LeO.refl _)
      | (with_reducible exact LeO.none _)
      | (with_reducible refine LeO.ite ?_ ?_)
      | (with_reducible refine LeO.bind ?_ (fun _ => ?_))
      | exact ih0 _ _ _ _ _ _
      | exact ih1 _ _ _ _ _ _ _ _ _
      | exact ih2 _ _ _ _ _ _ _ _ _ _ _
      | exact ih3 _ _ _ _ _ _ _ _ _ _
      | exact ententelaw01_Small.mono _ _
      | exact ententelaw02_awake.mono _
      | exact ententelaw02_sealed.mono _ _ _
      | exact ententeref01_Same.mono _ _ _
      | exact seal_Cut.mono _ _ _
      | exact LeO.none _
      | refine LeO.ite ?_ ?_
      | refine LeO.bind ?_ (fun _ => ?_)
theorem ententelaw02_SealBack.mono : ∀ a0 a1 a2 k, LeO (ententelaw02_SealBack.f k a0 a1 a2) (ententelaw02_SealBack.f (k + 1) a0 a1 a2) := by
  intro a0 a1 a2 k
  obtain ⟨ih0, ih1, ih2, ih3⟩ := ententelaw02_SealBack.mono_l k
  unfold ententelaw02_SealBack.f
  repeat' first
      | (with_reducible exact ih0 _ _ _ _ _ _)
      | (with_reducible exact ih1 _ _ _ _ _ _ _ _ _)
      | (with_reducible exact ih2 _ _ _ _ _ _ _ _ _ _ _)
      | (with_reducible exact ih3 _ _ _ _ _ _ _ _ _ _)
      | (with_reducible exact ententelaw01_Small.mono _ _)
      | (with_reducible exact ententelaw02_awake.mono _)
      | (with_reducible exact ententelaw02_sealed.mono _ _ _)
      | (with_reducible exact ententeref01_Same.mono _ _ _)
      | (with_reducible exact seal_Cut.mono _ _ _)
      | (with_reducible exact LeO.refl _)
      | (with_reducible exact LeO.none _)
      | (with_reducible refine LeO.ite ?_ ?_)
      | (with_reducible refine LeO.bind ?_ (fun _ => ?_))
      | exact ih0 _ _ _ _ _ _
      | exact ih1 _ _ _ _ _ _ _ _ _
      | exact ih2 _ _ _ _ _ _ _ _ _ _ _
      | exact ih3 _ _ _ _ _ _ _ _ _ _
      | exact ententelaw01_Small.mono _ _
      | exact ententelaw02_awake.mono _
      | exact ententelaw02_sealed.mono _ _ _
      | exact ententeref01_Same.mono _ _ _
      | exact seal_Cut.mono _ _ _
      | exact LeO.none _
      | refine LeO.ite ?_ ?_
      | refine LeO.bind ?_ (fun _ => ?_)
set_option maxHeartbeats 8000000 in
set_option maxRecDepth 100000 in
theorem ententelaw02_SealBack.calls (k : Nat) (a0 : Int) (A1 : Option Addr) (c1 : Nat) (l1 : List ByteArray) (a2 : Int) (r : Bool) (w : World) (hr1 : Kd.C Kd.string w A1 l1.length l1) (hc1 : l1.length ≤ c1) (ht : r = true) (h : ententelaw02_SealBack.f k a0 l1 a2 = some r) :
    Calls Try.prog 7 #[.int .i64 a0, .slice A1 l1.length c1, .int .i64 a2] w fun e w' => e = .returned (.bool r) ∧ Below w.heap.size w w' := by
  have HR1 := Aside0.mk hr1
  have HC1 := Aside0.mk hc1
  clear hr1 hc1
  have HB := Aside0.mk (Below.refl w.heap.size w)
  have HT := Aside0.mk ht
  clear ht
  have H : ((ententelaw01_Small.f k l1).bind fun t152 => (if t152 = true then ((ententelaw02_sealed.f k a0 l1).bind fun bt154 => (if bt154.2.2 = true then (if a2 < 0 then (ententelaw02_SealBack.j0 k a0 l1 a2 bt154.1 bt154.2.1 true) else (ententelaw02_SealBack.j0 k a0 l1 a2 bt154.1 bt154.2.1 (decide (a2 > (bt154.1.size : Int))))) else (ententelaw02_SealBack.j0 k a0 l1 a2 bt154.1 bt154.2.1 true))) else ((ententelaw02_awake.f k).bind fun t153 => (some t153)))) = some r := h
  clear h
  replace H := Option.bind_eq_some_iff.mp H
  obtain ⟨t152, A40, H⟩ := H
  replace H : (if t152 = true then ((ententelaw02_sealed.f k a0 l1).bind fun bt154 => (if bt154.2.2 = true then (if a2 < 0 then (ententelaw02_SealBack.j0 k a0 l1 a2 bt154.1 bt154.2.1 true) else (ententelaw02_SealBack.j0 k a0 l1 a2 bt154.1 bt154.2.1 (decide (a2 > (bt154.1.size : Int))))) else (ententelaw02_SealBack.j0 k a0 l1 a2 bt154.1 bt154.2.1 true))) else ((ententelaw02_awake.f k).bind fun t153 => (some t153))) = some r := H
  have A4 := Aside0.mk A40
  clear A40
  by_cases c5 : t152 = true
  · subst c5
    have H1 : ((ententelaw02_sealed.f k a0 l1).bind fun bt154 => (if bt154.2.2 = true then (if a2 < 0 then (ententelaw02_SealBack.j0 k a0 l1 a2 bt154.1 bt154.2.1 true) else (ententelaw02_SealBack.j0 k a0 l1 a2 bt154.1 bt154.2.1 (decide (a2 > (bt154.1.size : Int))))) else (ententelaw02_SealBack.j0 k a0 l1 a2 bt154.1 bt154.2.1 true))) = some r := by rw [if_pos rfl] at H; exact H
    clear H
    have H := H1
    clear H1
    replace H := Option.bind_eq_some_iff.mp H
    obtain ⟨⟨t154, t155, t156⟩, A60, H⟩ := H
    replace H : (if t156 = true then (if a2 < 0 then (ententelaw02_SealBack.j0 k a0 l1 a2 t154 t155 true) else (ententelaw02_SealBack.j0 k a0 l1 a2 t154 t155 (decide (a2 > (t154.size : Int))))) else (ententelaw02_SealBack.j0 k a0 l1 a2 t154 t155 true)) = some r := H
    have A6 := Aside0.mk A60
    clear A60
    have HC7 := Aside0.mk H
    clear H
    go_enter Try.func7, Try.ntmps7
    go_upto_region 4 with (first | ((with_reducible refine gate_callee (f := 9) rfl ?_); refine goesL_ (some 20) rfl rfl Try.func9 (by kernel_rfl) rfl #[.slice A1 l1.length c1] rfl (by (try simp only [List.map_toArray, List.map_cons, List.map_nil]); first | done | rfl | (simp only [List.length_drop, List.length_take]; rfl)) ?_; (with_reducible refine (ententelaw01_Small.calls k _ _ l1 true _ ?side1 ?side2 A4.out).mono ?_); (case side1 => repeat (first | exact HR1.out | (with_reducible refine Kd.C_alloc ?_ _) | (with_reducible refine Kd.C_drewN ?_ _) | (with_reducible refine Kd.C_drew ?_))); (case side2 => exact HC1.out); rintro e w8 ⟨rfl, hb⟩; refine ⟨_, rfl, ?_⟩; have n0_ := Aside0.mk (below_step (by repeat (first | (with_reducible first | exact HB.out | apply below_alloc | apply pw_below_drewN | apply below_drew1) | exact HB.out)) hb); clear HB; have HB := n0_; clear n0_; (try clear hb); (try clear hb2); (try clear hk); (try clear hi)) | ((with_reducible refine gate_callee (f := 18) rfl ?_); refine goesL_ (some 26) rfl rfl Try.func18 (by kernel_rfl) rfl #[.int .i64 a0, .slice A1 l1.length c1] rfl (by (try simp only [List.map_toArray, List.map_cons, List.map_nil]); first | done | rfl | (simp only [List.length_drop, List.length_take]; rfl)) ?_; (with_reducible refine (ententelaw02_sealed.calls k a0 _ _ l1 t154 t155 t156 _ ?side1 ?side2 A6.out).mono ?_); (case side1 => repeat (first | exact (Kd.C_below HR1.out HB.out) | (with_reducible refine Kd.C_alloc ?_ _) | (with_reducible refine Kd.C_drewN ?_ _) | (with_reducible refine Kd.C_drew ?_))); (case side2 => exact HC1.out); rintro e w9 ⟨v157, rfl, ho0, hb⟩; refine ⟨_, rfl, ?_⟩; have n0_ := Aside0.mk (Kd.R_lower ho0 (below_size (by repeat (first | (with_reducible first | exact HB.out | apply below_alloc | apply pw_below_drewN | apply below_drew1) | exact HB.out)))); have n1_ := Aside0.mk (below_step (by repeat (first | (with_reducible first | exact HB.out | apply below_alloc | apply pw_below_drewN | apply below_drew1) | exact HB.out)) hb); clear HB; have HO158 := n0_; have HB := n1_; clear n0_ n1_; (try clear hb); (try clear hb2); (try clear hk); (try clear hi); (try clear ho0)))
    (try simp only [Act.put, List.setIfInBounds_toArray, List.set_cons_zero, List.set_cons_succ])
    go_cut [41] (fun v41 wc => ∃ (kq : Nat) (x41_6 : Bool), v41 = .bool x41_6 ∧ Aside0 (ententelaw02_SealBack.j0 kq a0 l1 a2 t154 t155 x41_6 = some r) ∧ Aside0 (kq ≤ k) ∧ Aside0 (Kd.R (Kd.int .i64) 3 wc w.heap.size (fun _ => True) v157 t155) ∧ Aside0 (Below w.heap.size w wc))
    case first =>
      have H := HC7.out
      clear HC7
      by_cases c10 : t156 = true
      · subst c10
        have H1 : (if a2 < 0 then (ententelaw02_SealBack.j0 k a0 l1 a2 t154 t155 true) else (ententelaw02_SealBack.j0 k a0 l1 a2 t154 t155 (decide (a2 > (t154.size : Int))))) = some r := by rw [if_pos rfl] at H; exact H
        clear H
        have H := H1
        clear H1
        by_cases c11 : a2 < 0
        · rw [if_pos c11] at H
          have c11b0 : decide (a2 < 0) = true := decide_eq_true c11
          clear c11
          (first | rw [c11b0] | (simp only [i64_w, i32_w]; rw [c11b0]) | skip)
          have H' := Aside0.mk H
          clear H
          go_wp2
          go_meet
          case rel => exact ⟨_, (true), (by first | rfl | (simp; done) | (simp [*]; done)), H', ⟨by first | omega | exact Nat.le_refl _⟩, ⟨by (with_reducible repeat (first | apply Kd.R_alloc | apply Kd.R_drewN | apply Kd.R_drew)); exact HO158.out⟩, ⟨by repeat (first | (with_reducible first | exact HB.out | apply below_alloc | apply pw_below_drewN | apply below_drew1) | exact HB.out)⟩⟩
        · rw [if_neg c11] at H
          have c11b0 : decide (a2 < 0) = false := decide_eq_false c11
          clear c11
          (first | rw [c11b0] | (simp only [i64_w, i32_w]; rw [c11b0]) | skip)
          have H' := Aside0.mk H
          clear H
          go_wp2
          go_meet
          case rel => exact ⟨_, (decide (a2 > (t154.size : Int))), (by first | rfl | (simp; done) | (simp [*]; done)), H', ⟨by first | omega | exact Nat.le_refl _⟩, ⟨by (with_reducible repeat (first | apply Kd.R_alloc | apply Kd.R_drewN | apply Kd.R_drew)); exact HO158.out⟩, ⟨by repeat (first | (with_reducible first | exact HB.out | apply below_alloc | apply pw_below_drewN | apply below_drew1) | exact HB.out)⟩⟩
      · replace c10 := Bool.eq_false_iff.mpr c10
        subst c10
        have H1 : (ententelaw02_SealBack.j0 k a0 l1 a2 t154 t155 true) = some r := by rw [if_neg (show ¬ (false = true) by decide)] at H; exact H
        clear H
        have H := H1
        clear H1
        have H' := Aside0.mk H
        clear H
        go_wp2
        go_meet
        case rel => exact ⟨_, (true), (by first | rfl | (simp; done) | (simp [*]; done)), H', ⟨by first | omega | exact Nat.le_refl _⟩, ⟨by (with_reducible repeat (first | apply Kd.R_alloc | apply Kd.R_drewN | apply Kd.R_drew)); exact HO158.out⟩, ⟨by repeat (first | (with_reducible first | exact HB.out | apply below_alloc | apply pw_below_drewN | apply below_drew1) | exact HB.out)⟩⟩
    case rest =>
      clear HC7
      try clear c1
      try clear p2
      try clear c5
      try clear c7
      try clear c9
      try clear c10
      try clear c11
      try clear c11b0
      obtain ⟨kq, x41_6, rfl, HA, HJ6, HO_8, HB⟩ := hcut
      cases kq with
      | zero => exact absurd HA.out (by simp [ententelaw02_SealBack.j0])
      | succ kj6 =>
        have H := HA.out
        clear HA
        simp only [ententelaw02_SealBack.j0] at H
        by_cases c12 : x41_6 = true
        · subst c12
          have H1 : ((ententelaw02_awake.f kj6).bind fun t159 => (some t159)) = some r := by rw [if_pos rfl] at H; exact H
          clear H
          have H := H1
          clear H1
          replace H := Option.bind_eq_some_iff.mp H
          obtain ⟨t159, A130, H⟩ := H
          replace H : (some t159) = some r := H
          have A13 := Aside0.mk A130
          clear A130
          obtain rfl := Option.some.inj H
          go_wp2_with (first | ((with_reducible refine gate_callee (f := 13) rfl ?_); refine goesL_ (some 42) rfl rfl Try.func13 (by kernel_rfl) rfl #[] rfl (by (try simp only [List.map_toArray, List.map_cons, List.map_nil]); first | done | rfl | (simp only [List.length_drop, List.length_take]; rfl)) ?_; (with_reducible refine (ententelaw02_awake.calls kj6  t159 _ A13.out).mono ?_); rintro e w14 ⟨rfl, hb⟩; refine ⟨_, rfl, ?_⟩; have n0_ := Aside0.mk (Kd.R_below (by (with_reducible repeat (first | apply Kd.R_alloc | apply Kd.R_drewN | apply Kd.R_drew)); exact HO_8.out) hb); have n1_ := Aside0.mk (below_step (by repeat (first | (with_reducible first | exact HB.out | apply below_alloc | apply pw_below_drewN | apply below_drew1) | exact HB.out)) hb); clear HO_8; clear HB; have HO_8 := n0_; have HB := n1_; clear n0_ n1_; (try clear hb); (try clear hb2); (try clear hk); (try clear hi)))
          go_ret
          exact ⟨by first | rfl | (simp [errW_none, errW_some] <;> rfl) | (simp [*, errW_none, errW_some] <;> rfl), by repeat (first | (with_reducible first | exact HB.out | apply below_alloc | apply pw_below_drewN | apply below_drew1) | exact HB.out)⟩
        · replace c12 := Bool.eq_false_iff.mpr c12
          subst c12
          have H1 : ((seal_Cut.f kj6 t154 a0).bind fun bt160 => (ententelaw02_SealBack.l0 kj6 a0 l1 a2 t154 t155 bt160.1 bt160.2.1 bt160.2.2 0 0)) = some r := by rw [if_neg (show ¬ (false = true) by decide)] at H; exact H
          clear H
          have H := H1
          clear H1
          replace H := Option.bind_eq_some_iff.mp H
          obtain ⟨⟨t160, t161, t162⟩, A150, H⟩ := H
          replace H : (ententelaw02_SealBack.l0 kj6 a0 l1 a2 t154 t155 t160 t161 t162 0 0) = some r := H
          have A15 := Aside0.mk A150
          clear A150
          have HC16 := Aside0.mk H
          clear H
          go_upto_block 0 with (first | ((with_reducible refine gate_callee (f := 19) rfl ?_); refine goesL_ (some 46) rfl rfl Try.func19 (by kernel_rfl) rfl #[.string t154, .int .i64 a0] rfl (by (try simp only [List.map_toArray, List.map_cons, List.map_nil]); first | done | rfl | (simp only [List.length_drop, List.length_take]; rfl)) ?_; (with_reducible refine (seal_Cut.calls kj6 t154 a0 t160 t161 t162 _ A15.out).mono ?_); rintro e w17 ⟨v163, rfl, ho0, hb⟩; refine ⟨_, rfl, ?_⟩; have n0_ := Aside0.mk (Kd.R_below (by (with_reducible repeat (first | apply Kd.R_alloc | apply Kd.R_drewN | apply Kd.R_drew)); exact HO_8.out) hb); have n1_ := Aside0.mk (Kd.R_lower ho0 (below_size (by repeat (first | (with_reducible first | exact HB.out | apply below_alloc | apply pw_below_drewN | apply below_drew1) | exact HB.out)))); have n2_ := Aside0.mk (below_step (by repeat (first | (with_reducible first | exact HB.out | apply below_alloc | apply pw_below_drewN | apply below_drew1) | exact HB.out)) hb); clear HO_8; clear HB; have HO_8 := n0_; have HO164 := n1_; have HB := n2_; clear n0_ n1_ n2_; (try clear hb); (try clear hb2); (try clear hk); (try clear hi); (try clear ho0)))
          (try simp only [Act.put, List.setIfInBounds_toArray, List.set_cons_zero, List.set_cons_succ])
          go_cut [13, 14] (fun v13 v14 wc => ∃ (kq : Nat) (x13_15 : Int) (x14_15 : Int), v13 = .int .i64 x13_15 ∧ v14 = .int .i64 x14_15 ∧ Aside0 (ententelaw02_SealBack.j2 kq a0 l1 a2 t154 t160 t161 t162 x13_15 x14_15 = some r) ∧ Aside0 (kq ≤ kj6) ∧ Aside0 (Kd.R Kd.string 9 wc w.heap.size (fun _ => True) v163 t160) ∧ Aside0 (Below w.heap.size w wc))
          case first =>
            have H := HC16.out
            clear HC16
            have H' := Aside0.mk H
            clear H
            go_wp2
            go_loopg [13, 14] kj6 (fun kq v13 v14 w' => ∃ (x13_2 : Int) (x14_2 : Int), v13 = .int .i64 x13_2 ∧ v14 = .int .i64 x14_2 ∧ Aside0 (ententelaw02_SealBack.l0 kq a0 l1 a2 t154 t155 t160 t161 t162 x13_2 x14_2 = some r) ∧ Aside0 (kq ≤ kj6) ∧ Aside0 (Kd.R (Kd.int .i64) 3 w' w.heap.size (fun _ => True) v157 t155) ∧ Aside0 (Kd.R Kd.string 9 w' w.heap.size (fun _ => True) v163 t160) ∧ Aside0 (Below w.heap.size w w'))
            case atStart => exact ⟨(0), (0), (by first | rfl | (simp; done) | (simp [*]; done)), (by first | rfl | (simp; done) | (simp [*]; done)), H', ⟨Nat.le_refl _⟩, ⟨by (with_reducible repeat (first | apply Kd.R_alloc | apply Kd.R_drewN | apply Kd.R_drew)); exact HO_8.out⟩, ⟨by (with_reducible repeat (first | apply Kd.R_alloc | apply Kd.R_drewN | apply Kd.R_drew)); exact HO164.out⟩, ⟨by repeat (first | (with_reducible first | exact HB.out | apply below_alloc | apply pw_below_drewN | apply below_drew1) | exact HB.out)⟩⟩
            case round =>
              clear H'
              try clear c1
              try clear p2
              try clear c5
              try clear c7
              try clear c9
              try clear c10
              try clear c11
              try clear c11b0
              try clear c12
              try clear c13
              try clear p2
              obtain ⟨x13_2, x14_2, rfl, rfl, HA, HK2, HO_8, HO_10, HB⟩ := hrel
              cases gk with
              | zero => exact absurd HA.out (by simp [ententelaw02_SealBack.l0])
              | succ k2 =>
                have H := HA.out
                clear HA
                simp only [ententelaw02_SealBack.l0] at H
                by_cases c18 : x13_2 < (t155.length : Int)
                · rw [if_pos c18] at H
                  have c18b0 : decide (x13_2 < (t155.length : Int)) = true := decide_eq_true c18
                  clear c18
                  (first | rw [c18b0] | (simp only [i64_w, i32_w]; rw [c18b0]) | skip)
                  by_cases c19 : 0 ≤ x13_2
                  · rw [if_pos c19] at H
                    have c19b0 : decide (0 ≤ x13_2) = true := decide_eq_true c19
                    clear c19
                    by_cases c20 : (rd t155 x13_2) ≤ a2
                    · rw [if_pos c20] at H
                      have c20b0 : decide ((rd t155 x13_2) ≤ a2) = true := decide_eq_true c20
                      clear c20
                      have H' := Aside0.mk H
                      clear H
                      obtain ⟨Ao21, co21, eo21⟩ := Kd.R_slice HO_8.out
                      subst eo21
                      have p165 : 0 ≤ (x13_2 : Int) := of_decide_eq_true (by first | (with_reducible assumption) | assumption)
                      have q165 : x13_2 < (t155.length : Int) := of_decide_eq_true (by first | (with_reducible assumption) | assumption)
                      obtain ⟨ad165, e165, hx165_0⟩ := Kd.at_int (Kd.R_reads' HO_8.out).2.2 x13_2 p165 q165
                      cases e165
                      replace p165 := eq_true p165
                      replace q165 := eq_true q165
                      have p166 : 0 ≤ (x13_2 : Int) := of_decide_eq_true (by first | (with_reducible assumption) | assumption)
                      have q166 : x13_2 < (t155.length : Int) := of_decide_eq_true (by first | (with_reducible assumption) | assumption)
                      obtain ⟨ad166, e166, hx166_0⟩ := Kd.at_int (Kd.R_reads' HO_8.out).2.2 x13_2 p166 q166
                      obtain rfl : ad165 = ad166 := (by injection e166)
                      replace p166 := eq_true p166
                      replace q166 := eq_true q166
                      go_wp2
                      go_roundg k2
                      case measure => have := HJ6.out; have := HK2.out; omega
                      case rel => exact ⟨(wrap64 (x13_2 + 1)), (rd t155 x13_2), (by first | rfl | (simp; done) | (simp [*]; done)), (by first | rfl | (simp; done) | (simp [*]; done)), H', ⟨by have := HJ6.out; have := HK2.out; omega⟩, ⟨by (with_reducible repeat (first | apply Kd.R_alloc | apply Kd.R_drewN | apply Kd.R_drew)); exact HO_8.out⟩, ⟨by (with_reducible repeat (first | apply Kd.R_alloc | apply Kd.R_drewN | apply Kd.R_drew)); exact HO_10.out⟩, ⟨by repeat (first | (with_reducible first | exact HB.out | apply below_alloc | apply pw_below_drewN | apply below_drew1) | exact HB.out)⟩⟩
                    · rw [if_neg c20] at H
                      have c20b0 : decide ((rd t155 x13_2) ≤ a2) = false := decide_eq_false c20
                      clear c20
                      have H' := Aside0.mk H
                      clear H
                      obtain ⟨Ao22, co22, eo22⟩ := Kd.R_slice HO_8.out
                      subst eo22
                      have p165 : 0 ≤ (x13_2 : Int) := of_decide_eq_true (by first | (with_reducible assumption) | assumption)
                      have q165 : x13_2 < (t155.length : Int) := of_decide_eq_true (by first | (with_reducible assumption) | assumption)
                      obtain ⟨ad165, e165, hx165_0⟩ := Kd.at_int (Kd.R_reads' HO_8.out).2.2 x13_2 p165 q165
                      cases e165
                      replace p165 := eq_true p165
                      replace q165 := eq_true q165
                      go_wp2
                      go_meet
                      case rel => exact ⟨_, (x13_2), (x14_2), (by first | rfl | (simp; done) | (simp [*]; done)), (by first | rfl | (simp; done) | (simp [*]; done)), H', ⟨by have := HJ6.out; have := HK2.out; first | omega | exact Nat.le_refl _⟩, ⟨by (with_reducible repeat (first | apply Kd.R_alloc | apply Kd.R_drewN | apply Kd.R_drew)); exact HO_10.out⟩, ⟨by repeat (first | (with_reducible first | exact HB.out | apply below_alloc | apply pw_below_drewN | apply below_drew1) | exact HB.out)⟩⟩
                  · rw [if_neg c19] at H
                    exact absurd H (by simp)
                · rw [if_neg c18] at H
                  have c18b0 : decide (x13_2 < (t155.length : Int)) = false := decide_eq_false c18
                  clear c18
                  (first | rw [c18b0] | (simp only [i64_w, i32_w]; rw [c18b0]) | skip)
                  have H' := Aside0.mk H
                  clear H
                  obtain ⟨Ao23, co23, eo23⟩ := Kd.R_slice HO_8.out
                  subst eo23
                  go_wp2
                  go_meet
                  case rel => exact ⟨_, (x13_2), (x14_2), (by first | rfl | (simp; done) | (simp [*]; done)), (by first | rfl | (simp; done) | (simp [*]; done)), H', ⟨by have := HJ6.out; have := HK2.out; first | omega | exact Nat.le_refl _⟩, ⟨by (with_reducible repeat (first | apply Kd.R_alloc | apply Kd.R_drewN | apply Kd.R_drew)); exact HO_10.out⟩, ⟨by repeat (first | (with_reducible first | exact HB.out | apply below_alloc | apply pw_below_drewN | apply below_drew1) | exact HB.out)⟩⟩
          case rest =>
            clear HC16
            try clear c1
            try clear p1
            try clear q1
            try clear hx1
            try clear c2
            try clear p2
            try clear c5
            try clear p6
            try clear c7
            try clear c9
            try clear c10
            try clear c11
            try clear c11b0
            try clear c12
            try clear c13
            try clear p16
            try clear q16
            try clear hx16
            try clear c18
            try clear c18b0
            try clear c19
            try clear c19b0
            try clear c20
            try clear c20b0
            try clear hx165_0
            try clear hx166_0
            try clear p165
            try clear p166
            try clear p2
            try clear q165
            try clear q166
            obtain ⟨kq, x13_15, x14_15, rfl, rfl, HA, HJ15, HO_10, HB⟩ := hcut
            cases kq with
            | zero => exact absurd HA.out (by simp [ententelaw02_SealBack.j2])
            | succ kj15 =>
              have H := HA.out
              clear HA
              simp only [ententelaw02_SealBack.j2] at H
              by_cases c24 : 0 ≤ a2
              · rw [if_pos c24] at H
                have c24b0 := eq_true c24
                have c24b1 : decide (0 ≤ a2) = true := decide_eq_true c24
                clear c24
                by_cases c25 : a2 ≤ (t154.size : Int)
                · rw [if_pos c25] at H
                  have c25b0 := eq_true c25
                  have c25b1 : decide (a2 ≤ (t154.size : Int)) = true := decide_eq_true c25
                  clear c25
                  replace H := Option.bind_eq_some_iff.mp H
                  obtain ⟨⟨t167, t168, t169⟩, A260, H⟩ := H
                  replace H : (if x14_15 < a2 then (ententelaw02_SealBack.j3 kj15 l1 t154 t160 t161 t162 x13_15 x14_15 t167 t168 t169 10) else (ententelaw02_SealBack.j3 kj15 l1 t154 t160 t161 t162 x13_15 x14_15 t167 t168 t169 0)) = some r := H
                  have A26 := Aside0.mk A260
                  clear A260
                  have HC27 := Aside0.mk H
                  clear H
                  go_upto_if 79 with (first | ((with_reducible refine gate_callee (f := 19) rfl ?_); refine goesL_ (some 73) rfl rfl Try.func19 (by kernel_rfl) rfl #[.string (t154.extract 0 (a2 : Int).toNat), .int .i64 a0] rfl (by (try simp only [List.map_toArray, List.map_cons, List.map_nil]); first | done | rfl | (simp only [List.length_drop, List.length_take]; rfl)) ?_; (with_reducible refine (seal_Cut.calls kj15 (t154.extract 0 (a2 : Int).toNat) a0 t167 t168 t169 _ A26.out).mono ?_); rintro e w28 ⟨v170, rfl, ho0, hb⟩; refine ⟨_, rfl, ?_⟩; have n0_ := Aside0.mk (Kd.R_elder' (by (with_reducible repeat (first | apply Kd.R_alloc | apply Kd.R_drewN | apply Kd.R_drew)); exact HO_10.out) (Kd.R_base ho0) hb); have n1_ := Aside0.mk (Kd.R_lower (Kd.R_new' ho0 (Kd.R_lt (by (with_reducible repeat (first | apply Kd.R_alloc | apply Kd.R_drewN | apply Kd.R_drew)); exact HO_10.out))) (below_size (by repeat (first | (with_reducible first | exact HB.out | apply below_alloc | apply pw_below_drewN | apply below_drew1) | exact HB.out)))); have n2_ := Aside0.mk (below_step (by repeat (first | (with_reducible first | exact HB.out | apply below_alloc | apply pw_below_drewN | apply below_drew1) | exact HB.out)) hb); clear HO_10; clear HB; have HO_10 := n0_; have HO171 := n1_; have HB := n2_; clear n0_ n1_ n2_; (try clear hb); (try clear hb2); (try clear hk); (try clear hi); (try clear ho0)))
                  (try simp only [Act.put, List.setIfInBounds_toArray, List.set_cons_zero, List.set_cons_succ])
                  go_cut [18] (fun v18 wc => ∃ (kq : Nat) (x18_26 : Int), v18 = .int .i64 x18_26 ∧ Aside0 (ententelaw02_SealBack.j3 kq l1 t154 t160 t161 t162 x13_15 x14_15 t167 t168 t169 x18_26 = some r) ∧ Aside0 (kq ≤ kj15) ∧ Aside0 (Kd.R Kd.string 9 wc w.heap.size (fun k_ => some k_ ≠ (v170 : Value).ownBlock) v163 t160) ∧ Aside0 (Kd.R Kd.string 9 wc w.heap.size (fun k_ => some k_ ≠ (v163 : Value).ownBlock) v170 t167) ∧ Aside0 (Below w.heap.size w wc))
                  case first =>
                    have H := HC27.out
                    clear HC27
                    by_cases c29 : x14_15 < a2
                    · rw [if_pos c29] at H
                      have c29b0 : decide (x14_15 < a2) = true := decide_eq_true c29
                      clear c29
                      (first | rw [c29b0] | (simp only [i64_w, i32_w]; rw [c29b0]) | skip)
                      have H' := Aside0.mk H
                      clear H
                      go_wp2
                      go_meet
                      case rel => exact ⟨_, (10), (by first | rfl | (simp; done) | (simp [*]; done)), H', ⟨by have := HJ6.out; have := HJ15.out; first | omega | exact Nat.le_refl _⟩, ⟨by (with_reducible repeat (first | apply Kd.R_alloc | apply Kd.R_drewN | apply Kd.R_drew)); exact Kd.R_mono HO_10.out (fun _ hk => hk.2)⟩, ⟨by (with_reducible repeat (first | apply Kd.R_alloc | apply Kd.R_drewN | apply Kd.R_drew)); exact Kd.R_mono HO171.out (fun _ hk => hk.2)⟩, ⟨by repeat (first | (with_reducible first | exact HB.out | apply below_alloc | apply pw_below_drewN | apply below_drew1) | exact HB.out)⟩⟩
                    · rw [if_neg c29] at H
                      have c29b0 : decide (x14_15 < a2) = false := decide_eq_false c29
                      clear c29
                      (first | rw [c29b0] | (simp only [i64_w, i32_w]; rw [c29b0]) | skip)
                      have H' := Aside0.mk H
                      clear H
                      go_wp2
                      go_meet
                      case rel => exact ⟨_, (0), (by first | rfl | (simp; done) | (simp [*]; done)), H', ⟨by have := HJ6.out; have := HJ15.out; first | omega | exact Nat.le_refl _⟩, ⟨by (with_reducible repeat (first | apply Kd.R_alloc | apply Kd.R_drewN | apply Kd.R_drew)); exact Kd.R_mono HO_10.out (fun _ hk => hk.2)⟩, ⟨by (with_reducible repeat (first | apply Kd.R_alloc | apply Kd.R_drewN | apply Kd.R_drew)); exact Kd.R_mono HO171.out (fun _ hk => hk.2)⟩, ⟨by repeat (first | (with_reducible first | exact HB.out | apply below_alloc | apply pw_below_drewN | apply below_drew1) | exact HB.out)⟩⟩
                  case rest =>
                    clear HC27
                    try clear c1
                    try clear p1
                    try clear q1
                    try clear hx1
                    try clear c2
                    try clear p2
                    try clear c5
                    try clear p6
                    try clear c7
                    try clear c9
                    try clear c10
                    try clear c11
                    try clear c11b0
                    try clear c12
                    try clear c13
                    try clear p16
                    try clear q16
                    try clear hx16
                    try clear c18
                    try clear c18b0
                    try clear c19
                    try clear c19b0
                    try clear c20
                    try clear c20b0
                    try clear c24
                    try clear c24b0
                    try clear c24b1
                    try clear c25
                    try clear c25b0
                    try clear c25b1
                    try clear c29
                    try clear c29b0
                    try clear hx165_0
                    try clear hx166_0
                    try clear p1
                    try clear p16
                    try clear p165
                    try clear p166
                    try clear p2
                    try clear p6
                    try clear q1
                    try clear q16
                    try clear q165
                    try clear q166
                    obtain ⟨kq, x18_26, rfl, HA, HJ26, HO_10, HO_15, HB⟩ := hcut
                    cases kq with
                    | zero => exact absurd HA.out (by simp [ententelaw02_SealBack.j3])
                    | succ kj26 =>
                      have H := HA.out
                      clear HA
                      simp only [ententelaw02_SealBack.j3] at H
                      by_cases c30 : (l1.length : Int) = 0
                      · rw [if_pos c30] at H
                        have c30b0 : ((l1.length : Int) == 0) = true := beq_iff_eq.mpr c30
                        have c30b1 : ((l1.length : Int) != 0) = false := bne_eq_false_iff_eq.mpr c30
                        clear c30
                        by_cases c31 : (wrap64 ((wrap64 ((wrap64 ((t160.length : Int) + (t167.length : Int))) + t161)) + t168)) = 0
                        · rw [if_pos c31] at H
                          have c31b0 : ((wrap64 ((wrap64 ((wrap64 ((t160.length : Int) + (t167.length : Int))) + t161)) + t168)) == 0) = true := beq_iff_eq.mpr c31
                          have c31b1 : ((wrap64 ((wrap64 ((wrap64 ((t160.length : Int) + (t167.length : Int))) + t161)) + t168)) != 0) = false := bne_eq_false_iff_eq.mpr c31
                          clear c31
                          replace H := Option.bind_eq_some_iff.mp H
                          obtain ⟨t172, A320, H⟩ := H
                          replace H : (some t172) = some r := H
                          have A32 := Aside0.mk A320
                          clear A320
                          obtain rfl := Option.some.inj H
                          obtain ⟨Ao33, co33, eo33⟩ := Kd.R_slice HO_10.out
                          subst eo33
                          obtain ⟨Ao34, co34, eo34⟩ := Kd.R_slice HO_15.out
                          subst eo34
                          go_wp2_with (first | (go_at_call 13; (with_reducible refine (ententelaw02_awake.calls kj26  t172 _ A32.out).mono ?_); rintro e w35 ⟨rfl, hb⟩; have n0_ := Aside0.mk (Kd.R_below (by (with_reducible repeat (first | apply Kd.R_alloc | apply Kd.R_drewN | apply Kd.R_drew)); exact HO_10.out) hb); have n1_ := Aside0.mk (Kd.R_below (by (with_reducible repeat (first | apply Kd.R_alloc | apply Kd.R_drewN | apply Kd.R_drew)); exact HO_15.out) hb); have n2_ := Aside0.mk (below_step (by repeat (first | (with_reducible first | exact HB.out | apply below_alloc | apply pw_below_drewN | apply below_drew1) | exact HB.out)) hb); clear HO_10; clear HO_15; clear HB; have HO_10 := n0_; have HO_15 := n1_; have HB := n2_; clear n0_ n1_ n2_; (try clear hb); (try clear hb2); (try clear hk); (try clear hi)))
                          go_ret
                          exact ⟨by first | rfl | (simp [errW_none, errW_some] <;> rfl) | (simp [*, errW_none, errW_some] <;> rfl), by repeat (first | (with_reducible first | exact HB.out | apply below_alloc | apply pw_below_drewN | apply below_drew1) | exact HB.out)⟩
                        · rw [if_neg c31] at H
                          have c31b0 : ((wrap64 ((wrap64 ((wrap64 ((t160.length : Int) + (t167.length : Int))) + t161)) + t168)) == 0) = false := beq_eq_false_iff_ne.mpr c31
                          have c31b1 : ((wrap64 ((wrap64 ((wrap64 ((t160.length : Int) + (t167.length : Int))) + t161)) + t168)) != 0) = true := bne_iff_ne.mpr c31
                          exact absurd ((Option.some.inj H).trans HT.out) Bool.false_ne_true
                      · rw [if_neg c30] at H
                        have c30b0 : ((l1.length : Int) == 0) = false := beq_eq_false_iff_ne.mpr c30
                        have c30b1 : ((l1.length : Int) != 0) = true := bne_iff_ne.mpr c30
                        have c30b2 : ¬ (l1 = []) := fun h_ => c30 (by rw [h_]; rfl)
                        replace H := Option.bind_eq_some_iff.mp H
                        obtain ⟨t173, A360, H⟩ := H
                        replace H : (if t173 = true then (if t161 = (t154.size : Int) then (if t162 = 0 then (if 0 ≤ x13_15 then (if x13_15 ≤ (l1.length : Int) then ((ententeref01_Same.f kj26 t167 (l1.take (x13_15 : Int).toNat)).bind fun t175 => (if t175 = true then (if t168 = x14_15 then (if t169 = x18_26 then ((ententelaw02_awake.f kj26).bind fun t176 => (some t176)) else (some false)) else (some false)) else (some false))) else (none)) else (none)) else (some false)) else (some false)) else (some false)) = some r := H
                        have A36 := Aside0.mk A360
                        clear A360
                        by_cases c37 : t173 = true
                        · subst c37
                          have H1 : (if t161 = (t154.size : Int) then (if t162 = 0 then (if 0 ≤ x13_15 then (if x13_15 ≤ (l1.length : Int) then ((ententeref01_Same.f kj26 t167 (l1.take (x13_15 : Int).toNat)).bind fun t175 => (if t175 = true then (if t168 = x14_15 then (if t169 = x18_26 then ((ententelaw02_awake.f kj26).bind fun t176 => (some t176)) else (some false)) else (some false)) else (some false))) else (none)) else (none)) else (some false)) else (some false)) = some r := by rw [if_pos rfl] at H; exact H
                          clear H
                          have H := H1
                          clear H1
                          by_cases c38 : t161 = (t154.size : Int)
                          · rw [if_pos c38] at H
                            have c38b0 : (t161 == (t154.size : Int)) = true := beq_iff_eq.mpr c38
                            have c38b1 : (t161 != (t154.size : Int)) = false := bne_eq_false_iff_eq.mpr c38
                            clear c38
                            by_cases c39 : t162 = 0
                            · rw [if_pos c39] at H
                              have c39b0 : (t162 == 0) = true := beq_iff_eq.mpr c39
                              have c39b1 : (t162 != 0) = false := bne_eq_false_iff_eq.mpr c39
                              clear c39
                              by_cases c40 : 0 ≤ x13_15
                              · rw [if_pos c40] at H
                                have c40b0 := eq_true c40
                                have c40b1 : decide (0 ≤ x13_15) = true := decide_eq_true c40
                                clear c40
                                by_cases c41 : x13_15 ≤ (l1.length : Int)
                                · rw [if_pos c41] at H
                                  have c41b0 := eq_true c41
                                  have c41b1 : decide (x13_15 ≤ (l1.length : Int)) = true := decide_eq_true c41
                                  clear c41
                                  replace H := Option.bind_eq_some_iff.mp H
                                  obtain ⟨t175, A420, H⟩ := H
                                  replace H : (if t175 = true then (if t168 = x14_15 then (if t169 = x18_26 then ((ententelaw02_awake.f kj26).bind fun t176 => (some t176)) else (some false)) else (some false)) else (some false)) = some r := H
                                  have A42 := Aside0.mk A420
                                  clear A420
                                  by_cases c43 : t175 = true
                                  · subst c43
                                    have H1 : (if t168 = x14_15 then (if t169 = x18_26 then ((ententelaw02_awake.f kj26).bind fun t176 => (some t176)) else (some false)) else (some false)) = some r := by rw [if_pos rfl] at H; exact H
                                    clear H
                                    have H := H1
                                    clear H1
                                    by_cases c44 : t168 = x14_15
                                    · rw [if_pos c44] at H
                                      have c44b0 : (t168 == x14_15) = true := beq_iff_eq.mpr c44
                                      have c44b1 : (t168 != x14_15) = false := bne_eq_false_iff_eq.mpr c44
                                      clear c44
                                      by_cases c45 : t169 = x18_26
                                      · rw [if_pos c45] at H
                                        have c45b0 : (t169 == x18_26) = true := beq_iff_eq.mpr c45
                                        have c45b1 : (t169 != x18_26) = false := bne_eq_false_iff_eq.mpr c45
                                        clear c45
                                        replace H := Option.bind_eq_some_iff.mp H
                                        obtain ⟨t176, A460, H⟩ := H
                                        replace H : (some t176) = some r := H
                                        have A46 := Aside0.mk A460
                                        clear A460
                                        obtain rfl := Option.some.inj H
                                        obtain ⟨Ao47, co47, eo47⟩ := Kd.R_slice HO_10.out
                                        subst eo47
                                        go_wp2_with (first | ((with_reducible refine gate_callee (f := 20) rfl ?_); refine goesL_ (some 98) rfl rfl Try.func20 (by kernel_rfl) rfl #[.slice Ao47 t160.length co47, .slice A1 l1.length c1] rfl (by (try simp only [List.map_toArray, List.map_cons, List.map_nil]); first | done | rfl | (simp only [List.length_drop, List.length_take]; rfl)) ?_; (with_reducible refine (ententeref01_Same.calls kj26 _ _ t160 _ _ l1 true _ ?side1 ?side2 ?side3 ?side4 A36.out).mono ?_); (case side1 => repeat (first | exact (Kd.R_reads' HO_10.out).2.2 | (with_reducible refine Kd.C_alloc ?_ _) | (with_reducible refine Kd.C_drewN ?_ _) | (with_reducible refine Kd.C_drew ?_))); (case side2 => exact (Kd.R_reads' HO_10.out).2.1); (case side3 => repeat (first | exact (Kd.C_below HR1.out HB.out) | (with_reducible refine Kd.C_alloc ?_ _) | (with_reducible refine Kd.C_drewN ?_ _) | (with_reducible refine Kd.C_drew ?_))); (case side4 => exact HC1.out); rintro e w' ⟨rfl, ⟨nd, rfl⟩⟩; refine ⟨_, rfl, ?_⟩; obtain ⟨i048, hi048, _, hsz48, _⟩ := info_parts info9; obtain ⟨hcut48, hA48, hC48⟩ := print_take_of (P := Try.prog) Value.string (⟨#[]⟩ : ByteArray) 22 9 .i64 Try.underlying22 hi048 hsz48 A1 c1 l1 x13_15 (of_decide_eq_true (by first | (with_reducible assumption) | assumption)) (of_decide_eq_true (by first | (with_reducible assumption) | assumption)) HC1.out; have HR174 := Aside0.mk (Kd.C_of_reads (h1 := fun _ => rfl) (hA48 _ (Kd.reads_of_C HR1.out))); have HC174 := Aside0.mk hC48; clear hA48 hC48 hi048 hsz48; obtain ⟨Ao49, co49, eo49⟩ := Kd.R_slice HO_15.out; subst eo49) | (go_at_call 20; (rw [show (x13_15 : Int).toNat = (l1.take (x13_15 : Int).toNat).length from by rw [List.length_take, Nat.min_eq_left (by have h_ := of_decide_eq_true (p := x13_15 ≤ (l1.length : Int)) (by first | (with_reducible assumption) | assumption); omega)]]); (with_reducible refine (ententeref01_Same.calls kj26 _ _ t167 _ _ (l1.take (x13_15 : Int).toNat) true _ ?side1 ?side2 ?side3 ?side4 A42.out).mono ?_); (case side1 => repeat (first | exact (Kd.R_reads' HO_15.out).2.2 | (with_reducible refine Kd.C_alloc ?_ _) | (with_reducible refine Kd.C_drewN ?_ _) | (with_reducible refine Kd.C_drew ?_))); (case side2 => exact (Kd.R_reads' HO_15.out).2.1); (case side3 => repeat (first | exact (Kd.C_below HR174.out (by repeat (first | (with_reducible first | exact HB.out | apply below_alloc | apply pw_below_drewN | apply below_drew1) | exact HB.out))) | (with_reducible refine Kd.C_alloc ?_ _) | (with_reducible refine Kd.C_drewN ?_ _) | (with_reducible refine Kd.C_drew ?_))); (case side4 => exact HC174.out); rintro e w' ⟨rfl, ⟨nd, rfl⟩⟩) | (go_at_call 13; (with_reducible refine (ententelaw02_awake.calls kj26  t176 _ A46.out).mono ?_); rintro e w50 ⟨rfl, hb⟩; have n0_ := Aside0.mk (Kd.R_below (by (with_reducible repeat (first | apply Kd.R_alloc | apply Kd.R_drewN | apply Kd.R_drew)); exact HO_10.out) hb); have n1_ := Aside0.mk (Kd.R_below (by (with_reducible repeat (first | apply Kd.R_alloc | apply Kd.R_drewN | apply Kd.R_drew)); exact HO_15.out) hb); have n2_ := Aside0.mk (below_step (by repeat (first | (with_reducible first | exact HB.out | apply below_alloc | apply pw_below_drewN | apply below_drew1) | exact HB.out)) hb); clear HO_10; clear HO_15; clear HB; have HO_10 := n0_; have HO_15 := n1_; have HB := n2_; clear n0_ n1_ n2_; (try clear hb); (try clear hb2); (try clear hk); (try clear hi)))
                                        go_ret
                                        exact ⟨by first | rfl | (simp [errW_none, errW_some] <;> rfl) | (simp [*, errW_none, errW_some] <;> rfl), by repeat (first | (with_reducible first | exact HB.out | apply below_alloc | apply pw_below_drewN | apply below_drew1) | exact HB.out)⟩
                                      · rw [if_neg c45] at H
                                        have c45b0 : (t169 == x18_26) = false := beq_eq_false_iff_ne.mpr c45
                                        have c45b1 : (t169 != x18_26) = true := bne_iff_ne.mpr c45
                                        exact absurd ((Option.some.inj H).trans HT.out) Bool.false_ne_true
                                    · rw [if_neg c44] at H
                                      have c44b0 : (t168 == x14_15) = false := beq_eq_false_iff_ne.mpr c44
                                      have c44b1 : (t168 != x14_15) = true := bne_iff_ne.mpr c44
                                      exact absurd ((Option.some.inj H).trans HT.out) Bool.false_ne_true
                                  · replace c43 := Bool.eq_false_iff.mpr c43
                                    subst c43
                                    have H1 : (some false) = some r := by rw [if_neg (show ¬ (false = true) by decide)] at H; exact H
                                    clear H
                                    have H := H1
                                    clear H1
                                    exact absurd ((Option.some.inj H).trans HT.out) Bool.false_ne_true
                                · rw [if_neg c41] at H
                                  exact absurd H (by simp)
                              · rw [if_neg c40] at H
                                exact absurd H (by simp)
                            · rw [if_neg c39] at H
                              have c39b0 : (t162 == 0) = false := beq_eq_false_iff_ne.mpr c39
                              have c39b1 : (t162 != 0) = true := bne_iff_ne.mpr c39
                              exact absurd ((Option.some.inj H).trans HT.out) Bool.false_ne_true
                          · rw [if_neg c38] at H
                            have c38b0 : (t161 == (t154.size : Int)) = false := beq_eq_false_iff_ne.mpr c38
                            have c38b1 : (t161 != (t154.size : Int)) = true := bne_iff_ne.mpr c38
                            exact absurd ((Option.some.inj H).trans HT.out) Bool.false_ne_true
                        · replace c37 := Bool.eq_false_iff.mpr c37
                          subst c37
                          have H1 : (some false) = some r := by rw [if_neg (show ¬ (false = true) by decide)] at H; exact H
                          clear H
                          have H := H1
                          clear H1
                          exact absurd ((Option.some.inj H).trans HT.out) Bool.false_ne_true
                · rw [if_neg c25] at H
                  exact absurd H (by simp)
              · rw [if_neg c24] at H
                exact absurd H (by simp)
  · replace c5 := Bool.eq_false_iff.mpr c5
    subst c5
    have H1 : ((ententelaw02_awake.f k).bind fun t153 => (some t153)) = some r := by rw [if_neg (show ¬ (false = true) by decide)] at H; exact H
    clear H
    have H := H1
    clear H1
    replace H := Option.bind_eq_some_iff.mp H
    obtain ⟨t153, A510, H⟩ := H
    replace H : (some t153) = some r := H
    have A51 := Aside0.mk A510
    clear A510
    obtain rfl := Option.some.inj H
    go_enter Try.func7, Try.ntmps7
    go_wp2_with (first | ((with_reducible refine gate_callee (f := 9) rfl ?_); refine goesL_ (some 20) rfl rfl Try.func9 (by kernel_rfl) rfl #[.slice A1 l1.length c1] rfl (by (try simp only [List.map_toArray, List.map_cons, List.map_nil]); first | done | rfl | (simp only [List.length_drop, List.length_take]; rfl)) ?_; (with_reducible refine (ententelaw01_Small.calls k _ _ l1 false _ ?side1 ?side2 A4.out).mono ?_); (case side1 => repeat (first | exact HR1.out | (with_reducible refine Kd.C_alloc ?_ _) | (with_reducible refine Kd.C_drewN ?_ _) | (with_reducible refine Kd.C_drew ?_))); (case side2 => exact HC1.out); rintro e w52 ⟨rfl, hb⟩; refine ⟨_, rfl, ?_⟩; have n0_ := Aside0.mk (below_step (by repeat (first | (with_reducible first | exact HB.out | apply below_alloc | apply pw_below_drewN | apply below_drew1) | exact HB.out)) hb); clear HB; have HB := n0_; clear n0_; (try clear hb); (try clear hb2); (try clear hk); (try clear hi)) | ((with_reducible refine gate_callee (f := 13) rfl ?_); refine goesL_ (some 22) rfl rfl Try.func13 (by kernel_rfl) rfl #[] rfl (by (try simp only [List.map_toArray, List.map_cons, List.map_nil]); first | done | rfl | (simp only [List.length_drop, List.length_take]; rfl)) ?_; (with_reducible refine (ententelaw02_awake.calls k  t153 _ A51.out).mono ?_); rintro e w53 ⟨rfl, hb⟩; refine ⟨_, rfl, ?_⟩; have n0_ := Aside0.mk (below_step (by repeat (first | (with_reducible first | exact HB.out | apply below_alloc | apply pw_below_drewN | apply below_drew1) | exact HB.out)) hb); clear HB; have HB := n0_; clear n0_; (try clear hb); (try clear hb2); (try clear hk); (try clear hi)))
    go_ret
    exact ⟨by first | rfl | (simp [errW_none, errW_some] <;> rfl) | (simp [*, errW_none, errW_some] <;> rfl), by repeat (first | (with_reducible first | exact HB.out | apply below_alloc | apply pw_below_drewN | apply below_drew1) | exact HB.out)⟩

/-- THE ONE PURE STATEMENT of ententelaw02_SealBack. -/
def ententelaw02_SealBack.Pure : Prop := ∀ (a0 : Int) (l1 : List ByteArray) (a2 : Int), (Lit.int .i64 a0).wf = true → (l1.length ≤ 9223372036854775807 ∧ l1.length * 16 ≤ 140737488351232 ∧ ∀ y_ ∈ l1, y_.size ≤ 140737488351232) → (Lit.int .i64 a2).wf = true → ∃ k, ententelaw02_SealBack.f k a0 l1 a2 = some true

end Go.Proofs.Ytfjemhfcdbjolaa.PC
