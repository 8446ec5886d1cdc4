-- Written by a program of this session (wip/tools/mp.py over the kit's printer); Lean checks it.
import Derived.Test.YtfjemhfcdbjolaaPCx0
import Derived.Test.YtfjemhfcdbjolaaPCx3
import Derived.Test.YtfjemhfcdbjolaaPCx4
namespace Go.Proofs.Ytfjemhfcdbjolaa.PC
open Go.RowKit Go.Proofs.YtfjemhfcdbjolaaW.PrintWords Go.Proofs.YtfjemhfcdbjolaaW.PrintLast Go.Proofs.YtfjemhfcdbjolaaW.PrintMore
attribute [local go_sem] max2_int min2_int max_two min_two max_three min_three max_four min_four   -- for this text's walks alone
set_option linter.unusedVariables false
set_option linter.unusedSimpArgs false

/-! ### ententelaw02_SealForms: function 8 -/
def ententelaw02_SealForms.j0 : Nat → ByteArray → Int → List ByteArray → Int → Bool → Option (Bool)
  | 0, _, _, _, _, _ => none
  | k + 1, x0, x1, x5, x6, x58 => if x58 = true then (some false) else ((ententelaw02_sealed.f k x1 x5).bind fun bt185 => (if bt185.2.2 = true then (if 0 ≤ x6 then (if x6 ≤ (x0.size : Int) then (if bt185.1.toList = (x0.extract 0 (x6 : Int).toNat).toList then ((ententelaw02_awake.f k).bind fun t190 => (some t190)) else (some false)) else (none)) else (none)) else (some false)))
def ententelaw02_SealForms.f (k : Nat) (a0 : ByteArray) (a1 : Int) : Option (Bool) := if (a0.size : Int) > 60000 then ((ententelaw02_awake.f k).bind fun t177 => (some t177)) else ((seal_Cut.f k a0 a1).bind fun bt178 => (if bt178.2.2 = 2 then (if (bt178.1.length : Int) = 0 then (if bt178.2.1 = 0 then (if a1 < 0 then ((ententelaw02_awake.f k).bind fun t183 => (some t183)) else (if a1 > 255 then ((ententelaw02_awake.f k).bind fun t184 => (some t184)) else (some false))) else (some false)) else (some false)) else (if bt178.2.1 < 0 then (ententelaw02_SealForms.j0 k a0 a1 bt178.1 bt178.2.1 true) else (if bt178.2.1 > (a0.size : Int) then (ententelaw02_SealForms.j0 k a0 a1 bt178.1 bt178.2.1 true) else (ententelaw02_SealForms.j0 k a0 a1 bt178.1 bt178.2.1 ((bt178.2.2 == 0) != (bt178.2.1 == (a0.size : Int))))))))
theorem ententelaw02_SealForms.mono_l : ∀ k, (∀ y0 y1 y2 y3 y4, LeO (ententelaw02_SealForms.j0 k y0 y1 y2 y3 y4) (ententelaw02_SealForms.j0 (k + 1) y0 y1 y2 y3 y4))
  | 0 => fun _ _ _ _ _ r h => by simp [ententelaw02_SealForms.j0] at h
  | k + 1 => by
    have ih0 := ententelaw02_SealForms.mono_l k
    · intro y0 y1 y2 y3 y4
      unfold ententelaw02_SealForms.j0
      repeat' first
      | (with_reducible exact ih0 _ _ _ _ _)
      | (with_reducible exact ententelaw02_awake.mono _)
      | (with_reducible exact ententelaw02_sealed.mono _ _ _)
      | (with_reducible exact seal_Cut.mono _ _ _)
      | (with_reducible exact LeO.refl _)
      | (with_reducible exact LeO.none _)
      | (with_reducible refine LeO.ite ?_ ?_)
      | (with_reducible refine LeO.bind ?_ (fun _ => ?_))
      | exact ih0 _ _ _ _ _
      | exact ententelaw02_awake.mono _
      | exact ententelaw02_sealed.mono _ _ _
      | exact seal_Cut.mono _ _ _
      | exact LeO.none _
      | refine LeO.ite ?_ ?_
      | refine LeO.bind ?_ (fun _ => ?_)
theorem ententelaw02_SealForms.mono : ∀ a0 a1 k, LeO (ententelaw02_SealForms.f k a0 a1) (ententelaw02_SealForms.f (k + 1) a0 a1) := by
  intro a0 a1 k
  have ih0 := ententelaw02_SealForms.mono_l k
  unfold ententelaw02_SealForms.f
  repeat' first
      | (with_reducible exact ih0 _ _ _ _ _)
      | (with_reducible exact ententelaw02_awake.mono _)
      | (with_reducible exact ententelaw02_sealed.mono _ _ _)
      | (with_reducible exact seal_Cut.mono _ _ _)
      | (with_reducible exact LeO.refl _)
      | (with_reducible exact LeO.none _)
      | (with_reducible refine LeO.ite ?_ ?_)
      | (with_reducible refine LeO.bind ?_ (fun _ => ?_))
      | exact ih0 _ _ _ _ _
      | exact ententelaw02_awake.mono _
      | exact ententelaw02_sealed.mono _ _ _
      | exact seal_Cut.mono _ _ _
      | exact LeO.none _
      | refine LeO.ite ?_ ?_
      | refine LeO.bind ?_ (fun _ => ?_)
set_option maxHeartbeats 8000000 in
set_option maxRecDepth 100000 in
theorem ententelaw02_SealForms.calls (k : Nat) (a0 : ByteArray) (a1 : Int) (r : Bool) (w : World) (ht : r = true) (h : ententelaw02_SealForms.f k a0 a1 = some r) :
    Calls Try.prog 8 #[.string a0, .int .i64 a1] w fun e w' => e = .returned (.bool r) ∧ Below w.heap.size w w' := by
  have HB := Aside0.mk (Below.refl w.heap.size w)
  have HT := Aside0.mk ht
  clear ht
  have H : (if (a0.size : Int) > 60000 then ((ententelaw02_awake.f k).bind fun t177 => (some t177)) else ((seal_Cut.f k a0 a1).bind fun bt178 => (if bt178.2.2 = 2 then (if (bt178.1.length : Int) = 0 then (if bt178.2.1 = 0 then (if a1 < 0 then ((ententelaw02_awake.f k).bind fun t183 => (some t183)) else (if a1 > 255 then ((ententelaw02_awake.f k).bind fun t184 => (some t184)) else (some false))) else (some false)) else (some false)) else (if bt178.2.1 < 0 then (ententelaw02_SealForms.j0 k a0 a1 bt178.1 bt178.2.1 true) else (if bt178.2.1 > (a0.size : Int) then (ententelaw02_SealForms.j0 k a0 a1 bt178.1 bt178.2.1 true) else (ententelaw02_SealForms.j0 k a0 a1 bt178.1 bt178.2.1 ((bt178.2.2 == 0) != (bt178.2.1 == (a0.size : Int))))))))) = some r := h
  clear h
  by_cases c3 : (a0.size : Int) > 60000
  · rw [if_pos c3] at H
    have c3b0 : decide (60000 < (a0.size : Int)) = true := decide_eq_true c3
    have c3b1 : decide (60000 < a0.size) = true := decide_eq_true (by omega)
    clear c3
    replace H := Option.bind_eq_some_iff.mp H
    obtain ⟨t177, A40, H⟩ := H
    replace H : (some t177) = some r := H
    have A4 := Aside0.mk A40
    clear A40
    obtain rfl := Option.some.inj H
    go_enter Try.func8, Try.ntmps8
    go_wp2_with (first | ((with_reducible refine gate_callee (f := 13) rfl ?_); refine goesL_ (some 14) rfl rfl Try.func13 (by kernel_rfl) rfl #[] rfl (by (try simp only [List.map_toArray, List.map_cons, List.map_nil]); first | done | rfl | (simp only [List.length_drop, List.length_take]; rfl)) ?_; (with_reducible refine (ententelaw02_awake.calls k  t177 _ A4.out).mono ?_); rintro e w5 ⟨rfl, hb⟩; refine ⟨_, rfl, ?_⟩; have n0_ := Aside0.mk (below_step (by repeat (first | (with_reducible first | exact HB.out | apply below_alloc | apply pw_below_drewN | apply below_drew1) | exact HB.out)) hb); clear HB; have HB := n0_; clear n0_; (try clear hb); (try clear hb2); (try clear hk); (try clear hi)))
    go_ret
    exact ⟨by first | rfl | (simp [errW_none, errW_some] <;> rfl) | (simp [*, errW_none, errW_some] <;> rfl), by repeat (first | (with_reducible first | exact HB.out | apply below_alloc | apply pw_below_drewN | apply below_drew1) | exact HB.out)⟩
  · rw [if_neg c3] at H
    have c3b0 : decide (60000 < (a0.size : Int)) = false := decide_eq_false c3
    have c3b1 : decide (60000 < a0.size) = false := decide_eq_false (by omega)
    clear c3
    replace H := Option.bind_eq_some_iff.mp H
    obtain ⟨⟨t178, t179, t180⟩, A60, H⟩ := H
    replace H : (if t180 = 2 then (if (t178.length : Int) = 0 then (if t179 = 0 then (if a1 < 0 then ((ententelaw02_awake.f k).bind fun t183 => (some t183)) else (if a1 > 255 then ((ententelaw02_awake.f k).bind fun t184 => (some t184)) else (some false))) else (some false)) else (some false)) else (if t179 < 0 then (ententelaw02_SealForms.j0 k a0 a1 t178 t179 true) else (if t179 > (a0.size : Int) then (ententelaw02_SealForms.j0 k a0 a1 t178 t179 true) else (ententelaw02_SealForms.j0 k a0 a1 t178 t179 ((t180 == 0) != (t179 == (a0.size : Int))))))) = some r := H
    have A6 := Aside0.mk A60
    clear A60
    by_cases c7 : t180 = 2
    · rw [if_pos c7] at H
      have c7b0 : (t180 == 2) = true := beq_iff_eq.mpr c7
      have c7b1 : (t180 != 2) = false := bne_eq_false_iff_eq.mpr c7
      clear c7
      by_cases c8 : (t178.length : Int) = 0
      · rw [if_pos c8] at H
        have c8b0 : ((t178.length : Int) == 0) = true := beq_iff_eq.mpr c8
        have c8b1 : ((t178.length : Int) != 0) = false := bne_eq_false_iff_eq.mpr c8
        clear c8
        by_cases c9 : t179 = 0
        · rw [if_pos c9] at H
          have c9b0 : (t179 == 0) = true := beq_iff_eq.mpr c9
          have c9b1 : (t179 != 0) = false := bne_eq_false_iff_eq.mpr c9
          clear c9
          by_cases c10 : a1 < 0
          · rw [if_pos c10] at H
            have c10b0 : decide (a1 < 0) = true := decide_eq_true c10
            clear c10
            replace H := Option.bind_eq_some_iff.mp H
            obtain ⟨t183, A110, H⟩ := H
            replace H : (some t183) = some r := H
            have A11 := Aside0.mk A110
            clear A110
            obtain rfl := Option.some.inj H
            go_enter Try.func8, Try.ntmps8
            go_wp2_with (first | ((with_reducible refine gate_callee (f := 19) rfl ?_); refine goesL_ (some 18) rfl rfl Try.func19 (by kernel_rfl) rfl #[.string a0, .int .i64 a1] rfl (by (try simp only [List.map_toArray, List.map_cons, List.map_nil]); first | done | rfl | (simp only [List.length_drop, List.length_take]; rfl)) ?_; (with_reducible refine (seal_Cut.calls k a0 a1 t178 t179 t180 _ A6.out).mono ?_); rintro e w12 ⟨v181, rfl, ho0, hb⟩; refine ⟨_, rfl, ?_⟩; have n0_ := Aside0.mk (Kd.R_lower ho0 (below_size (by repeat (first | (with_reducible first | exact HB.out | apply below_alloc | apply pw_below_drewN | apply below_drew1) | exact HB.out)))); have n1_ := Aside0.mk (below_step (by repeat (first | (with_reducible first | exact HB.out | apply below_alloc | apply pw_below_drewN | apply below_drew1) | exact HB.out)) hb); clear HB; have HO182 := n0_; have HB := n1_; clear n0_ n1_; (try clear hb); (try clear hb2); (try clear hk); (try clear hi); (try clear ho0); obtain ⟨Ao13, co13, eo13⟩ := Kd.R_slice HO182.out; subst eo13) | (go_at_call 13; (with_reducible refine (ententelaw02_awake.calls k  t183 _ A11.out).mono ?_); rintro e w14 ⟨rfl, hb⟩; have n0_ := Aside0.mk (Kd.R_below (by (with_reducible repeat (first | apply Kd.R_alloc | apply Kd.R_drewN | apply Kd.R_drew)); exact HO182.out) hb); have n1_ := Aside0.mk (below_step (by repeat (first | (with_reducible first | exact HB.out | apply below_alloc | apply pw_below_drewN | apply below_drew1) | exact HB.out)) hb); clear HO182; clear HB; have HO182 := n0_; have HB := n1_; clear n0_ n1_; (try clear hb); (try clear hb2); (try clear hk); (try clear hi)))
            go_ret
            exact ⟨by first | rfl | (simp [errW_none, errW_some] <;> rfl) | (simp [*, errW_none, errW_some] <;> rfl), by repeat (first | (with_reducible first | exact HB.out | apply below_alloc | apply pw_below_drewN | apply below_drew1) | exact HB.out)⟩
          · rw [if_neg c10] at H
            have c10b0 : decide (a1 < 0) = false := decide_eq_false c10
            clear c10
            by_cases c15 : a1 > 255
            · rw [if_pos c15] at H
              have c15b0 : decide (255 < a1) = true := decide_eq_true c15
              clear c15
              replace H := Option.bind_eq_some_iff.mp H
              obtain ⟨t184, A160, H⟩ := H
              replace H : (some t184) = some r := H
              have A16 := Aside0.mk A160
              clear A160
              obtain rfl := Option.some.inj H
              go_enter Try.func8, Try.ntmps8
              go_wp2_with (first | ((with_reducible refine gate_callee (f := 19) rfl ?_); refine goesL_ (some 18) rfl rfl Try.func19 (by kernel_rfl) rfl #[.string a0, .int .i64 a1] rfl (by (try simp only [List.map_toArray, List.map_cons, List.map_nil]); first | done | rfl | (simp only [List.length_drop, List.length_take]; rfl)) ?_; (with_reducible refine (seal_Cut.calls k a0 a1 t178 t179 t180 _ A6.out).mono ?_); rintro e w17 ⟨v181, rfl, ho0, hb⟩; refine ⟨_, rfl, ?_⟩; have n0_ := Aside0.mk (Kd.R_lower ho0 (below_size (by repeat (first | (with_reducible first | exact HB.out | apply below_alloc | apply pw_below_drewN | apply below_drew1) | exact HB.out)))); have n1_ := Aside0.mk (below_step (by repeat (first | (with_reducible first | exact HB.out | apply below_alloc | apply pw_below_drewN | apply below_drew1) | exact HB.out)) hb); clear HB; have HO182 := n0_; have HB := n1_; clear n0_ n1_; (try clear hb); (try clear hb2); (try clear hk); (try clear hi); (try clear ho0); obtain ⟨Ao18, co18, eo18⟩ := Kd.R_slice HO182.out; subst eo18) | (go_at_call 13; (with_reducible refine (ententelaw02_awake.calls k  t184 _ A16.out).mono ?_); rintro e w19 ⟨rfl, hb⟩; have n0_ := Aside0.mk (Kd.R_below (by (with_reducible repeat (first | apply Kd.R_alloc | apply Kd.R_drewN | apply Kd.R_drew)); exact HO182.out) hb); have n1_ := Aside0.mk (below_step (by repeat (first | (with_reducible first | exact HB.out | apply below_alloc | apply pw_below_drewN | apply below_drew1) | exact HB.out)) hb); clear HO182; clear HB; have HO182 := n0_; have HB := n1_; clear n0_ n1_; (try clear hb); (try clear hb2); (try clear hk); (try clear hi)))
              go_ret
              exact ⟨by first | rfl | (simp [errW_none, errW_some] <;> rfl) | (simp [*, errW_none, errW_some] <;> rfl), by repeat (first | (with_reducible first | exact HB.out | apply below_alloc | apply pw_below_drewN | apply below_drew1) | exact HB.out)⟩
            · rw [if_neg c15] at H
              have c15b0 : decide (255 < a1) = false := decide_eq_false c15
              clear c15
              exact absurd ((Option.some.inj H).trans HT.out) Bool.false_ne_true
        · rw [if_neg c9] at H
          have c9b0 : (t179 == 0) = false := beq_eq_false_iff_ne.mpr c9
          have c9b1 : (t179 != 0) = true := bne_iff_ne.mpr c9
          exact absurd ((Option.some.inj H).trans HT.out) Bool.false_ne_true
      · rw [if_neg c8] at H
        have c8b0 : ((t178.length : Int) == 0) = false := beq_eq_false_iff_ne.mpr c8
        have c8b1 : ((t178.length : Int) != 0) = true := bne_iff_ne.mpr c8
        have c8b2 : ¬ (t178 = []) := fun h_ => c8 (by rw [h_]; rfl)
        exact absurd ((Option.some.inj H).trans HT.out) Bool.false_ne_true
    · rw [if_neg c7] at H
      have c7b0 : (t180 == 2) = false := beq_eq_false_iff_ne.mpr c7
      have c7b1 : (t180 != 2) = true := bne_iff_ne.mpr c7
      have HC20 := Aside0.mk H
      clear H
      go_enter Try.func8, Try.ntmps8
      go_upto_region 6 with (first | ((with_reducible refine gate_callee (f := 19) rfl ?_); refine goesL_ (some 18) rfl rfl Try.func19 (by kernel_rfl) rfl #[.string a0, .int .i64 a1] rfl (by (try simp only [List.map_toArray, List.map_cons, List.map_nil]); first | done | rfl | (simp only [List.length_drop, List.length_take]; rfl)) ?_; (with_reducible refine (seal_Cut.calls k a0 a1 t178 t179 t180 _ A6.out).mono ?_); rintro e w21 ⟨v181, rfl, ho0, hb⟩; refine ⟨_, rfl, ?_⟩; have n0_ := Aside0.mk (Kd.R_lower ho0 (below_size (by repeat (first | (with_reducible first | exact HB.out | apply below_alloc | apply pw_below_drewN | apply below_drew1) | exact HB.out)))); have n1_ := Aside0.mk (below_step (by repeat (first | (with_reducible first | exact HB.out | apply below_alloc | apply pw_below_drewN | apply below_drew1) | exact HB.out)) hb); clear HB; have HO182 := n0_; have HB := n1_; clear n0_ n1_; (try clear hb); (try clear hb2); (try clear hk); (try clear hi); (try clear ho0)))
      (try simp only [Act.put, List.setIfInBounds_toArray, List.set_cons_zero, List.set_cons_succ])
      go_cut [58] (fun v58 wc => ∃ (kq : Nat) (x58_19 : Bool), v58 = .bool x58_19 ∧ Aside0 (ententelaw02_SealForms.j0 kq a0 a1 t178 t179 x58_19 = some r) ∧ Aside0 (kq ≤ k) ∧ Aside0 (Kd.R Kd.string 9 wc w.heap.size (fun _ => True) v181 t178) ∧ Aside0 (Below w.heap.size w wc))
      case first =>
        have H := HC20.out
        clear HC20
        by_cases c22 : t179 < 0
        · rw [if_pos c22] at H
          have c22b0 : decide (t179 < 0) = true := decide_eq_true c22
          clear c22
          (first | rw [c22b0] | (simp only [i64_w, i32_w]; rw [c22b0]) | skip)
          have H' := Aside0.mk H
          clear H
          go_wp2
          go_meet
          case rel => exact ⟨_, (true), (by first | rfl | (simp; done) | (simp [*]; done)), H', ⟨by first | omega | exact Nat.le_refl _⟩, ⟨by (with_reducible repeat (first | apply Kd.R_alloc | apply Kd.R_drewN | apply Kd.R_drew)); exact HO182.out⟩, ⟨by repeat (first | (with_reducible first | exact HB.out | apply below_alloc | apply pw_below_drewN | apply below_drew1) | exact HB.out)⟩⟩
        · rw [if_neg c22] at H
          have c22b0 : decide (t179 < 0) = false := decide_eq_false c22
          clear c22
          (first | rw [c22b0] | (simp only [i64_w, i32_w]; rw [c22b0]) | skip)
          by_cases c23 : t179 > (a0.size : Int)
          · rw [if_pos c23] at H
            have c23b0 : decide ((a0.size : Int) < t179) = true := decide_eq_true c23
            clear c23
            have H' := Aside0.mk H
            clear H
            go_wp2
            go_meet
            case rel => exact ⟨_, (true), (by first | rfl | (simp; done) | (simp [*]; done)), H', ⟨by first | omega | exact Nat.le_refl _⟩, ⟨by (with_reducible repeat (first | apply Kd.R_alloc | apply Kd.R_drewN | apply Kd.R_drew)); exact HO182.out⟩, ⟨by repeat (first | (with_reducible first | exact HB.out | apply below_alloc | apply pw_below_drewN | apply below_drew1) | exact HB.out)⟩⟩
          · rw [if_neg c23] at H
            have c23b0 : decide ((a0.size : Int) < t179) = false := decide_eq_false c23
            clear c23
            have H' := Aside0.mk H
            clear H
            go_wp2
            go_meet
            case rel => exact ⟨_, (((t180 == 0) != (t179 == (a0.size : Int)))), (by first | rfl | (simp; done) | (simp [*]; done)), H', ⟨by first | omega | exact Nat.le_refl _⟩, ⟨by (with_reducible repeat (first | apply Kd.R_alloc | apply Kd.R_drewN | apply Kd.R_drew)); exact HO182.out⟩, ⟨by repeat (first | (with_reducible first | exact HB.out | apply below_alloc | apply pw_below_drewN | apply below_drew1) | exact HB.out)⟩⟩
      case rest =>
        clear HC20
        try clear c1
        try clear c2
        try clear p2
        try clear c3
        try clear c3b0
        try clear c3b1
        try clear c7
        try clear c7b0
        try clear c7b1
        try clear c8
        try clear c8b0
        try clear c8b1
        try clear c8b2
        try clear c9
        try clear c9b0
        try clear c9b1
        try clear c10
        try clear c10b0
        try clear c13
        try clear c15
        try clear c15b0
        try clear c19
        try clear c22
        try clear c22b0
        try clear c23
        try clear c23b0
        obtain ⟨kq, x58_19, rfl, HA, HJ19, HO_5, HB⟩ := hcut
        cases kq with
        | zero => exact absurd HA.out (by simp [ententelaw02_SealForms.j0])
        | succ kj19 =>
          have H := HA.out
          clear HA
          simp only [ententelaw02_SealForms.j0] at H
          by_cases c24 : x58_19 = true
          · subst c24
            have H1 : (some false) = some r := by rw [if_pos rfl] at H; exact H
            clear H
            have H := H1
            clear H1
            exact absurd ((Option.some.inj H).trans HT.out) Bool.false_ne_true
          · replace c24 := Bool.eq_false_iff.mpr c24
            subst c24
            have H1 : ((ententelaw02_sealed.f kj19 a1 t178).bind fun bt185 => (if bt185.2.2 = true then (if 0 ≤ t179 then (if t179 ≤ (a0.size : Int) then (if bt185.1.toList = (a0.extract 0 (t179 : Int).toNat).toList then ((ententelaw02_awake.f kj19).bind fun t190 => (some t190)) else (some false)) else (none)) else (none)) else (some false))) = some r := by rw [if_neg (show ¬ (false = true) by decide)] at H; exact H
            clear H
            have H := H1
            clear H1
            replace H := Option.bind_eq_some_iff.mp H
            obtain ⟨⟨t185, t186, t187⟩, A250, H⟩ := H
            replace H : (if t187 = true then (if 0 ≤ t179 then (if t179 ≤ (a0.size : Int) then (if t185.toList = (a0.extract 0 (t179 : Int).toNat).toList then ((ententelaw02_awake.f kj19).bind fun t190 => (some t190)) else (some false)) else (none)) else (none)) else (some false)) = some r := H
            have A25 := Aside0.mk A250
            clear A250
            by_cases c26 : t187 = true
            · subst c26
              have H1 : (if 0 ≤ t179 then (if t179 ≤ (a0.size : Int) then (if t185.toList = (a0.extract 0 (t179 : Int).toNat).toList then ((ententelaw02_awake.f kj19).bind fun t190 => (some t190)) else (some false)) else (none)) else (none)) = some r := by rw [if_pos rfl] at H; exact H
              clear H
              have H := H1
              clear H1
              by_cases c27 : 0 ≤ t179
              · rw [if_pos c27] at H
                have c27b0 := eq_true c27
                have c27b1 : decide (0 ≤ t179) = true := decide_eq_true c27
                clear c27
                by_cases c28 : t179 ≤ (a0.size : Int)
                · rw [if_pos c28] at H
                  have c28b0 := eq_true c28
                  have c28b1 : decide (t179 ≤ (a0.size : Int)) = true := decide_eq_true c28
                  clear c28
                  by_cases c29 : t185.toList = (a0.extract 0 (t179 : Int).toNat).toList
                  · rw [if_pos c29] at H
                    have c29b0 : (t185.toList == (a0.extract 0 (t179 : Int).toNat).toList) = true := beq_iff_eq.mpr c29
                    have c29b1 : (t185.toList != (a0.extract 0 (t179 : Int).toNat).toList) = false := bne_eq_false_iff_eq.mpr c29
                    clear c29
                    replace H := Option.bind_eq_some_iff.mp H
                    obtain ⟨t190, A300, H⟩ := H
                    replace H : (some t190) = some r := H
                    have A30 := Aside0.mk A300
                    clear A300
                    obtain rfl := Option.some.inj H
                    obtain ⟨Ao31, co31, eo31⟩ := Kd.R_slice HO_5.out
                    subst eo31
                    go_wp2_with (first | ((with_reducible refine gate_callee (f := 18) rfl ?_); refine goesL_ (some 62) rfl rfl Try.func18 (by kernel_rfl) rfl #[.int .i64 a1, .slice Ao31 t178.length co31] rfl (by (try simp only [List.map_toArray, List.map_cons, List.map_nil]); first | done | rfl | (simp only [List.length_drop, List.length_take]; rfl)) ?_; (with_reducible refine (ententelaw02_sealed.calls kj19 a1 _ _ t178 t185 t186 true _ ?side1 ?side2 A25.out).mono ?_); (case side1 => repeat (first | exact (Kd.R_reads' HO_5.out).2.2 | (with_reducible refine Kd.C_alloc ?_ _) | (with_reducible refine Kd.C_drewN ?_ _) | (with_reducible refine Kd.C_drew ?_))); (case side2 => exact (Kd.R_reads' HO_5.out).2.1); rintro e w32 ⟨v188, rfl, ho0, hb⟩; refine ⟨_, rfl, ?_⟩; have n0_ := Aside0.mk (Kd.R_below (by (with_reducible repeat (first | apply Kd.R_alloc | apply Kd.R_drewN | apply Kd.R_drew)); exact HO_5.out) hb); have n1_ := Aside0.mk (Kd.R_lower ho0 (below_size (by repeat (first | (with_reducible first | exact HB.out | apply below_alloc | apply pw_below_drewN | apply below_drew1) | exact HB.out)))); have n2_ := Aside0.mk (below_step (by repeat (first | (with_reducible first | exact HB.out | apply below_alloc | apply pw_below_drewN | apply below_drew1) | exact HB.out)) hb); clear HO_5; clear HB; have HO_5 := n0_; have HO189 := n1_; have HB := n2_; clear n0_ n1_ n2_; (try clear hb); (try clear hb2); (try clear hk); (try clear hi); (try clear ho0)) | (go_at_call 13; (with_reducible refine (ententelaw02_awake.calls kj19  t190 _ A30.out).mono ?_); rintro e w33 ⟨rfl, hb⟩; have n0_ := Aside0.mk (Kd.R_below (by (with_reducible repeat (first | apply Kd.R_alloc | apply Kd.R_drewN | apply Kd.R_drew)); exact HO_5.out) hb); have n1_ := Aside0.mk (Kd.R_below (by (with_reducible repeat (first | apply Kd.R_alloc | apply Kd.R_drewN | apply Kd.R_drew)); exact HO189.out) hb); have n2_ := Aside0.mk (below_step (by repeat (first | (with_reducible first | exact HB.out | apply below_alloc | apply pw_below_drewN | apply below_drew1) | exact HB.out)) hb); clear HO_5; clear HO189; clear HB; have HO_5 := n0_; have HO189 := n1_; have HB := n2_; clear n0_ n1_ n2_; (try clear hb); (try clear hb2); (try clear hk); (try clear hi)))
                    go_ret
                    exact ⟨by first | rfl | (simp [errW_none, errW_some] <;> rfl) | (simp [*, errW_none, errW_some] <;> rfl), by repeat (first | (with_reducible first | exact HB.out | apply below_alloc | apply pw_below_drewN | apply below_drew1) | exact HB.out)⟩
                  · rw [if_neg c29] at H
                    have c29b0 : (t185.toList == (a0.extract 0 (t179 : Int).toNat).toList) = false := beq_eq_false_iff_ne.mpr c29
                    have c29b1 : (t185.toList != (a0.extract 0 (t179 : Int).toNat).toList) = true := bne_iff_ne.mpr c29
                    exact absurd ((Option.some.inj H).trans HT.out) Bool.false_ne_true
                · rw [if_neg c28] at H
                  exact absurd H (by simp)
              · rw [if_neg c27] at H
                exact absurd H (by simp)
            · replace c26 := Bool.eq_false_iff.mpr c26
              subst c26
              have H1 : (some false) = some r := by rw [if_neg (show ¬ (false = true) by decide)] at H; exact H
              clear H
              have H := H1
              clear H1
              exact absurd ((Option.some.inj H).trans HT.out) Bool.false_ne_true

/-- THE ONE PURE STATEMENT of ententelaw02_SealForms. -/
def ententelaw02_SealForms.Pure : Prop := ∀ (a0 : ByteArray) (a1 : Int), a0.size ≤ 140737488351232 → (Lit.int .i64 a1).wf = true → ∃ k, ententelaw02_SealForms.f k a0 a1 = some true

end Go.Proofs.Ytfjemhfcdbjolaa.PC
