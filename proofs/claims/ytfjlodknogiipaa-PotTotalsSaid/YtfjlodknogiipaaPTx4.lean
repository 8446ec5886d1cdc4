-- Written by a program of this session (wip/tools/mp.py over the kit's printer); Lean checks it.
import Derived.Test.YtfjlodknogiipaaPTx0
import Derived.Test.YtfjlodknogiipaaPTx3
namespace Go.Proofs.Ytfjlodknogiipaa.PT
open Go.RowKit Go.Proofs.YtfjlodknogiipaaW.PrintWords Go.Proofs.YtfjlodknogiipaaW.PrintLast Go.Proofs.YtfjlodknogiipaaW.PrintMore
attribute [local go_sem] max2_int min2_int max_two min_two max_three min_three max_four min_four   -- for this text's walks alone
set_option linter.unusedVariables false
set_option linter.unusedSimpArgs false

/-! ### ententelaw05_PotTotals: function 8 -/
def ententelaw05_PotTotals.f (k : Nat) (l0 : List (S23)) : Option (Bool) := if (l0.length : Int) > 5000 then ((ententelaw05_awake.f k).bind fun t180 => (some t180)) else ((pot_Total.f k l0).bind fun bt181 => ((ententeref05_Total.f k l0).bind fun bt183 => (if bt181.1 = bt183.1 then (if bt181.2 = bt183.2 then ((ententelaw05_awake.f k).bind fun t185 => (some t185)) else (some false)) else (some false))))
theorem ententelaw05_PotTotals.mono : ∀ a0 k, LeO (ententelaw05_PotTotals.f k a0) (ententelaw05_PotTotals.f (k + 1) a0) := by
  intro a0 k
  unfold ententelaw05_PotTotals.f
  repeat' first
      | (with_reducible exact ententelaw05_awake.mono _)
      | (with_reducible exact ententeref05_Total.mono _ _)
      | (with_reducible exact pot_Total.mono _ _)
      | (with_reducible exact LeO.refl _)
      | (with_reducible exact LeO.none _)
      | (with_reducible refine LeO.ite ?_ ?_)
      | (with_reducible refine LeO.bind ?_ (fun _ => ?_))
      | exact ententelaw05_awake.mono _
      | exact ententeref05_Total.mono _ _
      | exact pot_Total.mono _ _
      | exact LeO.none _
      | refine LeO.ite ?_ ?_
      | refine LeO.bind ?_ (fun _ => ?_)
set_option maxHeartbeats 8000000 in
set_option maxRecDepth 100000 in
theorem ententelaw05_PotTotals.calls (k : Nat) (A0 : Option Addr) (c0 : Nat) (l0 : List (S23)) (r : Bool) (w : World) (hr0 : Kd.C k23 w A0 l0.length l0) (hc0 : l0.length ≤ c0) (ht : r = true) (h : ententelaw05_PotTotals.f k l0 = some r) :
    Calls Try.prog 8 #[.slice A0 l0.length c0] w fun e w' => e = .returned (.bool r) ∧ Below w.heap.size w w' := by
  have HR0 := Aside0.mk hr0
  have HC0 := Aside0.mk hc0
  clear hr0 hc0
  have HB := Aside0.mk (Below.refl w.heap.size w)
  have HT := Aside0.mk ht
  clear ht
  have H : (if (l0.length : Int) > 5000 then ((ententelaw05_awake.f k).bind fun t180 => (some t180)) else ((pot_Total.f k l0).bind fun bt181 => ((ententeref05_Total.f k l0).bind fun bt183 => (if bt181.1 = bt183.1 then (if bt181.2 = bt183.2 then ((ententelaw05_awake.f k).bind fun t185 => (some t185)) else (some false)) else (some false))))) = some r := h
  clear h
  by_cases c2 : (l0.length : Int) > 5000
  · rw [if_pos c2] at H
    have c2b0 : decide (5000 < (l0.length : Int)) = true := decide_eq_true c2
    have c2b1 : decide (5000 < l0.length) = true := decide_eq_true (by omega)
    clear c2
    replace H := Option.bind_eq_some_iff.mp H
    obtain ⟨t180, A30, H⟩ := H
    replace H : (some t180) = some r := H
    have A3 := Aside0.mk A30
    clear A30
    obtain rfl := Option.some.inj H
    go_enter Try.func8, Try.ntmps8
    go_wp2_with (first | ((with_reducible refine gate_callee (f := 15) rfl ?_); refine goesL_ (some 10) rfl rfl Try.func15 (by kernel_rfl) rfl #[] rfl (by (try simp only [List.map_toArray, List.map_cons, List.map_nil]); first | done | rfl | (simp only [List.length_drop, List.length_take]; rfl)) ?_; (with_reducible refine (ententelaw05_awake.calls k  t180 _ A3.out).mono ?_); rintro e w4 ⟨rfl, hb⟩; refine ⟨_, rfl, ?_⟩; have n0_ := Aside0.mk (below_step (by repeat (first | (with_reducible first | exact HB.out | apply below_alloc | apply pw_below_drewN | apply below_drew1) | exact HB.out)) hb); clear HB; have HB := n0_; clear n0_; (try clear hb); (try clear hb2); (try clear hk); (try clear hi)))
    go_ret
    exact ⟨by first | rfl | (simp [errW_none, errW_some] <;> rfl) | (simp [*, errW_none, errW_some] <;> rfl), by repeat (first | (with_reducible first | exact HB.out | apply below_alloc | apply pw_below_drewN | apply below_drew1) | exact HB.out)⟩
  · rw [if_neg c2] at H
    have c2b0 : decide (5000 < (l0.length : Int)) = false := decide_eq_false c2
    have c2b1 : decide (5000 < l0.length) = false := decide_eq_false (by omega)
    clear c2
    replace H := Option.bind_eq_some_iff.mp H
    obtain ⟨⟨t181, t182⟩, A50, H⟩ := H
    replace H : ((ententeref05_Total.f k l0).bind fun bt183 => (if t181 = bt183.1 then (if t182 = bt183.2 then ((ententelaw05_awake.f k).bind fun t185 => (some t185)) else (some false)) else (some false))) = some r := H
    have A5 := Aside0.mk A50
    clear A50
    replace H := Option.bind_eq_some_iff.mp H
    obtain ⟨⟨t183, t184⟩, A60, H⟩ := H
    replace H : (if t181 = t183 then (if t182 = t184 then ((ententelaw05_awake.f k).bind fun t185 => (some t185)) else (some false)) else (some false)) = some r := H
    have A6 := Aside0.mk A60
    clear A60
    by_cases c7 : t181 = t183
    · rw [if_pos c7] at H
      have c7b0 : (t181 == t183) = true := beq_iff_eq.mpr c7
      have c7b1 : (t181 != t183) = false := bne_eq_false_iff_eq.mpr c7
      clear c7
      by_cases c8 : t182 = t184
      · rw [if_pos c8] at H
        have c8b0 : (t182 == t184) = true := beq_iff_eq.mpr c8
        have c8b1 : (t182 != t184) = false := bne_eq_false_iff_eq.mpr c8
        clear c8
        replace H := Option.bind_eq_some_iff.mp H
        obtain ⟨t185, A90, H⟩ := H
        replace H : (some t185) = some r := H
        have A9 := Aside0.mk A90
        clear A90
        obtain rfl := Option.some.inj H
        go_enter Try.func8, Try.ntmps8
        go_wp2_with (first | ((with_reducible refine gate_callee (f := 23) rfl ?_); refine goesL_ (some 13) rfl rfl Try.func23 (by kernel_rfl) rfl #[.slice A0 l0.length c0] rfl (by (try simp only [List.map_toArray, List.map_cons, List.map_nil]); first | done | rfl | (simp only [List.length_drop, List.length_take]; rfl)) ?_; (with_reducible refine (pot_Total.calls k _ _ l0 t181 t182 _ ?side1 ?side2 A5.out).mono ?_); (case side1 => repeat (first | exact HR0.out | (with_reducible refine Kd.C_alloc ?_ _) | (with_reducible refine Kd.C_drewN ?_ _) | (with_reducible refine Kd.C_drew ?_))); (case side2 => exact HC0.out); rintro e w10 ⟨rfl, hb⟩; refine ⟨_, rfl, ?_⟩; have n0_ := Aside0.mk (below_step (by repeat (first | (with_reducible first | exact HB.out | apply below_alloc | apply pw_below_drewN | apply below_drew1) | exact HB.out)) hb); clear HB; have HB := n0_; clear n0_; (try clear hb); (try clear hb2); (try clear hk); (try clear hi)) | ((with_reducible refine gate_callee (f := 24) rfl ?_); refine goesL_ (some 18) rfl rfl Try.func24 (by kernel_rfl) rfl #[.slice A0 l0.length c0] rfl (by (try simp only [List.map_toArray, List.map_cons, List.map_nil]); first | done | rfl | (simp only [List.length_drop, List.length_take]; rfl)) ?_; (with_reducible refine (ententeref05_Total.calls k _ _ l0 t183 t184 _ ?side1 ?side2 A6.out).mono ?_); (case side1 => repeat (first | exact (Kd.C_below HR0.out HB.out) | (with_reducible refine Kd.C_alloc ?_ _) | (with_reducible refine Kd.C_drewN ?_ _) | (with_reducible refine Kd.C_drew ?_))); (case side2 => exact HC0.out); rintro e w11 ⟨rfl, hb⟩; refine ⟨_, rfl, ?_⟩; have n0_ := Aside0.mk (below_step (by repeat (first | (with_reducible first | exact HB.out | apply below_alloc | apply pw_below_drewN | apply below_drew1) | exact HB.out)) hb); clear HB; have HB := n0_; clear n0_; (try clear hb); (try clear hb2); (try clear hk); (try clear hi)) | (go_at_call 15; (with_reducible refine (ententelaw05_awake.calls k  t185 _ A9.out).mono ?_); rintro e w12 ⟨rfl, hb⟩; have n0_ := Aside0.mk (below_step (by repeat (first | (with_reducible first | exact HB.out | apply below_alloc | apply pw_below_drewN | apply below_drew1) | exact HB.out)) hb); clear HB; have HB := n0_; clear n0_; (try clear hb); (try clear hb2); (try clear hk); (try clear hi)))
        go_ret
        exact ⟨by first | rfl | (simp [errW_none, errW_some] <;> rfl) | (simp [*, errW_none, errW_some] <;> rfl), by repeat (first | (with_reducible first | exact HB.out | apply below_alloc | apply pw_below_drewN | apply below_drew1) | exact HB.out)⟩
      · rw [if_neg c8] at H
        have c8b0 : (t182 == t184) = false := beq_eq_false_iff_ne.mpr c8
        have c8b1 : (t182 != t184) = true := bne_iff_ne.mpr c8
        exact absurd ((Option.some.inj H).trans HT.out) Bool.false_ne_true
    · rw [if_neg c7] at H
      have c7b0 : (t181 == t183) = false := beq_eq_false_iff_ne.mpr c7
      have c7b1 : (t181 != t183) = true := bne_iff_ne.mpr c7
      exact absurd ((Option.some.inj H).trans HT.out) Bool.false_ne_true

/-- What is known of an element that came in. -/
def Q23 (x : S23) : Prop := (Lit.int .i64 x.f0).wf = true ∧ (Lit.int .i64 x.f1).wf = true ∧ (Lit.int .i64 x.f2).wf = true
/-- THE ONE PURE STATEMENT of ententelaw05_PotTotals. -/
def ententelaw05_PotTotals.Pure : Prop := ∀ (l0 : List S23), (l0.length ≤ 9223372036854775807 ∧ l0.length * 24 ≤ 140737488351232 ∧ ∀ y_ ∈ l0, Q23 y_) → ∃ k, ententelaw05_PotTotals.f k l0 = some true

end Go.Proofs.Ytfjlodknogiipaa.PT
