-- Written by a program of this session (wip/tools/mp.py over the kit's printer); Lean checks it.
import Derived.Test.YtfhffabnllicdaaPAx0
import Derived.Test.YtfhffabnllicdaaPAx1
import Derived.Test.YtfhffabnllicdaaPAx2
import Derived.Test.YtfhffabnllicdaaPAx4
namespace Go.Proofs.Ytfhffabnllicdaa.PA
open Go.RowKit Go.Proofs.YtfhffabnllicdaaW.PrintWords Go.Proofs.YtfhffabnllicdaaW.PrintLast Go.Proofs.YtfhffabnllicdaaW.PrintMore
attribute [local go_sem] max2_int min2_int max_two min_two max_three min_three max_four min_four   -- for this text's walks alone
set_option linter.unusedVariables false
set_option linter.unusedSimpArgs false

/-! ### pack_TakeText: function 24 -/
def pack_TakeText.f (k : Nat) (a0 : ByteArray) (a1 : Int) : Option (ByteArray × Int × Int) := (pack_TakeNumber.f k a0 a1).bind fun bt167 => (if bt167.2.2 = 0 then (if bt167.1 > (IntKind.u64.wrap (wrap64 ((a0.size : Int) - bt167.2.1))) then (some ((⟨#[]⟩ : ByteArray), 0, 10)) else (if 0 ≤ bt167.2.1 then (if bt167.2.1 ≤ (wrap64 (bt167.2.1 + (wrap64 (bt167.1)))) then (if (wrap64 (bt167.2.1 + (wrap64 (bt167.1)))) ≤ (a0.size : Int) then (some (a0.extract (bt167.2.1 : Int).toNat ((wrap64 (bt167.2.1 + (wrap64 (bt167.1)))) : Int).toNat, wrap64 (bt167.2.1 + (wrap64 (bt167.1))), 0)) else (none)) else (none)) else (none))) else (some ((⟨#[]⟩ : ByteArray), 0, bt167.2.2)))
theorem pack_TakeText.mono : ∀ a0 a1 k, LeO (pack_TakeText.f k a0 a1) (pack_TakeText.f (k + 1) a0 a1) := by
  intro a0 a1 k
  unfold pack_TakeText.f
  repeat' first
      | (with_reducible exact pack_TakeNumber.mono _ _ _)
      | (with_reducible exact LeO.refl _)
      | (with_reducible exact LeO.none _)
      | (with_reducible refine LeO.ite ?_ ?_)
      | (with_reducible refine LeO.bind ?_ (fun _ => ?_))
      | exact pack_TakeNumber.mono _ _ _
      | exact LeO.none _
      | refine LeO.ite ?_ ?_
      | refine LeO.bind ?_ (fun _ => ?_)
set_option maxHeartbeats 8000000 in
set_option maxRecDepth 100000 in
theorem pack_TakeText.calls (k : Nat) (a0 : ByteArray) (a1 : Int) (r1 : ByteArray) (r2 : Int) (r3 : Int) (w : World) (h : pack_TakeText.f k a0 a1 = some (r1, r2, r3)) :
    Calls Try.prog 24 #[.string a0, .int .i64 a1] w fun e w' => e = .returned (.tuple #[.string r1, .int .i64 r2, .int .i64 r3]) ∧ Drawn0 w w' := by
  have H : ((pack_TakeNumber.f k a0 a1).bind fun bt167 => (if bt167.2.2 = 0 then (if bt167.1 > (IntKind.u64.wrap (wrap64 ((a0.size : Int) - bt167.2.1))) then (some ((⟨#[]⟩ : ByteArray), 0, 10)) else (if 0 ≤ bt167.2.1 then (if bt167.2.1 ≤ (wrap64 (bt167.2.1 + (wrap64 (bt167.1)))) then (if (wrap64 (bt167.2.1 + (wrap64 (bt167.1)))) ≤ (a0.size : Int) then (some (a0.extract (bt167.2.1 : Int).toNat ((wrap64 (bt167.2.1 + (wrap64 (bt167.1)))) : Int).toNat, wrap64 (bt167.2.1 + (wrap64 (bt167.1))), 0)) else (none)) else (none)) else (none))) else (some ((⟨#[]⟩ : ByteArray), 0, bt167.2.2)))) = some (r1, r2, r3) := h
  clear h
  replace H := Option.bind_eq_some_iff.mp H
  obtain ⟨⟨t167, t168, t169⟩, A30, H⟩ := H
  replace H : (if t169 = 0 then (if t167 > (IntKind.u64.wrap (wrap64 ((a0.size : Int) - t168))) then (some ((⟨#[]⟩ : ByteArray), 0, 10)) else (if 0 ≤ t168 then (if t168 ≤ (wrap64 (t168 + (wrap64 (t167)))) then (if (wrap64 (t168 + (wrap64 (t167)))) ≤ (a0.size : Int) then (some (a0.extract (t168 : Int).toNat ((wrap64 (t168 + (wrap64 (t167)))) : Int).toNat, wrap64 (t168 + (wrap64 (t167))), 0)) else (none)) else (none)) else (none))) else (some ((⟨#[]⟩ : ByteArray), 0, t169))) = some (r1, r2, r3) := H
  have A3 := Aside0.mk A30
  clear A30
  by_cases c4 : t169 = 0
  · rw [if_pos c4] at H
    have c4b0 : (t169 == 0) = true := beq_iff_eq.mpr c4
    have c4b1 : (t169 != 0) = false := bne_eq_false_iff_eq.mpr c4
    clear c4
    by_cases c5 : t167 > (IntKind.u64.wrap (wrap64 ((a0.size : Int) - t168)))
    · rw [if_pos c5] at H
      have c5b0 : decide ((IntKind.u64.wrap (wrap64 ((a0.size : Int) - t168))) < t167) = true := decide_eq_true c5
      clear c5
      simp only [Option.some.injEq, Prod.mk.injEq] at H
      obtain ⟨rfl, rfl, rfl⟩ := H
      go_enter Try.func24, Try.ntmps24
      go_wp2_with (first | ((with_reducible refine gate_callee (f := 20) rfl ?_); refine goesL_ (some 14) rfl rfl Try.func20 (by kernel_rfl) rfl #[.string a0, .int .i64 a1] rfl (by (try simp only [List.map_toArray, List.map_cons, List.map_nil]); first | done | rfl | (simp only [List.length_drop, List.length_take]; rfl)) ?_; (with_reducible refine (pack_TakeNumber.calls k a0 a1 t167 t168 t169 _ A3.out).mono ?_); rintro e w' ⟨rfl, ⟨nd, rfl⟩⟩; refine ⟨_, rfl, ?_⟩))
      go_ret3
      exact ⟨by first | rfl | (simp; done) | (simp [*]; done), by repeat (first | exact Drawn0.refl _ | apply Drawn0.step)⟩
    · rw [if_neg c5] at H
      have c5b0 : decide ((IntKind.u64.wrap (wrap64 ((a0.size : Int) - t168))) < t167) = false := decide_eq_false c5
      clear c5
      by_cases c6 : 0 ≤ t168
      · rw [if_pos c6] at H
        have c6b0 := eq_true c6
        have c6b1 : decide (0 ≤ t168) = true := decide_eq_true c6
        clear c6
        by_cases c7 : t168 ≤ (wrap64 (t168 + (wrap64 (t167))))
        · rw [if_pos c7] at H
          have c7b0 := eq_true c7
          have c7b1 : decide (t168 ≤ (wrap64 (t168 + (wrap64 (t167))))) = true := decide_eq_true c7
          by_cases c8 : (wrap64 (t168 + (wrap64 (t167)))) ≤ (a0.size : Int)
          · rw [if_pos c8] at H
            have c8b0 := eq_true c8
            have c8b1 : decide ((wrap64 (t168 + (wrap64 (t167)))) ≤ (a0.size : Int)) = true := decide_eq_true c8
            simp only [Option.some.injEq, Prod.mk.injEq] at H
            obtain ⟨rfl, rfl, rfl⟩ := H
            go_enter Try.func24, Try.ntmps24
            go_wp2_with (first | ((with_reducible refine gate_callee (f := 20) rfl ?_); refine goesL_ (some 14) rfl rfl Try.func20 (by kernel_rfl) rfl #[.string a0, .int .i64 a1] rfl (by (try simp only [List.map_toArray, List.map_cons, List.map_nil]); first | done | rfl | (simp only [List.length_drop, List.length_take]; rfl)) ?_; (with_reducible refine (pack_TakeNumber.calls k a0 a1 t167 t168 t169 _ A3.out).mono ?_); rintro e w' ⟨rfl, ⟨nd, rfl⟩⟩; refine ⟨_, rfl, ?_⟩))
            go_ret3
            exact ⟨by first | rfl | (simp; done) | (simp [*]; done), by repeat (first | exact Drawn0.refl _ | apply Drawn0.step)⟩
          · rw [if_neg c8] at H
            exact absurd H (by simp)
        · rw [if_neg c7] at H
          exact absurd H (by simp)
      · rw [if_neg c6] at H
        exact absurd H (by simp)
  · rw [if_neg c4] at H
    have c4b0 : (t169 == 0) = false := beq_eq_false_iff_ne.mpr c4
    have c4b1 : (t169 != 0) = true := bne_iff_ne.mpr c4
    simp only [Option.some.injEq, Prod.mk.injEq] at H
    obtain ⟨rfl, rfl, rfl⟩ := H
    go_enter Try.func24, Try.ntmps24
    go_wp2_with (first | ((with_reducible refine gate_callee (f := 20) rfl ?_); refine goesL_ (some 14) rfl rfl Try.func20 (by kernel_rfl) rfl #[.string a0, .int .i64 a1] rfl (by (try simp only [List.map_toArray, List.map_cons, List.map_nil]); first | done | rfl | (simp only [List.length_drop, List.length_take]; rfl)) ?_; (with_reducible refine (pack_TakeNumber.calls k a0 a1 t167 t168 t169 _ A3.out).mono ?_); rintro e w' ⟨rfl, ⟨nd, rfl⟩⟩; refine ⟨_, rfl, ?_⟩))
    go_ret3
    exact ⟨by first | rfl | (simp; done) | (simp [*]; done), by repeat (first | exact Drawn0.refl _ | apply Drawn0.step)⟩

/-! ### ententeref01_TakeText: function 25 -/
def ententeref01_TakeText.f (k : Nat) (a0 : ByteArray) (a1 : Int) : Option (ByteArray × Int × Int) := (ententeref01_TakeNumber.f k a0 a1).bind fun bt170 => (if bt170.2.2 = 0 then (if bt170.1 > (IntKind.u64.wrap (wrap64 ((a0.size : Int) - bt170.2.1))) then (some ((⟨#[]⟩ : ByteArray), 0, 10)) else (if 0 ≤ bt170.2.1 then (if bt170.2.1 ≤ (wrap64 (bt170.2.1 + (wrap64 (bt170.1)))) then (if (wrap64 (bt170.2.1 + (wrap64 (bt170.1)))) ≤ (a0.size : Int) then (some (a0.extract (bt170.2.1 : Int).toNat ((wrap64 (bt170.2.1 + (wrap64 (bt170.1)))) : Int).toNat, wrap64 (bt170.2.1 + (wrap64 (bt170.1))), 0)) else (none)) else (none)) else (none))) else (some ((⟨#[]⟩ : ByteArray), 0, bt170.2.2)))
theorem ententeref01_TakeText.mono : ∀ a0 a1 k, LeO (ententeref01_TakeText.f k a0 a1) (ententeref01_TakeText.f (k + 1) a0 a1) := by
  intro a0 a1 k
  unfold ententeref01_TakeText.f
  repeat' first
      | (with_reducible exact ententeref01_TakeNumber.mono _ _ _)
      | (with_reducible exact LeO.refl _)
      | (with_reducible exact LeO.none _)
      | (with_reducible refine LeO.ite ?_ ?_)
      | (with_reducible refine LeO.bind ?_ (fun _ => ?_))
      | exact ententeref01_TakeNumber.mono _ _ _
      | exact LeO.none _
      | refine LeO.ite ?_ ?_
      | refine LeO.bind ?_ (fun _ => ?_)
set_option maxHeartbeats 8000000 in
set_option maxRecDepth 100000 in
theorem ententeref01_TakeText.calls (k : Nat) (a0 : ByteArray) (a1 : Int) (r1 : ByteArray) (r2 : Int) (r3 : Int) (w : World) (h : ententeref01_TakeText.f k a0 a1 = some (r1, r2, r3)) :
    Calls Try.prog 25 #[.string a0, .int .i64 a1] w fun e w' => e = .returned (.tuple #[.string r1, .int .i64 r2, .int .i64 r3]) ∧ Below w.heap.size w w' := by
  have HB := Aside0.mk (Below.refl w.heap.size w)
  have H : ((ententeref01_TakeNumber.f k a0 a1).bind fun bt170 => (if bt170.2.2 = 0 then (if bt170.1 > (IntKind.u64.wrap (wrap64 ((a0.size : Int) - bt170.2.1))) then (some ((⟨#[]⟩ : ByteArray), 0, 10)) else (if 0 ≤ bt170.2.1 then (if bt170.2.1 ≤ (wrap64 (bt170.2.1 + (wrap64 (bt170.1)))) then (if (wrap64 (bt170.2.1 + (wrap64 (bt170.1)))) ≤ (a0.size : Int) then (some (a0.extract (bt170.2.1 : Int).toNat ((wrap64 (bt170.2.1 + (wrap64 (bt170.1)))) : Int).toNat, wrap64 (bt170.2.1 + (wrap64 (bt170.1))), 0)) else (none)) else (none)) else (none))) else (some ((⟨#[]⟩ : ByteArray), 0, bt170.2.2)))) = some (r1, r2, r3) := h
  clear h
  replace H := Option.bind_eq_some_iff.mp H
  obtain ⟨⟨t170, t171, t172⟩, A30, H⟩ := H
  replace H : (if t172 = 0 then (if t170 > (IntKind.u64.wrap (wrap64 ((a0.size : Int) - t171))) then (some ((⟨#[]⟩ : ByteArray), 0, 10)) else (if 0 ≤ t171 then (if t171 ≤ (wrap64 (t171 + (wrap64 (t170)))) then (if (wrap64 (t171 + (wrap64 (t170)))) ≤ (a0.size : Int) then (some (a0.extract (t171 : Int).toNat ((wrap64 (t171 + (wrap64 (t170)))) : Int).toNat, wrap64 (t171 + (wrap64 (t170))), 0)) else (none)) else (none)) else (none))) else (some ((⟨#[]⟩ : ByteArray), 0, t172))) = some (r1, r2, r3) := H
  have A3 := Aside0.mk A30
  clear A30
  by_cases c4 : t172 = 0
  · rw [if_pos c4] at H
    have c4b0 : (t172 == 0) = true := beq_iff_eq.mpr c4
    have c4b1 : (t172 != 0) = false := bne_eq_false_iff_eq.mpr c4
    clear c4
    by_cases c5 : t170 > (IntKind.u64.wrap (wrap64 ((a0.size : Int) - t171)))
    · rw [if_pos c5] at H
      have c5b0 : decide ((IntKind.u64.wrap (wrap64 ((a0.size : Int) - t171))) < t170) = true := decide_eq_true c5
      clear c5
      simp only [Option.some.injEq, Prod.mk.injEq] at H
      obtain ⟨rfl, rfl, rfl⟩ := H
      go_enter Try.func25, Try.ntmps25
      go_wp2_with (first | ((with_reducible refine gate_callee (f := 21) rfl ?_); refine goesL_ (some 13) rfl rfl Try.func21 (by kernel_rfl) rfl #[.string a0, .int .i64 a1] rfl (by (try simp only [List.map_toArray, List.map_cons, List.map_nil]); first | done | rfl | (simp only [List.length_drop, List.length_take]; rfl)) ?_; (with_reducible refine (ententeref01_TakeNumber.calls k a0 a1 t170 t171 t172 _ A3.out).mono ?_); rintro e w6 ⟨rfl, hb⟩; refine ⟨_, rfl, ?_⟩; have n0_ := Aside0.mk (below_step (by repeat (first | (with_reducible first | exact HB.out | apply below_alloc | apply pw_below_drewN | apply below_drew1) | exact HB.out)) hb); clear HB; have HB := n0_; clear n0_; (try clear hb); (try clear hb2); (try clear hk); (try clear hi)))
      go_ret3
      exact ⟨by first | rfl | (simp [errW_none, errW_some] <;> rfl) | (simp [*, errW_none, errW_some] <;> rfl), by repeat (first | (with_reducible first | exact HB.out | apply below_alloc | apply pw_below_drewN | apply below_drew1) | exact HB.out)⟩
    · rw [if_neg c5] at H
      have c5b0 : decide ((IntKind.u64.wrap (wrap64 ((a0.size : Int) - t171))) < t170) = false := decide_eq_false c5
      clear c5
      by_cases c7 : 0 ≤ t171
      · rw [if_pos c7] at H
        have c7b0 := eq_true c7
        have c7b1 : decide (0 ≤ t171) = true := decide_eq_true c7
        clear c7
        by_cases c8 : t171 ≤ (wrap64 (t171 + (wrap64 (t170))))
        · rw [if_pos c8] at H
          have c8b0 := eq_true c8
          have c8b1 : decide (t171 ≤ (wrap64 (t171 + (wrap64 (t170))))) = true := decide_eq_true c8
          by_cases c9 : (wrap64 (t171 + (wrap64 (t170)))) ≤ (a0.size : Int)
          · rw [if_pos c9] at H
            have c9b0 := eq_true c9
            have c9b1 : decide ((wrap64 (t171 + (wrap64 (t170)))) ≤ (a0.size : Int)) = true := decide_eq_true c9
            simp only [Option.some.injEq, Prod.mk.injEq] at H
            obtain ⟨rfl, rfl, rfl⟩ := H
            go_enter Try.func25, Try.ntmps25
            go_wp2_with (first | ((with_reducible refine gate_callee (f := 21) rfl ?_); refine goesL_ (some 13) rfl rfl Try.func21 (by kernel_rfl) rfl #[.string a0, .int .i64 a1] rfl (by (try simp only [List.map_toArray, List.map_cons, List.map_nil]); first | done | rfl | (simp only [List.length_drop, List.length_take]; rfl)) ?_; (with_reducible refine (ententeref01_TakeNumber.calls k a0 a1 t170 t171 t172 _ A3.out).mono ?_); rintro e w10 ⟨rfl, hb⟩; refine ⟨_, rfl, ?_⟩; have n0_ := Aside0.mk (below_step (by repeat (first | (with_reducible first | exact HB.out | apply below_alloc | apply pw_below_drewN | apply below_drew1) | exact HB.out)) hb); clear HB; have HB := n0_; clear n0_; (try clear hb); (try clear hb2); (try clear hk); (try clear hi)))
            go_ret3
            exact ⟨by first | rfl | (simp [errW_none, errW_some] <;> rfl) | (simp [*, errW_none, errW_some] <;> rfl), by repeat (first | (with_reducible first | exact HB.out | apply below_alloc | apply pw_below_drewN | apply below_drew1) | exact HB.out)⟩
          · rw [if_neg c9] at H
            exact absurd H (by simp)
        · rw [if_neg c8] at H
          exact absurd H (by simp)
      · rw [if_neg c7] at H
        exact absurd H (by simp)
  · rw [if_neg c4] at H
    have c4b0 : (t172 == 0) = false := beq_eq_false_iff_ne.mpr c4
    have c4b1 : (t172 != 0) = true := bne_iff_ne.mpr c4
    simp only [Option.some.injEq, Prod.mk.injEq] at H
    obtain ⟨rfl, rfl, rfl⟩ := H
    go_enter Try.func25, Try.ntmps25
    go_wp2_with (first | ((with_reducible refine gate_callee (f := 21) rfl ?_); refine goesL_ (some 13) rfl rfl Try.func21 (by kernel_rfl) rfl #[.string a0, .int .i64 a1] rfl (by (try simp only [List.map_toArray, List.map_cons, List.map_nil]); first | done | rfl | (simp only [List.length_drop, List.length_take]; rfl)) ?_; (with_reducible refine (ententeref01_TakeNumber.calls k a0 a1 t170 t171 t172 _ A3.out).mono ?_); rintro e w11 ⟨rfl, hb⟩; refine ⟨_, rfl, ?_⟩; have n0_ := Aside0.mk (below_step (by repeat (first | (with_reducible first | exact HB.out | apply below_alloc | apply pw_below_drewN | apply below_drew1) | exact HB.out)) hb); clear HB; have HB := n0_; clear n0_; (try clear hb); (try clear hb2); (try clear hk); (try clear hi)))
    go_ret3
    exact ⟨by first | rfl | (simp [errW_none, errW_some] <;> rfl) | (simp [*, errW_none, errW_some] <;> rfl), by repeat (first | (with_reducible first | exact HB.out | apply below_alloc | apply pw_below_drewN | apply below_drew1) | exact HB.out)⟩

/-! ### ententelaw01_PackTakes: function 6 -/
def ententelaw01_PackTakes.f (k : Nat) (a0 : ByteArray) (a1 : Int) : Option (Bool) := (pack_TakeNumber.f k a0 a1).bind fun bt173 => ((ententeref01_TakeNumber.f k a0 a1).bind fun bt176 => ((pack_TakeSigned.f k a0 a1).bind fun bt179 => ((ententeref01_TakeSigned.f k a0 a1).bind fun bt182 => ((pack_TakeText.f k a0 a1).bind fun bt185 => ((ententeref01_TakeText.f k a0 a1).bind fun bt188 => (if bt173.1 = bt176.1 then (if bt173.2.1 = bt176.2.1 then (if bt173.2.2 = bt176.2.2 then (if bt179.1 = bt182.1 then (if bt179.2.1 = bt182.2.1 then (if bt179.2.2 = bt182.2.2 then (if bt185.1.toList = bt188.1.toList then (if bt185.2.1 = bt188.2.1 then (if bt185.2.2 = bt188.2.2 then ((ententelaw01_awake.f k).bind fun t191 => (some t191)) else (some false)) else (some false)) else (some false)) else (some false)) else (some false)) else (some false)) else (some false)) else (some false)) else (some false)))))))
theorem ententelaw01_PackTakes.mono : ∀ a0 a1 k, LeO (ententelaw01_PackTakes.f k a0 a1) (ententelaw01_PackTakes.f (k + 1) a0 a1) := by
  intro a0 a1 k
  unfold ententelaw01_PackTakes.f
  repeat' first
      | (with_reducible exact ententelaw01_awake.mono _)
      | (with_reducible exact ententeref01_TakeNumber.mono _ _ _)
      | (with_reducible exact ententeref01_TakeSigned.mono _ _ _)
      | (with_reducible exact ententeref01_TakeText.mono _ _ _)
      | (with_reducible exact pack_TakeNumber.mono _ _ _)
      | (with_reducible exact pack_TakeSigned.mono _ _ _)
      | (with_reducible exact pack_TakeText.mono _ _ _)
      | (with_reducible exact LeO.refl _)
      | (with_reducible exact LeO.none _)
      | (with_reducible refine LeO.ite ?_ ?_)
      | (with_reducible refine LeO.bind ?_ (fun _ => ?_))
      | exact ententelaw01_awake.mono _
      | exact ententeref01_TakeNumber.mono _ _ _
      | exact ententeref01_TakeSigned.mono _ _ _
      | exact ententeref01_TakeText.mono _ _ _
      | exact pack_TakeNumber.mono _ _ _
      | exact pack_TakeSigned.mono _ _ _
      | exact pack_TakeText.mono _ _ _
      | exact LeO.none _
      | refine LeO.ite ?_ ?_
      | refine LeO.bind ?_ (fun _ => ?_)
set_option maxHeartbeats 8000000 in
set_option maxRecDepth 100000 in
theorem ententelaw01_PackTakes.calls (k : Nat) (a0 : ByteArray) (a1 : Int) (r : Bool) (w : World) (ht : r = true) (h : ententelaw01_PackTakes.f k a0 a1 = some r) :
    Calls Try.prog 6 #[.string a0, .int .i64 a1] w fun e w' => e = .returned (.bool r) ∧ Below w.heap.size w w' := by
  have HB := Aside0.mk (Below.refl w.heap.size w)
  have HT := Aside0.mk ht
  clear ht
  have H : ((pack_TakeNumber.f k a0 a1).bind fun bt173 => ((ententeref01_TakeNumber.f k a0 a1).bind fun bt176 => ((pack_TakeSigned.f k a0 a1).bind fun bt179 => ((ententeref01_TakeSigned.f k a0 a1).bind fun bt182 => ((pack_TakeText.f k a0 a1).bind fun bt185 => ((ententeref01_TakeText.f k a0 a1).bind fun bt188 => (if bt173.1 = bt176.1 then (if bt173.2.1 = bt176.2.1 then (if bt173.2.2 = bt176.2.2 then (if bt179.1 = bt182.1 then (if bt179.2.1 = bt182.2.1 then (if bt179.2.2 = bt182.2.2 then (if bt185.1.toList = bt188.1.toList then (if bt185.2.1 = bt188.2.1 then (if bt185.2.2 = bt188.2.2 then ((ententelaw01_awake.f k).bind fun t191 => (some t191)) else (some false)) else (some false)) else (some false)) else (some false)) else (some false)) else (some false)) else (some false)) else (some false)) else (some false)))))))) = some r := h
  clear h
  replace H := Option.bind_eq_some_iff.mp H
  obtain ⟨⟨t173, t174, t175⟩, A30, H⟩ := H
  replace H : ((ententeref01_TakeNumber.f k a0 a1).bind fun bt176 => ((pack_TakeSigned.f k a0 a1).bind fun bt179 => ((ententeref01_TakeSigned.f k a0 a1).bind fun bt182 => ((pack_TakeText.f k a0 a1).bind fun bt185 => ((ententeref01_TakeText.f k a0 a1).bind fun bt188 => (if t173 = bt176.1 then (if t174 = bt176.2.1 then (if t175 = bt176.2.2 then (if bt179.1 = bt182.1 then (if bt179.2.1 = bt182.2.1 then (if bt179.2.2 = bt182.2.2 then (if bt185.1.toList = bt188.1.toList then (if bt185.2.1 = bt188.2.1 then (if bt185.2.2 = bt188.2.2 then ((ententelaw01_awake.f k).bind fun t191 => (some t191)) else (some false)) else (some false)) else (some false)) else (some false)) else (some false)) else (some false)) else (some false)) else (some false)) else (some false))))))) = some r := H
  have A3 := Aside0.mk A30
  clear A30
  replace H := Option.bind_eq_some_iff.mp H
  obtain ⟨⟨t176, t177, t178⟩, A40, H⟩ := H
  replace H : ((pack_TakeSigned.f k a0 a1).bind fun bt179 => ((ententeref01_TakeSigned.f k a0 a1).bind fun bt182 => ((pack_TakeText.f k a0 a1).bind fun bt185 => ((ententeref01_TakeText.f k a0 a1).bind fun bt188 => (if t173 = t176 then (if t174 = t177 then (if t175 = t178 then (if bt179.1 = bt182.1 then (if bt179.2.1 = bt182.2.1 then (if bt179.2.2 = bt182.2.2 then (if bt185.1.toList = bt188.1.toList then (if bt185.2.1 = bt188.2.1 then (if bt185.2.2 = bt188.2.2 then ((ententelaw01_awake.f k).bind fun t191 => (some t191)) else (some false)) else (some false)) else (some false)) else (some false)) else (some false)) else (some false)) else (some false)) else (some false)) else (some false)))))) = some r := H
  have A4 := Aside0.mk A40
  clear A40
  replace H := Option.bind_eq_some_iff.mp H
  obtain ⟨⟨t179, t180, t181⟩, A50, H⟩ := H
  replace H : ((ententeref01_TakeSigned.f k a0 a1).bind fun bt182 => ((pack_TakeText.f k a0 a1).bind fun bt185 => ((ententeref01_TakeText.f k a0 a1).bind fun bt188 => (if t173 = t176 then (if t174 = t177 then (if t175 = t178 then (if t179 = bt182.1 then (if t180 = bt182.2.1 then (if t181 = bt182.2.2 then (if bt185.1.toList = bt188.1.toList then (if bt185.2.1 = bt188.2.1 then (if bt185.2.2 = bt188.2.2 then ((ententelaw01_awake.f k).bind fun t191 => (some t191)) else (some false)) else (some false)) else (some false)) else (some false)) else (some false)) else (some false)) else (some false)) else (some false)) else (some false))))) = some r := H
  have A5 := Aside0.mk A50
  clear A50
  replace H := Option.bind_eq_some_iff.mp H
  obtain ⟨⟨t182, t183, t184⟩, A60, H⟩ := H
  replace H : ((pack_TakeText.f k a0 a1).bind fun bt185 => ((ententeref01_TakeText.f k a0 a1).bind fun bt188 => (if t173 = t176 then (if t174 = t177 then (if t175 = t178 then (if t179 = t182 then (if t180 = t183 then (if t181 = t184 then (if bt185.1.toList = bt188.1.toList then (if bt185.2.1 = bt188.2.1 then (if bt185.2.2 = bt188.2.2 then ((ententelaw01_awake.f k).bind fun t191 => (some t191)) else (some false)) else (some false)) else (some false)) else (some false)) else (some false)) else (some false)) else (some false)) else (some false)) else (some false)))) = some r := H
  have A6 := Aside0.mk A60
  clear A60
  replace H := Option.bind_eq_some_iff.mp H
  obtain ⟨⟨t185, t186, t187⟩, A70, H⟩ := H
  replace H : ((ententeref01_TakeText.f k a0 a1).bind fun bt188 => (if t173 = t176 then (if t174 = t177 then (if t175 = t178 then (if t179 = t182 then (if t180 = t183 then (if t181 = t184 then (if t185.toList = bt188.1.toList then (if t186 = bt188.2.1 then (if t187 = bt188.2.2 then ((ententelaw01_awake.f k).bind fun t191 => (some t191)) else (some false)) else (some false)) else (some false)) else (some false)) else (some false)) else (some false)) else (some false)) else (some false)) else (some false))) = some r := H
  have A7 := Aside0.mk A70
  clear A70
  replace H := Option.bind_eq_some_iff.mp H
  obtain ⟨⟨t188, t189, t190⟩, A80, H⟩ := H
  replace H : (if t173 = t176 then (if t174 = t177 then (if t175 = t178 then (if t179 = t182 then (if t180 = t183 then (if t181 = t184 then (if t185.toList = t188.toList then (if t186 = t189 then (if t187 = t190 then ((ententelaw01_awake.f k).bind fun t191 => (some t191)) else (some false)) else (some false)) else (some false)) else (some false)) else (some false)) else (some false)) else (some false)) else (some false)) else (some false)) = some r := H
  have A8 := Aside0.mk A80
  clear A80
  by_cases c9 : t173 = t176
  · rw [if_pos c9] at H
    have c9b0 : (t173 == t176) = true := beq_iff_eq.mpr c9
    have c9b1 : (t173 != t176) = false := bne_eq_false_iff_eq.mpr c9
    clear c9
    by_cases c10 : t174 = t177
    · rw [if_pos c10] at H
      have c10b0 : (t174 == t177) = true := beq_iff_eq.mpr c10
      have c10b1 : (t174 != t177) = false := bne_eq_false_iff_eq.mpr c10
      clear c10
      by_cases c11 : t175 = t178
      · rw [if_pos c11] at H
        have c11b0 : (t175 == t178) = true := beq_iff_eq.mpr c11
        have c11b1 : (t175 != t178) = false := bne_eq_false_iff_eq.mpr c11
        clear c11
        by_cases c12 : t179 = t182
        · rw [if_pos c12] at H
          have c12b0 : (t179 == t182) = true := beq_iff_eq.mpr c12
          have c12b1 : (t179 != t182) = false := bne_eq_false_iff_eq.mpr c12
          clear c12
          by_cases c13 : t180 = t183
          · rw [if_pos c13] at H
            have c13b0 : (t180 == t183) = true := beq_iff_eq.mpr c13
            have c13b1 : (t180 != t183) = false := bne_eq_false_iff_eq.mpr c13
            clear c13
            by_cases c14 : t181 = t184
            · rw [if_pos c14] at H
              have c14b0 : (t181 == t184) = true := beq_iff_eq.mpr c14
              have c14b1 : (t181 != t184) = false := bne_eq_false_iff_eq.mpr c14
              clear c14
              by_cases c15 : t185.toList = t188.toList
              · rw [if_pos c15] at H
                have c15b0 : (t185.toList == t188.toList) = true := beq_iff_eq.mpr c15
                have c15b1 : (t185.toList != t188.toList) = false := bne_eq_false_iff_eq.mpr c15
                clear c15
                by_cases c16 : t186 = t189
                · rw [if_pos c16] at H
                  have c16b0 : (t186 == t189) = true := beq_iff_eq.mpr c16
                  have c16b1 : (t186 != t189) = false := bne_eq_false_iff_eq.mpr c16
                  clear c16
                  by_cases c17 : t187 = t190
                  · rw [if_pos c17] at H
                    have c17b0 : (t187 == t190) = true := beq_iff_eq.mpr c17
                    have c17b1 : (t187 != t190) = false := bne_eq_false_iff_eq.mpr c17
                    clear c17
                    replace H := Option.bind_eq_some_iff.mp H
                    obtain ⟨t191, A180, H⟩ := H
                    replace H : (some t191) = some r := H
                    have A18 := Aside0.mk A180
                    clear A180
                    obtain rfl := Option.some.inj H
                    go_enter Try.func6, Try.ntmps6
                    go_wp2_with (first | ((with_reducible refine gate_callee (f := 20) rfl ?_); refine goesL_ (some 26) rfl rfl Try.func20 (by kernel_rfl) rfl #[.string a0, .int .i64 a1] rfl (by (try simp only [List.map_toArray, List.map_cons, List.map_nil]); first | done | rfl | (simp only [List.length_drop, List.length_take]; rfl)) ?_; (with_reducible refine (pack_TakeNumber.calls k a0 a1 t173 t174 t175 _ A3.out).mono ?_); rintro e w' ⟨rfl, ⟨nd, rfl⟩⟩; refine ⟨_, rfl, ?_⟩) | ((with_reducible refine gate_callee (f := 21) rfl ?_); refine goesL_ (some 33) rfl rfl Try.func21 (by kernel_rfl) rfl #[.string a0, .int .i64 a1] rfl (by (try simp only [List.map_toArray, List.map_cons, List.map_nil]); first | done | rfl | (simp only [List.length_drop, List.length_take]; rfl)) ?_; (with_reducible refine (ententeref01_TakeNumber.calls k a0 a1 t176 t177 t178 _ A4.out).mono ?_); rintro e w19 ⟨rfl, hb⟩; refine ⟨_, rfl, ?_⟩; have n0_ := Aside0.mk (below_step (by repeat (first | (with_reducible first | exact HB.out | apply below_alloc | apply pw_below_drewN | apply below_drew1) | exact HB.out)) hb); clear HB; have HB := n0_; clear n0_; (try clear hb); (try clear hb2); (try clear hk); (try clear hi)) | ((with_reducible refine gate_callee (f := 22) rfl ?_); refine goesL_ (some 40) rfl rfl Try.func22 (by kernel_rfl) rfl #[.string a0, .int .i64 a1] rfl (by (try simp only [List.map_toArray, List.map_cons, List.map_nil]); first | done | rfl | (simp only [List.length_drop, List.length_take]; rfl)) ?_; (with_reducible refine (pack_TakeSigned.calls k a0 a1 t179 t180 t181 _ A5.out).mono ?_); rintro e w' ⟨rfl, ⟨nd, rfl⟩⟩; refine ⟨_, rfl, ?_⟩) | ((with_reducible refine gate_callee (f := 23) rfl ?_); refine goesL_ (some 47) rfl rfl Try.func23 (by kernel_rfl) rfl #[.string a0, .int .i64 a1] rfl (by (try simp only [List.map_toArray, List.map_cons, List.map_nil]); first | done | rfl | (simp only [List.length_drop, List.length_take]; rfl)) ?_; (with_reducible refine (ententeref01_TakeSigned.calls k a0 a1 t182 t183 t184 _ A6.out).mono ?_); rintro e w20 ⟨rfl, hb⟩; refine ⟨_, rfl, ?_⟩; have n0_ := Aside0.mk (below_step (by repeat (first | (with_reducible first | exact HB.out | apply below_alloc | apply pw_below_drewN | apply below_drew1) | exact HB.out)) hb); clear HB; have HB := n0_; clear n0_; (try clear hb); (try clear hb2); (try clear hk); (try clear hi)) | ((with_reducible refine gate_callee (f := 24) rfl ?_); refine goesL_ (some 54) rfl rfl Try.func24 (by kernel_rfl) rfl #[.string a0, .int .i64 a1] rfl (by (try simp only [List.map_toArray, List.map_cons, List.map_nil]); first | done | rfl | (simp only [List.length_drop, List.length_take]; rfl)) ?_; (with_reducible refine (pack_TakeText.calls k a0 a1 t185 t186 t187 _ A7.out).mono ?_); rintro e w' ⟨rfl, ⟨nd, rfl⟩⟩; refine ⟨_, rfl, ?_⟩) | ((with_reducible refine gate_callee (f := 25) rfl ?_); refine goesL_ (some 61) rfl rfl Try.func25 (by kernel_rfl) rfl #[.string a0, .int .i64 a1] rfl (by (try simp only [List.map_toArray, List.map_cons, List.map_nil]); first | done | rfl | (simp only [List.length_drop, List.length_take]; rfl)) ?_; (with_reducible refine (ententeref01_TakeText.calls k a0 a1 t188 t189 t190 _ A8.out).mono ?_); rintro e w21 ⟨rfl, hb⟩; refine ⟨_, rfl, ?_⟩; have n0_ := Aside0.mk (below_step (by repeat (first | (with_reducible first | exact HB.out | apply below_alloc | apply pw_below_drewN | apply below_drew1) | exact HB.out)) hb); clear HB; have HB := n0_; clear n0_; (try clear hb); (try clear hb2); (try clear hk); (try clear hi)) | (go_at_call 11; (with_reducible refine (ententelaw01_awake.calls k  t191 _ A18.out).mono ?_); rintro e w22 ⟨rfl, hb⟩; have n0_ := Aside0.mk (below_step (by repeat (first | (with_reducible first | exact HB.out | apply below_alloc | apply pw_below_drewN | apply below_drew1) | exact HB.out)) hb); clear HB; have HB := n0_; clear n0_; (try clear hb); (try clear hb2); (try clear hk); (try clear hi)))
                    go_ret
                    exact ⟨by first | rfl | (simp [errW_none, errW_some] <;> rfl) | (simp [*, errW_none, errW_some] <;> rfl), by repeat (first | (with_reducible first | exact HB.out | apply below_alloc | apply pw_below_drewN | apply below_drew1) | exact HB.out)⟩
                  · rw [if_neg c17] at H
                    have c17b0 : (t187 == t190) = false := beq_eq_false_iff_ne.mpr c17
                    have c17b1 : (t187 != t190) = true := bne_iff_ne.mpr c17
                    exact absurd ((Option.some.inj H).trans HT.out) Bool.false_ne_true
                · rw [if_neg c16] at H
                  have c16b0 : (t186 == t189) = false := beq_eq_false_iff_ne.mpr c16
                  have c16b1 : (t186 != t189) = true := bne_iff_ne.mpr c16
                  exact absurd ((Option.some.inj H).trans HT.out) Bool.false_ne_true
              · rw [if_neg c15] at H
                have c15b0 : (t185.toList == t188.toList) = false := beq_eq_false_iff_ne.mpr c15
                have c15b1 : (t185.toList != t188.toList) = true := bne_iff_ne.mpr c15
                exact absurd ((Option.some.inj H).trans HT.out) Bool.false_ne_true
            · rw [if_neg c14] at H
              have c14b0 : (t181 == t184) = false := beq_eq_false_iff_ne.mpr c14
              have c14b1 : (t181 != t184) = true := bne_iff_ne.mpr c14
              exact absurd ((Option.some.inj H).trans HT.out) Bool.false_ne_true
          · rw [if_neg c13] at H
            have c13b0 : (t180 == t183) = false := beq_eq_false_iff_ne.mpr c13
            have c13b1 : (t180 != t183) = true := bne_iff_ne.mpr c13
            exact absurd ((Option.some.inj H).trans HT.out) Bool.false_ne_true
        · rw [if_neg c12] at H
          have c12b0 : (t179 == t182) = false := beq_eq_false_iff_ne.mpr c12
          have c12b1 : (t179 != t182) = true := bne_iff_ne.mpr c12
          exact absurd ((Option.some.inj H).trans HT.out) Bool.false_ne_true
      · rw [if_neg c11] at H
        have c11b0 : (t175 == t178) = false := beq_eq_false_iff_ne.mpr c11
        have c11b1 : (t175 != t178) = true := bne_iff_ne.mpr c11
        exact absurd ((Option.some.inj H).trans HT.out) Bool.false_ne_true
    · rw [if_neg c10] at H
      have c10b0 : (t174 == t177) = false := beq_eq_false_iff_ne.mpr c10
      have c10b1 : (t174 != t177) = true := bne_iff_ne.mpr c10
      exact absurd ((Option.some.inj H).trans HT.out) Bool.false_ne_true
  · rw [if_neg c9] at H
    have c9b0 : (t173 == t176) = false := beq_eq_false_iff_ne.mpr c9
    have c9b1 : (t173 != t176) = true := bne_iff_ne.mpr c9
    exact absurd ((Option.some.inj H).trans HT.out) Bool.false_ne_true

/-- THE ONE PURE STATEMENT of ententelaw01_PackTakes. -/
def ententelaw01_PackTakes.Pure : Prop := ∀ (a0 : ByteArray) (a1 : Int), a0.size ≤ 140737488351232 → (Lit.int .i64 a1).wf = true → ∃ k, ententelaw01_PackTakes.f k a0 a1 = some true

-- NOT PRINTED: function 26 (pack_TakeTexts)

/-! ### ententeref01_TakeTexts: function 27 -/
def ententeref01_TakeTexts.l0 : Nat → ByteArray → Int → Int → List ByteArray → Option (List ByteArray × Int × Int)
  | 0, _, _, _, _ => none
  | k + 1, x0, x7, x8, x10 => if (IntKind.u64.wrap ((x10.length : Int))) < x7 then ((ententeref01_TakeText.f k x0 x8).bind fun bt195 => (if bt195.2.2 = 0 then (if x10.length < 8796093022208 then (ententeref01_TakeTexts.l0 k x0 x7 bt195.2.1 (x10 ++ [bt195.1])) else (none)) else (some (([] : List ByteArray), 0, bt195.2.2)))) else (some (x10, x8, 0))
def ententeref01_TakeTexts.f (k : Nat) (a0 : ByteArray) (a1 : Int) : Option (List ByteArray × Int × Int) := (ententeref01_TakeNumber.f k a0 a1).bind fun bt192 => (if bt192.2.2 = 0 then (ententeref01_TakeTexts.l0 k a0 bt192.1 bt192.2.1 ([] : List ByteArray)) else (some (([] : List ByteArray), 0, bt192.2.2)))
theorem ententeref01_TakeTexts.mono_l : ∀ k, (∀ y0 y1 y2 y3, LeO (ententeref01_TakeTexts.l0 k y0 y1 y2 y3) (ententeref01_TakeTexts.l0 (k + 1) y0 y1 y2 y3))
  | 0 => fun _ _ _ _ r h => by simp [ententeref01_TakeTexts.l0] at h
  | k + 1 => by
    have ih0 := ententeref01_TakeTexts.mono_l k
    · intro y0 y1 y2 y3
      unfold ententeref01_TakeTexts.l0
      repeat' first
      | (with_reducible exact ih0 _ _ _ _)
      | (with_reducible exact ententeref01_TakeNumber.mono _ _ _)
      | (with_reducible exact ententeref01_TakeText.mono _ _ _)
      | (with_reducible exact LeO.refl _)
      | (with_reducible exact LeO.none _)
      | (with_reducible refine LeO.ite ?_ ?_)
      | (with_reducible refine LeO.bind ?_ (fun _ => ?_))
      | exact ih0 _ _ _ _
      | exact ententeref01_TakeNumber.mono _ _ _
      | exact ententeref01_TakeText.mono _ _ _
      | exact LeO.none _
      | refine LeO.ite ?_ ?_
      | refine LeO.bind ?_ (fun _ => ?_)
theorem ententeref01_TakeTexts.mono : ∀ a0 a1 k, LeO (ententeref01_TakeTexts.f k a0 a1) (ententeref01_TakeTexts.f (k + 1) a0 a1) := by
  intro a0 a1 k
  have ih0 := ententeref01_TakeTexts.mono_l k
  unfold ententeref01_TakeTexts.f
  repeat' first
      | (with_reducible exact ih0 _ _ _ _)
      | (with_reducible exact ententeref01_TakeNumber.mono _ _ _)
      | (with_reducible exact ententeref01_TakeText.mono _ _ _)
      | (with_reducible exact LeO.refl _)
      | (with_reducible exact LeO.none _)
      | (with_reducible refine LeO.ite ?_ ?_)
      | (with_reducible refine LeO.bind ?_ (fun _ => ?_))
      | exact ih0 _ _ _ _
      | exact ententeref01_TakeNumber.mono _ _ _
      | exact ententeref01_TakeText.mono _ _ _
      | exact LeO.none _
      | refine LeO.ite ?_ ?_
      | refine LeO.bind ?_ (fun _ => ?_)
set_option maxHeartbeats 8000000 in
set_option maxRecDepth 100000 in
theorem ententeref01_TakeTexts.calls (k : Nat) (a0 : ByteArray) (a1 : Int) (r1 : List ByteArray) (r2 : Int) (r3 : Int) (w : World) (h : ententeref01_TakeTexts.f k a0 a1 = some (r1, r2, r3)) :
    Calls Try.prog 27 #[.string a0, .int .i64 a1] w fun e w' => ∃ v0_ : Value, e = .returned (.tuple #[v0_, .int .i64 r2, .int .i64 r3]) ∧ Kd.R Kd.string 9 w' w.heap.size (fun _ => True) v0_ r1 ∧ Below w.heap.size w w' := by
  have HB := Aside0.mk (Below.refl w.heap.size w)
  have H : ((ententeref01_TakeNumber.f k a0 a1).bind fun bt192 => (if bt192.2.2 = 0 then (ententeref01_TakeTexts.l0 k a0 bt192.1 bt192.2.1 ([] : List ByteArray)) else (some (([] : List ByteArray), 0, bt192.2.2)))) = some (r1, r2, r3) := h
  clear h
  replace H := Option.bind_eq_some_iff.mp H
  obtain ⟨⟨t192, t193, t194⟩, A30, H⟩ := H
  replace H : (if t194 = 0 then (ententeref01_TakeTexts.l0 k a0 t192 t193 ([] : List ByteArray)) else (some (([] : List ByteArray), 0, t194))) = some (r1, r2, r3) := H
  have A3 := Aside0.mk A30
  clear A30
  by_cases c4 : t194 = 0
  · rw [if_pos c4] at H
    have c4b0 : (t194 == 0) = true := beq_iff_eq.mpr c4
    have c4b1 : (t194 != 0) = false := bne_eq_false_iff_eq.mpr c4
    clear c4
    have H' := Aside0.mk H
    clear H
    go_enter Try.func27, Try.ntmps27
    go_wp2_with (first | ((with_reducible refine gate_callee (f := 21) rfl ?_); refine goesL_ (some 17) rfl rfl Try.func21 (by kernel_rfl) rfl #[.string a0, .int .i64 a1] rfl (by (try simp only [List.map_toArray, List.map_cons, List.map_nil]); first | done | rfl | (simp only [List.length_drop, List.length_take]; rfl)) ?_; (with_reducible refine (ententeref01_TakeNumber.calls k a0 a1 t192 t193 t194 _ A3.out).mono ?_); rintro e w5 ⟨rfl, hb⟩; refine ⟨_, rfl, ?_⟩; have n0_ := Aside0.mk (below_step (by repeat (first | (with_reducible first | exact HB.out | apply below_alloc | apply pw_below_drewN | apply below_drew1) | exact HB.out)) hb); clear HB; have HB := n0_; clear n0_; (try clear hb); (try clear hb2); (try clear hk); (try clear hi)))
    go_loopg [8, 10] k (fun kq v8 v10 w' => ∃ (x8_1 : Int) (x10_1 : List ByteArray), v8 = .int .i64 x8_1 ∧ Aside0 (ententeref01_TakeTexts.l0 kq a0 t192 x8_1 x10_1 = some (r1, r2, r3)) ∧ Aside0 (kq ≤ k) ∧ Aside0 (Kd.R Kd.string 9 w' w.heap.size (fun _ => True) v10 x10_1) ∧ Aside0 (Below w.heap.size w w'))
    case atStart => exact ⟨(t193), (([] : List ByteArray)), (by first | rfl | (simp; done) | (simp [*]; done)), H', ⟨Nat.le_refl _⟩, ⟨by first | exact Kd.R_nil _ _ _ _ _ | exact Kd.N_nil _ _ _ _ _ | exact Kd.V_nil _ _ _ _ _ | exact Kd.Q_nil _ _ _ _ _ | exact Kd.S_nil _ _ _ _ _⟩, ⟨by repeat (first | (with_reducible first | exact HB.out | apply below_alloc | apply pw_below_drewN | apply below_drew1) | exact HB.out)⟩⟩
    case round =>
      clear H'
      try clear c2
      try clear p2
      try clear c4
      try clear c4b0
      try clear c4b1
      obtain ⟨x8_1, x10_1, rfl, HA, HK1, HO_10, HB⟩ := hrel
      cases gk with
      | zero => exact absurd HA.out (by simp [ententeref01_TakeTexts.l0])
      | succ k1 =>
        have H := HA.out
        clear HA
        simp only [ententeref01_TakeTexts.l0] at H
        by_cases c6 : (IntKind.u64.wrap ((x10_1.length : Int))) < t192
        · rw [if_pos c6] at H
          have c6b0 : decide ((IntKind.u64.wrap ((x10_1.length : Int))) < t192) = true := decide_eq_true c6
          clear c6
          replace H := Option.bind_eq_some_iff.mp H
          obtain ⟨⟨t195, t196, t197⟩, A70, H⟩ := H
          replace H : (if t197 = 0 then (if x10_1.length < 8796093022208 then (ententeref01_TakeTexts.l0 k1 a0 t192 t196 (x10_1 ++ [t195])) else (none)) else (some (([] : List ByteArray), 0, t197))) = some (r1, r2, r3) := H
          have A7 := Aside0.mk A70
          clear A70
          by_cases c8 : t197 = 0
          · rw [if_pos c8] at H
            have c8b0 : (t197 == 0) = true := beq_iff_eq.mpr c8
            have c8b1 : (t197 != 0) = false := bne_eq_false_iff_eq.mpr c8
            clear c8
            by_cases c9 : x10_1.length < 8796093022208
            · rw [if_pos c9] at H
              have LMc9 := Aside0.mk c9
              clear c9
              obtain ⟨y198, hy198⟩ : ∃ y_ : List ByteArray, y_ = (x10_1 ++ [t195]) := ⟨_, rfl⟩
              replace H : (ententeref01_TakeTexts.l0 k1 a0 t192 t196 y198) = some (r1, r2, r3) := by first | (rw [hy198]; with_reducible exact H) | (have H2_ := (Option.bind_some _ _).symm.trans H; rw [hy198]; with_reducible exact H2_) | (have H2_ := (Option.bind_some _ _).symm.trans H; with_reducible exact H2_) | with_reducible exact H | (rw [hy198]; exact H) | exact H
              have Ny198 := Aside0.mk hy198
              clear hy198
              have H' := Aside0.mk H
              clear H
              obtain ⟨Ao10, co10, eo10⟩ := Kd.R_slice HO_10.out
              subst eo10
              go_wp2_with (first | ((with_reducible refine gate_callee (f := 25) rfl ?_); refine goesL_ (some 32) rfl rfl Try.func25 (by kernel_rfl) rfl #[.string a0, .int .i64 x8_1] rfl (by (try simp only [List.map_toArray, List.map_cons, List.map_nil]); first | done | rfl | (simp only [List.length_drop, List.length_take]; rfl)) ?_; (with_reducible refine (ententeref01_TakeText.calls k1 a0 x8_1 t195 t196 t197 _ A7.out).mono ?_); rintro e w11 ⟨rfl, hb⟩; refine ⟨_, rfl, ?_⟩; have n0_ := Aside0.mk (Kd.R_below (by (with_reducible repeat (first | apply Kd.R_alloc | apply Kd.R_drewN | apply Kd.R_drew)); exact HO_10.out) hb); have n1_ := Aside0.mk (below_step (by repeat (first | (with_reducible first | exact HB.out | apply below_alloc | apply pw_below_drewN | apply below_drew1) | exact HB.out)) hb); clear HO_10; clear HB; have HO_10 := n0_; have HB := n1_; clear n0_ n1_; (try clear hb); (try clear hb2); (try clear hk); (try clear hi)) | ((with_reducible refine gate_builtin (b := .append) (xs := #[.tmp 39, .tmp 41]) rfl ?_); at_builtin; refine Kd.R_append Kd.string (w0 := w) w.heap.size rfl (.tmp 39) (.tmp 41) 22 9 (.string ⟨#[]⟩) 16 rfl Try.underlying22 info9 rfl (by decide) (by omega) (.slice Ao10 x10_1.length co10) x10_1 t195 [.string t195] (fun _ => True) (fun _ => False) rfl rfl ?aP (fun _ hk => hk.elim) ?aF ?aO ?aB ?aS ?aL ?_; (case aP => exact rfl); (case aB => exact (by repeat (first | (with_reducible first | exact HB.out | apply below_alloc | apply pw_below_drewN | apply below_drew1) | exact HB.out))); (case aF => exact (fun _ _ => trivial)); (case aO => exact (by (with_reducible repeat (first | apply Kd.R_alloc | apply Kd.R_drewN | apply Kd.R_drew)); exact HO_10.out)); (case aS => exact (below_size (by repeat (first | (with_reducible first | exact HB.out | apply below_alloc | apply pw_below_drewN | apply below_drew1) | exact HB.out)))); (case aL => have := LMc9.out; omega); intro v199 w12 ho hb hg hat; rw [← Ny198.out] at ho; have n0_ := Aside0.mk (hb); have n1_ := Aside0.mk (ho); clear HB; clear HO_10; have HB := n0_; have HO200 := n1_; clear n0_ n1_; clear ho hb hg hat))
              go_roundg k1
              case measure => have := HK1.out; omega
              case rel => exact ⟨(t196), (y198), (by first | rfl | (simp; done) | (simp [*]; done)), H', ⟨by have := HK1.out; omega⟩, ⟨by (with_reducible repeat (first | apply Kd.R_alloc | apply Kd.R_drewN | apply Kd.R_drew)); exact HO200.out⟩, ⟨by repeat (first | (with_reducible first | exact HB.out | apply below_alloc | apply pw_below_drewN | apply below_drew1) | exact HB.out)⟩⟩
            · rw [if_neg c9] at H
              exact absurd H (by simp)
          · rw [if_neg c8] at H
            have c8b0 : (t197 == 0) = false := beq_eq_false_iff_ne.mpr c8
            have c8b1 : (t197 != 0) = true := bne_iff_ne.mpr c8
            simp only [Option.some.injEq, Prod.mk.injEq] at H
            obtain ⟨rfl, rfl, rfl⟩ := H
            obtain ⟨Ao13, co13, eo13⟩ := Kd.R_slice HO_10.out
            subst eo13
            go_wp2_with (first | ((with_reducible refine gate_callee (f := 25) rfl ?_); refine goesL_ (some 32) rfl rfl Try.func25 (by kernel_rfl) rfl #[.string a0, .int .i64 x8_1] rfl (by (try simp only [List.map_toArray, List.map_cons, List.map_nil]); first | done | rfl | (simp only [List.length_drop, List.length_take]; rfl)) ?_; (with_reducible refine (ententeref01_TakeText.calls k1 a0 x8_1 t195 t196 t197 _ A7.out).mono ?_); rintro e w14 ⟨rfl, hb⟩; refine ⟨_, rfl, ?_⟩; have n0_ := Aside0.mk (Kd.R_below (by (with_reducible repeat (first | apply Kd.R_alloc | apply Kd.R_drewN | apply Kd.R_drew)); exact HO_10.out) hb); have n1_ := Aside0.mk (below_step (by repeat (first | (with_reducible first | exact HB.out | apply below_alloc | apply pw_below_drewN | apply below_drew1) | exact HB.out)) hb); clear HO_10; clear HB; have HO_10 := n0_; have HB := n1_; clear n0_ n1_; (try clear hb); (try clear hb2); (try clear hk); (try clear hi)))
            go_ret3
            exact ⟨_, by first | rfl | (simp [errW_none, errW_some] <;> rfl) | (simp [*, errW_none, errW_some] <;> rfl), by first | exact Kd.R_nil _ _ _ _ _ | exact Kd.N_nil _ _ _ _ _ | exact Kd.V_nil _ _ _ _ _ | exact Kd.Q_nil _ _ _ _ _ | exact Kd.S_nil _ _ _ _ _, by repeat (first | (with_reducible first | exact HB.out | apply below_alloc | apply pw_below_drewN | apply below_drew1) | exact HB.out)⟩
        · rw [if_neg c6] at H
          have c6b0 : decide ((IntKind.u64.wrap ((x10_1.length : Int))) < t192) = false := decide_eq_false c6
          clear c6
          simp only [Option.some.injEq, Prod.mk.injEq] at H
          obtain ⟨rfl, rfl, rfl⟩ := H
          obtain ⟨Ao15, co15, eo15⟩ := Kd.R_slice HO_10.out
          subst eo15
          go_wp2
          go_ret3
          exact ⟨_, by first | rfl | (simp [errW_none, errW_some] <;> rfl) | (simp [*, errW_none, errW_some] <;> rfl), by (with_reducible repeat (first | apply Kd.R_alloc | apply Kd.R_drewN | apply Kd.R_drew)); exact HO_10.out, by repeat (first | (with_reducible first | exact HB.out | apply below_alloc | apply pw_below_drewN | apply below_drew1) | exact HB.out)⟩
  · rw [if_neg c4] at H
    have c4b0 : (t194 == 0) = false := beq_eq_false_iff_ne.mpr c4
    have c4b1 : (t194 != 0) = true := bne_iff_ne.mpr c4
    simp only [Option.some.injEq, Prod.mk.injEq] at H
    obtain ⟨rfl, rfl, rfl⟩ := H
    go_enter Try.func27, Try.ntmps27
    go_wp2_with (first | ((with_reducible refine gate_callee (f := 21) rfl ?_); refine goesL_ (some 17) rfl rfl Try.func21 (by kernel_rfl) rfl #[.string a0, .int .i64 a1] rfl (by (try simp only [List.map_toArray, List.map_cons, List.map_nil]); first | done | rfl | (simp only [List.length_drop, List.length_take]; rfl)) ?_; (with_reducible refine (ententeref01_TakeNumber.calls k a0 a1 t192 t193 t194 _ A3.out).mono ?_); rintro e w16 ⟨rfl, hb⟩; refine ⟨_, rfl, ?_⟩; have n0_ := Aside0.mk (below_step (by repeat (first | (with_reducible first | exact HB.out | apply below_alloc | apply pw_below_drewN | apply below_drew1) | exact HB.out)) hb); clear HB; have HB := n0_; clear n0_; (try clear hb); (try clear hb2); (try clear hk); (try clear hi)))
    go_ret3
    exact ⟨_, by first | rfl | (simp [errW_none, errW_some] <;> rfl) | (simp [*, errW_none, errW_some] <;> rfl), by first | exact Kd.R_nil _ _ _ _ _ | exact Kd.N_nil _ _ _ _ _ | exact Kd.V_nil _ _ _ _ _ | exact Kd.Q_nil _ _ _ _ _ | exact Kd.S_nil _ _ _ _ _, by repeat (first | (with_reducible first | exact HB.out | apply below_alloc | apply pw_below_drewN | apply below_drew1) | exact HB.out)⟩

/-! ### ententeref01_Same: function 28 -/
def ententeref01_Same.l0 : Nat → List ByteArray → List ByteArray → Int → Option (Bool)
  | 0, _, _, _ => none
  | k + 1, x0, x1, x5 => if x5 < (x0.length : Int) then (if 0 ≤ x5 then (if x5 < (x1.length : Int) then (if (rdOf ByteArray.empty x0 x5).toList = (rdOf ByteArray.empty x1 x5).toList then (ententeref01_Same.l0 k x0 x1 (wrap64 (x5 + 1))) else (some false)) else (none)) else (none)) else (some true)
def ententeref01_Same.f (k : Nat) (l0 : List ByteArray) (l1 : List ByteArray) : Option (Bool) := if (l0.length : Int) = (l1.length : Int) then (ententeref01_Same.l0 k l0 l1 0) else (some false)
theorem ententeref01_Same.mono_l : ∀ k, (∀ y0 y1 y2, LeO (ententeref01_Same.l0 k y0 y1 y2) (ententeref01_Same.l0 (k + 1) y0 y1 y2))
  | 0 => fun _ _ _ r h => by simp [ententeref01_Same.l0] at h
  | k + 1 => by
    have ih0 := ententeref01_Same.mono_l k
    · intro y0 y1 y2
      unfold ententeref01_Same.l0
      repeat' first
      | (with_reducible exact ih0 _ _ _)
      | (with_reducible exact LeO.refl _)
      | (with_reducible exact LeO.none _)
      | (with_reducible refine LeO.ite ?_ ?_)
      | (with_reducible refine LeO.bind ?_ (fun _ => ?_))
      | exact ih0 _ _ _
      | exact LeO.none _
      | refine LeO.ite ?_ ?_
      | refine LeO.bind ?_ (fun _ => ?_)
theorem ententeref01_Same.mono : ∀ a0 a1 k, LeO (ententeref01_Same.f k a0 a1) (ententeref01_Same.f (k + 1) a0 a1) := by
  intro a0 a1 k
  have ih0 := ententeref01_Same.mono_l k
  unfold ententeref01_Same.f
  repeat' first
      | (with_reducible exact ih0 _ _ _)
      | (with_reducible exact LeO.refl _)
      | (with_reducible exact LeO.none _)
      | (with_reducible refine LeO.ite ?_ ?_)
      | (with_reducible refine LeO.bind ?_ (fun _ => ?_))
      | exact ih0 _ _ _
      | exact LeO.none _
      | refine LeO.ite ?_ ?_
      | refine LeO.bind ?_ (fun _ => ?_)
set_option maxHeartbeats 8000000 in
set_option maxRecDepth 100000 in
theorem ententeref01_Same.calls (k : Nat) (A0 : Option Addr) (c0 : Nat) (l0 : List ByteArray) (A1 : Option Addr) (c1 : Nat) (l1 : List ByteArray) (r : Bool) (w : World) (hr0 : Kd.C Kd.string w A0 l0.length l0) (hc0 : l0.length ≤ c0) (hr1 : Kd.C Kd.string w A1 l1.length l1) (hc1 : l1.length ≤ c1) (h : ententeref01_Same.f k l0 l1 = some r) :
    Calls Try.prog 28 #[.slice A0 l0.length c0, .slice A1 l1.length c1] w fun e w' => e = .returned (.bool r) ∧ Drawn0 w w' := by
  have HR0 := Aside0.mk hr0
  have HC0 := Aside0.mk hc0
  clear hr0 hc0
  have HR1 := Aside0.mk hr1
  have HC1 := Aside0.mk hc1
  clear hr1 hc1
  have H : (if (l0.length : Int) = (l1.length : Int) then (ententeref01_Same.l0 k l0 l1 0) else (some false)) = some r := h
  clear h
  by_cases c3 : (l0.length : Int) = (l1.length : Int)
  · rw [if_pos c3] at H
    have c3b0 : ((l0.length : Int) == (l1.length : Int)) = true := beq_iff_eq.mpr c3
    have c3b1 : ((l0.length : Int) != (l1.length : Int)) = false := bne_eq_false_iff_eq.mpr c3
    have c3b2 : (l0.length == l1.length) = true := by first | simpa using c3 | (simp at c3 ⊢; omega)
    clear c3
    have H' := Aside0.mk H
    clear H
    go_enter Try.func28, Try.ntmps28
    go_wp2
    repeat (go_quiet (fail); try go_wp2)
    go_loopg [5] k (fun kq v5 w' => ∃ (x5_1 : Int), v5 = .int .i64 x5_1 ∧ Aside0 (ententeref01_Same.l0 kq l0 l1 x5_1 = some r) ∧ Aside0 (kq ≤ k) ∧ Drawn0 w w')
    case atStart => exact ⟨(0), (by first | rfl | (simp; done) | (simp [*]; done)), H', ⟨Nat.le_refl _⟩, by repeat (first | exact Drawn0.refl _ | apply Drawn0.step)⟩
    case round =>
      clear H'
      try clear c1
      try clear c2
      try clear p2
      try clear c3
      try clear c3b0
      try clear c3b1
      try clear c3b2
      obtain ⟨x5_1, rfl, HA, HK1, ⟨m1, rfl⟩⟩ := hrel
      cases gk with
      | zero => exact absurd HA.out (by simp [ententeref01_Same.l0])
      | succ k1 =>
        have H := HA.out
        clear HA
        simp only [ententeref01_Same.l0] at H
        by_cases c4 : x5_1 < (l0.length : Int)
        · rw [if_pos c4] at H
          have c4b0 : decide (x5_1 < (l0.length : Int)) = true := decide_eq_true c4
          clear c4
          by_cases c5 : 0 ≤ x5_1
          · rw [if_pos c5] at H
            have c5b0 : decide (0 ≤ x5_1) = true := decide_eq_true c5
            clear c5
            by_cases c6 : x5_1 < (l1.length : Int)
            · rw [if_pos c6] at H
              have c6b0 : decide (x5_1 < (l1.length : Int)) = true := decide_eq_true c6
              clear c6
              by_cases c7 : (rdOf ByteArray.empty l0 x5_1).toList = (rdOf ByteArray.empty l1 x5_1).toList
              · rw [if_pos c7] at H
                have c7b0 : ((rdOf ByteArray.empty l0 x5_1).toList == (rdOf ByteArray.empty l1 x5_1).toList) = true := beq_iff_eq.mpr c7
                have c7b1 : ((rdOf ByteArray.empty l0 x5_1).toList != (rdOf ByteArray.empty l1 x5_1).toList) = false := bne_eq_false_iff_eq.mpr c7
                clear c7
                have H' := Aside0.mk H
                clear H
                have p201 : 0 ≤ (x5_1 : Int) := of_decide_eq_true (by first | (with_reducible assumption) | assumption)
                have q201 : x5_1 < (l0.length : Int) := of_decide_eq_true (by first | (with_reducible assumption) | assumption)
                obtain ⟨ad201, e201, hx201_0⟩ := Kd.at_string HR0.out x5_1 p201 q201
                cases e201
                replace p201 := eq_true p201
                replace q201 := eq_true q201
                have p202 : 0 ≤ (x5_1 : Int) := of_decide_eq_true (by first | (with_reducible assumption) | assumption)
                have q202 : x5_1 < (l1.length : Int) := of_decide_eq_true (by first | (with_reducible assumption) | assumption)
                obtain ⟨ad202, e202, hx202_0⟩ := Kd.at_string HR1.out x5_1 p202 q202
                cases e202
                replace p202 := eq_true p202
                replace q202 := eq_true q202
                go_wp2
                repeat (go_quiet (fail); try go_wp2)
                go_roundg k1
                case measure => have := HK1.out; omega
                case rel => exact ⟨(wrap64 (x5_1 + 1)), (by first | rfl | (simp; done) | (simp [*]; done)), H', ⟨by have := HK1.out; omega⟩, by repeat (first | exact Drawn0.refl _ | apply Drawn0.step)⟩
              · rw [if_neg c7] at H
                have c7b0 : ((rdOf ByteArray.empty l0 x5_1).toList == (rdOf ByteArray.empty l1 x5_1).toList) = false := beq_eq_false_iff_ne.mpr c7
                have c7b1 : ((rdOf ByteArray.empty l0 x5_1).toList != (rdOf ByteArray.empty l1 x5_1).toList) = true := bne_iff_ne.mpr c7
                obtain rfl := Option.some.inj H
                have p201 : 0 ≤ (x5_1 : Int) := of_decide_eq_true (by first | (with_reducible assumption) | assumption)
                have q201 : x5_1 < (l0.length : Int) := of_decide_eq_true (by first | (with_reducible assumption) | assumption)
                obtain ⟨ad201, e201, hx201_0⟩ := Kd.at_string HR0.out x5_1 p201 q201
                cases e201
                replace p201 := eq_true p201
                replace q201 := eq_true q201
                have p202 : 0 ≤ (x5_1 : Int) := of_decide_eq_true (by first | (with_reducible assumption) | assumption)
                have q202 : x5_1 < (l1.length : Int) := of_decide_eq_true (by first | (with_reducible assumption) | assumption)
                obtain ⟨ad202, e202, hx202_0⟩ := Kd.at_string HR1.out x5_1 p202 q202
                cases e202
                replace p202 := eq_true p202
                replace q202 := eq_true q202
                go_wp2
                repeat (go_quiet (fail); try go_wp2)
                go_ret
                exact ⟨by first | rfl | (simp; done) | (simp [*]; done), by repeat (first | exact Drawn0.refl _ | apply Drawn0.step)⟩
            · rw [if_neg c6] at H
              exact absurd H (by simp)
          · rw [if_neg c5] at H
            exact absurd H (by simp)
        · rw [if_neg c4] at H
          have c4b0 : decide (x5_1 < (l0.length : Int)) = false := decide_eq_false c4
          clear c4
          obtain rfl := Option.some.inj H
          go_wp2
          repeat (go_quiet (fail); try go_wp2)
          go_ret
          exact ⟨by first | rfl | (simp; done) | (simp [*]; done), by repeat (first | exact Drawn0.refl _ | apply Drawn0.step)⟩
  · rw [if_neg c3] at H
    have c3b0 : ((l0.length : Int) == (l1.length : Int)) = false := beq_eq_false_iff_ne.mpr c3
    have c3b1 : ((l0.length : Int) != (l1.length : Int)) = true := bne_iff_ne.mpr c3
    have c3b2 : (l0.length == l1.length) = false := by first | simpa using c3 | (simp at c3 ⊢; omega)
    obtain rfl := Option.some.inj H
    go_enter Try.func28, Try.ntmps28
    go_wp2
    repeat (go_quiet (fail); try go_wp2)
    go_ret
    exact ⟨by first | rfl | (simp; done) | (simp [*]; done), by repeat (first | exact Drawn0.refl _ | apply Drawn0.step)⟩

-- NOT PRINTED: function 7 (ententelaw01_PackLists)

-- NOT PRINTED: function 8 (ententelaw01_PackForms)

-- NOT PRINTED: function 9 (ententelaw01_PackBack)

end Go.Proofs.Ytfhffabnllicdaa.PA
