-- Written by a program of this session (wip/tools/mp.py over the kit's printer); Lean checks it.
import Derived.Test.YtfhffabnllicdaaPCx0
import Derived.Test.YtfhffabnllicdaaPCx1
namespace Go.Proofs.Ytfhffabnllicdaa.PC
open Go.RowKit Go.Proofs.YtfhffabnllicdaaW.PrintWords Go.Proofs.YtfhffabnllicdaaW.PrintLast Go.Proofs.YtfhffabnllicdaaW.PrintMore
attribute [local go_sem] max2_int min2_int max_two min_two max_three min_three max_four min_four   -- for this text's walks alone
set_option linter.unusedVariables false
set_option linter.unusedSimpArgs false

/-! ### ententelaw01_awake: function 11 -/
def ententelaw01_awake.f (k : Nat)  : Option (Bool) := (pack_TakeNumber.f k (⟨#[172, 2]⟩ : ByteArray) 0).bind fun bt115 => ((pack_TakeSigned.f k (⟨#[1]⟩ : ByteArray) 0).bind fun bt118 => ((pack_TakeNumber.f k (⟨#[128, 0]⟩ : ByteArray) 0).bind fun bt121 => ((pack_Number.f k 300).bind fun t124 => (if t124.toList = ([172, 2] : List UInt8) then (if bt115.1 = 300 then (if bt115.2.1 = 2 then (if bt115.2.2 = 0 then (if bt118.1 = (-1) then (if bt118.2.2 = 0 then (if bt121.2.2 = 11 then ((pack_Texts.f k (([(⟨#[97]⟩ : ByteArray), (⟨#[]⟩ : ByteArray)] : List ByteArray))).bind fun t128 => (some (t128.toList == ([2, 1, 97, 0] : List UInt8)))) else (some false)) else (some false)) else (some false)) else (some false)) else (some false)) else (some false)) else (some false)))))
theorem ententelaw01_awake.mono : ∀ k, LeO (ententelaw01_awake.f k ) (ententelaw01_awake.f (k + 1) ) := by
  intro  k
  unfold ententelaw01_awake.f
  repeat' first
      | (with_reducible exact pack_Number.mono _ _)
      | (with_reducible exact pack_TakeNumber.mono _ _ _)
      | (with_reducible exact pack_TakeSigned.mono _ _ _)
      | (with_reducible exact pack_Texts.mono _ _)
      | (with_reducible exact LeO.refl _)
      | (with_reducible exact LeO.none _)
      | (with_reducible refine LeO.ite ?_ ?_)
      | (with_reducible refine LeO.bind ?_ (fun _ => ?_))
      | exact pack_Number.mono _ _
      | exact pack_TakeNumber.mono _ _ _
      | exact pack_TakeSigned.mono _ _ _
      | exact pack_Texts.mono _ _
      | exact LeO.none _
      | refine LeO.ite ?_ ?_
      | refine LeO.bind ?_ (fun _ => ?_)
set_option maxHeartbeats 8000000 in
set_option maxRecDepth 100000 in
theorem ententelaw01_awake.calls (k : Nat)  (r : Bool) (w : World) (h : ententelaw01_awake.f k  = some r) :
    Calls Try.prog 11 #[] w fun e w' => e = .returned (.bool r) ∧ Below w.heap.size w w' := by
  have HB := Aside0.mk (Below.refl w.heap.size w)
  have H : ((pack_TakeNumber.f k (⟨#[172, 2]⟩ : ByteArray) 0).bind fun bt115 => ((pack_TakeSigned.f k (⟨#[1]⟩ : ByteArray) 0).bind fun bt118 => ((pack_TakeNumber.f k (⟨#[128, 0]⟩ : ByteArray) 0).bind fun bt121 => ((pack_Number.f k 300).bind fun t124 => (if t124.toList = ([172, 2] : List UInt8) then (if bt115.1 = 300 then (if bt115.2.1 = 2 then (if bt115.2.2 = 0 then (if bt118.1 = (-1) then (if bt118.2.2 = 0 then (if bt121.2.2 = 11 then ((pack_Texts.f k (([(⟨#[97]⟩ : ByteArray), (⟨#[]⟩ : ByteArray)] : List ByteArray))).bind fun t128 => (some (t128.toList == ([2, 1, 97, 0] : List UInt8)))) else (some false)) else (some false)) else (some false)) else (some false)) else (some false)) else (some false)) else (some false)))))) = some r := h
  clear h
  replace H := Option.bind_eq_some_iff.mp H
  obtain ⟨⟨t115, t116, t117⟩, A10, H⟩ := H
  replace H : ((pack_TakeSigned.f k (⟨#[1]⟩ : ByteArray) 0).bind fun bt118 => ((pack_TakeNumber.f k (⟨#[128, 0]⟩ : ByteArray) 0).bind fun bt121 => ((pack_Number.f k 300).bind fun t124 => (if t124.toList = ([172, 2] : List UInt8) then (if t115 = 300 then (if t116 = 2 then (if t117 = 0 then (if bt118.1 = (-1) then (if bt118.2.2 = 0 then (if bt121.2.2 = 11 then ((pack_Texts.f k (([(⟨#[97]⟩ : ByteArray), (⟨#[]⟩ : ByteArray)] : List ByteArray))).bind fun t128 => (some (t128.toList == ([2, 1, 97, 0] : List UInt8)))) else (some false)) else (some false)) else (some false)) else (some false)) else (some false)) else (some false)) else (some false))))) = some r := H
  have A1 := Aside0.mk A10
  clear A10
  replace H := Option.bind_eq_some_iff.mp H
  obtain ⟨⟨t118, t119, t120⟩, A20, H⟩ := H
  replace H : ((pack_TakeNumber.f k (⟨#[128, 0]⟩ : ByteArray) 0).bind fun bt121 => ((pack_Number.f k 300).bind fun t124 => (if t124.toList = ([172, 2] : List UInt8) then (if t115 = 300 then (if t116 = 2 then (if t117 = 0 then (if t118 = (-1) then (if t120 = 0 then (if bt121.2.2 = 11 then ((pack_Texts.f k (([(⟨#[97]⟩ : ByteArray), (⟨#[]⟩ : ByteArray)] : List ByteArray))).bind fun t128 => (some (t128.toList == ([2, 1, 97, 0] : List UInt8)))) else (some false)) else (some false)) else (some false)) else (some false)) else (some false)) else (some false)) else (some false)))) = some r := H
  have A2 := Aside0.mk A20
  clear A20
  replace H := Option.bind_eq_some_iff.mp H
  obtain ⟨⟨t121, t122, t123⟩, A30, H⟩ := H
  replace H : ((pack_Number.f k 300).bind fun t124 => (if t124.toList = ([172, 2] : List UInt8) then (if t115 = 300 then (if t116 = 2 then (if t117 = 0 then (if t118 = (-1) then (if t120 = 0 then (if t123 = 11 then ((pack_Texts.f k (([(⟨#[97]⟩ : ByteArray), (⟨#[]⟩ : ByteArray)] : List ByteArray))).bind fun t128 => (some (t128.toList == ([2, 1, 97, 0] : List UInt8)))) else (some false)) else (some false)) else (some false)) else (some false)) else (some false)) else (some false)) else (some false))) = some r := H
  have A3 := Aside0.mk A30
  clear A30
  replace H := Option.bind_eq_some_iff.mp H
  obtain ⟨t124, A40, H⟩ := H
  replace H : (if t124.toList = ([172, 2] : List UInt8) then (if t115 = 300 then (if t116 = 2 then (if t117 = 0 then (if t118 = (-1) then (if t120 = 0 then (if t123 = 11 then ((pack_Texts.f k (([(⟨#[97]⟩ : ByteArray), (⟨#[]⟩ : ByteArray)] : List ByteArray))).bind fun t128 => (some (t128.toList == ([2, 1, 97, 0] : List UInt8)))) else (some false)) else (some false)) else (some false)) else (some false)) else (some false)) else (some false)) else (some false)) = some r := H
  have A4 := Aside0.mk A40
  clear A40
  by_cases c5 : t124.toList = ([172, 2] : List UInt8)
  · rw [if_pos c5] at H
    have c5b0 : (t124.toList == ([172, 2] : List UInt8)) = true := beq_iff_eq.mpr c5
    have c5b1 : (t124.toList != ([172, 2] : List UInt8)) = false := bne_eq_false_iff_eq.mpr c5
    clear c5
    by_cases c6 : t115 = 300
    · rw [if_pos c6] at H
      have c6b0 : (t115 == 300) = true := beq_iff_eq.mpr c6
      have c6b1 : (t115 != 300) = false := bne_eq_false_iff_eq.mpr c6
      clear c6
      by_cases c7 : t116 = 2
      · rw [if_pos c7] at H
        have c7b0 : (t116 == 2) = true := beq_iff_eq.mpr c7
        have c7b1 : (t116 != 2) = false := bne_eq_false_iff_eq.mpr c7
        clear c7
        by_cases c8 : t117 = 0
        · rw [if_pos c8] at H
          have c8b0 : (t117 == 0) = true := beq_iff_eq.mpr c8
          have c8b1 : (t117 != 0) = false := bne_eq_false_iff_eq.mpr c8
          clear c8
          by_cases c9 : t118 = (-1)
          · rw [if_pos c9] at H
            have c9b0 : (t118 == (-1)) = true := beq_iff_eq.mpr c9
            have c9b1 : (t118 != (-1)) = false := bne_eq_false_iff_eq.mpr c9
            clear c9
            by_cases c10 : t120 = 0
            · rw [if_pos c10] at H
              have c10b0 : (t120 == 0) = true := beq_iff_eq.mpr c10
              have c10b1 : (t120 != 0) = false := bne_eq_false_iff_eq.mpr c10
              clear c10
              by_cases c11 : t123 = 11
              · rw [if_pos c11] at H
                have c11b0 : (t123 == 11) = true := beq_iff_eq.mpr c11
                have c11b1 : (t123 != 11) = false := bne_eq_false_iff_eq.mpr c11
                clear c11
                obtain ⟨y125, hy125⟩ : ∃ y_ : List ByteArray, y_ = (([(⟨#[97]⟩ : ByteArray), (⟨#[]⟩ : ByteArray)] : List ByteArray)) := ⟨_, rfl⟩
                replace H : ((pack_Texts.f k y125).bind fun t128 => (some (t128.toList == ([2, 1, 97, 0] : List UInt8)))) = some r := by first | (rw [hy125]; with_reducible exact H) | (have H2_ := (Option.bind_some _ _).symm.trans H; rw [hy125]; with_reducible exact H2_) | (have H2_ := (Option.bind_some _ _).symm.trans H; with_reducible exact H2_) | with_reducible exact H | (rw [hy125]; exact H) | exact H
                have Ny125 := Aside0.mk hy125
                clear hy125
                replace H := Option.bind_eq_some_iff.mp H
                obtain ⟨t128, A120, H⟩ := H
                replace H : (some (t128.toList == ([2, 1, 97, 0] : List UInt8))) = some r := H
                have A12 := Aside0.mk A120
                clear A120
                obtain rfl := Option.some.inj H
                go_enter Try.func11, Try.ntmps11
                go_wp2_with (first | ((with_reducible refine gate_callee (f := 20) rfl ?_); refine goesL_ (some 11) rfl rfl Try.func20 (by kernel_rfl) rfl #[.string (⟨#[172, 2]⟩ : ByteArray), .int .i64 0] rfl (by (try simp only [List.map_toArray, List.map_cons, List.map_nil]); first | done | rfl | (simp only [List.length_drop, List.length_take]; rfl)) ?_; (with_reducible refine (pack_TakeNumber.calls k (⟨#[172, 2]⟩ : ByteArray) 0 t115 t116 t117 _ A1.out).mono ?_); rintro e w' ⟨rfl, ⟨nd, rfl⟩⟩; refine ⟨_, rfl, ?_⟩) | ((with_reducible refine gate_callee (f := 22) rfl ?_); refine goesL_ (some 16) rfl rfl Try.func22 (by kernel_rfl) rfl #[.string (⟨#[1]⟩ : ByteArray), .int .i64 0] rfl (by (try simp only [List.map_toArray, List.map_cons, List.map_nil]); first | done | rfl | (simp only [List.length_drop, List.length_take]; rfl)) ?_; (with_reducible refine (pack_TakeSigned.calls k (⟨#[1]⟩ : ByteArray) 0 t118 t119 t120 _ A2.out).mono ?_); rintro e w' ⟨rfl, ⟨nd, rfl⟩⟩; refine ⟨_, rfl, ?_⟩) | ((with_reducible refine gate_callee (f := 20) rfl ?_); refine goesL_ (some 21) rfl rfl Try.func20 (by kernel_rfl) rfl #[.string (⟨#[128, 0]⟩ : ByteArray), .int .i64 0] rfl (by (try simp only [List.map_toArray, List.map_cons, List.map_nil]); first | done | rfl | (simp only [List.length_drop, List.length_take]; rfl)) ?_; (with_reducible refine (pack_TakeNumber.calls k (⟨#[128, 0]⟩ : ByteArray) 0 t121 t122 t123 _ A3.out).mono ?_); rintro e w' ⟨rfl, ⟨nd, rfl⟩⟩; refine ⟨_, rfl, ?_⟩) | ((with_reducible refine gate_callee (f := 16) rfl ?_); refine goesL_ (some 25) rfl rfl Try.func16 (by kernel_rfl) rfl #[.int .u64 300] rfl (by (try simp only [List.map_toArray, List.map_cons, List.map_nil]); first | done | rfl | (simp only [List.length_drop, List.length_take]; rfl)) ?_; (with_reducible refine (pack_Number.calls k 300 t124 _ A4.out).mono ?_); rintro e w13 ⟨rfl, hb⟩; refine ⟨_, rfl, ?_⟩; have n0_ := Aside0.mk (below_step (by repeat (first | (with_reducible first | exact HB.out | apply below_alloc | apply pw_below_drewN | apply below_drew1) | exact HB.out)) hb); clear HB; have HB := n0_; clear n0_; (try clear hb); (try clear hb2); (try clear hk); (try clear hi)) | ((with_reducible refine gate_dst (N := 52) rfl ?_); (try (refine gate_guard (by rfl) ?_; dsimp only)); refine Kd.R_lit Kd.string _ 9 ?hg (N := 52) ?hd (xs := ([(⟨#[97]⟩ : ByteArray), (⟨#[]⟩ : ByteArray)] : List ByteArray)) (inner := [.string (⟨#[97]⟩ : ByteArray), .string (⟨#[]⟩ : ByteArray)]) (ok := fun _ => True) (okp := fun _ => True) ?hr ?hp (fun _ hk => hk) trivial (Below.refl _ _) (Nat.le_refl _) (by simp) ?_; (case hd => rfl); (case hg => rfl); (case hr => first | (go_simp; done) | (go_simp; rfl)); (case hp => exact (Reps.one (show Kd.M Kd.string _ _ _ (⟨#[97]⟩ : ByteArray) [.string (⟨#[97]⟩ : ByteArray)] from rfl) (Reps.one (show Kd.M Kd.string _ _ _ (⟨#[]⟩ : ByteArray) [.string (⟨#[]⟩ : ByteArray)] from rfl) (Reps.none _ _)))); intro v126 w14 ho15 hb hg_ hnew_; clear hg_ hnew_; (first | rw [← Ny125.out] at ho15 | (simp only [Int.reduceToNat] at ho15; rw [← Ny125.out] at ho15)); have n0_ := Aside0.mk (Kd.R_lower ho15 (below_size (by repeat (first | (with_reducible first | exact HB.out | apply below_alloc | apply pw_below_drewN | apply below_drew1) | exact HB.out)))); have n1_ := Aside0.mk (below_step (by repeat (first | (with_reducible first | exact HB.out | apply below_alloc | apply pw_below_drewN | apply below_drew1) | exact HB.out)) hb); clear HB; have HO127 := n0_; have HB := n1_; clear n0_ n1_; clear hb ho15; obtain ⟨Ao16, co16, eo16⟩ := Kd.R_slice HO127.out; subst eo16) | (go_at_call 14; (with_reducible refine (pack_Texts.calls k _ _ y125 t128 _ ?side1 ?side2 A12.out).mono ?_); (case side1 => repeat (first | exact (Kd.R_reads' HO127.out).2.2 | (with_reducible refine Kd.C_alloc ?_ _) | (with_reducible refine Kd.C_drewN ?_ _) | (with_reducible refine Kd.C_drew ?_))); (case side2 => exact (Kd.R_reads' HO127.out).2.1); rintro e w17 ⟨rfl, hb⟩; have n0_ := Aside0.mk (Kd.R_below (by (with_reducible repeat (first | apply Kd.R_alloc | apply Kd.R_drewN | apply Kd.R_drew)); exact HO127.out) hb); have n1_ := Aside0.mk (below_step (by repeat (first | (with_reducible first | exact HB.out | apply below_alloc | apply pw_below_drewN | apply below_drew1) | exact HB.out)) hb); clear HO127; clear HB; have HO127 := n0_; have HB := n1_; clear n0_ n1_; (try clear hb); (try clear hb2); (try clear hk); (try clear hi)))
                go_ret
                exact ⟨by first | rfl | (simp [errW_none, errW_some] <;> rfl) | (simp [*, errW_none, errW_some] <;> rfl), by repeat (first | (with_reducible first | exact HB.out | apply below_alloc | apply pw_below_drewN | apply below_drew1) | exact HB.out)⟩
              · rw [if_neg c11] at H
                have c11b0 : (t123 == 11) = false := beq_eq_false_iff_ne.mpr c11
                have c11b1 : (t123 != 11) = true := bne_iff_ne.mpr c11
                obtain rfl := Option.some.inj H
                go_enter Try.func11, Try.ntmps11
                go_wp2_with (first | ((with_reducible refine gate_callee (f := 20) rfl ?_); refine goesL_ (some 11) rfl rfl Try.func20 (by kernel_rfl) rfl #[.string (⟨#[172, 2]⟩ : ByteArray), .int .i64 0] rfl (by (try simp only [List.map_toArray, List.map_cons, List.map_nil]); first | done | rfl | (simp only [List.length_drop, List.length_take]; rfl)) ?_; (with_reducible refine (pack_TakeNumber.calls k (⟨#[172, 2]⟩ : ByteArray) 0 t115 t116 t117 _ A1.out).mono ?_); rintro e w' ⟨rfl, ⟨nd, rfl⟩⟩; refine ⟨_, rfl, ?_⟩) | ((with_reducible refine gate_callee (f := 22) rfl ?_); refine goesL_ (some 16) rfl rfl Try.func22 (by kernel_rfl) rfl #[.string (⟨#[1]⟩ : ByteArray), .int .i64 0] rfl (by (try simp only [List.map_toArray, List.map_cons, List.map_nil]); first | done | rfl | (simp only [List.length_drop, List.length_take]; rfl)) ?_; (with_reducible refine (pack_TakeSigned.calls k (⟨#[1]⟩ : ByteArray) 0 t118 t119 t120 _ A2.out).mono ?_); rintro e w' ⟨rfl, ⟨nd, rfl⟩⟩; refine ⟨_, rfl, ?_⟩) | ((with_reducible refine gate_callee (f := 20) rfl ?_); refine goesL_ (some 21) rfl rfl Try.func20 (by kernel_rfl) rfl #[.string (⟨#[128, 0]⟩ : ByteArray), .int .i64 0] rfl (by (try simp only [List.map_toArray, List.map_cons, List.map_nil]); first | done | rfl | (simp only [List.length_drop, List.length_take]; rfl)) ?_; (with_reducible refine (pack_TakeNumber.calls k (⟨#[128, 0]⟩ : ByteArray) 0 t121 t122 t123 _ A3.out).mono ?_); rintro e w' ⟨rfl, ⟨nd, rfl⟩⟩; refine ⟨_, rfl, ?_⟩) | ((with_reducible refine gate_callee (f := 16) rfl ?_); refine goesL_ (some 25) rfl rfl Try.func16 (by kernel_rfl) rfl #[.int .u64 300] rfl (by (try simp only [List.map_toArray, List.map_cons, List.map_nil]); first | done | rfl | (simp only [List.length_drop, List.length_take]; rfl)) ?_; (with_reducible refine (pack_Number.calls k 300 t124 _ A4.out).mono ?_); rintro e w18 ⟨rfl, hb⟩; refine ⟨_, rfl, ?_⟩; have n0_ := Aside0.mk (below_step (by repeat (first | (with_reducible first | exact HB.out | apply below_alloc | apply pw_below_drewN | apply below_drew1) | exact HB.out)) hb); clear HB; have HB := n0_; clear n0_; (try clear hb); (try clear hb2); (try clear hk); (try clear hi)))
                go_ret
                exact ⟨by first | rfl | (simp [errW_none, errW_some] <;> rfl) | (simp [*, errW_none, errW_some] <;> rfl), by repeat (first | (with_reducible first | exact HB.out | apply below_alloc | apply pw_below_drewN | apply below_drew1) | exact HB.out)⟩
            · rw [if_neg c10] at H
              have c10b0 : (t120 == 0) = false := beq_eq_false_iff_ne.mpr c10
              have c10b1 : (t120 != 0) = true := bne_iff_ne.mpr c10
              obtain rfl := Option.some.inj H
              go_enter Try.func11, Try.ntmps11
              go_wp2_with (first | ((with_reducible refine gate_callee (f := 20) rfl ?_); refine goesL_ (some 11) rfl rfl Try.func20 (by kernel_rfl) rfl #[.string (⟨#[172, 2]⟩ : ByteArray), .int .i64 0] rfl (by (try simp only [List.map_toArray, List.map_cons, List.map_nil]); first | done | rfl | (simp only [List.length_drop, List.length_take]; rfl)) ?_; (with_reducible refine (pack_TakeNumber.calls k (⟨#[172, 2]⟩ : ByteArray) 0 t115 t116 t117 _ A1.out).mono ?_); rintro e w' ⟨rfl, ⟨nd, rfl⟩⟩; refine ⟨_, rfl, ?_⟩) | ((with_reducible refine gate_callee (f := 22) rfl ?_); refine goesL_ (some 16) rfl rfl Try.func22 (by kernel_rfl) rfl #[.string (⟨#[1]⟩ : ByteArray), .int .i64 0] rfl (by (try simp only [List.map_toArray, List.map_cons, List.map_nil]); first | done | rfl | (simp only [List.length_drop, List.length_take]; rfl)) ?_; (with_reducible refine (pack_TakeSigned.calls k (⟨#[1]⟩ : ByteArray) 0 t118 t119 t120 _ A2.out).mono ?_); rintro e w' ⟨rfl, ⟨nd, rfl⟩⟩; refine ⟨_, rfl, ?_⟩) | ((with_reducible refine gate_callee (f := 20) rfl ?_); refine goesL_ (some 21) rfl rfl Try.func20 (by kernel_rfl) rfl #[.string (⟨#[128, 0]⟩ : ByteArray), .int .i64 0] rfl (by (try simp only [List.map_toArray, List.map_cons, List.map_nil]); first | done | rfl | (simp only [List.length_drop, List.length_take]; rfl)) ?_; (with_reducible refine (pack_TakeNumber.calls k (⟨#[128, 0]⟩ : ByteArray) 0 t121 t122 t123 _ A3.out).mono ?_); rintro e w' ⟨rfl, ⟨nd, rfl⟩⟩; refine ⟨_, rfl, ?_⟩) | ((with_reducible refine gate_callee (f := 16) rfl ?_); refine goesL_ (some 25) rfl rfl Try.func16 (by kernel_rfl) rfl #[.int .u64 300] rfl (by (try simp only [List.map_toArray, List.map_cons, List.map_nil]); first | done | rfl | (simp only [List.length_drop, List.length_take]; rfl)) ?_; (with_reducible refine (pack_Number.calls k 300 t124 _ A4.out).mono ?_); rintro e w19 ⟨rfl, hb⟩; refine ⟨_, rfl, ?_⟩; have n0_ := Aside0.mk (below_step (by repeat (first | (with_reducible first | exact HB.out | apply below_alloc | apply pw_below_drewN | apply below_drew1) | exact HB.out)) hb); clear HB; have HB := n0_; clear n0_; (try clear hb); (try clear hb2); (try clear hk); (try clear hi)))
              go_ret
              exact ⟨by first | rfl | (simp [errW_none, errW_some] <;> rfl) | (simp [*, errW_none, errW_some] <;> rfl), by repeat (first | (with_reducible first | exact HB.out | apply below_alloc | apply pw_below_drewN | apply below_drew1) | exact HB.out)⟩
          · rw [if_neg c9] at H
            have c9b0 : (t118 == (-1)) = false := beq_eq_false_iff_ne.mpr c9
            have c9b1 : (t118 != (-1)) = true := bne_iff_ne.mpr c9
            obtain rfl := Option.some.inj H
            go_enter Try.func11, Try.ntmps11
            go_wp2_with (first | ((with_reducible refine gate_callee (f := 20) rfl ?_); refine goesL_ (some 11) rfl rfl Try.func20 (by kernel_rfl) rfl #[.string (⟨#[172, 2]⟩ : ByteArray), .int .i64 0] rfl (by (try simp only [List.map_toArray, List.map_cons, List.map_nil]); first | done | rfl | (simp only [List.length_drop, List.length_take]; rfl)) ?_; (with_reducible refine (pack_TakeNumber.calls k (⟨#[172, 2]⟩ : ByteArray) 0 t115 t116 t117 _ A1.out).mono ?_); rintro e w' ⟨rfl, ⟨nd, rfl⟩⟩; refine ⟨_, rfl, ?_⟩) | ((with_reducible refine gate_callee (f := 22) rfl ?_); refine goesL_ (some 16) rfl rfl Try.func22 (by kernel_rfl) rfl #[.string (⟨#[1]⟩ : ByteArray), .int .i64 0] rfl (by (try simp only [List.map_toArray, List.map_cons, List.map_nil]); first | done | rfl | (simp only [List.length_drop, List.length_take]; rfl)) ?_; (with_reducible refine (pack_TakeSigned.calls k (⟨#[1]⟩ : ByteArray) 0 t118 t119 t120 _ A2.out).mono ?_); rintro e w' ⟨rfl, ⟨nd, rfl⟩⟩; refine ⟨_, rfl, ?_⟩) | ((with_reducible refine gate_callee (f := 20) rfl ?_); refine goesL_ (some 21) rfl rfl Try.func20 (by kernel_rfl) rfl #[.string (⟨#[128, 0]⟩ : ByteArray), .int .i64 0] rfl (by (try simp only [List.map_toArray, List.map_cons, List.map_nil]); first | done | rfl | (simp only [List.length_drop, List.length_take]; rfl)) ?_; (with_reducible refine (pack_TakeNumber.calls k (⟨#[128, 0]⟩ : ByteArray) 0 t121 t122 t123 _ A3.out).mono ?_); rintro e w' ⟨rfl, ⟨nd, rfl⟩⟩; refine ⟨_, rfl, ?_⟩) | ((with_reducible refine gate_callee (f := 16) rfl ?_); refine goesL_ (some 25) rfl rfl Try.func16 (by kernel_rfl) rfl #[.int .u64 300] rfl (by (try simp only [List.map_toArray, List.map_cons, List.map_nil]); first | done | rfl | (simp only [List.length_drop, List.length_take]; rfl)) ?_; (with_reducible refine (pack_Number.calls k 300 t124 _ A4.out).mono ?_); rintro e w20 ⟨rfl, hb⟩; refine ⟨_, rfl, ?_⟩; have n0_ := Aside0.mk (below_step (by repeat (first | (with_reducible first | exact HB.out | apply below_alloc | apply pw_below_drewN | apply below_drew1) | exact HB.out)) hb); clear HB; have HB := n0_; clear n0_; (try clear hb); (try clear hb2); (try clear hk); (try clear hi)))
            go_ret
            exact ⟨by first | rfl | (simp [errW_none, errW_some] <;> rfl) | (simp [*, errW_none, errW_some] <;> rfl), by repeat (first | (with_reducible first | exact HB.out | apply below_alloc | apply pw_below_drewN | apply below_drew1) | exact HB.out)⟩
        · rw [if_neg c8] at H
          have c8b0 : (t117 == 0) = false := beq_eq_false_iff_ne.mpr c8
          have c8b1 : (t117 != 0) = true := bne_iff_ne.mpr c8
          obtain rfl := Option.some.inj H
          go_enter Try.func11, Try.ntmps11
          go_wp2_with (first | ((with_reducible refine gate_callee (f := 20) rfl ?_); refine goesL_ (some 11) rfl rfl Try.func20 (by kernel_rfl) rfl #[.string (⟨#[172, 2]⟩ : ByteArray), .int .i64 0] rfl (by (try simp only [List.map_toArray, List.map_cons, List.map_nil]); first | done | rfl | (simp only [List.length_drop, List.length_take]; rfl)) ?_; (with_reducible refine (pack_TakeNumber.calls k (⟨#[172, 2]⟩ : ByteArray) 0 t115 t116 t117 _ A1.out).mono ?_); rintro e w' ⟨rfl, ⟨nd, rfl⟩⟩; refine ⟨_, rfl, ?_⟩) | ((with_reducible refine gate_callee (f := 22) rfl ?_); refine goesL_ (some 16) rfl rfl Try.func22 (by kernel_rfl) rfl #[.string (⟨#[1]⟩ : ByteArray), .int .i64 0] rfl (by (try simp only [List.map_toArray, List.map_cons, List.map_nil]); first | done | rfl | (simp only [List.length_drop, List.length_take]; rfl)) ?_; (with_reducible refine (pack_TakeSigned.calls k (⟨#[1]⟩ : ByteArray) 0 t118 t119 t120 _ A2.out).mono ?_); rintro e w' ⟨rfl, ⟨nd, rfl⟩⟩; refine ⟨_, rfl, ?_⟩) | ((with_reducible refine gate_callee (f := 20) rfl ?_); refine goesL_ (some 21) rfl rfl Try.func20 (by kernel_rfl) rfl #[.string (⟨#[128, 0]⟩ : ByteArray), .int .i64 0] rfl (by (try simp only [List.map_toArray, List.map_cons, List.map_nil]); first | done | rfl | (simp only [List.length_drop, List.length_take]; rfl)) ?_; (with_reducible refine (pack_TakeNumber.calls k (⟨#[128, 0]⟩ : ByteArray) 0 t121 t122 t123 _ A3.out).mono ?_); rintro e w' ⟨rfl, ⟨nd, rfl⟩⟩; refine ⟨_, rfl, ?_⟩) | ((with_reducible refine gate_callee (f := 16) rfl ?_); refine goesL_ (some 25) rfl rfl Try.func16 (by kernel_rfl) rfl #[.int .u64 300] rfl (by (try simp only [List.map_toArray, List.map_cons, List.map_nil]); first | done | rfl | (simp only [List.length_drop, List.length_take]; rfl)) ?_; (with_reducible refine (pack_Number.calls k 300 t124 _ A4.out).mono ?_); rintro e w21 ⟨rfl, hb⟩; refine ⟨_, rfl, ?_⟩; have n0_ := Aside0.mk (below_step (by repeat (first | (with_reducible first | exact HB.out | apply below_alloc | apply pw_below_drewN | apply below_drew1) | exact HB.out)) hb); clear HB; have HB := n0_; clear n0_; (try clear hb); (try clear hb2); (try clear hk); (try clear hi)))
          go_ret
          exact ⟨by first | rfl | (simp [errW_none, errW_some] <;> rfl) | (simp [*, errW_none, errW_some] <;> rfl), by repeat (first | (with_reducible first | exact HB.out | apply below_alloc | apply pw_below_drewN | apply below_drew1) | exact HB.out)⟩
      · rw [if_neg c7] at H
        have c7b0 : (t116 == 2) = false := beq_eq_false_iff_ne.mpr c7
        have c7b1 : (t116 != 2) = true := bne_iff_ne.mpr c7
        obtain rfl := Option.some.inj H
        go_enter Try.func11, Try.ntmps11
        go_wp2_with (first | ((with_reducible refine gate_callee (f := 20) rfl ?_); refine goesL_ (some 11) rfl rfl Try.func20 (by kernel_rfl) rfl #[.string (⟨#[172, 2]⟩ : ByteArray), .int .i64 0] rfl (by (try simp only [List.map_toArray, List.map_cons, List.map_nil]); first | done | rfl | (simp only [List.length_drop, List.length_take]; rfl)) ?_; (with_reducible refine (pack_TakeNumber.calls k (⟨#[172, 2]⟩ : ByteArray) 0 t115 t116 t117 _ A1.out).mono ?_); rintro e w' ⟨rfl, ⟨nd, rfl⟩⟩; refine ⟨_, rfl, ?_⟩) | ((with_reducible refine gate_callee (f := 22) rfl ?_); refine goesL_ (some 16) rfl rfl Try.func22 (by kernel_rfl) rfl #[.string (⟨#[1]⟩ : ByteArray), .int .i64 0] rfl (by (try simp only [List.map_toArray, List.map_cons, List.map_nil]); first | done | rfl | (simp only [List.length_drop, List.length_take]; rfl)) ?_; (with_reducible refine (pack_TakeSigned.calls k (⟨#[1]⟩ : ByteArray) 0 t118 t119 t120 _ A2.out).mono ?_); rintro e w' ⟨rfl, ⟨nd, rfl⟩⟩; refine ⟨_, rfl, ?_⟩) | ((with_reducible refine gate_callee (f := 20) rfl ?_); refine goesL_ (some 21) rfl rfl Try.func20 (by kernel_rfl) rfl #[.string (⟨#[128, 0]⟩ : ByteArray), .int .i64 0] rfl (by (try simp only [List.map_toArray, List.map_cons, List.map_nil]); first | done | rfl | (simp only [List.length_drop, List.length_take]; rfl)) ?_; (with_reducible refine (pack_TakeNumber.calls k (⟨#[128, 0]⟩ : ByteArray) 0 t121 t122 t123 _ A3.out).mono ?_); rintro e w' ⟨rfl, ⟨nd, rfl⟩⟩; refine ⟨_, rfl, ?_⟩) | ((with_reducible refine gate_callee (f := 16) rfl ?_); refine goesL_ (some 25) rfl rfl Try.func16 (by kernel_rfl) rfl #[.int .u64 300] rfl (by (try simp only [List.map_toArray, List.map_cons, List.map_nil]); first | done | rfl | (simp only [List.length_drop, List.length_take]; rfl)) ?_; (with_reducible refine (pack_Number.calls k 300 t124 _ A4.out).mono ?_); rintro e w22 ⟨rfl, hb⟩; refine ⟨_, rfl, ?_⟩; have n0_ := Aside0.mk (below_step (by repeat (first | (with_reducible first | exact HB.out | apply below_alloc | apply pw_below_drewN | apply below_drew1) | exact HB.out)) hb); clear HB; have HB := n0_; clear n0_; (try clear hb); (try clear hb2); (try clear hk); (try clear hi)))
        go_ret
        exact ⟨by first | rfl | (simp [errW_none, errW_some] <;> rfl) | (simp [*, errW_none, errW_some] <;> rfl), by repeat (first | (with_reducible first | exact HB.out | apply below_alloc | apply pw_below_drewN | apply below_drew1) | exact HB.out)⟩
    · rw [if_neg c6] at H
      have c6b0 : (t115 == 300) = false := beq_eq_false_iff_ne.mpr c6
      have c6b1 : (t115 != 300) = true := bne_iff_ne.mpr c6
      obtain rfl := Option.some.inj H
      go_enter Try.func11, Try.ntmps11
      go_wp2_with (first | ((with_reducible refine gate_callee (f := 20) rfl ?_); refine goesL_ (some 11) rfl rfl Try.func20 (by kernel_rfl) rfl #[.string (⟨#[172, 2]⟩ : ByteArray), .int .i64 0] rfl (by (try simp only [List.map_toArray, List.map_cons, List.map_nil]); first | done | rfl | (simp only [List.length_drop, List.length_take]; rfl)) ?_; (with_reducible refine (pack_TakeNumber.calls k (⟨#[172, 2]⟩ : ByteArray) 0 t115 t116 t117 _ A1.out).mono ?_); rintro e w' ⟨rfl, ⟨nd, rfl⟩⟩; refine ⟨_, rfl, ?_⟩) | ((with_reducible refine gate_callee (f := 22) rfl ?_); refine goesL_ (some 16) rfl rfl Try.func22 (by kernel_rfl) rfl #[.string (⟨#[1]⟩ : ByteArray), .int .i64 0] rfl (by (try simp only [List.map_toArray, List.map_cons, List.map_nil]); first | done | rfl | (simp only [List.length_drop, List.length_take]; rfl)) ?_; (with_reducible refine (pack_TakeSigned.calls k (⟨#[1]⟩ : ByteArray) 0 t118 t119 t120 _ A2.out).mono ?_); rintro e w' ⟨rfl, ⟨nd, rfl⟩⟩; refine ⟨_, rfl, ?_⟩) | ((with_reducible refine gate_callee (f := 20) rfl ?_); refine goesL_ (some 21) rfl rfl Try.func20 (by kernel_rfl) rfl #[.string (⟨#[128, 0]⟩ : ByteArray), .int .i64 0] rfl (by (try simp only [List.map_toArray, List.map_cons, List.map_nil]); first | done | rfl | (simp only [List.length_drop, List.length_take]; rfl)) ?_; (with_reducible refine (pack_TakeNumber.calls k (⟨#[128, 0]⟩ : ByteArray) 0 t121 t122 t123 _ A3.out).mono ?_); rintro e w' ⟨rfl, ⟨nd, rfl⟩⟩; refine ⟨_, rfl, ?_⟩) | ((with_reducible refine gate_callee (f := 16) rfl ?_); refine goesL_ (some 25) rfl rfl Try.func16 (by kernel_rfl) rfl #[.int .u64 300] rfl (by (try simp only [List.map_toArray, List.map_cons, List.map_nil]); first | done | rfl | (simp only [List.length_drop, List.length_take]; rfl)) ?_; (with_reducible refine (pack_Number.calls k 300 t124 _ A4.out).mono ?_); rintro e w23 ⟨rfl, hb⟩; refine ⟨_, rfl, ?_⟩; have n0_ := Aside0.mk (below_step (by repeat (first | (with_reducible first | exact HB.out | apply below_alloc | apply pw_below_drewN | apply below_drew1) | exact HB.out)) hb); clear HB; have HB := n0_; clear n0_; (try clear hb); (try clear hb2); (try clear hk); (try clear hi)))
      go_ret
      exact ⟨by first | rfl | (simp [errW_none, errW_some] <;> rfl) | (simp [*, errW_none, errW_some] <;> rfl), by repeat (first | (with_reducible first | exact HB.out | apply below_alloc | apply pw_below_drewN | apply below_drew1) | exact HB.out)⟩
  · rw [if_neg c5] at H
    have c5b0 : (t124.toList == ([172, 2] : List UInt8)) = false := beq_eq_false_iff_ne.mpr c5
    have c5b1 : (t124.toList != ([172, 2] : List UInt8)) = true := bne_iff_ne.mpr c5
    obtain rfl := Option.some.inj H
    go_enter Try.func11, Try.ntmps11
    go_wp2_with (first | ((with_reducible refine gate_callee (f := 20) rfl ?_); refine goesL_ (some 11) rfl rfl Try.func20 (by kernel_rfl) rfl #[.string (⟨#[172, 2]⟩ : ByteArray), .int .i64 0] rfl (by (try simp only [List.map_toArray, List.map_cons, List.map_nil]); first | done | rfl | (simp only [List.length_drop, List.length_take]; rfl)) ?_; (with_reducible refine (pack_TakeNumber.calls k (⟨#[172, 2]⟩ : ByteArray) 0 t115 t116 t117 _ A1.out).mono ?_); rintro e w' ⟨rfl, ⟨nd, rfl⟩⟩; refine ⟨_, rfl, ?_⟩) | ((with_reducible refine gate_callee (f := 22) rfl ?_); refine goesL_ (some 16) rfl rfl Try.func22 (by kernel_rfl) rfl #[.string (⟨#[1]⟩ : ByteArray), .int .i64 0] rfl (by (try simp only [List.map_toArray, List.map_cons, List.map_nil]); first | done | rfl | (simp only [List.length_drop, List.length_take]; rfl)) ?_; (with_reducible refine (pack_TakeSigned.calls k (⟨#[1]⟩ : ByteArray) 0 t118 t119 t120 _ A2.out).mono ?_); rintro e w' ⟨rfl, ⟨nd, rfl⟩⟩; refine ⟨_, rfl, ?_⟩) | ((with_reducible refine gate_callee (f := 20) rfl ?_); refine goesL_ (some 21) rfl rfl Try.func20 (by kernel_rfl) rfl #[.string (⟨#[128, 0]⟩ : ByteArray), .int .i64 0] rfl (by (try simp only [List.map_toArray, List.map_cons, List.map_nil]); first | done | rfl | (simp only [List.length_drop, List.length_take]; rfl)) ?_; (with_reducible refine (pack_TakeNumber.calls k (⟨#[128, 0]⟩ : ByteArray) 0 t121 t122 t123 _ A3.out).mono ?_); rintro e w' ⟨rfl, ⟨nd, rfl⟩⟩; refine ⟨_, rfl, ?_⟩) | ((with_reducible refine gate_callee (f := 16) rfl ?_); refine goesL_ (some 25) rfl rfl Try.func16 (by kernel_rfl) rfl #[.int .u64 300] rfl (by (try simp only [List.map_toArray, List.map_cons, List.map_nil]); first | done | rfl | (simp only [List.length_drop, List.length_take]; rfl)) ?_; (with_reducible refine (pack_Number.calls k 300 t124 _ A4.out).mono ?_); rintro e w24 ⟨rfl, hb⟩; refine ⟨_, rfl, ?_⟩; have n0_ := Aside0.mk (below_step (by repeat (first | (with_reducible first | exact HB.out | apply below_alloc | apply pw_below_drewN | apply below_drew1) | exact HB.out)) hb); clear HB; have HB := n0_; clear n0_; (try clear hb); (try clear hb2); (try clear hk); (try clear hi)))
    go_ret
    exact ⟨by first | rfl | (simp [errW_none, errW_some] <;> rfl) | (simp [*, errW_none, errW_some] <;> rfl), by repeat (first | (with_reducible first | exact HB.out | apply below_alloc | apply pw_below_drewN | apply below_drew1) | exact HB.out)⟩

/-! ### pack_Signed: function 18 -/
def pack_Signed.f (k : Nat) (a0 : Int) : Option (ByteArray) := (pack_Number.f k (Go.bits .xor .u64 (IntKind.u64.wrap ((IntKind.u64.wrap (a0)) * 2)) (IntKind.u64.wrap (a0 / 9223372036854775808)))).bind fun t129 => (some t129)
theorem pack_Signed.mono : ∀ a0 k, LeO (pack_Signed.f k a0) (pack_Signed.f (k + 1) a0) := by
  intro a0 k
  unfold pack_Signed.f
  repeat' first
      | (with_reducible exact pack_Number.mono _ _)
      | (with_reducible exact LeO.refl _)
      | (with_reducible exact LeO.none _)
      | (with_reducible refine LeO.ite ?_ ?_)
      | (with_reducible refine LeO.bind ?_ (fun _ => ?_))
      | exact pack_Number.mono _ _
      | exact LeO.none _
      | refine LeO.ite ?_ ?_
      | refine LeO.bind ?_ (fun _ => ?_)
set_option maxHeartbeats 8000000 in
set_option maxRecDepth 100000 in
theorem pack_Signed.calls (k : Nat) (a0 : Int) (r : ByteArray) (w : World) (h : pack_Signed.f k a0 = some r) :
    Calls Try.prog 18 #[.int .i64 a0] w fun e w' => e = .returned (.string r) ∧ Below w.heap.size w w' := by
  have HB := Aside0.mk (Below.refl w.heap.size w)
  have H : ((pack_Number.f k (Go.bits .xor .u64 (IntKind.u64.wrap ((IntKind.u64.wrap (a0)) * 2)) (IntKind.u64.wrap (a0 / 9223372036854775808)))).bind fun t129 => (some t129)) = some r := h
  clear h
  replace H := Option.bind_eq_some_iff.mp H
  obtain ⟨t129, A20, H⟩ := H
  replace H : (some t129) = some r := H
  have A2 := Aside0.mk A20
  clear A20
  obtain rfl := Option.some.inj H
  go_enter Try.func18, Try.ntmps18
  go_wp2_with (first | ((with_reducible refine gate_callee (f := 16) rfl ?_); refine goesL_ (some 10) rfl rfl Try.func16 (by kernel_rfl) rfl #[.int .u64 (Go.bits .xor .u64 (IntKind.u64.wrap ((IntKind.u64.wrap (a0)) * 2)) (IntKind.u64.wrap (a0 / 9223372036854775808)))] rfl (by (try simp only [List.map_toArray, List.map_cons, List.map_nil]); first | done | rfl | (simp only [List.length_drop, List.length_take]; rfl)) ?_; (with_reducible refine (pack_Number.calls k (Go.bits .xor .u64 (IntKind.u64.wrap ((IntKind.u64.wrap (a0)) * 2)) (IntKind.u64.wrap (a0 / 9223372036854775808))) t129 _ A2.out).mono ?_); rintro e w3 ⟨rfl, hb⟩; refine ⟨_, rfl, ?_⟩; have n0_ := Aside0.mk (below_step (by repeat (first | (with_reducible first | exact HB.out | apply below_alloc | apply pw_below_drewN | apply below_drew1) | exact HB.out)) hb); clear HB; have HB := n0_; clear n0_; (try clear hb); (try clear hb2); (try clear hk); (try clear hi)))
  go_ret
  exact ⟨by first | rfl | (simp [errW_none, errW_some] <;> rfl) | (simp [*, errW_none, errW_some] <;> rfl), by repeat (first | (with_reducible first | exact HB.out | apply below_alloc | apply pw_below_drewN | apply below_drew1) | exact HB.out)⟩

/-! ### pack_TakeText: function 24 -/
def pack_TakeText.f (k : Nat) (a0 : ByteArray) (a1 : Int) : Option (ByteArray × Int × Int) := (pack_TakeNumber.f k a0 a1).bind fun bt130 => (if bt130.2.2 = 0 then (if bt130.1 > (IntKind.u64.wrap (wrap64 ((a0.size : Int) - bt130.2.1))) then (some ((⟨#[]⟩ : ByteArray), 0, 10)) else (if 0 ≤ bt130.2.1 then (if bt130.2.1 ≤ (wrap64 (bt130.2.1 + (wrap64 (bt130.1)))) then (if (wrap64 (bt130.2.1 + (wrap64 (bt130.1)))) ≤ (a0.size : Int) then (some (a0.extract (bt130.2.1 : Int).toNat ((wrap64 (bt130.2.1 + (wrap64 (bt130.1)))) : Int).toNat, wrap64 (bt130.2.1 + (wrap64 (bt130.1))), 0)) else (none)) else (none)) else (none))) else (some ((⟨#[]⟩ : ByteArray), 0, bt130.2.2)))
theorem pack_TakeText.mono : ∀ a0 a1 k, LeO (pack_TakeText.f k a0 a1) (pack_TakeText.f (k + 1) a0 a1) := by
  intro a0 a1 k
  unfold pack_TakeText.f
  repeat' first
      | (with_reducible exact pack_TakeNumber.mono _ _ _)
      | (with_reducible exact LeO.refl _)
      | (with_reducible exact LeO.none _)
      | (with_reducible refine LeO.ite ?_ ?_)
      | (with_reducible refine LeO.bind ?_ (fun _ => ?_))
      | exact pack_TakeNumber.mono _ _ _
      | exact LeO.none _
      | refine LeO.ite ?_ ?_
      | refine LeO.bind ?_ (fun _ => ?_)
set_option maxHeartbeats 8000000 in
set_option maxRecDepth 100000 in
theorem pack_TakeText.calls (k : Nat) (a0 : ByteArray) (a1 : Int) (r1 : ByteArray) (r2 : Int) (r3 : Int) (w : World) (h : pack_TakeText.f k a0 a1 = some (r1, r2, r3)) :
    Calls Try.prog 24 #[.string a0, .int .i64 a1] w fun e w' => e = .returned (.tuple #[.string r1, .int .i64 r2, .int .i64 r3]) ∧ Drawn0 w w' := by
  have H : ((pack_TakeNumber.f k a0 a1).bind fun bt130 => (if bt130.2.2 = 0 then (if bt130.1 > (IntKind.u64.wrap (wrap64 ((a0.size : Int) - bt130.2.1))) then (some ((⟨#[]⟩ : ByteArray), 0, 10)) else (if 0 ≤ bt130.2.1 then (if bt130.2.1 ≤ (wrap64 (bt130.2.1 + (wrap64 (bt130.1)))) then (if (wrap64 (bt130.2.1 + (wrap64 (bt130.1)))) ≤ (a0.size : Int) then (some (a0.extract (bt130.2.1 : Int).toNat ((wrap64 (bt130.2.1 + (wrap64 (bt130.1)))) : Int).toNat, wrap64 (bt130.2.1 + (wrap64 (bt130.1))), 0)) else (none)) else (none)) else (none))) else (some ((⟨#[]⟩ : ByteArray), 0, bt130.2.2)))) = some (r1, r2, r3) := h
  clear h
  replace H := Option.bind_eq_some_iff.mp H
  obtain ⟨⟨t130, t131, t132⟩, A30, H⟩ := H
  replace H : (if t132 = 0 then (if t130 > (IntKind.u64.wrap (wrap64 ((a0.size : Int) - t131))) then (some ((⟨#[]⟩ : ByteArray), 0, 10)) else (if 0 ≤ t131 then (if t131 ≤ (wrap64 (t131 + (wrap64 (t130)))) then (if (wrap64 (t131 + (wrap64 (t130)))) ≤ (a0.size : Int) then (some (a0.extract (t131 : Int).toNat ((wrap64 (t131 + (wrap64 (t130)))) : Int).toNat, wrap64 (t131 + (wrap64 (t130))), 0)) else (none)) else (none)) else (none))) else (some ((⟨#[]⟩ : ByteArray), 0, t132))) = some (r1, r2, r3) := H
  have A3 := Aside0.mk A30
  clear A30
  by_cases c4 : t132 = 0
  · rw [if_pos c4] at H
    have c4b0 : (t132 == 0) = true := beq_iff_eq.mpr c4
    have c4b1 : (t132 != 0) = false := bne_eq_false_iff_eq.mpr c4
    clear c4
    by_cases c5 : t130 > (IntKind.u64.wrap (wrap64 ((a0.size : Int) - t131)))
    · rw [if_pos c5] at H
      have c5b0 : decide ((IntKind.u64.wrap (wrap64 ((a0.size : Int) - t131))) < t130) = true := decide_eq_true c5
      clear c5
      simp only [Option.some.injEq, Prod.mk.injEq] at H
      obtain ⟨rfl, rfl, rfl⟩ := H
      go_enter Try.func24, Try.ntmps24
      go_wp2_with (first | ((with_reducible refine gate_callee (f := 20) rfl ?_); refine goesL_ (some 14) rfl rfl Try.func20 (by kernel_rfl) rfl #[.string a0, .int .i64 a1] rfl (by (try simp only [List.map_toArray, List.map_cons, List.map_nil]); first | done | rfl | (simp only [List.length_drop, List.length_take]; rfl)) ?_; (with_reducible refine (pack_TakeNumber.calls k a0 a1 t130 t131 t132 _ A3.out).mono ?_); rintro e w' ⟨rfl, ⟨nd, rfl⟩⟩; refine ⟨_, rfl, ?_⟩))
      go_ret3
      exact ⟨by first | rfl | (simp; done) | (simp [*]; done), by repeat (first | exact Drawn0.refl _ | apply Drawn0.step)⟩
    · rw [if_neg c5] at H
      have c5b0 : decide ((IntKind.u64.wrap (wrap64 ((a0.size : Int) - t131))) < t130) = false := decide_eq_false c5
      clear c5
      by_cases c6 : 0 ≤ t131
      · rw [if_pos c6] at H
        have c6b0 := eq_true c6
        have c6b1 : decide (0 ≤ t131) = true := decide_eq_true c6
        clear c6
        by_cases c7 : t131 ≤ (wrap64 (t131 + (wrap64 (t130))))
        · rw [if_pos c7] at H
          have c7b0 := eq_true c7
          have c7b1 : decide (t131 ≤ (wrap64 (t131 + (wrap64 (t130))))) = true := decide_eq_true c7
          by_cases c8 : (wrap64 (t131 + (wrap64 (t130)))) ≤ (a0.size : Int)
          · rw [if_pos c8] at H
            have c8b0 := eq_true c8
            have c8b1 : decide ((wrap64 (t131 + (wrap64 (t130)))) ≤ (a0.size : Int)) = true := decide_eq_true c8
            simp only [Option.some.injEq, Prod.mk.injEq] at H
            obtain ⟨rfl, rfl, rfl⟩ := H
            go_enter Try.func24, Try.ntmps24
            go_wp2_with (first | ((with_reducible refine gate_callee (f := 20) rfl ?_); refine goesL_ (some 14) rfl rfl Try.func20 (by kernel_rfl) rfl #[.string a0, .int .i64 a1] rfl (by (try simp only [List.map_toArray, List.map_cons, List.map_nil]); first | done | rfl | (simp only [List.length_drop, List.length_take]; rfl)) ?_; (with_reducible refine (pack_TakeNumber.calls k a0 a1 t130 t131 t132 _ A3.out).mono ?_); rintro e w' ⟨rfl, ⟨nd, rfl⟩⟩; refine ⟨_, rfl, ?_⟩))
            go_ret3
            exact ⟨by first | rfl | (simp; done) | (simp [*]; done), by repeat (first | exact Drawn0.refl _ | apply Drawn0.step)⟩
          · rw [if_neg c8] at H
            exact absurd H (by simp)
        · rw [if_neg c7] at H
          exact absurd H (by simp)
      · rw [if_neg c6] at H
        exact absurd H (by simp)
  · rw [if_neg c4] at H
    have c4b0 : (t132 == 0) = false := beq_eq_false_iff_ne.mpr c4
    have c4b1 : (t132 != 0) = true := bne_iff_ne.mpr c4
    simp only [Option.some.injEq, Prod.mk.injEq] at H
    obtain ⟨rfl, rfl, rfl⟩ := H
    go_enter Try.func24, Try.ntmps24
    go_wp2_with (first | ((with_reducible refine gate_callee (f := 20) rfl ?_); refine goesL_ (some 14) rfl rfl Try.func20 (by kernel_rfl) rfl #[.string a0, .int .i64 a1] rfl (by (try simp only [List.map_toArray, List.map_cons, List.map_nil]); first | done | rfl | (simp only [List.length_drop, List.length_take]; rfl)) ?_; (with_reducible refine (pack_TakeNumber.calls k a0 a1 t130 t131 t132 _ A3.out).mono ?_); rintro e w' ⟨rfl, ⟨nd, rfl⟩⟩; refine ⟨_, rfl, ?_⟩))
    go_ret3
    exact ⟨by first | rfl | (simp; done) | (simp [*]; done), by repeat (first | exact Drawn0.refl _ | apply Drawn0.step)⟩

/-! ### pack_TakeTexts_1: function 32 -/

set_option maxHeartbeats 8000000 in
set_option maxRecDepth 100000 in
/-- What the closure does: it takes a text, and puts it behind. -/
theorem pack_take.calls (k : Nat) (s : ByteArray) (tz e0 : Int) (t : ByteArray) (tz' e' : Int) (v : Value) (l : List ByteArray) (base bs bt be bo : Nat) (w0 w : World)
    (hs : w.heap[bs]? = some (.cells #[.string s] 9 (0, 0))) (ht : w.heap[bt]? = some (.cells #[.int .i64 tz] 3 (0, 0))) (he : w.heap[be]? = some (.cells #[.int .i64 e0] 33 (0, 0))) (ho : w.heap[bo]? = some (.cells #[v] 22 (0, 0)))
    (hR : Kd.R Kd.string 9 w base (fun k_ => k_ ≠ bs ∧ k_ ≠ bt ∧ k_ ≠ be ∧ k_ ≠ bo) v l) (hB : Below base w0 w) (hb0 : base ≤ bs ∧ base ≤ bt ∧ base ≤ be ∧ base ≤ bo) (hl : l.length < 8796093022208)
    (hf : pack_TakeText.f k s tz = some (t, tz', e')) :
    Calls Try.prog 32 #[.pointer (some ⟨bs, 0, none⟩), .pointer (some ⟨bt, 0, none⟩), .pointer (some ⟨be, 0, none⟩), .pointer (some ⟨bo, 0, none⟩)] w fun e w' => ∃ v', e = .returned (.tuple #[]) ∧
      w'.heap[bs]? = some (.cells #[.string s] 9 (0, 0)) ∧ w'.heap[bt]? = some (.cells #[.int .i64 tz'] 3 (0, 0)) ∧ w'.heap[be]? = some (.cells #[.int .i64 e'] 33 (0, 0)) ∧ w'.heap[bo]? = some (.cells #[v'] 22 (0, 0)) ∧
      Kd.R Kd.string 9 w' base (fun k_ => k_ ≠ bs ∧ k_ ≠ bt ∧ k_ ≠ be ∧ k_ ≠ bo) v' (if e' = 0 then l ++ [t] else l) ∧ Below base w0 w' := by
  have n1 : bt ≠ be := blk_ne ht he (by decide)
  have n2 : bt ≠ bo := blk_ne ht ho (by decide)
  have n3 : be ≠ bo := blk_ne he ho (by decide)
  have n4 : bs ≠ bt := blk_ne hs ht (by decide)
  have n5 : bs ≠ be := blk_ne hs he (by decide)
  have n6 : bs ≠ bo := blk_ne hs ho (by decide)
  have n1' := n1.symm
  have n2' := n2.symm
  have n3' := n3.symm
  have n4' := n4.symm
  have n5' := n5.symm
  have n6' := n6.symm
  have A := Aside0.mk hf
  have HR := Aside0.mk hR
  have HB := Aside0.mk hB
  have HS := Aside0.mk hs
  have HT := Aside0.mk ht
  have HE := Aside0.mk he
  have HO := Aside0.mk ho
  have HL := Aside0.mk hl
  have H0 := Aside0.mk hb0
  have cs : w.cell? ⟨bs, 0, none⟩ = some (.string s) := (blk_cell hs 0).trans rfl
  have ct : w.cell? ⟨bt, 0, none⟩ = some (.int .i64 tz) := (blk_cell ht 0).trans rfl
  obtain ⟨Ao, co, eo⟩ := Kd.R_slice HR.out
  clear hf hR hB hs ht he ho hl hb0
  subst eo
  by_cases c : e' = 0
  · have cb : (e' == 0) = true := beq_iff_eq.mpr c
    rw [if_pos c]
    clear c
    go_enter Try.func32, Try.ntmps32
    go_wp2_with (first | ((with_reducible refine gate_callee (f := 24) rfl ?_); refine goesL_ (some 8) rfl rfl Try.func24 (by kernel_rfl) rfl #[.string s, .int .i64 tz] rfl (by (try simp only [List.map_toArray, List.map_cons, List.map_nil]); first | done | rfl) ?_; (with_reducible refine (pack_TakeText.calls k s tz t tz' e' _ A.out).mono ?_); rintro e w1 ⟨rfl, hb0⟩; refine ⟨_, rfl, ?_⟩; have hb := hb0.below; clear hb0; have m0 := Aside0.mk (blk_below HS.out hb); have m1 := Aside0.mk (blk_below HT.out hb); have m2 := Aside0.mk (blk_below HE.out hb); have m3 := Aside0.mk (blk_below HO.out hb); have m4 := Aside0.mk (Kd.R_below HR.out hb); have m5 := Aside0.mk (below_then HB.out (by have q0 := blk_lt HS.out; have q1 := H0.out.1; omega) hb); clear HS HT HE HO HR HB cs ct; have HS := m0; have HT := m1; have HE := m2; have HO := m3; have HR := m4; have HB := m5; clear m0 m1 m2 m3 m4 m5 hb; have ct : w1.cell? ⟨bt, 0, none⟩ = some (.int .i64 tz) := (blk_cell HT.out 0).trans rfl; have ce : w1.cell? ⟨be, 0, none⟩ = some (.int .i64 e0) := (blk_cell HE.out 0).trans rfl; have cn : w1.cell? ⟨bo, 0, none⟩ = some (.slice Ao l.length co) := (blk_cell HO.out 0).trans rfl; have ft := blk_frozen HT.out 0; have fe := blk_frozen HE.out 0; have fo := blk_frozen HO.out 0) | ((with_reducible refine gate_builtin (b := .append) (xs := #[.tmp 14, .tmp 16]) rfl ?_); at_builtin; refine Kd.R_append Kd.string (w0 := w0) base rfl (.tmp 14) (.tmp 16) 22 9 (.string ⟨#[]⟩) 16 rfl Try.underlying22 info9 rfl (by decide) (by omega) (.slice Ao l.length co) l t [.string t] (fun k_ => k_ ≠ bs ∧ k_ ≠ bt ∧ k_ ≠ be ∧ k_ ≠ bo) (fun _ => False) rfl (by first | rfl | (go_simp; done) | (simp; done)) ?aP (fun _ hk => hk.elim) ?aF ?aO ?aB ?aS ?aL ?_))
    case aP => exact rfl
    case aF => intro k_ hk; have q0 := blk_lt HS.out; have q1 := blk_lt HT.out; have q2 := blk_lt HE.out; have q3 := blk_lt HO.out; simp at hk; exact ⟨by omega, by omega, by omega, by omega⟩
    case aO => exact Kd.R_far (p := ⟨be, 0, none⟩) (Kd.R_far (p := ⟨bt, 0, none⟩) HR.out (fun _ hk => hk.2.1) _) (fun _ hk => hk.2.2.1) _
    case aB => exact (HB.out.setCell (p := ⟨bt, 0, none⟩) H0.out.2.1 _).setCell (p := ⟨be, 0, none⟩) H0.out.2.2.1 _
    case aS => have q0 := blk_lt HS.out; have q1 := H0.out.1; simp; omega
    case aL => have := HL.out; omega
    intro v1 w2 ho hb hg _
    have d1 : w2.heap[bs]? = some (.cells #[.string s] 9 (0, 0)) := blk_grown (blk_far (blk_far HS.out (p := ⟨bt, 0, none⟩) n4 _) (p := ⟨be, 0, none⟩) n5 _) hg (fun e => (HR.out.1 _ e.symm).1 rfl)
    have d2 : w2.heap[bt]? = some (.cells #[.int .i64 tz'] 3 (0, 0)) := blk_grown (blk_far (blk_put HT.out 0 _ rfl) (p := ⟨be, 0, none⟩) n1 _) hg (fun e => (HR.out.1 _ e.symm).2.1 rfl)
    have d3 : w2.heap[be]? = some (.cells #[.int .i64 e'] 33 (0, 0)) := blk_grown (blk_put (blk_far HE.out (p := ⟨bt, 0, none⟩) n1' _) 0 _ rfl) hg (fun e => (HR.out.1 _ e.symm).2.2.1 rfl)
    have d4 : w2.heap[bo]? = some (.cells #[.slice Ao l.length co] 22 (0, 0)) := blk_grown (blk_far (blk_far HO.out (p := ⟨bt, 0, none⟩) n2' _) (p := ⟨be, 0, none⟩) n3' _) hg (fun e => (HR.out.1 _ e.symm).2.2.2 rfl)
    have D1 := Aside0.mk d1
    have D2 := Aside0.mk d2
    have D3 := Aside0.mk d3
    have D4 := Aside0.mk d4
    have cn2 : w2.cell? ⟨bo, 0, none⟩ = some (.slice Ao l.length co) := (blk_cell d4 0).trans rfl
    have fo2 := blk_frozen d4 0
    have HR2 := Aside0.mk ho
    have HB2 := Aside0.mk hb
    obtain ⟨Ao2, co2, eo2⟩ := Kd.R_slice ho
    rw [List.length_append, List.length_singleton] at eo2
    clear d1 d2 d3 d4 ho hb hg HR HB
    subst eo2
    go_wp2
    first | go_end0 | ((try simp only [Exit.inBlock, Exit.then]); refine bodyPost_ret (results_none rfl _ _ _) rfl ?_)
    exact ⟨_, rfl, blk_far D1.out (p := ⟨bo, 0, none⟩) n6 _, blk_far D2.out (p := ⟨bo, 0, none⟩) n2 _, blk_far D3.out (p := ⟨bo, 0, none⟩) n3 _, blk_put D4.out 0 _ rfl, Kd.R_far (p := ⟨bo, 0, none⟩) HR2.out (fun _ hk => hk.2.2.2) _, HB2.out.setCell (p := ⟨bo, 0, none⟩) H0.out.2.2.2 _⟩
  · have cb : (e' == 0) = false := beq_eq_false_iff_ne.mpr c
    rw [if_neg c]
    clear c
    go_enter Try.func32, Try.ntmps32
    go_wp2_with ((with_reducible refine gate_callee (f := 24) rfl ?_); refine goesL_ (some 8) rfl rfl Try.func24 (by kernel_rfl) rfl #[.string s, .int .i64 tz] rfl (by (try simp only [List.map_toArray, List.map_cons, List.map_nil]); first | done | rfl) ?_; (with_reducible refine (pack_TakeText.calls k s tz t tz' e' _ A.out).mono ?_); rintro e w1 ⟨rfl, hb0⟩; refine ⟨_, rfl, ?_⟩; have hb := hb0.below; clear hb0; have m0 := Aside0.mk (blk_below HS.out hb); have m1 := Aside0.mk (blk_below HT.out hb); have m2 := Aside0.mk (blk_below HE.out hb); have m3 := Aside0.mk (blk_below HO.out hb); have m4 := Aside0.mk (Kd.R_below HR.out hb); have m5 := Aside0.mk (below_then HB.out (by have q0 := blk_lt HS.out; have q1 := H0.out.1; omega) hb); clear HS HT HE HO HR HB cs ct; have HS := m0; have HT := m1; have HE := m2; have HO := m3; have HR := m4; have HB := m5; clear m0 m1 m2 m3 m4 m5 hb; have ct : w1.cell? ⟨bt, 0, none⟩ = some (.int .i64 tz) := (blk_cell HT.out 0).trans rfl; have ce : w1.cell? ⟨be, 0, none⟩ = some (.int .i64 e0) := (blk_cell HE.out 0).trans rfl; have ft := blk_frozen HT.out 0; have fe := blk_frozen HE.out 0)
    first | go_end0 | ((try simp only [Exit.inBlock, Exit.then]); refine bodyPost_ret (results_none rfl _ _ _) rfl ?_)
    exact ⟨_, rfl, blk_far (blk_far HS.out (p := ⟨bt, 0, none⟩) n4 _) (p := ⟨be, 0, none⟩) n5 _, blk_far (blk_put HT.out 0 _ rfl) (p := ⟨be, 0, none⟩) n1 _, blk_put (blk_far HE.out (p := ⟨bt, 0, none⟩) n1' _) 0 _ rfl, blk_far (blk_far HO.out (p := ⟨bt, 0, none⟩) n2' _) (p := ⟨be, 0, none⟩) n3' _, Kd.R_far (p := ⟨be, 0, none⟩) (Kd.R_far (p := ⟨bt, 0, none⟩) HR.out (fun _ hk => hk.2.1) _) (fun _ hk => hk.2.2.1) _, (HB.out.setCell (p := ⟨bt, 0, none⟩) H0.out.2.1 _).setCell (p := ⟨be, 0, none⟩) H0.out.2.2.1 _⟩


/-! ### pack_TakeTexts: function 26 -/

def pack_TakeTexts.l0 : Nat → Int → ByteArray → Int → List ByteArray → Option (List ByteArray × Int × Int)
  | 0, _, _, _, _ => none
  | k + 1, n, s, tz, l => if n > 0 then (if l.length < 8796093022208 then ((pack_TakeText.f k s tz).bind fun bt => (if bt.2.2 = 0 then (pack_TakeTexts.l0 k (IntKind.u64.wrap (n - 1)) s bt.2.1 (l ++ [bt.1])) else (some ([], 0, bt.2.2)))) else none) else (some (l, tz, 0))
def pack_TakeTexts.f (k : Nat) (a0 : ByteArray) (a1 : Int) : Option (List ByteArray × Int × Int) := (pack_TakeNumber.f k a0 a1).bind fun bt => (if bt.2.2 = 0 then (pack_TakeTexts.l0 k bt.1 a0 bt.2.1 []) else (some ([], 0, bt.2.2)))
theorem pack_TakeTexts.mono_l : ∀ k, (∀ y0 y1 y2 y3, LeO (pack_TakeTexts.l0 k y0 y1 y2 y3) (pack_TakeTexts.l0 (k + 1) y0 y1 y2 y3))
  | 0 => fun _ _ _ _ r h => by simp [pack_TakeTexts.l0] at h
  | k + 1 => by
    have ih0 := pack_TakeTexts.mono_l k
    intro y0 y1 y2 y3
    unfold pack_TakeTexts.l0
    repeat' first
      | (with_reducible exact ih0 _ _ _ _)
      | (with_reducible exact pack_TakeText.mono _ _ _)
      | (with_reducible exact LeO.refl _)
      | (with_reducible exact LeO.none _)
      | (with_reducible refine LeO.ite ?_ ?_)
      | (with_reducible refine LeO.bind ?_ (fun _ => ?_))
      | exact ih0 _ _ _ _
theorem pack_TakeTexts.mono : ∀ a0 a1 k, LeO (pack_TakeTexts.f k a0 a1) (pack_TakeTexts.f (k + 1) a0 a1) := by
  intro a0 a1 k
  have ih0 := pack_TakeTexts.mono_l k
  unfold pack_TakeTexts.f
  repeat' first
      | (with_reducible exact ih0 _ _ _ _)
      | (with_reducible exact pack_TakeNumber.mono _ _ _)
      | (with_reducible exact LeO.refl _)
      | (with_reducible exact LeO.none _)
      | (with_reducible refine LeO.ite ?_ ?_)
      | (with_reducible refine LeO.bind ?_ (fun _ => ?_))
      | exact ih0 _ _ _ _
/-- What holds at the head of a round. -/
structure TakeAt (s : ByteArray) (base bs bt be bo : Nat) (w0 : World) (tz : Int) (l : List ByteArray) (w : World) : Prop where
  hs : w.heap[bs]? = some (.cells #[.string s] 9 (0, 0))
  ht : w.heap[bt]? = some (.cells #[.int .i64 tz] 3 (0, 0))
  he : w.heap[be]? = some (.cells #[.int .i64 0] 33 (0, 0))
  ho : ∃ v, w.heap[bo]? = some (.cells #[v] 22 (0, 0)) ∧ Kd.R Kd.string 9 w base (fun k_ => k_ ≠ bs ∧ k_ ≠ bt ∧ k_ ≠ be ∧ k_ ≠ bo) v l
  hb : base ≤ bs ∧ base ≤ bt ∧ base ≤ be ∧ base ≤ bo
  hB : Below base w0 w
set_option maxHeartbeats 8000000 in
set_option maxRecDepth 100000 in
theorem pack_TakeTexts.calls (k : Nat) (a0 : ByteArray) (a1 : Int) (r1 : List ByteArray) (r2 : Int) (r3 : Int) (w : World) (h : pack_TakeTexts.f k a0 a1 = some (r1, r2, r3)) :
    Calls Try.prog 26 #[.string a0, .int .i64 a1] w fun e w' => ∃ v0_ : Value, e = .returned (.tuple #[v0_, .int .i64 r2, .int .i64 r3]) ∧ Kd.R Kd.string 9 w' w.heap.size (fun _ => True) v0_ r1 ∧ Below w.heap.size w w' := by
  have H : ((pack_TakeNumber.f k a0 a1).bind fun bt => (if bt.2.2 = 0 then (pack_TakeTexts.l0 k bt.1 a0 bt.2.1 []) else (some ([], 0, bt.2.2)))) = some (r1, r2, r3) := h
  clear h
  obtain ⟨⟨n0, tz0, e0⟩, A10, H⟩ := Option.bind_eq_some_iff.mp H
  have A1 := Aside0.mk A10
  clear A10
  replace H : (if e0 = 0 then (pack_TakeTexts.l0 k n0 a0 tz0 []) else (some ([], 0, e0))) = some (r1, r2, r3) := H
  have HB := Aside0.mk (below_alloc (Below.refl w.heap.size w) (.cells #[.string a0] 9))
  have HS := Aside0.mk (blk_new w (.cells #[.string a0] 9))
  have cs : (w.alloc (.cells #[.string a0] 9)).cell? ⟨w.heap.size, 0, none⟩ = some (.string a0) := (blk_cell (blk_new w (.cells #[.string a0] 9)) 0).trans rfl
  by_cases c : e0 = 0
  · rw [if_pos c] at H
    subst c
    have H' := Aside0.mk H
    clear H
    go_enter Try.func26, Try.ntmps26
    go_wp2_with ((with_reducible refine gate_callee (f := 20) rfl ?_); refine goesL_ (some 15) rfl rfl Try.func20 (by kernel_rfl) rfl #[.string a0, .int .i64 a1] rfl (by (try simp only [List.map_toArray, List.map_cons, List.map_nil]); first | done | rfl) ?_; (with_reducible refine (pack_TakeNumber.calls k a0 a1 n0 tz0 0 _ A1.out).mono ?_); rintro e w1 ⟨rfl, hb0⟩; refine ⟨_, rfl, ?_⟩; have hb := hb0.below; clear hb0; have m0 := Aside0.mk (blk_below HS.out hb); have m1 := Aside0.mk (below_step HB.out hb); clear HS HB cs; have HS := m0; have HB := m1; clear m0 m1 hb)
    have hsz := below_size HB.out
    have HW := Aside0.mk (show TakeAt a0 w.heap.size w.heap.size w1.heap.size (w1.heap.size + 1) (w1.heap.size + 1 + 1) w tz0 [] (((w1.alloc (.cells #[.int .i64 tz0] 3)).alloc (.cells #[.int .i64 0] 33)).alloc (.cells #[.slice none 0 0] 22)) from
      ⟨blk_alloc (blk_alloc (blk_alloc HS.out _) _) _, blk_alloc (blk_alloc (blk_new w1 _) _) _, blk_alloc (My.blk_new2 w1 _ _) _, ⟨_, My.blk_new3 w1 _ _ _, Kd.R_nil _ _ _ _ _⟩, ⟨Nat.le_refl _, hsz, by omega, by omega⟩, below_alloc (below_alloc (below_alloc HB.out _) _) _⟩)
    clear hsz HS HB
    go_loopg [7] k (fun kq v7 w' => ∃ (n tz : Int) (l : List ByteArray), v7 = .int .u64 n ∧ Aside0 (pack_TakeTexts.l0 kq n a0 tz l = some (r1, r2, r3)) ∧ Aside0 (kq ≤ k) ∧ Aside0 (TakeAt a0 w.heap.size w.heap.size w1.heap.size (w1.heap.size + 1) (w1.heap.size + 1 + 1) w tz l w'))
    case atStart => exact ⟨n0, tz0, [], rfl, H', ⟨Nat.le_refl _⟩, HW⟩
    case round =>
      clear H' HW
      obtain ⟨n, tz, l, rfl, HA, HK1, HT⟩ := hrel
      obtain ⟨v, hv, hR⟩ := HT.out.ho
      have HV := Aside0.mk hv
      have HR := Aside0.mk hR
      clear hv hR
      cases gk with
      | zero => exact absurd HA.out (by simp [pack_TakeTexts.l0])
      | succ k1 =>
        have H := HA.out
        clear HA
        rw [pack_TakeTexts.l0] at H
        by_cases c1 : n > 0
        · rw [if_pos c1] at H
          have c1b : decide (0 < n) = true := decide_eq_true c1
          clear c1
          by_cases c2 : l.length < 8796093022208
          · rw [if_pos c2] at H
            have C2 := Aside0.mk c2
            clear c2
            obtain ⟨⟨t, tz', e'⟩, A20, H⟩ := Option.bind_eq_some_iff.mp H
            have A2 := Aside0.mk A20
            clear A20
            replace H : (if e' = 0 then (pack_TakeTexts.l0 k1 (IntKind.u64.wrap (n - 1)) a0 tz' (l ++ [t])) else (some ([], 0, e'))) = some (r1, r2, r3) := H
            by_cases c3 : e' = 0
            · rw [if_pos c3] at H
              subst c3
              have H' := Aside0.mk H
              clear H
              go_wp2_with (refine My.goesV_ (some 28) rfl rfl (p := .tmp 27) Try.func32 (by kernel_rfl) rfl #[.pointer (some ⟨w.heap.size, 0, none⟩), .pointer (some ⟨w1.heap.size, 0, none⟩), .pointer (some ⟨w1.heap.size + 1, 0, none⟩), .pointer (some ⟨w1.heap.size + 1 + 1, 0, none⟩)] rfl rfl (by first | rfl | (simp; done)) ?_; (with_reducible refine (pack_take.calls k1 a0 tz 0 t tz' 0 v l w.heap.size w.heap.size w1.heap.size (w1.heap.size + 1) (w1.heap.size + 1 + 1) w _ HT.out.hs HT.out.ht HT.out.he HV.out HR.out HT.out.hB HT.out.hb C2.out A2.out).mono ?_); rintro e w2 ⟨v', rfl, h1, h2, h3, h4, h5, h6⟩; refine ⟨_, rfl, ?_⟩; rw [if_pos rfl] at h5; have HT2 := Aside0.mk (show TakeAt a0 w.heap.size w.heap.size w1.heap.size (w1.heap.size + 1) (w1.heap.size + 1 + 1) w tz' (l ++ [t]) w2 from ⟨h1, h2, h3, ⟨v', h4, h5⟩, HT.out.hb, h6⟩); have ce : w2.cell? ⟨w1.heap.size + 1, 0, none⟩ = some (.int .i64 0) := (blk_cell h3 0).trans rfl; clear h1 h2 h3 h4 h5 h6 HT HV HR)
              go_roundg k1
              case measure => have := HK1.out; omega
              case rel => exact ⟨IntKind.u64.wrap (n - 1), tz', l ++ [t], (by first | rfl | (simp; done)), H', ⟨by have := HK1.out; omega⟩, HT2⟩
            · rw [if_neg c3] at H
              simp only [Option.some.injEq, Prod.mk.injEq] at H
              obtain ⟨rfl, rfl, rfl⟩ := H
              have c3b : (e' != 0) = true := bne_iff_ne.mpr c3
              have c3c : (e' == 0) = false := beq_eq_false_iff_ne.mpr c3
              have C3 := Aside0.mk c3
              clear c3
              go_wp2_with (refine My.goesV_ (some 28) rfl rfl (p := .tmp 27) Try.func32 (by kernel_rfl) rfl #[.pointer (some ⟨w.heap.size, 0, none⟩), .pointer (some ⟨w1.heap.size, 0, none⟩), .pointer (some ⟨w1.heap.size + 1, 0, none⟩), .pointer (some ⟨w1.heap.size + 1 + 1, 0, none⟩)] rfl rfl (by first | rfl | (simp; done)) ?_; (with_reducible refine (pack_take.calls k1 a0 tz 0 t tz' e' v l w.heap.size w.heap.size w1.heap.size (w1.heap.size + 1) (w1.heap.size + 1 + 1) w _ HT.out.hs HT.out.ht HT.out.he HV.out HR.out HT.out.hB HT.out.hb C2.out A2.out).mono ?_); rintro e w2 ⟨v', rfl, h1, h2, h3, h4, h5, h6⟩; refine ⟨_, rfl, ?_⟩; have H6 := Aside0.mk h6; have ce : w2.cell? ⟨w1.heap.size + 1, 0, none⟩ = some (.int .i64 e') := (blk_cell h3 0).trans rfl; clear h1 h2 h3 h4 h5 h6 HT HV HR)
              go_quiet (fail)
              go_wp2
              go_ret3
              exact ⟨_, by first | rfl | (simp; done), Kd.R_nil _ _ _ _ _, pw_below_drewN H6.out _⟩
          · rw [if_neg c2] at H
            cases H
        · rw [if_neg c1] at H
          have c1b : decide (0 < n) = false := decide_eq_false c1
          clear c1
          simp only [Option.some.injEq, Prod.mk.injEq] at H
          obtain ⟨rfl, rfl, rfl⟩ := H
          obtain ⟨Ao, co, eo⟩ := Kd.R_slice HR.out
          subst eo
          have cn : wr.cell? ⟨w1.heap.size + 1 + 1, 0, none⟩ = some (.slice Ao l.length co) := (blk_cell HV.out 0).trans rfl
          have ct : wr.cell? ⟨w1.heap.size, 0, none⟩ = some (.int .i64 tz) := (blk_cell HT.out.ht 0).trans rfl
          go_wp2
          go_quiet (fail)
          go_wp2
          go_ret3
          exact ⟨_, by first | rfl | (simp; done), Kd.R_drewN (Kd.R_mono HR.out (fun _ _ => trivial)) _, pw_below_drewN HT.out.hB _⟩
  · rw [if_neg c] at H
    simp only [Option.some.injEq, Prod.mk.injEq] at H
    obtain ⟨rfl, rfl, rfl⟩ := H
    have c3b : (e0 != 0) = true := bne_iff_ne.mpr c
    have c3c : (e0 == 0) = false := beq_eq_false_iff_ne.mpr c
    clear c
    go_enter Try.func26, Try.ntmps26
    go_wp2_with ((with_reducible refine gate_callee (f := 20) rfl ?_); refine goesL_ (some 15) rfl rfl Try.func20 (by kernel_rfl) rfl #[.string a0, .int .i64 a1] rfl (by (try simp only [List.map_toArray, List.map_cons, List.map_nil]); first | done | rfl) ?_; (with_reducible refine (pack_TakeNumber.calls k a0 a1 n0 tz0 e0 _ A1.out).mono ?_); rintro e w1 ⟨rfl, hb0⟩; refine ⟨_, rfl, ?_⟩; have hb := hb0.below; clear hb0; have m1 := Aside0.mk (below_step HB.out hb); clear HS HB cs; have HB := m1; clear m1 hb)
    go_quiet (fail)
    go_wp2
    go_ret3
    exact ⟨_, by first | rfl | (simp; done), Kd.R_nil _ _ _ _ _, pw_below_drewN (below_alloc (below_alloc HB.out _) _) _⟩


/-! ### ententeref01_Same: function 28 -/
def ententeref01_Same.l0 : Nat → List ByteArray → List ByteArray → Int → Option (Bool)
  | 0, _, _, _ => none
  | k + 1, x0, x1, x5 => if x5 < (x0.length : Int) then (if 0 ≤ x5 then (if x5 < (x1.length : Int) then (if (rdOf ByteArray.empty x0 x5).toList = (rdOf ByteArray.empty x1 x5).toList then (ententeref01_Same.l0 k x0 x1 (wrap64 (x5 + 1))) else (some false)) else (none)) else (none)) else (some true)
def ententeref01_Same.f (k : Nat) (l0 : List ByteArray) (l1 : List ByteArray) : Option (Bool) := if (l0.length : Int) = (l1.length : Int) then (ententeref01_Same.l0 k l0 l1 0) else (some false)
theorem ententeref01_Same.mono_l : ∀ k, (∀ y0 y1 y2, LeO (ententeref01_Same.l0 k y0 y1 y2) (ententeref01_Same.l0 (k + 1) y0 y1 y2))
  | 0 => fun _ _ _ r h => by simp [ententeref01_Same.l0] at h
  | k + 1 => by
    have ih0 := ententeref01_Same.mono_l k
    · intro y0 y1 y2
      unfold ententeref01_Same.l0
      repeat' first
      | (with_reducible exact ih0 _ _ _)
      | (with_reducible exact LeO.refl _)
      | (with_reducible exact LeO.none _)
      | (with_reducible refine LeO.ite ?_ ?_)
      | (with_reducible refine LeO.bind ?_ (fun _ => ?_))
      | exact ih0 _ _ _
      | exact LeO.none _
      | refine LeO.ite ?_ ?_
      | refine LeO.bind ?_ (fun _ => ?_)
theorem ententeref01_Same.mono : ∀ a0 a1 k, LeO (ententeref01_Same.f k a0 a1) (ententeref01_Same.f (k + 1) a0 a1) := by
  intro a0 a1 k
  have ih0 := ententeref01_Same.mono_l k
  unfold ententeref01_Same.f
  repeat' first
      | (with_reducible exact ih0 _ _ _)
      | (with_reducible exact LeO.refl _)
      | (with_reducible exact LeO.none _)
      | (with_reducible refine LeO.ite ?_ ?_)
      | (with_reducible refine LeO.bind ?_ (fun _ => ?_))
      | exact ih0 _ _ _
      | exact LeO.none _
      | refine LeO.ite ?_ ?_
      | refine LeO.bind ?_ (fun _ => ?_)
set_option maxHeartbeats 8000000 in
set_option maxRecDepth 100000 in
theorem ententeref01_Same.calls (k : Nat) (A0 : Option Addr) (c0 : Nat) (l0 : List ByteArray) (A1 : Option Addr) (c1 : Nat) (l1 : List ByteArray) (r : Bool) (w : World) (hr0 : Kd.C Kd.string w A0 l0.length l0) (hc0 : l0.length ≤ c0) (hr1 : Kd.C Kd.string w A1 l1.length l1) (hc1 : l1.length ≤ c1) (h : ententeref01_Same.f k l0 l1 = some r) :
    Calls Try.prog 28 #[.slice A0 l0.length c0, .slice A1 l1.length c1] w fun e w' => e = .returned (.bool r) ∧ Drawn0 w w' := by
  have HR0 := Aside0.mk hr0
  have HC0 := Aside0.mk hc0
  clear hr0 hc0
  have HR1 := Aside0.mk hr1
  have HC1 := Aside0.mk hc1
  clear hr1 hc1
  have H : (if (l0.length : Int) = (l1.length : Int) then (ententeref01_Same.l0 k l0 l1 0) else (some false)) = some r := h
  clear h
  by_cases c3 : (l0.length : Int) = (l1.length : Int)
  · rw [if_pos c3] at H
    have c3b0 : ((l0.length : Int) == (l1.length : Int)) = true := beq_iff_eq.mpr c3
    have c3b1 : ((l0.length : Int) != (l1.length : Int)) = false := bne_eq_false_iff_eq.mpr c3
    have c3b2 : (l0.length == l1.length) = true := by first | simpa using c3 | (simp at c3 ⊢; omega)
    clear c3
    have H' := Aside0.mk H
    clear H
    go_enter Try.func28, Try.ntmps28
    go_wp2
    repeat (go_quiet (fail); try go_wp2)
    go_loopg [5] k (fun kq v5 w' => ∃ (x5_1 : Int), v5 = .int .i64 x5_1 ∧ Aside0 (ententeref01_Same.l0 kq l0 l1 x5_1 = some r) ∧ Aside0 (kq ≤ k) ∧ Drawn0 w w')
    case atStart => exact ⟨(0), (by first | rfl | (simp; done) | (simp [*]; done)), H', ⟨Nat.le_refl _⟩, by repeat (first | exact Drawn0.refl _ | apply Drawn0.step)⟩
    case round =>
      clear H'
      try clear c1
      try clear c2
      try clear p2
      try clear c3
      try clear c3b0
      try clear c3b1
      try clear c3b2
      obtain ⟨x5_1, rfl, HA, HK1, ⟨m1, rfl⟩⟩ := hrel
      cases gk with
      | zero => exact absurd HA.out (by simp [ententeref01_Same.l0])
      | succ k1 =>
        have H := HA.out
        clear HA
        simp only [ententeref01_Same.l0] at H
        by_cases c4 : x5_1 < (l0.length : Int)
        · rw [if_pos c4] at H
          have c4b0 : decide (x5_1 < (l0.length : Int)) = true := decide_eq_true c4
          clear c4
          by_cases c5 : 0 ≤ x5_1
          · rw [if_pos c5] at H
            have c5b0 : decide (0 ≤ x5_1) = true := decide_eq_true c5
            clear c5
            by_cases c6 : x5_1 < (l1.length : Int)
            · rw [if_pos c6] at H
              have c6b0 : decide (x5_1 < (l1.length : Int)) = true := decide_eq_true c6
              clear c6
              by_cases c7 : (rdOf ByteArray.empty l0 x5_1).toList = (rdOf ByteArray.empty l1 x5_1).toList
              · rw [if_pos c7] at H
                have c7b0 : ((rdOf ByteArray.empty l0 x5_1).toList == (rdOf ByteArray.empty l1 x5_1).toList) = true := beq_iff_eq.mpr c7
                have c7b1 : ((rdOf ByteArray.empty l0 x5_1).toList != (rdOf ByteArray.empty l1 x5_1).toList) = false := bne_eq_false_iff_eq.mpr c7
                clear c7
                have H' := Aside0.mk H
                clear H
                have p133 : 0 ≤ (x5_1 : Int) := of_decide_eq_true (by first | (with_reducible assumption) | assumption)
                have q133 : x5_1 < (l0.length : Int) := of_decide_eq_true (by first | (with_reducible assumption) | assumption)
                obtain ⟨ad133, e133, hx133_0⟩ := Kd.at_string HR0.out x5_1 p133 q133
                cases e133
                replace p133 := eq_true p133
                replace q133 := eq_true q133
                have p134 : 0 ≤ (x5_1 : Int) := of_decide_eq_true (by first | (with_reducible assumption) | assumption)
                have q134 : x5_1 < (l1.length : Int) := of_decide_eq_true (by first | (with_reducible assumption) | assumption)
                obtain ⟨ad134, e134, hx134_0⟩ := Kd.at_string HR1.out x5_1 p134 q134
                cases e134
                replace p134 := eq_true p134
                replace q134 := eq_true q134
                go_wp2
                repeat (go_quiet (fail); try go_wp2)
                go_roundg k1
                case measure => have := HK1.out; omega
                case rel => exact ⟨(wrap64 (x5_1 + 1)), (by first | rfl | (simp; done) | (simp [*]; done)), H', ⟨by have := HK1.out; omega⟩, by repeat (first | exact Drawn0.refl _ | apply Drawn0.step)⟩
              · rw [if_neg c7] at H
                have c7b0 : ((rdOf ByteArray.empty l0 x5_1).toList == (rdOf ByteArray.empty l1 x5_1).toList) = false := beq_eq_false_iff_ne.mpr c7
                have c7b1 : ((rdOf ByteArray.empty l0 x5_1).toList != (rdOf ByteArray.empty l1 x5_1).toList) = true := bne_iff_ne.mpr c7
                obtain rfl := Option.some.inj H
                have p133 : 0 ≤ (x5_1 : Int) := of_decide_eq_true (by first | (with_reducible assumption) | assumption)
                have q133 : x5_1 < (l0.length : Int) := of_decide_eq_true (by first | (with_reducible assumption) | assumption)
                obtain ⟨ad133, e133, hx133_0⟩ := Kd.at_string HR0.out x5_1 p133 q133
                cases e133
                replace p133 := eq_true p133
                replace q133 := eq_true q133
                have p134 : 0 ≤ (x5_1 : Int) := of_decide_eq_true (by first | (with_reducible assumption) | assumption)
                have q134 : x5_1 < (l1.length : Int) := of_decide_eq_true (by first | (with_reducible assumption) | assumption)
                obtain ⟨ad134, e134, hx134_0⟩ := Kd.at_string HR1.out x5_1 p134 q134
                cases e134
                replace p134 := eq_true p134
                replace q134 := eq_true q134
                go_wp2
                repeat (go_quiet (fail); try go_wp2)
                go_ret
                exact ⟨by first | rfl | (simp; done) | (simp [*]; done), by repeat (first | exact Drawn0.refl _ | apply Drawn0.step)⟩
            · rw [if_neg c6] at H
              exact absurd H (by simp)
          · rw [if_neg c5] at H
            exact absurd H (by simp)
        · rw [if_neg c4] at H
          have c4b0 : decide (x5_1 < (l0.length : Int)) = false := decide_eq_false c4
          clear c4
          obtain rfl := Option.some.inj H
          go_wp2
          repeat (go_quiet (fail); try go_wp2)
          go_ret
          exact ⟨by first | rfl | (simp; done) | (simp [*]; done), by repeat (first | exact Drawn0.refl _ | apply Drawn0.step)⟩
  · rw [if_neg c3] at H
    have c3b0 : ((l0.length : Int) == (l1.length : Int)) = false := beq_eq_false_iff_ne.mpr c3
    have c3b1 : ((l0.length : Int) != (l1.length : Int)) = true := bne_iff_ne.mpr c3
    have c3b2 : (l0.length == l1.length) = false := by first | simpa using c3 | (simp at c3 ⊢; omega)
    obtain rfl := Option.some.inj H
    go_enter Try.func28, Try.ntmps28
    go_wp2
    repeat (go_quiet (fail); try go_wp2)
    go_ret
    exact ⟨by first | rfl | (simp; done) | (simp [*]; done), by repeat (first | exact Drawn0.refl _ | apply Drawn0.step)⟩

end Go.Proofs.Ytfhffabnllicdaa.PC
