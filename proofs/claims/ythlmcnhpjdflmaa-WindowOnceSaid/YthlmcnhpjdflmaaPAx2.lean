-- Written by a program of this session (wip/tools/mp.py over the kit's printer); Lean checks it.
import Derived.Test.YthlmcnhpjdflmaaPAx0
import Derived.Test.YthlmcnhpjdflmaaPAx1
namespace Go.Proofs.Ythlmcnhpjdflmaa.PA
open Go.RowKit Go.Proofs.YthlmcnhpjdflmaaW.PrintWords Go.Proofs.YthlmcnhpjdflmaaW.PrintLast Go.Proofs.YthlmcnhpjdflmaaW.PrintMore
attribute [local go_sem] max2_int min2_int max_two min_two max_three min_three max_four min_four   -- for this text's walks alone
set_option linter.unusedVariables false
set_option linter.unusedSimpArgs false

/-! ### slices_Reverse_int_int: function 29 -/
def slices_Reverse_int_int.l0 : Nat → List Int → Int → Int → Option (List Int)
  | 0, _, _, _ => none
  | k + 1, x0, x2, x3 => if x2 < x3 then (if 0 ≤ x3 then (if x3 < (x0.length : Int) then (if 0 ≤ x2 then (if x2 < (x0.length : Int) then (slices_Reverse_int_int.l0 k ((x0.set (x2 : Int).toNat (rd x0 x3)).set (x3 : Int).toNat (rd x0 x2)) (wrap64 (x2 + 1)) (wrap64 (x3 - 1))) else (none)) else (none)) else (none)) else (none)) else (some x0)
def slices_Reverse_int_int.f (k : Nat) (l0 : List Int) : Option (List Int) := slices_Reverse_int_int.l0 k l0 0 (wrap64 ((l0.length : Int) - 1))
theorem slices_Reverse_int_int.mono_l : ∀ k, (∀ y0 y1 y2, LeO (slices_Reverse_int_int.l0 k y0 y1 y2) (slices_Reverse_int_int.l0 (k + 1) y0 y1 y2))
  | 0 => fun _ _ _ r h => by simp [slices_Reverse_int_int.l0] at h
  | k + 1 => by
    have ih0 := slices_Reverse_int_int.mono_l k
    · intro y0 y1 y2
      unfold slices_Reverse_int_int.l0
      repeat' first
      | (with_reducible exact ih0 _ _ _)
      | (with_reducible exact LeO.refl _)
      | (with_reducible exact LeO.none _)
      | (with_reducible refine LeO.ite ?_ ?_)
      | (with_reducible refine LeO.bind ?_ (fun _ => ?_))
      | exact ih0 _ _ _
      | exact LeO.none _
      | refine LeO.ite ?_ ?_
      | refine LeO.bind ?_ (fun _ => ?_)
theorem slices_Reverse_int_int.mono : ∀ a0 k, LeO (slices_Reverse_int_int.f k a0) (slices_Reverse_int_int.f (k + 1) a0) := by
  intro a0 k
  have ih0 := slices_Reverse_int_int.mono_l k
  unfold slices_Reverse_int_int.f
  repeat' first
      | (with_reducible exact ih0 _ _ _)
      | (with_reducible exact LeO.refl _)
      | (with_reducible exact LeO.none _)
      | (with_reducible refine LeO.ite ?_ ?_)
      | (with_reducible refine LeO.bind ?_ (fun _ => ?_))
      | exact ih0 _ _ _
      | exact LeO.none _
      | refine LeO.ite ?_ ?_
      | refine LeO.bind ?_ (fun _ => ?_)
def slices_Reverse_int_int.T3 : Bool × List (List Nat × List Nat) := (true, [([], []), ([], []), ([], []), ([], []), ([], []), ([], []), ([4, 5], [4, 5]), ([6], [6]), ([], []), ([], []), ([8, 9], [8, 9]), ([10], [10]), ([0, 1, 0, 1, 4, 5, 6, 7, 11], [0, 1]), ([12, 7, 0, 1, 4, 5, 6, 7, 11], [7, 12]), ([2, 3, 0, 1, 2, 3, 4, 5, 6, 7, 8, 9, 10, 11, 12, 13], [2, 3]), ([14, 11, 13, 0, 1, 2, 3, 4, 5, 6, 7, 8, 9, 10, 11, 12, 13], [11, 14])])
def slices_Reverse_int_int.B3 : List Nat := [0, 0, 0, 0, 0, 0, 48, 112, 0, 0, 768, 1792, 4083, 8179, 16383, 32767]
theorem slices_Reverse_int_int.tab3 : rtab .any (opsOf Try.f29 3) = slices_Reverse_int_int.T3 := by kernel_rfl
theorem slices_Reverse_int_int.bits3 : waitsOk slices_Reverse_int_int.T3.2 slices_Reverse_int_int.B3 = true := by kernel_rfl
set_option maxHeartbeats 8000000 in
set_option maxRecDepth 100000 in
theorem slices_Reverse_int_int.calls (k : Nat) (P0_ : Nat → Prop) (u9000_ : Value) (l0 : List Int) (r : List Int) (w0 w : World) (hB : Below w0.heap.size w0 w) (ho0 : Kd.R (Kd.int .i64) 3 w w0.heap.size P0_ u9000_ l0) (h : slices_Reverse_int_int.f k l0 = some r) :
    Calls Try.prog 29 #[u9000_] w fun e w' => e = .returned (.tuple #[]) ∧ Kd.R (Kd.int .i64) 3 w' w0.heap.size (fun k_ => (P0_ k_ ∨ w.heap.size ≤ k_)) u9000_ r ∧ Below w0.heap.size w0 w' ∧ Kept w w' (fun k_ => P0_ k_) := by
  have HO0 := Aside0.mk (show Kd.R (Kd.int .i64) 3 w w0.heap.size (fun k_ => (P0_ k_ ∨ w.heap.size ≤ k_)) u9000_ l0 from Kd.R_mono ho0 (fun k_ hk => (.inl hk)))
  have HK := Aside0.mk (Kept.refl w (fun k_ => P0_ k_))
  have HW0 := Aside0.mk hB.size
  have HB := Aside0.mk hB
  clear hB
  have H : (slices_Reverse_int_int.l0 k l0 0 (wrap64 ((l0.length : Int) - 1))) = some r := h
  clear h
  have H' := Aside0.mk H
  clear H
  obtain ⟨Ao2, co2, eo2⟩ := Kd.R_slice HO0.out
  subst eo2
  go_enter Try.func29, Try.ntmps29
  go_wp2
  go_loopg [2, 3] k (fun kq v2 v3 w' => ∃ (x0_1 : List Int) (x2_1 : Int) (x3_1 : Int), v2 = .int .i64 x2_1 ∧ v3 = .int .i64 x3_1 ∧ Aside0 (slices_Reverse_int_int.l0 kq x0_1 x2_1 x3_1 = some r) ∧ Aside0 (kq ≤ k) ∧ Aside0 (Kd.R (Kd.int .i64) 3 w' w0.heap.size (fun k_ => (P0_ k_ ∨ w.heap.size ≤ k_)) (.slice Ao2 l0.length co2) x0_1) ∧ Aside0 (Kept w w' (fun k_ => P0_ k_)) ∧ Aside0 (Below w0.heap.size w0 w'))
  case atStart => exact ⟨(l0), (0), (wrap64 ((l0.length : Int) - 1)), (by first | rfl | (simp; done) | (simp [*]; done)), (by first | rfl | (simp; done) | (simp [*]; done)), H', ⟨Nat.le_refl _⟩, ⟨by (with_reducible repeat (first | apply Kd.R_alloc | apply Kd.R_drewN | apply Kd.R_drew)); exact HO0.out⟩, ⟨by repeat (first | (with_reducible first | exact HK.out | apply Kept.alloc | apply Kept.drewN | apply Kept.drew) | exact HK.out)⟩, ⟨by repeat (first | (with_reducible first | exact HB.out | apply below_alloc | apply pw_below_drewN | apply below_drew1) | exact HB.out)⟩⟩
  case round =>
    clear H'
    try clear c2
    try clear p2
    obtain ⟨x0_1, x2_1, x3_1, rfl, rfl, HA, HK1, HO_0, HK, HB⟩ := hrel
    have hl0_1 := (Kd.R_reads' HO_0.out).1
    rw [hl0_1] at HO_0
    (try simp only [hl0_1])
    cases gk with
    | zero => exact absurd HA.out (by simp [slices_Reverse_int_int.l0])
    | succ k1 =>
      have H := HA.out
      clear HA
      simp only [slices_Reverse_int_int.l0] at H
      by_cases c3 : x2_1 < x3_1
      · rw [if_pos c3] at H
        have c3b0 : decide (x2_1 < x3_1) = true := decide_eq_true c3
        clear c3
        by_cases c4 : 0 ≤ x3_1
        · rw [if_pos c4] at H
          have c4b0 : decide (0 ≤ x3_1) = true := decide_eq_true c4
          clear c4
          by_cases c5 : x3_1 < (x0_1.length : Int)
          · rw [if_pos c5] at H
            have c5b0 : decide (x3_1 < (x0_1.length : Int)) = true := decide_eq_true c5
            clear c5
            by_cases c6 : 0 ≤ x2_1
            · rw [if_pos c6] at H
              have c6b0 : decide (0 ≤ x2_1) = true := decide_eq_true c6
              clear c6
              by_cases c7 : x2_1 < (x0_1.length : Int)
              · rw [if_pos c7] at H
                have c7b0 : decide (x2_1 < (x0_1.length : Int)) = true := decide_eq_true c7
                clear c7
                obtain ⟨y115, hy115⟩ : ∃ y_ : List Int, y_ = (x0_1.set (x2_1 : Int).toNat (rd x0_1 x3_1)) := ⟨_, rfl⟩
                replace H : (slices_Reverse_int_int.l0 k1 (y115.set (x3_1 : Int).toNat (rd x0_1 x2_1)) (wrap64 (x2_1 + 1)) (wrap64 (x3_1 - 1))) = some r := by first | (rw [hy115]; with_reducible exact H) | (have H2_ := (Option.bind_some _ _).symm.trans H; rw [hy115]; with_reducible exact H2_) | (have H2_ := (Option.bind_some _ _).symm.trans H; with_reducible exact H2_) | with_reducible exact H | (rw [hy115]; exact H) | exact H
                have Ny115 := Aside0.mk hy115
                clear hy115
                obtain ⟨y116, hy116⟩ : ∃ y_ : List Int, y_ = (y115.set (x3_1 : Int).toNat (rd x0_1 x2_1)) := ⟨_, rfl⟩
                replace H : (slices_Reverse_int_int.l0 k1 y116 (wrap64 (x2_1 + 1)) (wrap64 (x3_1 - 1))) = some r := by first | (rw [hy116]; with_reducible exact H) | (have H2_ := (Option.bind_some _ _).symm.trans H; rw [hy116]; with_reducible exact H2_) | (have H2_ := (Option.bind_some _ _).symm.trans H; with_reducible exact H2_) | with_reducible exact H | (rw [hy116]; exact H) | exact H
                have Ny116 := Aside0.mk hy116
                clear hy116
                have H' := Aside0.mk H
                clear H
                try go_wp2
                have n0_ := Aside0.mk (Kd.R_drew HO_0.out)
                have n1_ := Aside0.mk (Kept.drew HK.out)
                have n2_ := Aside0.mk (below_drew1 HB.out)
                clear HO_0
                clear HK
                clear HB
                have HO_0 := n0_
                have HK := n1_
                have HB := n2_
                clear n0_ n1_ n2_
                have p113 : 0 ≤ (x3_1 : Int) := of_decide_eq_true (by first | (with_reducible assumption) | assumption)
                have q113 : x3_1 < (x0_1.length : Int) := of_decide_eq_true (by first | (with_reducible assumption) | assumption)
                obtain ⟨ad113, e113, hx113_0⟩ := Kd.at_int (Kd.R_reads' HO_0.out).2.2 x3_1 p113 q113
                cases e113
                replace p113 := eq_true p113
                replace q113 := eq_true q113
                have p114 : 0 ≤ (x2_1 : Int) := of_decide_eq_true (by first | (with_reducible assumption) | assumption)
                have q114 : x2_1 < (x0_1.length : Int) := of_decide_eq_true (by first | (with_reducible assumption) | assumption)
                obtain ⟨ad114, e114, hx114_0⟩ := Kd.at_int (Kd.R_reads' HO_0.out).2.2 x2_1 p114 q114
                obtain rfl : ad113 = ad114 := (by injection e114)
                replace p114 := eq_true p114
                replace q114 := eq_true q114
                have p8 : 0 ≤ (x2_1 : Int) := of_decide_eq_true (by first | (with_reducible assumption) | assumption)
                have q8 : (x2_1 : Int) < ((x0_1.length : Int) : Int) := of_decide_eq_true (by first | (with_reducible assumption) | assumption)
                obtain ⟨go8, co8, eo8, gb8, gl8, cl8, HG8⟩ := Kd.R_form HO_0.out (by omega)
                (first | cases eo8 | (injection eo8 with ea_ en_ ec_; (first | subst ea_ | (injection ea_ with ea_; subst ea_)); subst ec_; clear en_))
                have GB8 := Aside0.mk gb8
                have GG8 := Aside0.mk HG8
                clear gb8 gl8 HG8
                have HMgo8 := Aside0.mk (show (P0_ go8 ∨ w.heap.size ≤ go8) from (HO_0.out.1 _ rfl))
                (first | simp only [add_plain] at hx113_0 | skip)
                (first | simp only [add_plain] at hx114_0 | skip)
                obtain ⟨hx8_0, hf8_0⟩ := Kd.R_celln 0 HO_0.out (x2_1 : Int) p8 q8
                replace p8 := eq_true p8
                replace q8 := eq_true q8
                have HP11 := Kd.R_putn HO_0.out (x2_1 : Int) (rd x0_1 x3_1)
                rw [← Ny115.out] at HP11
                have HQ11 := Aside0.mk HP11
                clear HP11
                have p9 : 0 ≤ (x3_1 : Int) := of_decide_eq_true (by first | (with_reducible assumption) | assumption)
                have q9 : (x3_1 : Int) < ((x0_1.length : Int) : Int) := of_decide_eq_true (by first | (with_reducible assumption) | assumption)
                obtain ⟨hx9_0, hf9_0⟩ := Kd.R_celln 0 HQ11.out (x3_1 : Int) p9 q9
                replace p9 := eq_true p9
                replace q9 := eq_true q9
                have HP12 := Kd.R_putn HQ11.out (x3_1 : Int) (rd x0_1 x2_1)
                rw [← Ny116.out] at HP12
                have HQ12 := Aside0.mk HP12
                clear HP12
                refine start_ (n := 16) (S := fun w' => w'.cell? ⟨go8, (x3_1).toNat, none⟩ = some (.int .i64 (rd x0_1 x3_1)) ∧ w'.cell? ⟨go8, (x2_1).toNat, none⟩ = some (.int .i64 (rd x0_1 x2_1))) (ds := [13, 15]) #[false, false, false, false, false, false, false, false, false, false, false, false, false, false, false, false] (by kernel_rfl) rfl rfl ⟨hx113_0, hx114_0⟩ (fun hHeld => ?_); refine with_tabW slices_Reverse_int_int.tab3 slices_Reverse_int_int.bits3 (fun HT_ HW_ => ?_)
                generalize wr.drew = w10 at HO_0 HK HB GG8 HQ11 HQ12 hf8_0 hf9_0 hx113_0 hx114_0 hx8_0 hx9_0 hHeld ⊢
                refine pure_ (i := 0) (N := some 14) (v := ?_) (a' := ?_) #[true, false, false, false, false, false, false, false, false, false, false, false, false, false, false, false] rfl rfl (any_of HT_.out (by kernel_rfl)) (fun _ _ _ h => h) (Or.inl ⟨by rfl, ?_⟩) ?_ ?_
                rotate_left
                · intro w'
                  go_simp
                  with_reducible rfl
                rotate_left
                · simp only [Act.put, List.setIfInBounds_toArray, List.set_cons_zero, List.set_cons_succ, i64_w, i32_w]
                  rfl
                refine pure_ (i := 1) (N := some 15) (v := ?_) (a' := ?_) #[true, true, false, false, false, false, false, false, false, false, false, false, false, false, false, false] rfl rfl (any_of HT_.out (by kernel_rfl)) (fun _ _ _ h => h) (Or.inl ⟨by rfl, ?_⟩) ?_ ?_
                rotate_left
                · intro w'
                  go_simp
                  with_reducible rfl
                rotate_left
                · simp only [Act.put, List.setIfInBounds_toArray, List.set_cons_zero, List.set_cons_succ, i64_w, i32_w]
                  rfl
                refine pure_ (i := 2) (N := some 16) (v := ?_) (a' := ?_) #[true, true, true, false, false, false, false, false, false, false, false, false, false, false, false, false] rfl rfl (any_of HT_.out (by kernel_rfl)) (fun _ _ _ h => h) (Or.inl ⟨by rfl, ?_⟩) ?_ ?_
                rotate_left
                · intro w'
                  go_simp
                  with_reducible rfl
                rotate_left
                · simp only [Act.put, List.setIfInBounds_toArray, List.set_cons_zero, List.set_cons_succ, i64_w, i32_w]
                  rfl
                refine pure_ (i := 3) (N := some 17) (v := ?_) (a' := ?_) #[true, true, true, true, false, false, false, false, false, false, false, false, false, false, false, false] rfl rfl (any_of HT_.out (by kernel_rfl)) (fun _ _ _ h => h) (Or.inl ⟨by rfl, ?_⟩) ?_ ?_
                rotate_left
                · intro w'
                  go_simp
                  with_reducible rfl
                rotate_left
                · simp only [Act.put, List.setIfInBounds_toArray, List.set_cons_zero, List.set_cons_succ, i64_w, i32_w]
                  rfl
                refine pure_ (i := 4) (N := some 18) (v := ?_) (a' := ?_) #[true, true, true, true, true, false, false, false, false, false, false, false, false, false, false, false] rfl rfl (any_of HT_.out (by kernel_rfl)) (fun _ _ _ h => h) (Or.inl ⟨by rfl, ?_⟩) ?_ ?_
                rotate_left
                · intro w'
                  go_simp
                  with_reducible rfl
                rotate_left
                · simp only [Act.put, List.setIfInBounds_toArray, List.set_cons_zero, List.set_cons_succ, i64_w, i32_w]
                  rfl
                refine pure_ (i := 5) (N := some 19) (v := ?_) (a' := ?_) #[true, true, true, true, true, true, false, false, false, false, false, false, false, false, false, false] rfl rfl (any_of HT_.out (by kernel_rfl)) (fun _ _ _ h => h) (Or.inl ⟨by rfl, ?_⟩) ?_ ?_
                rotate_left
                · intro w'
                  go_simp
                  with_reducible rfl
                rotate_left
                · simp only [Act.put, List.setIfInBounds_toArray, List.set_cons_zero, List.set_cons_succ, i64_w, i32_w]
                  rfl
                refine pure_ (i := 6) (N := some 20) (v := ?_) (a' := ?_) #[true, true, true, true, true, true, true, false, false, false, false, false, false, false, false, false] rfl rfl (any_of HT_.out (by kernel_rfl)) (fun _ _ _ h => h) (Or.inl ⟨by rfl, ?_⟩) ?_ ?_
                rotate_left
                · intro w'
                  go_simp
                  with_reducible rfl
                rotate_left
                · simp only [Act.put, List.setIfInBounds_toArray, List.set_cons_zero, List.set_cons_succ, i64_w, i32_w]
                  rfl
                refine pure_ (i := 8) (N := some 22) (v := ?_) (a' := ?_) #[true, true, true, true, true, true, true, false, true, false, false, false, false, false, false, false] rfl rfl (any_of HT_.out (by kernel_rfl)) (fun _ _ _ h => h) (Or.inl ⟨by rfl, ?_⟩) ?_ ?_
                rotate_left
                · intro w'
                  go_simp
                  with_reducible rfl
                rotate_left
                · simp only [Act.put, List.setIfInBounds_toArray, List.set_cons_zero, List.set_cons_succ, i64_w, i32_w]
                  rfl
                refine pure_ (i := 9) (N := some 23) (v := ?_) (a' := ?_) #[true, true, true, true, true, true, true, false, true, true, false, false, false, false, false, false] rfl rfl (any_of HT_.out (by kernel_rfl)) (fun _ _ _ h => h) (Or.inl ⟨by rfl, ?_⟩) ?_ ?_
                rotate_left
                · intro w'
                  go_simp
                  with_reducible rfl
                rotate_left
                · simp only [Act.put, List.setIfInBounds_toArray, List.set_cons_zero, List.set_cons_succ, i64_w, i32_w]
                  rfl
                refine pure_ (i := 10) (N := some 24) (v := ?_) (a' := ?_) #[true, true, true, true, true, true, true, false, true, true, true, false, false, false, false, false] rfl rfl (any_of HT_.out (by kernel_rfl)) (fun _ _ _ h => h) (Or.inl ⟨by rfl, ?_⟩) ?_ ?_
                rotate_left
                · intro w'
                  go_simp
                  with_reducible rfl
                rotate_left
                · simp only [Act.put, List.setIfInBounds_toArray, List.set_cons_zero, List.set_cons_succ, i64_w, i32_w]
                  rfl
                refine take_ (i := 7) (N := some 21) (v := ?_) (a' := ?_) #[true, true, true, true, true, true, true, true, true, true, true, false, false, false, false, false] rfl rfl (take_ofW HT_.out HW_.out (by kernel_rfl)) (fun _ _ _ h => h) (Or.inl ⟨by rfl, ?_⟩) hHeld ?_ ?_
                rotate_left
                · rintro w' ⟨s0, s1⟩
                  go_simp
                  with_reducible rfl
                rotate_left
                · simp only [Act.put, List.setIfInBounds_toArray, List.set_cons_zero, List.set_cons_succ, i64_w, i32_w]
                  rfl
                refine take_ (i := 11) (N := some 25) (v := ?_) (a' := ?_) #[true, true, true, true, true, true, true, true, true, true, true, true, false, false, false, false] rfl rfl (take_ofW HT_.out HW_.out (by kernel_rfl)) (fun _ _ _ h => h) (Or.inl ⟨by rfl, ?_⟩) hHeld ?_ ?_
                rotate_left
                · rintro w' ⟨s0, s1⟩
                  go_simp
                  with_reducible rfl
                rotate_left
                · simp only [Act.put, List.setIfInBounds_toArray, List.set_cons_zero, List.set_cons_succ, i64_w, i32_w]
                  rfl
                refine pure_ (i := 12) (N := some 26) (v := ?_) (a' := ?_) #[true, true, true, true, true, true, true, true, true, true, true, true, true, false, false, false] rfl rfl (any_of HT_.out (by kernel_rfl)) (fun _ _ _ h => h) (Or.inl ⟨by rfl, ?_⟩) ?_ ?_
                rotate_left
                · intro w'
                  go_simp
                  with_reducible rfl
                rotate_left
                · simp only [Act.put, List.setIfInBounds_toArray, List.set_cons_zero, List.set_cons_succ, i64_w, i32_w]
                  rfl
                refine last_ (i := 13) (N := none) #[true, true, true, true, true, true, true, true, true, true, true, true, true, true, false, false] rfl rfl (one_of HT_.out (by kernel_rfl)) (by decide) (fun K hK => ?_)
                refine skip_ (w1 := ?_) (by rfl) rfl ?_ ?_
                rotate_left
                · go_simp
                  rfl
                refine hK.out _ _ ?_
                clear hK K
                refine pure_ (i := 14) (N := some 27) (v := ?_) (a' := ?_) #[true, true, true, true, true, true, true, true, true, true, true, true, true, true, true, false] rfl rfl (any_of HT_.out (by kernel_rfl)) (fun _ _ _ h => h) (Or.inl ⟨by rfl, ?_⟩) ?_ ?_
                rotate_left
                · intro w'
                  go_simp
                  with_reducible rfl
                rotate_left
                · simp only [Act.put, List.setIfInBounds_toArray, List.set_cons_zero, List.set_cons_succ, i64_w, i32_w]
                  rfl
                refine last_ (i := 15) (N := none) #[true, true, true, true, true, true, true, true, true, true, true, true, true, true, true, true] rfl rfl (one_of HT_.out (by kernel_rfl)) (by decide) (fun K hK => ?_)
                refine skip_ (w1 := ?_) (by rfl) rfl ?_ ?_
                rotate_left
                · go_simp
                  rfl
                refine hK.out _ _ ?_
                clear hK K
                refine done_ (done_of HT_.out (by kernel_rfl)) ?_
                try go_wp2
                (try simp only [← hl0_1])
                go_roundg k1
                case measure => have := HK1.out; omega
                case rel => exact ⟨(y116), (wrap64 (x2_1 + 1)), (wrap64 (x3_1 - 1)), (by first | rfl | (simp; done) | (simp [*]; done)), (by first | rfl | (simp; done) | (simp [*]; done)), H', ⟨by have := HK1.out; omega⟩, ⟨by (try simp only [hl0_1]); (with_reducible repeat (first | apply Kd.R_alloc | apply Kd.R_drewN | apply Kd.R_drew)); exact HQ12.out⟩, ⟨by repeat (first | (with_reducible first | exact HK.out | apply Kept.alloc | apply Kept.drewN | apply Kept.drew | refine Kept.setCell ?_ HMgo8.out _ | refine Kept.setCell ?_ HMgo8.out _) | exact HK.out)⟩, ⟨by repeat (first | (with_reducible first | exact HB.out | apply below_alloc | apply pw_below_drewN | apply below_drew1 | refine below_set ?_ GB8.out | refine below_set ?_ GB8.out) | exact HB.out)⟩⟩
              · rw [if_neg c7] at H
                exact absurd H (by simp)
            · rw [if_neg c6] at H
              exact absurd H (by simp)
          · rw [if_neg c5] at H
            exact absurd H (by simp)
        · rw [if_neg c4] at H
          exact absurd H (by simp)
      · rw [if_neg c3] at H
        have c3b0 : decide (x2_1 < x3_1) = false := decide_eq_false c3
        clear c3
        obtain rfl := Option.some.inj H
        go_wp2
        first | go_end0 | ((try simp only [Exit.inBlock, Exit.then]); refine bodyPost_ret (results_none rfl _ _ _) rfl ?_)
        exact ⟨by first | rfl | (simp [errW_none, errW_some] <;> rfl) | (simp [*, errW_none, errW_some] <;> rfl), (by first | exact (by (with_reducible repeat (first | apply Kd.R_alloc | apply Kd.R_drewN | apply Kd.R_drew)); exact HO_0.out) | (simp only [hl0_1]; exact (by (with_reducible repeat (first | apply Kd.R_alloc | apply Kd.R_drewN | apply Kd.R_drew)); exact HO_0.out))), by repeat (first | (with_reducible first | exact HB.out | apply below_alloc | apply pw_below_drewN | apply below_drew1) | exact HB.out), by repeat (first | (with_reducible first | exact HK.out | apply Kept.alloc | apply Kept.drewN | apply Kept.drew) | exact HK.out)⟩

-- NOT PRINTED: function 28 (slices_rotateLeft_int)

-- NOT PRINTED: function 26 (slices_rotateRight_int)

/-! ### slices_Insert_int_int: function 22 -/
theorem Ins_int_info : (Try.prog.info? 3).map (fun i => (i.zero, i.size, i.bytes)) = some (some (.int .i64 0), 1, 8) := by kernel_rfl
set_option maxHeartbeats 8000000 in
set_option maxRecDepth 100000 in
/-- slices.Insert of one element, into a row of the call's own. -/
theorem Ins_int_at (sv : Value) (n i base : Nat) (cs : List Value) (vb : Nat) (vs : List Value) (w : World) (hown : w.ownsRow base 3 1 sv n cs) (hcs : ∀ u ∈ cs, u.oneCell' = true) (hi : i ≤ n) (hbase : base ≤ w.heap.size) (hn : (n + 1) * 8 ≤ 140737488355328)
    (hvl : vs.length = 1) (hvb : w.heap[vb]? = some (.cells vs.toArray 3 (0, 0))) (hvs : ∀ u ∈ vs, u.oneCell' = true) (hne : some vb ≠ sv.ownBlock) (res : List Value) (hres : Aside0 (res = cs.take (i * 1) ++ vs ++ cs.drop (i * 1))) :
    Calls Try.prog 22 #[sv, .int .i64 (i : Int), .slice (some ⟨vb, 0, none⟩) 1 1] w fun e w' => ∃ v' : Value, e = .returned v' ∧ w'.ownsRow base 3 1 v' (n + 1) res ∧ w.grownBy w' sv.ownBlock := by
  obtain ⟨i0, hinfo, hz0, hz1, hz2⟩ := info_parts Ins_int_info
  have hzz : (.int .i64 0 : Value).cells.size = 1 := rfl
  have hcl : cs.length = n * 1 := hown.1
  have hvc : ∀ j u, vs[j]? = some u → w.cell? ((⟨vb, 0, none⟩ : Addr).add j) = some u := fun j u hj => by
    rw [Addr.add_lit, Nat.zero_add, blk_cell hvb]
    simpa using hj
  have HV := Aside0.mk hvc
  clear hvc
  by_cases hin : i = n
  · subst hin
    have htk : cs.take (i * 1) ++ vs ++ cs.drop (i * 1) = cs ++ vs := by rw [← hcl, List.take_length, List.drop_length, List.append_nil]
    have HTK : Aside0 (res = cs ++ vs) := ⟨hres.out.trans htk⟩
    have HO := Aside0.mk hown
    rcases hown.2 with ⟨rfl, h0⟩ | ⟨g, cap, cur, rfl, hg, hh, hnc, hcm, hcsz, ht⟩
    · subst h0
      clear hown hcl htk hcs
      go_enter Try.func22, Try.ntmps22
      go_wp2_with (at_builtin; refine wpList_append_own _ rfl _ _ 22 rfl base 3 i0 (.int .i64 0) 1 8 Try.underlying22 hinfo hz0 hz1 hz2 rfl (by decide) _ 0 cs rfl HO.out ⟨vb, 0, none⟩ 1 1 vs rfl (by rw [hvl]) HV.out hvs (by unfold maxLen; omega) (by omega) hbase ?_; intro v' w1 hown' hgrow hnil)
      go_ret
      exact ⟨_, rfl, by rw [HTK.out]; exact hown', hgrow⟩
    · clear hown hcl htk hcs hh ht hcsz
      have hc63 : cap ≤ 9223372036854775807 := by unfold maxLen at hcm; exact hcm
      clear hcm
      by_cases hci : cap = i
      · subst hci
        go_enter Try.func22, Try.ntmps22
        go_wp2_with (at_builtin; refine wpList_append_own _ rfl _ _ 22 rfl base 3 i0 (.int .i64 0) 1 8 Try.underlying22 hinfo hz0 hz1 hz2 rfl (by decide) _ cap cs rfl HO.out ⟨vb, 0, none⟩ 1 1 vs rfl (by rw [hvl]) HV.out hvs (by unfold maxLen; omega) (by omega) hbase ?_; intro v' w1 hown' hgrow hnil)
        go_ret
        exact ⟨_, rfl, by rw [HTK.out]; exact hown', hgrow⟩
      · go_enter Try.func22, Try.ntmps22
        go_wp2_with (at_builtin; refine wpList_append_own _ rfl _ _ 22 rfl base 3 i0 (.int .i64 0) 1 8 Try.underlying22 hinfo hz0 hz1 hz2 rfl (by decide) _ i cs rfl HO.out ⟨vb, 0, none⟩ 1 1 vs rfl (by rw [hvl]) HV.out hvs (by unfold maxLen; omega) (by omega) hbase ?_; intro v' w1 hown' hgrow hnil)
        go_ret
        exact ⟨_, rfl, by rw [HTK.out]; exact hown', hgrow⟩
  · obtain ⟨g, cap, cur, rfl, hg, hh, hnc, hcm, hcsz, ht⟩ : ∃ g cap cur, sv = .slice (some ⟨g, 0, none⟩) n cap ∧ base ≤ g ∧ w.heap[g]? = some (.cells cur 3 (0, 0)) ∧ n ≤ cap ∧ cap ≤ maxLen ∧ cur.size = cap * 1 ∧ cur.toList.take (n * 1) = cs := by
      rcases hown.2 with ⟨_, h0⟩ | h
      · omega
      · exact h
    have hc63 : cap ≤ 9223372036854775807 := by unfold maxLen at hcm; exact hcm
    have hsz : (Try.prog.info? 3).map (·.size) = some 1 := by rw [hinfo]; simp [hz1]
    have hsz2 : ∀ w, (Go.sizeOf 3).run Try.prog w = .ok 1 w := fun w => by simp [sizeOf, typeInfo, hinfo, hz1]
    have hilt : i < n := by omega
    have hgw : g < w.heap.size := (Array.getElem?_eq_some_iff.1 hh).1
    have hvw : vb < w.heap.size := (Array.getElem?_eq_some_iff.1 hvb).1
    have hgv : vb ≠ g := fun h => hne (by rw [h]; rfl)
    by_cases hroom : n + 1 ≤ cap
    · have hov : ∀ o lb cb, (callFunc 25 #[.slice (some ⟨vb, 0, none⟩) 1 1, .slice (some ⟨g, o, none⟩) lb cb]).run Try.prog w = .ok (.value (.bool false)) w := fun o lb cb => by
        rw [run_callFunc_extern Try.func25 (by kernel_rfl) (by kernel_rfl) (by kernel_rfl) (e := Extern.SlicesOverlaps.overlaps #[22, 22] #[4]) (by kernel_rfl),
          Lib.run_overlaps_apart w 22 4 3 Try.underlying22 1 hsz2 ⟨vb, 0, none⟩ ⟨g, o, none⟩ 1 1 lb cb hgv 3 3 vs.toArray.size cur.size (by simp [World.shape?, hvb]) (by simp [World.shape?, hh]) (by rw [hcsz]; omega) (by simp [World.frozen?, hvb]) (by simp [World.frozen?, hvb])]
        rfl
      have HOV := Aside0.mk hov
      clear hov
      have hci : ¬ cap = i := by omega
      have hci1 : (i : Int) + 1 ≤ (cap : Int) := by omega
      have hci2 : ¬ cap = i + 1 := by omega
      have hci3 : ((i : Int) + 1).toNat = i + 1 := by omega
      have hn1 : n + 1 ≤ 9223372036854775807 := by omega
      have HC := Aside0.mk hcs
      have HT := Aside0.mk ht
      have HCM := Aside0.mk hcm
      clear hown hcs hcm hsz2 hin ht
      go_enter Try.func22, Try.ntmps22
      go_wp2_with (simp only [HOV.out])
      have hx1 : IntKind.i64.wrap ((i : Int) + 1) = (i : Int) + 1 := by rw [IntKind.wrap_i64]; omega
      have hx2 : (0 : Int) ≤ (i : Int) + 1 := by omega
      have hx3 : (i : Int) + 1 ≤ (n : Int) + 1 := by omega
      have hx4 : (i : Int) ≤ (n : Int) + 1 := by omega
      have hcur : ((cur.toList.drop (i * 1)).take ((n - i) * 1)).length = (n - i) * 1 := by
        rw [List.length_take, List.length_drop, Array.length_toList (xs := cur), hcsz, Nat.min_eq_left]
        omega
      have hmem : ∀ u ∈ (cur.toList.drop (i * 1)).take ((n - i) * 1), u.oneCell' = true := fun u hu => by
        refine HC.out u ?_
        rw [← HT.out, List.mem_take_iff_getElem] 
        obtain ⟨j, hj, rfl⟩ := List.mem_take_iff_getElem.1 hu
        rw [List.length_drop, Array.length_toList (xs := cur)] at hj
        refine ⟨i * 1 + j, by rw [Array.length_toList (xs := cur)]; omega, ?_⟩
        rw [List.getElem_drop]
      have HS : Aside0 (∀ (j : Nat) (v : Value), ((cur.toList.drop (i * 1)).take ((n - i) * 1))[j]? = some v → w.drew.cell? ((⟨g, i * 1, none⟩ : Addr).add j) = some v) := ⟨fun j v hj => by
        rw [Addr.add_lit]
        show w.cell? _ = _
        rw [blk_cell hh]
        rw [List.getElem?_take] at hj
        split at hj
        · rw [List.getElem?_drop] at hj
          simpa using hj
        · cases hj⟩
      have HM := Aside0.mk hmem
      have HU := Aside0.mk hcur
      clear hmem hcur
      go_region_law (refine My.step_copy_k rfl _ _ 22 22 rfl 3 1 Try.underlying22 hsz g ((i + 1) * 1) (n + 1 - (i + 1)) (cap - (i + 1)) ⟨g, i * 1, none⟩ (n + 1 - i) (cap - i) (by simp [Act.eval, Act.put]) (by simp [Act.eval, Act.put]) cur 3 hh ((cur.toList.drop (i * 1)).take ((n - i) * 1)) (by rw [HU.out]; simp only [Nat.min_def]; split <;> omega) HS.out (by rw [HU.out, hcsz]; omega) HM.out ?_; intro w2 hw2 hg2)
      have hg2' : w.grownBy w2 (some g) := My.gtrans (My.gdrew w (some g)) hg2 (fun j e => .inr e)
      have hvb2 : w2.heap[vb]? = some (.cells vs.toArray 3 (0, 0)) := (hg2'.block vb hvw (fun e => hgv (Option.some.inj e))).trans hvb
      have HV2 : Aside0 (∀ (j : Nat) (u : Value), vs[j]? = some u → w2.cell? ((⟨vb, 0, none⟩ : Addr).add j) = some u) := ⟨fun j u hj => by
        rw [Addr.add_lit, Nat.zero_add, blk_cell hvb2]
        simpa using hj⟩
      have hs1 : (splice cur.toList ((i + 1) * 1) ((cur.toList.drop (i * 1)).take ((n - i) * 1))).toArray.size = cap * 1 := by
        have e1 := My.splice_len cur.toList ((i + 1) * 1) ((cur.toList.drop (i * 1)).take ((n - i) * 1)) (by rw [HU.out, Array.length_toList (xs := cur), hcsz]; omega)
        rw [Array.length_toList (xs := cur), hcsz] at e1
        simpa using e1
      have HF2 : Aside0 (i * 1 + vs.length ≤ (splice cur.toList ((i + 1) * 1) ((cur.toList.drop (i * 1)).take ((n - i) * 1))).toArray.size) := ⟨by rw [hs1, hvl]; omega⟩
      clear hs1
      have HG2 := Aside0.mk hg2'
      have HW2 := Aside0.mk hw2
      have HH := Aside0.mk hh
      clear hg2 hg2' hvb2 hw2 hh hx1
      go_wp2_with ((with_reducible refine gate_dst (N := 82) rfl ?_); go_loud (refine My.wpList_copy_k rfl (.tmp 80) (.tmp 81) 22 22 rfl 3 1 Try.underlying22 hsz g (i * 1) (n + 1 - i) (cap - i) ⟨vb, 0, none⟩ 1 1 (by simp [Act.eval]) (by simp [Act.eval]) _ 3 HW2.out vs (by rw [hvl]; simp only [Nat.min_def]; split <;> omega) HV2.out HF2.out hvs ?_; intro w3 hw3 hg3; have HW3 := Aside0.mk hw3; have HG3 := Aside0.mk hg3; clear hw3 hg3))
      go_ret
      have hlen : (splice (splice cur.toList ((i + 1) * 1) ((cur.toList.drop (i * 1)).take ((n - i) * 1))) (i * 1) vs).length = cap * 1 := by
        have e1 : (splice cur.toList ((i + 1) * 1) ((cur.toList.drop (i * 1)).take ((n - i) * 1))).length = cur.toList.length := My.splice_len _ _ _ (by rw [HU.out, Array.length_toList (xs := cur), hcsz]; omega)
        rw [My.splice_len _ _ _ (by rw [e1, Array.length_toList (xs := cur), hcsz, hvl]; omega), e1, Array.length_toList (xs := cur), hcsz]
      have hfin : (splice (splice cur.toList ((i + 1) * 1) ((cur.toList.drop (i * 1)).take ((n - i) * 1))) (i * 1) vs).take ((n + 1) * 1) = cs.take (i * 1) ++ vs ++ cs.drop (i * 1) := by
        rw [← HT.out]
        exact My.ins_room cur.toList i n 1 vs hvl hi (by rw [Array.length_toList (xs := cur), hcsz]; omega)
      refine ⟨_, rfl, ⟨?_, .inr ⟨g, cap, _, rfl, hg, HW3.out, hroom, HCM.out, ?_, ?_⟩⟩, My.gtrans HG2.out HG3.out (fun j e => .inr e)⟩
      · rw [hres.out, List.length_append, List.length_append, List.length_take, List.length_drop, hcl, hvl]
        omega
      · rw [List.size_toArray]
        exact hlen
      · rw [hres.out]
        exact hfin
    · obtain rfl : cap = n := by omega
      have hsc : (cap + 1 - i : Nat) * 8 ≤ 281474976710656 := by omega
      have hold : (Builtin.firstCells i0.size i (.slice (some ⟨g, 0, none⟩) i cap)).run Try.prog w.drew = .ok (cs.take (i * 1)).toArray w.drew := by
        rw [hz1]
        refine run_firstCells_some w.drew 1 i ⟨g, 0, none⟩ i cap (cs.take (i * 1)) (by rw [List.length_take, hcl]; simp only [Nat.min_def]; split <;> omega) (fun j v hj => ?_)
        rw [Addr.add_lit, Nat.zero_add]
        show w.cell? _ = _
        rw [blk_cell hh]
        rw [List.getElem?_take] at hj
        split at hj
        · rw [← ht, List.getElem?_take] at hj
          split at hj
          · simpa using hj
          · cases hj
        · cases hj
      have hkk : (cap : Int) + 1 - (i : Int) = ((cap + 1 - i : Nat) : Int) := by omega
      have hik : i + (cap + 1 - i) = cap + 1 := by omega
      obtain ⟨G, hG⟩ : ∃ G, G = grownCap w (cap + 1) cap 3 := ⟨_, rfl⟩
      have hGn : cap + 1 ≤ G := by rw [hG]; exact grownCap_ge w _ _ _
      have hGM : G ≤ maxLen := by rw [hG]; exact grownCap_le_maxLen w (cap + 1) cap 3 (by unfold maxLen; omega)
      obtain ⟨ROW, hROW⟩ : ∃ ROW : Array Value, ROW = (cs.take (i * 1)).toArray ++ Builtin.zeroCells (.int .i64 0 : Value).cells (cap + 1 - i) ++ Builtin.zeroCells (.int .i64 0 : Value).cells (G - (cap + 1)) := ⟨_, rfl⟩
      have hrz : ∀ ty, (Builtin.append_ #[22, 3] ty #[.slice (some ⟨g, 0, none⟩) i cap, .int .i64 ((cap : Int) + 1 - (i : Int))]).run Try.prog w = .ok (.slice (some ⟨w.heap.size, 0, none⟩) (cap + 1) G) (w.drew.alloc (.cells ROW 3)) := fun ty => by
        have h := Lib.run_append_grow_zeros w 22 3 ty 3 i0 (.int .i64 0) .i64 .i64 Try.underlying22 Try.underlying3 hinfo hz0 (some ⟨g, 0, none⟩) i cap (cs.take (i * 1)) hold (cap + 1 - i) (by omega) (by rw [hz1]; decide) (by omega) (by omega) (by rw [hz2]; omega) (by rw [hz2, hik]; exact growslice_fits (by omega) hn)
        rw [hik, ← hG, ← hROW] at h
        rw [hkk]
        exact h
      have hRs : ROW.size = G * 1 := by
        rw [hROW, Array.size_append, Array.size_append, My.zc_size, My.zc_size, List.size_toArray, List.length_take, hcl, hzz]
        simp only [Nat.min_def]
        split <;> omega
      have hRt : ROW.toList.take (i * 1) = cs.take (i * 1) := by
        rw [hROW, Array.toList_append, Array.toList_append, List.append_assoc, List.take_append_of_le_length (by rw [List.length_take, hcl]; simp only [Nat.min_def]; split <;> omega)]
        rw [List.take_take, Nat.min_self]
      clear hROW hG hold hkk hik
      obtain ⟨W1, hW1⟩ : ∃ W1, W1 = w.drew.alloc (.cells ROW 3) := ⟨_, rfl⟩
      rw [← hW1] at hrz
      have hg1 : w.grownBy W1 none := by rw [hW1]; exact My.gtrans (My.gdrew w none) (World.grownBy_alloc _ _ none) (fun j e => by cases e)
      have hh1 : W1.heap[w.heap.size]? = some (.cells ROW 3 (0, 0)) := by rw [hW1]; exact blk_new w.drew _
      clear hW1
      have hvb1 : W1.heap[vb]? = some (.cells vs.toArray 3 (0, 0)) := (hg1.block vb hvw (by simp)).trans hvb
      have hgh1 : W1.heap[g]? = some (.cells cur 3 (0, 0)) := (hg1.block g hgw (by simp)).trans hh
      have HR1 := Aside0.mk hrz
      have HG1 := Aside0.mk hg1
      have HH1 := Aside0.mk hh1
      have HGH := Aside0.mk hgh1
      have HV1 : Aside0 (∀ (j : Nat) (u : Value), vs[j]? = some u → W1.cell? ((⟨vb, 0, none⟩ : Addr).add j) = some u) := ⟨fun j u hj => by
        rw [Addr.add_lit, Nat.zero_add, blk_cell hvb1]
        simpa using hj⟩
      have hGi : ¬ G = i := by omega
      have hGi1 : ¬ G = i + 1 := by omega
      have hci : ¬ cap = i := by omega
      have hG63 : G ≤ 9223372036854775807 := by unfold maxLen at hGM; exact hGM
      have hn1 : cap + 1 ≤ 9223372036854775807 := by omega
      have HC := Aside0.mk hcs
      have HT := Aside0.mk ht
      have HCM := Aside0.mk hGM
      have HRS := Aside0.mk hRs
      have HRT := Aside0.mk hRt
      have hlt1 : i * 1 + vs.length ≤ ROW.size := by rw [hRs, hvl]; omega
      clear hown hcs hcm hsz2 hin ht hgh1 hh1 hg1 hvb1 hRt hRs hrz hh hGM
      go_enter Try.func22, Try.ntmps22
      go_wp2_with (first
        | (at_builtin; refine Lib.wpList_append_run _ rfl _ _ _ _ rfl _ _ rfl rfl _ _ (HR1.out _) ?_)
        | ((with_reducible refine gate_dst (N := 45) rfl ?_); refine My.wpList_copy_k rfl (.tmp 43) (.tmp 44) 22 22 rfl 3 1 Try.underlying22 hsz w.heap.size (i * 1) (cap + 1 - i) (G - i) ⟨vb, 0, none⟩ 1 1 (by simp [Act.eval]) (by simp [Act.eval]) ROW 3 HH1.out vs (by rw [hvl]; simp only [Nat.min_def]; split <;> omega) HV1.out hlt1 hvs ?_; intro w2 hw2 hg2; have HW2 := Aside0.mk hw2; have HG2 := Aside0.mk hg2; clear hw2 hg2))
      have HGH2 : Aside0 (w2.heap[g]? = some (.cells cur 3 (0, 0))) := ⟨(HG2.out.block g (Nat.lt_of_lt_of_le hgw HG1.out.size) (fun e => by injection e with e; omega)).trans HGH.out⟩
      have HS : Aside0 (∀ (j : Nat) (v : Value), (cs.drop (i * 1))[j]? = some v → w2.drew.cell? ((⟨g, i * 1, none⟩ : Addr).add j) = some v) := ⟨fun j v hj => by
        rw [Addr.add_lit]
        show w2.cell? _ = _
        rw [blk_cell HGH2.out]
        rw [List.getElem?_drop, ← HT.out, List.getElem?_take] at hj
        split at hj
        · simpa using hj
        · cases hj⟩
      have HD : Aside0 ((cs.drop (i * 1)).length = (cap - i) * 1) := ⟨by rw [List.length_drop, hcl]; omega⟩
      have HM : Aside0 (∀ u ∈ cs.drop (i * 1), u.oneCell' = true) := ⟨fun u hu => HC.out u (List.mem_of_mem_drop hu)⟩
      have hs2 : (splice ROW.toList (i * 1) vs).length = G * 1 := by
        have e1 := My.splice_len ROW.toList (i * 1) vs (by rw [Array.length_toList (xs := ROW)]; exact hlt1)
        rw [e1, Array.length_toList (xs := ROW)]
        exact HRS.out
      have hs3 : (splice ROW.toList (i * 1) vs).toArray.size = G * 1 := by rw [List.size_toArray]; exact hs2
      have HF3 : Aside0 ((i + 1) * 1 + (cs.drop (i * 1)).length ≤ (splice ROW.toList (i * 1) vs).toArray.size) := ⟨by rw [hs3, HD.out]; omega⟩
      have HS2 := Aside0.mk hs2
      clear hs2 hs3
      have hx1 : IntKind.i64.wrap ((i : Int) + 1) = (i : Int) + 1 := by rw [IntKind.wrap_i64]; omega
      have hx2 : (0 : Int) ≤ (i : Int) + 1 := by omega
      have hx3 : (i : Int) + 1 ≤ (cap : Int) + 1 := by omega
      have hx4 : (i : Int) ≤ (cap : Int) := by omega
      have hx5 : ((i : Int) + 1).toNat = i + 1 := by omega
      go_region_law (refine My.step_copy_k rfl _ _ 22 22 rfl 3 1 Try.underlying22 hsz w.heap.size ((i + 1) * 1) (cap + 1 - (i + 1)) (G - (i + 1)) ⟨g, i * 1, none⟩ (cap - i) (cap - i) (by simp [Act.eval, Act.put]) (by simp [Act.eval, Act.put]) _ 3 HW2.out (cs.drop (i * 1)) (by rw [HD.out]; simp only [Nat.min_def]; split <;> omega) HS.out HF3.out HM.out ?_; intro w3 hw3 hg3)
      have HW3 := Aside0.mk hw3
      have HG3 := Aside0.mk hg3
      clear hw3 hg3 hx1 hx5
      go_wp2
      go_ret
      refine ⟨_, rfl, ⟨?_, .inr ⟨w.heap.size, G, _, rfl, hbase, HW3.out, by omega, HCM.out, ?_, ?_⟩⟩, ?_⟩
      · rw [hres.out, List.length_append, List.length_append, List.length_take, List.length_drop, hcl, hvl]
        simp only [Nat.min_def]
        split <;> omega
      · rw [List.size_toArray, My.splice_len _ _ _ (by rw [HS2.out, HD.out]; omega)]
        exact HS2.out
      · rw [hres.out]
        exact My.ins_grow ROW.toList cs i cap 1 vs hvl hi (by rw [Array.length_toList (xs := ROW), HRS.out]; omega) hcl HRT.out
      · exact My.gbut (My.gtrans (My.gtrans (My.gtrans HG1.out HG2.out (fun j e => .inl (by cases e; exact Nat.le_refl _))) (My.gdrew w2 none) (fun j e => by cases e)) HG3.out (fun j e => .inl (by cases e; exact Nat.le_refl _))) _


/-! ### window_put: function 18 -/
/-- What put leaves: low goes up as long as the next one is there. -/
def window_put.up : Int → List Int → Int × List Int
  | lo, [] => (lo, [])
  | lo, n :: r => if n = wrap64 (lo + 1) then window_put.up n r else (lo, n :: r)
def window_put.f (k : Nat) (a0_0 : Int) (l0_1 : List Int) (a1 : Int) : Option (Int × List Int) :=
  (slices_BinarySearch_int_int.f k l0_1 a1).bind fun t => if 0 ≤ t.1 ∧ t.1 ≤ (l0_1.length : Int) ∧ l0_1.length ≤ 1000000 then some (window_put.up a0_0 (l0_1.take t.1.toNat ++ a1 :: l0_1.drop t.1.toNat)) else none
theorem window_put.mono : ∀ a0 a1 a2 k, LeO (window_put.f k a0 a1 a2) (window_put.f (k + 1) a0 a1 a2) := by
  intro a0 a1 a2 k
  unfold window_put.f
  exact LeO.bind (slices_BinarySearch_int_int.mono _ _ k) (fun _ => LeO.refl _)
theorem window_put.up_drop (l : List Int) : ∀ lo, ∃ i, i ≤ l.length ∧ (window_put.up lo l).2 = l.drop i := by
  induction l with
  | nil => intro lo; exact ⟨0, Nat.le_refl _, rfl⟩
  | cons n l ih =>
    intro lo
    unfold window_put.up
    by_cases c : n = wrap64 (lo + 1)
    · rw [if_pos c]
      obtain ⟨i, h1, h2⟩ := ih n
      exact ⟨i + 1, by simp; omega, by rw [h2]; rfl⟩
    · rw [if_neg c]
      exact ⟨0, Nat.zero_le _, rfl⟩
theorem reps_ints (k : IntKind) (xs : List Int) : ∀ cs : List Value, Reps (fun (x : Int) cs => cs = [Value.int k x]) 1 xs cs → cs = xs.map (Value.int k) := by
  induction xs with
  | nil => intro cs h; exact List.eq_nil_of_length_eq_zero (by simpa using h.1)
  | cons x xs ih =>
    intro cs h
    rcases cs with _ | ⟨c, cs⟩
    · simp [Reps] at h
    · have h0 := h.2 0 x rfl
      simp at h0
      subst h0
      rw [List.map_cons, ih cs ⟨by have := h.1; simp at this ⊢; omega, fun j p hj => by have := h.2 (j + 1) p (by simpa using hj); simpa using this⟩]
theorem ints_reps (k : IntKind) (xs : List Int) : Reps (fun (x : Int) cs => cs = [Value.int k x]) 1 xs (xs.map (Value.int k)) := by
  induction xs with
  | nil => exact Reps.none _ _
  | cons x xs ih => exact Reps.one rfl ih
theorem window_put.q {w' : World} {g cap m base : Nat} {cur : Array Value} {ys : List Int} (hg : w'.heap[g]? = some (.cells cur 3 (0, 0))) (hbase : base ≤ g) (hn : ys.length ≤ cap) (hcm : cap ≤ maxLen) (hs : cur.size = cap * 1)
    (ht : cur.toList.take (ys.length * 1) = ys.map (Value.int .i64)) (hm : m ≤ ys.length) : Kd.Q (Kd.int .i64) 3 w' base (fun _ => True) (.slice (some ⟨g, m, none⟩) (ys.length - m) (cap - m)) (ys.drop m) := by
  refine ⟨fun _ _ => trivial, (ys.drop m).map (Value.int .i64), ?_, ints_reps .i64 _⟩
  show QRow w' base 3 1 _ _ _
  refine ⟨by simp, .inr ⟨g, m, cap - m, cur, by rw [Nat.mul_one, List.length_drop], hbase, hg, by rw [List.length_drop]; omega, by unfold maxLen at *; omega, by rw [hs]; omega, ?_⟩⟩
  rw [List.map_drop, ← ht, List.length_drop, List.drop_take]
  simp
set_option maxHeartbeats 8000000 in
set_option maxRecDepth 100000 in
theorem window_put.calls (k : Nat) (a0_0 : Int) (A0_1 : Option Addr) (c0_1 : Nat) (l0_1 : List Int) (a1 : Int) (r1 : Int) (r2 : List Int) (w : World) (hr0_1 : Kd.C (Kd.int .i64) w A0_1 l0_1.length l0_1) (hc0_1 : l0_1.length ≤ c0_1) (h : window_put.f k a0_0 l0_1 a1 = some (r1, r2)) :
    Calls Try.prog 18 #[.agg #[.int .i64 a0_0, .slice A0_1 l0_1.length c0_1], .int .i64 a1] w fun e w' => ∃ v1_ : Value, e = .returned (.agg #[.int .i64 r1, v1_]) ∧ Kd.Q (Kd.int .i64) 3 w' w.heap.size (fun _ => True) v1_ r2 ∧ Below w.heap.size w w' := by
  have hu25 := Try.underlying25
  unfold window_put.f at h
  obtain ⟨⟨i, b⟩, hb, h9⟩ := Option.bind_eq_some_iff.1 h
  clear h

  have h := h9
  clear h9
  by_cases c : 0 ≤ i ∧ i ≤ (l0_1.length : Int) ∧ l0_1.length ≤ 1000000
  · rw [if_pos c] at h
    obtain ⟨h0, h1, h2⟩ := c
    obtain ⟨j, rfl⟩ : ∃ j : Nat, i = (j : Int) := ⟨i.toNat, by omega⟩
    rw [Int.toNat_natCast] at h
    have HU := Aside0.mk (Option.some.inj h)
    have HBS := Aside0.mk hb
    have HC := Aside0.mk hr0_1
    clear h hb hr0_1 h0
    have hcl : slices_Clone_int_int.f l0_1 = some l0_1 := by unfold slices_Clone_int_int.f; rw [if_pos (by omega)]
    have HCL := Aside0.mk hcl
    clear hcl
    go_enter Try.func18, Try.ntmps18
    go_wp2
    go_step3
    go_wp2_with (first
      | (go_at_call 21; refine (slices_BinarySearch_int_int.calls k A0_1 c0_1 l0_1 a1 _ _ _ (Kd.C_alloc (Kd.C_alloc HC.out _) _) hc0_1 HBS.out).mono ?_; rintro e w1 ⟨rfl, ⟨nd, rfl⟩⟩)
      | (go_at_call 17; refine (slices_Clone_int_int.calls A0_1 c0_1 l0_1 l0_1 _ (Kd.C_drewN (Kd.C_alloc (Kd.C_alloc HC.out _) _) _) hc0_1 HCL.out).mono ?_; rintro e w2 ⟨v2, rfl, hr2, hb2⟩; have HR2 := Aside0.mk hr2; have HB2 := Aside0.mk hb2; clear hr2 hb2))
    have hbk0 : w2.heap[w.heap.size]? = some (.cells #[.int .i64 a0_0, .slice A0_1 l0_1.length c0_1] 25 (0, 0)) := blk_below (blk_drewN (blk_alloc (blk_new w _) _) _) HB2.out
    have hbk1 : w2.heap[w.heap.size + 1]? = some (.cells #[.int .i64 0, .slice none 0 0] 25 (0, 0)) := blk_below (blk_drewN (by have := blk_new (w.alloc (.cells #[.int .i64 a0_0, .slice A0_1 l0_1.length c0_1] 25)) (.cells #[.int .i64 0, .slice none 0 0] 25); rwa [World.size_alloc] at this) _) HB2.out
    have hbw : Below w.heap.size w w2 := below_step (pw_below_drewN (below_alloc (below_alloc (Below.refl w.heap.size w) _) _) _) HB2.out
    have hs2 : w.heap.size + 2 ≤ w2.heap.size := by have := HB2.out.size; simp at this; omega
    obtain ⟨ys, hys⟩ : ∃ ys : List Int, ys = l0_1.take j ++ a1 :: l0_1.drop j := ⟨_, rfl⟩
    have hyl : ys.length = l0_1.length + 1 := by
      rw [hys, List.length_append, List.length_cons, List.length_take, List.length_drop]
      omega
    obtain ⟨_, inner, hown0, hreps⟩ := Kd.R_lower HR2.out (show w.heap.size + 2 ≤ _ by simp)
    have hown : w2.ownsRow (w.heap.size + 2) 3 1 v2 l0_1.length inner := hown0
    have hinner : inner = l0_1.map (Value.int .i64) := reps_ints .i64 _ _ hreps
    have hne : ∀ k, v2.ownBlock = some k → w.heap.size + 2 ≤ k ∧ k < w2.heap.size := fun k hk => ⟨own_base hown k hk, own_lt hown k hk⟩
    have hins := Ins_int_at v2 l0_1.length j (w.heap.size + 2) inner w2.heap.size [.int .i64 a1] (w2.alloc (.cells #[.int .i64 a1] 3)) (own_alloc hown _) (fun u hu => by rw [hinner] at hu; obtain ⟨x, _, rfl⟩ := List.mem_map.1 hu; rfl) (by omega) (by simp; omega) (by omega) rfl (blk_new w2 _) (fun u hu => by rw [List.mem_singleton.1 hu]; rfl) (fun e => by have := (hne _ e.symm).2; omega) (ys.map (Value.int .i64)) ⟨by rw [hinner, hys]; simp [List.map_take, List.map_drop]⟩
    have HI := Aside0.mk hins
    have HY := Aside0.mk hys
    have HYL := Aside0.mk hyl
    have HN := Aside0.mk hne
    have K0 := Aside0.mk hbk0
    have K1 := Aside0.mk hbk1
    have HW := Aside0.mk hbw
    clear hins hys hyl hne hbk0 hbk1 hbw hown hreps hinner hown0
    refine HI.out.mono ?_
    rintro e w3 ⟨v3, rfl, hown3, hg3⟩
    have hg3' : w2.grownBy w3 v2.ownBlock := ⟨hg3.os, hg3.tape, hg3.output, by have := hg3.size; simp at this; omega, fun q hq hn => (hg3.block q (by simp; omega) hn).trans (Below.heap_alloc w2 _ q hq)⟩
    have hown3' : w3.ownsRow (w.heap.size + 2) 3 1 v3 ys.length (ys.map (Value.int .i64)) := by rw [HYL.out]; exact hown3
    have hb3 : Below w.heap.size w w3 := HW.out.grown hg3' (by omega) (fun q hq => by have := (HN.out q hq).1; omega)
    have hk0 := (hg3'.block w.heap.size (by omega) (fun e => by have := (HN.out _ e.symm).1; omega)).trans K0.out
    have hk1 := (hg3'.block (w.heap.size + 1) (by omega) (fun e => by have := (HN.out _ e.symm).1; omega)).trans K1.out
    obtain ⟨g, cap, cur, rfl, hgb, hgh, hnc, hcm, hcsz, hct⟩ : ∃ g cap cur, v3 = .slice (some ⟨g, 0, none⟩) ys.length cap ∧ w.heap.size + 2 ≤ g ∧ w3.heap[g]? = some (.cells cur 3 (0, 0)) ∧ ys.length ≤ cap ∧ cap ≤ maxLen ∧ cur.size = cap * 1 ∧ cur.toList.take (ys.length * 1) = ys.map (Value.int .i64) := by
      rcases hown3'.2 with ⟨_, h0⟩ | h
      · have := HYL.out
        omega
      · exact h
    have hlt3 : w.heap.size + 2 ≤ w3.heap.size := by have := hg3'.size; omega
    have hglt : g < w3.heap.size := blk_lt hgh
    have hys1 : ys.length ≤ 1000001 := by have := HYL.out; omega
    have KG := Aside0.mk hgh
    have CT := Aside0.mk hct
    have CZ := Aside0.mk hcsz
    have OW3 := Aside0.mk hown3'
    have B3 := Aside0.mk hb3
    have M0 := Aside0.mk hk0
    have M1 := Aside0.mk hk1
    have c0 : w3.cell? ⟨w.heap.size, 0, none⟩ = some (.int .i64 a0_0) := (blk_cell hk0 0).trans rfl
    have CM := Aside0.mk hcm
    clear hown3 hown3' hg3 hg3' hb3 hk0 hk1 hgh hcm hct hcsz HI HN K0 K1 HW HR2 HB2
    go_wp2
    go_step3
    go_wp2
    have G0 := Aside0.mk (blk_new w3 (.cells #[.int .i64 a0_0, .slice none 0 0] 25))
    have G1 := Aside0.mk (blk_alloc KG.out (.cells #[.int .i64 a0_0, .slice none 0 0] 25))
    have G2 := Aside0.mk (blk_alloc M1.out (.cells #[.int .i64 a0_0, .slice none 0 0] 25))
    have G3 := Aside0.mk (below_alloc B3.out (.cells #[.int .i64 a0_0, .slice none 0 0] 25))
    have G4 := Aside0.mk (own_alloc OW3.out (.cells #[.int .i64 a0_0, .slice none 0 0] 25))
    clear KG M0 M1 B3 OW3 c0
    generalize w3.alloc _ = w4 at G0 G1 G2 G3 G4 ⊢
    generalize w3.heap.size = o at G0 G1 G2 G3 G4 hlt3 hglt ⊢
    go_loopg [30] (ys.length + 1) (fun kq v30 w' => ∃ m : Nat, v30 = .int .i64 (m : Int) ∧ m ≤ ys.length ∧ kq = ys.length + 1 - m ∧ ∃ lo : Int, Aside0 (window_put.up lo (ys.drop m) = (r1, r2)) ∧ Aside0 (w'.heap[o]? = some (.cells #[.int .i64 lo, .slice none 0 0] 25 (0, 0))) ∧ Aside0 (w4.grownBy w' (some o)))
    case atStart => exact ⟨0, rfl, Nat.zero_le _, rfl, a0_0, ⟨by rw [HY.out]; exact HU.out⟩, G0, ⟨⟨rfl, rfl, rfl, Nat.le_refl _, fun _ _ _ => rfl⟩⟩⟩
    case round =>
      obtain ⟨m, rfl, hm, rfl, lo, HUP, HO, HG⟩ := hrel
      have hbo := HO.out
      have hbg := blk_grown G1.out HG.out (by simp; omega)
      have hb1 := blk_grown G2.out HG.out (by simp; omega)
      have q0 : wr.cell? ⟨o, 0, none⟩ = some (.int .i64 lo) := (blk_cell hbo 0).trans rfl
      have q1 : wr.cell? ⟨o, 1, none⟩ = some (.slice none 0 0) := (blk_cell hbo 1).trans rfl
      have q2 : wr.frozen? ⟨o, 0, none⟩ = false := by simp [World.frozen?, hbo]
      have q3 : wr.frozen? ⟨o, 1, none⟩ = false := by simp [World.frozen?, hbo]
      have q4 : wr.cell? ⟨w.heap.size + 1, 0, none⟩ = some (.int .i64 0) := (blk_cell hb1 0).trans rfl
      have q5 : wr.cell? ⟨w.heap.size + 1, 1, none⟩ = some (.slice none 0 0) := (blk_cell hb1 1).trans rfl
      have q6 : wr.frozen? ⟨w.heap.size + 1, 0, none⟩ = false := by simp [World.frozen?, hb1]
      have q7 : wr.frozen? ⟨w.heap.size + 1, 1, none⟩ = false := by simp [World.frozen?, hb1]
      have q8 : ¬ o = w.heap.size + 1 := by omega
      have q9 : ¬ w.heap.size + 1 = o := by omega
      have HBO := Aside0.mk hbo
      have HBG := Aside0.mk hbg
      have HB1 := Aside0.mk hb1
      have HBW : Aside0 (Below w.heap.size w wr) := ⟨G3.out.grown HG.out G3.out.size (fun q hq => by cases hq; omega)⟩
      clear hbo hbg hb1
      by_cases cm : m < ys.length
      · obtain ⟨x, hx⟩ : ∃ x, ys[m]? = some x := ⟨_, List.getElem?_eq_getElem cm⟩
        have hdr : ys.drop m = x :: ys.drop (m + 1) := by
          rw [List.drop_eq_getElem_cons cm]
          rw [List.getElem?_eq_getElem cm] at hx
          rw [Option.some.inj hx]
        have hgc : wr.cell? ⟨g, m, none⟩ = some (.int .i64 x) := by
          rw [blk_cell HBG.out]
          have h9 : (cur.toList.take (ys.length * 1))[m]? = some (Value.int .i64 x) := by rw [CT.out, List.getElem?_map, hx]; rfl
          rw [List.getElem?_take] at h9
          split at h9
          · simpa using h9
          · cases h9
        have hup := HUP.out
        rw [hdr] at hup
        have d1 : decide ((m : Int) < (ys.length : Int)) = true := by simp; omega
        have hci : ¬ cap = m := by omega
        have e1 : (m : Int) ≤ (ys.length : Int) := by omega
        have hdr2 := Aside0.mk hdr
        clear hx hdr
        unfold window_put.up at hup
        by_cases cx : x = wrap64 (lo + 1)
        · rw [if_pos cx] at hup
          have HUP2 := Aside0.mk hup
          have hb : (x == wrap64 (lo + 1)) = true := beq_iff_eq.2 cx
          clear hup cx HUP
          go_wp2
          go_roundg (ys.length - m)
          case measure => omega
          case rel => exact ⟨m + 1, by go_num, by omega, by omega, x, HUP2, ⟨blk_put HBO.out 0 _ rfl⟩, ⟨My.gtrans HG.out (My.gset wr ⟨o, 0, none⟩ _) (fun q hq => .inr hq)⟩⟩
        · rw [if_neg cx] at hup
          have HUP2 := Aside0.mk hup
          have hb : (x == wrap64 (lo + 1)) = false := beq_eq_false_iff_ne.2 cx
          clear hup cx HUP
          go_wp2
          rw [Exit.noGoto_ret]
          obtain ⟨rfl, rfl⟩ := Prod.mk.inj HUP2.out
          refine bodyPost_ret (v := .agg #[.int .i64 lo, .slice (some ⟨g, m, none⟩) (ys.length - m) (cap - m)]) (by simp [results, Try.results18, go_sem, q4, q5, q6, q7]) rfl ⟨_, rfl, ?_, ?_⟩
          · have hgg := window_put.q (m := m) (base := w.heap.size) (w' := ((wr.setCell ⟨o, 1, none⟩ (.slice (some ⟨g, m, none⟩) (ys.length - m) (cap - m))).setCell ⟨w.heap.size + 1, 0, none⟩ (.int .i64 lo)).setCell ⟨w.heap.size + 1, 1, none⟩ (.slice (some ⟨g, m, none⟩) (ys.length - m) (cap - m))) (ys := ys) (cap := cap) (cur := cur) (g := g) (by
                rw [Below.heap_setCell _ _ _ _ (by show g ≠ w.heap.size + 1; omega), Below.heap_setCell _ _ _ _ (by show g ≠ w.heap.size + 1; omega), Below.heap_setCell _ _ _ _ (by show g ≠ o; omega)]
                exact HBG.out) (by omega) hnc CM.out CZ.out CT.out (by omega)
            rw [hdr2.out] at hgg
            exact hgg
          · exact ((HBW.out.setCell (p := ⟨o, 1, none⟩) (by simp; omega) _).setCell (p := ⟨w.heap.size + 1, 0, none⟩) (by simp) _).setCell (p := ⟨w.heap.size + 1, 1, none⟩) (by simp) _
      · obtain rfl : m = ys.length := by omega
        have d1 : decide ((ys.length : Int) < (ys.length : Int)) = false := by simp
        go_wp2
        rw [Exit.noGoto_ret]
        have hup := HUP.out
        rw [List.drop_length] at hup
        obtain ⟨rfl, rfl⟩ := Prod.mk.inj hup
        clear hup
        exact bodyPost_ret (v := .agg #[.int .i64 lo, .slice none 0 0]) (by simp [results, Try.results18, go_sem, q4, q5, q6, q7]) rfl ⟨_, rfl, Kd.Q_nil _ _ _ _ _, (HBW.out.setCell (p := ⟨w.heap.size + 1, 0, none⟩) (by simp) _).setCell (p := ⟨w.heap.size + 1, 1, none⟩) (by simp) _⟩
  · rw [if_neg c] at h
    cases h


end Go.Proofs.Ythlmcnhpjdflmaa.PA
