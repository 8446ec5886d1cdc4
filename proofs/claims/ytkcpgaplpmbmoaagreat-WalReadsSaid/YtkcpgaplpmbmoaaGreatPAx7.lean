-- Written by a program of this session (wip/tools/mp.py over the kit's printer); Lean checks it.
import Derived.Test.YtkcpgaplpmbmoaaGreatPAx0
import Derived.Test.YtkcpgaplpmbmoaaGreatPAx6
namespace Go.Proofs.YtkcpgaplpmbmoaaGreat.PA
open Go.RowKit Go.Proofs.YtkcpgaplpmbmoaaGreatW.PrintWords Go.Proofs.YtkcpgaplpmbmoaaGreatW.PrintLast Go.Proofs.YtkcpgaplpmbmoaaGreatW.PrintMore
attribute [local go_sem] max2_int min2_int max_two min_two max_three min_three max_four min_four   -- for this text's walks alone
set_option linter.unusedVariables false
set_option maxHeartbeats 8000000
set_option maxRecDepth 100000
set_option linter.unusedSimpArgs false

/-! ### ententeref02_Seal: function 49 -/
def ententeref02_Seal.j0 : Nat → Int → ByteArray → Bool → Option (ByteArray × Int)
 | 0, _, _, _ => none
 | k + 1, x0, x1, x12 => if x12 = true then (some ((⟨#[]⟩ : ByteArray), 2)) else (if (x1.size : Int) > 30000 then (some ((⟨#[]⟩ : ByteArray), 3)) else ((some (([231, (x0) % 256] : List Int) : List Int)).bind fun y156 => ((ententeref01_Text.f k x1).bind fun t159 => (if (strOfNums y156).size + t159.size ≤ 9223372036854775807 then ((ententeref02_Sum.f k ((strOfNums y156) ++ t159)).bind fun t160 => ((ententeref02_eight.f k t160).bind fun t161 => (if ((strOfNums y156) ++ t159).size + t161.size ≤ 9223372036854775807 then (some (((strOfNums y156) ++ t159) ++ t161, 0)) else (none)))) else (none)))))
def ententeref02_Seal.f (k : Nat) (a0 : Int) (a1 : ByteArray) : Option (ByteArray × Int) := if a0 < 0 then (ententeref02_Seal.j0 k a0 a1 true) else (ententeref02_Seal.j0 k a0 a1 (decide (a0 > 255)))
theorem ententeref02_Seal.mono_l : ∀ k, (∀ y0 y1 y2, LeO (ententeref02_Seal.j0 k y0 y1 y2) (ententeref02_Seal.j0 (k + 1) y0 y1 y2))
 | 0 => fun _ _ _ r h => by simp [ententeref02_Seal.j0] at h
 | k + 1 => by
  have ih0 := ententeref02_Seal.mono_l k
  intro y0 y1 y2
  unfold ententeref02_Seal.j0
  repeat' (with_reducible first | exact ih0 _ _ _ | exact ententeref01_Text.mono _ _ | exact ententeref02_Sum.mono _ _ | exact ententeref02_eight.mono _ _ | exact LeO.refl _ | exact LeO.none _ | apply LeO.ite | refine LeO.bind ?_ (fun _ => ?_))
theorem ententeref02_Seal.mono : ∀ a0 a1 k, LeO (ententeref02_Seal.f k a0 a1) (ententeref02_Seal.f (k + 1) a0 a1) := by
 intro a0 a1 k
 have ih0 := ententeref02_Seal.mono_l k
 unfold ententeref02_Seal.f
 repeat' (with_reducible first | exact ih0 _ _ _ | exact ententeref01_Text.mono _ _ | exact ententeref02_Sum.mono _ _ | exact ententeref02_eight.mono _ _ | exact LeO.refl _ | exact LeO.none _ | apply LeO.ite | refine LeO.bind ?_ (fun _ => ?_))
def ententeref02_Seal.T5 : Bool × List (List Nat × List Nat) := (true, [([], []), ([0], [0]), ([1], [1]), ([2], [2]), ([], []), ([4], [4]), ([3, 5], [3, 5]), ([6, 5, 0, 1, 2, 3, 4, 5, 6], [6])])
def ententeref02_Seal.B5 : List Nat := [0, 1, 3, 7, 0, 16, 63, 127]
theorem ententeref02_Seal.tab5 : rtab .any (opsOf Tryz.f49 5) = ententeref02_Seal.T5 := by kernel_rfl
theorem ententeref02_Seal.bits5 : waitsOk ententeref02_Seal.T5.2 ententeref02_Seal.B5 = true := by kernel_rfl
theorem ententeref02_Seal.calls (k : Nat) (a0 : Int) (a1 : ByteArray) (r1 : ByteArray) (r2 : Int) (w : World) (h : ententeref02_Seal.f k a0 a1 = some (r1, r2)) :
  Calls Tryz.prog 49 #[.int .i64 a0, .string a1] w fun e w' => e = .returned (.tuple #[.string r1, .int .i64 r2]) ∧ Below w.heap.size w w' := by
 have HB := My.am (Below.refl w.heap.size w)
 unfold ententeref02_Seal.f at h
 have H := h
 clear h
 have HC3 := My.am H
 clear H
 go_enter Tryz.func49, Tryz.ntmps49
 go_upto_region 1 with (fail)
 go_cut [12] (fun v12 wc => ∃ (kq : Nat) (x12_2 : Bool), v12 = .bool x12_2 ∧ Aside0 (ententeref02_Seal.j0 kq a0 a1 x12_2 = some (r1, r2)) ∧ Aside0 (kq ≤ k) ∧ Aside0 (Below w.heap.size w wc))
 case first =>
  have H := HC3.out
  clear HC3
  by_cases c4 : a0 < 0
  ·rw [if_pos c4] at H
   have c4b0 := decide_eq_true c4
   clear c4
   (first | rw [c4b0] | (simp only [i64_w, i32_w]; rw [c4b0]) | skip)
   have H' := My.am H
   clear H
   go_wp2
   go_meet
   case rel => exact ⟨_, (true), My.r1, H', ⟨My.r4⟩, ⟨(My.bl_ HB)⟩⟩
  ·rw [if_neg c4] at H
   have c4b0 := decide_eq_false c4
   clear c4
   (first | rw [c4b0] | (simp only [i64_w, i32_w]; rw [c4b0]) | skip)
   have H' := My.am H
   clear H
   go_wp2
   go_meet
   case rel => exact ⟨_, (decide (a0 > 255)), My.r1, H', ⟨My.r4⟩, ⟨(My.bl_ HB)⟩⟩
 case rest =>
  clear HC3
  obtain ⟨kq, x12_2, rfl, HA, HJ2, HB⟩ := hcut
  cases kq with
  | zero => exact absurd HA.out (by simp [ententeref02_Seal.j0])
  | succ kj2 =>
   have H := HA.out
   clear HA
   simp only [ententeref02_Seal.j0] at H
   by_cases c5 : x12_2 = true
   ·subst c5
    rw [if_pos rfl] at H
    simp only [Option.some.injEq, Prod.mk.injEq] at H
    obtain ⟨rfl, rfl⟩ := H
    go_wp2
    go_ret2
    exact ⟨My.r2, (My.bl_ HB)⟩
   replace c5 := Bool.eq_false_iff.mpr c5
   subst c5
   rw [if_neg (show ¬ (false = true) by decide)] at H
   by_cases c6 : (a1.size : Int) > 30000
   ·rw [if_pos c6] at H
    have c6b0 : decide (30000 < (a1.size : Int)) = true := decide_eq_true c6
    have c6b1 : decide (30000 < a1.size) = true := decide_eq_true (by omega)
    clear c6
    simp only [Option.some.injEq, Prod.mk.injEq] at H
    obtain ⟨rfl, rfl⟩ := H
    go_wp2
    go_ret2
    exact ⟨My.r2, (My.bl_ HB)⟩
   rw [if_neg c6] at H
   have c6b0 : decide (30000 < (a1.size : Int)) = false := decide_eq_false c6
   have c6b1 : decide (30000 < a1.size) = false := decide_eq_false (by omega)
   clear c6
   obtain ⟨y156, hy156⟩ : ∃ y_ : List Int, y_ = (([231, (a0) % 256] : List Int)) := ⟨_, rfl⟩
   replace H : ((ententeref01_Text.f kj2 a1).bind fun t159 => (if (strOfNums y156).size + t159.size ≤ 9223372036854775807 then ((ententeref02_Sum.f kj2 ((strOfNums y156) ++ t159)).bind fun t160 => ((ententeref02_eight.f kj2 t160).bind fun t161 => (if ((strOfNums y156) ++ t159).size + t161.size ≤ 9223372036854775807 then (some (((strOfNums y156) ++ t159) ++ t161, 0)) else (none)))) else (none))) = some (r1, r2) := by first | (rw [hy156]; with_reducible exact H) | (have H2_ := (Option.bind_some _ _).symm.trans H; rw [hy156]; with_reducible exact H2_) | (have H2_ := (Option.bind_some _ _).symm.trans H; with_reducible exact H2_) | with_reducible exact H | (rw [hy156]; exact H) | exact H
   have Ny156 := My.am hy156
   clear hy156
   replace H := Option.bind_eq_some_iff.mp H
   obtain ⟨t159, A70, H⟩ := H
   try dsimp only at H
   have A7 := My.am A70
   clear A70
   by_cases c8 : (strOfNums y156).size + t159.size ≤ 9223372036854775807
   rotate_left
   ·exact My.nn c8 H

   rw [if_pos c8] at H
   have c8b0 := eq_true c8
   have c8b1 := decide_eq_true c8
   try have c8b2 : (9223372036854775807 < (strOfNums y156).size + t159.size) = False := eq_false (Nat.not_lt.2 c8)
   try clear c8
   replace H := Option.bind_eq_some_iff.mp H
   obtain ⟨t160, A90, H⟩ := H
   try dsimp only at H
   have A9 := My.am A90
   clear A90
   replace H := Option.bind_eq_some_iff.mp H
   obtain ⟨t161, A100, H⟩ := H
   try dsimp only at H
   have A10 := My.am A100
   clear A100
   by_cases c11 : ((strOfNums y156) ++ t159).size + t161.size ≤ 9223372036854775807
   rotate_left
   ·exact My.nn c11 H
   rw [if_pos c11] at H
   have c11b0 := eq_true c11
   have c11b1 := decide_eq_true c11
   try have c11b2 : (9223372036854775807 < ((strOfNums y156) ++ t159).size + t161.size) = False := eq_false (Nat.not_lt.2 c11)
   try (have h_ := c11; simp only [ByteArray.size_append] at h_; have c11b3 := eq_false (Nat.not_lt.2 h_); clear h_)
   try clear c11
   simp only [Option.some.injEq, Prod.mk.injEq] at H
   obtain ⟨rfl, rfl⟩ := H
   try go_wp2
   replace HB := My.am (below_drew1 HB.out)
   refine start_ (n := 8) (S := fun w' => True) (ds := []) #[false, false, false, false, false, false, false, false] (by kernel_rfl) rfl rfl trivial (fun hHeld => ?_); refine with_tabW ententeref02_Seal.tab5 ententeref02_Seal.bits5 (fun HT_ HW_ => ?_)
   generalize wc.drew = w12 at HB hHeld ⊢
   refine My.pu_ 0 16 8 HT_.out ?_
   refine My.pu_ 1 17 8 HT_.out ?_
   refine My.pv_ 4 20 8 19 HT_.out ?_
   refine join_ (σ := Value) 2 (My.Mb 8 63) (fun s_ => [(18, s_), (19, .string (strOfNums y156)), (21, .string t159)]) (fun s_ w' => (Kd.R (Kd.int .u8) 5 w' w.heap.size (fun _ => True) s_ y156) ∧ (Below w.heap.size w w')) ?_ ?_
   rotate_left
   ·intro hCont
    refine two_ (i := 2) (j := 5) (Ni := some 18) (Nj := some 21) (My.Mb 8 23) (My.Mb 8 51) rfl rfl rfl rfl (two_of HT_.out (by kernel_rfl)) (by decide) (by decide) (fun K hK => ?_) (fun K hK => ?_)
    ·skip
     refine Kd.R_lit_step (Kd.int .u8) _ 5 ?hg (N := 18) ?hd (xs := ([231, (a0) % 256] : List Int)) (inner := [.int .u8 231, .int .u8 ((a0) % 256)]) (ok := fun _ => True) (okp := fun _ => True) ?hr ?hp (fun _ hk => hk) trivial (Below.refl _ _) (Nat.le_refl _) (by simp) ?_; (case hd => rfl); (case hg => rfl); (case hr => first | (go_simp; done) | (go_simp; rfl)); (case hp => exact (Reps.one (show Kd.M (Kd.int .u8) _ _ _ 231 [.int .u8 231] from rfl) (Reps.one (show Kd.M (Kd.int .u8) _ _ _ ((a0) % 256) [.int .u8 ((a0) % 256)] from rfl) (Reps.none _ _))))
     intro v157 w13 ho14 hb hg_ hnew_
     clear hg_ hnew_
     (first | rw [← Ny156.out] at ho14 | (simp only [Int.reduceToNat] at ho14; rw [← Ny156.out] at ho14))
     have HO158 := My.am (Kd.R_lower ho14 (below_size (My.bl_ HB)))
     replace HB := My.st HB hb
     clear hb ho14
     refine hK.out _ _ trivial (fun hHeld => ?_)
     clear hK K
     refine My.nm 18 ?_
     refine two_ (i := 3) (j := 5) (Ni := some 19) (Nj := some 21) (My.Mb 8 31) (My.Mb 8 55) rfl rfl rfl rfl (two_of HT_.out (by kernel_rfl)) (by decide) (by decide) (fun K hK => ?_) (fun K hK => ?_)
     ·skip
      have hcv15 := own_string (P := Tryz.prog) Tryz.underlying124 Tryz.underlying5 Tryz.underlying9 (Kd.own_of_R HO158.out)
      refine value_ (w1 := ?_) (v := ?_) (by rfl) rfl ?_ ?_
      rotate_left 2
      ·go_simp
       constructor
       ·rfl
       rfl
      clear hcv15
      refine hK.out _ _ trivial (fun hHeld => ?_)
      clear hK K
      refine My.nm 19 ?_
      refine one_ (i := 5) (N := some 21) (My.Mb 8 63) rfl rfl (one_of HT_.out (by kernel_rfl)) (by decide) (fun K hK => ?_)
      refine goes_ Tryz.func70 (by kernel_rfl) rfl #[.string a1] (by rfl) rfl rfl My.gx ?_
      with_reducible refine (ententeref01_Text.calls kj2 a1 t159 _ A7.out).mono ?_
      rintro e w16 ⟨rfl, hb⟩
      refine ⟨_, rfl, ?_⟩
      replace HO158 := My.am (Kd.R_below (My.dr HO158.out) hb)
      replace HB := My.st HB hb
      (try clear hb)
      (try clear hb2)
      (try clear hk)
      (try clear hi)
      refine hK.out _ _ trivial (fun hHeld => ?_)
      clear hK K
      refine My.nm 21 ?_
      exact norm_ (by simp only [putAll, Act.put, List.setIfInBounds_toArray, List.set_cons_zero, List.set_cons_succ]) (hCont (v157) _ ⟨(My.dr HO158.out), (My.bl_ HB)⟩)
     skip
     refine goes_ Tryz.func70 (by kernel_rfl) rfl #[.string a1] (by rfl) rfl rfl My.gx ?_
     with_reducible refine (ententeref01_Text.calls kj2 a1 t159 _ A7.out).mono ?_
     rintro e w15 ⟨rfl, hb⟩
     refine ⟨_, rfl, ?_⟩
     replace HO158 := My.am (Kd.R_below (My.dr HO158.out) hb)
     replace HB := My.st HB hb
     (try clear hb)
     (try clear hb2)
     (try clear hk)
     (try clear hi)
     refine hK.out _ _ trivial (fun hHeld => ?_)
     clear hK K
     refine My.nm 21 ?_
     refine one_ (i := 3) (N := some 19) (My.Mb 8 63) rfl rfl (one_of HT_.out (by kernel_rfl)) (by decide) (fun K hK => ?_)
     have hcv16 := own_string (P := Tryz.prog) Tryz.underlying124 Tryz.underlying5 Tryz.underlying9 (Kd.own_of_R HO158.out)
     refine value_ (w1 := ?_) (v := ?_) (by rfl) rfl ?_ ?_
     rotate_left 2
     ·go_simp
      constructor
      ·rfl
      rfl
     clear hcv16
     refine hK.out _ _ trivial (fun hHeld => ?_)
     clear hK K
     refine My.nm 19 ?_
     exact norm_ (by simp only [putAll, Act.put, List.setIfInBounds_toArray, List.set_cons_zero, List.set_cons_succ]) (hCont (v157) _ ⟨(My.dr HO158.out), (My.bl_ HB)⟩)
    skip
    refine goes_ Tryz.func70 (by kernel_rfl) rfl #[.string a1] (by rfl) rfl rfl My.gx ?_
    with_reducible refine (ententeref01_Text.calls kj2 a1 t159 _ A7.out).mono ?_
    rintro e w13 ⟨rfl, hb⟩
    refine ⟨_, rfl, ?_⟩
    replace HB := My.st HB hb
    (try clear hb)
    (try clear hb2)
    (try clear hk)
    (try clear hi)
    refine hK.out _ _ trivial (fun hHeld => ?_)
    clear hK K
    refine My.nm 21 ?_
    refine one_ (i := 2) (N := some 18) (My.Mb 8 55) rfl rfl (one_of HT_.out (by kernel_rfl)) (by decide) (fun K hK => ?_)
    refine Kd.R_lit_step (Kd.int .u8) _ 5 ?hg (N := 18) ?hd (xs := ([231, (a0) % 256] : List Int)) (inner := [.int .u8 231, .int .u8 ((a0) % 256)]) (ok := fun _ => True) (okp := fun _ => True) ?hr ?hp (fun _ hk => hk) trivial (Below.refl _ _) (Nat.le_refl _) (by simp) ?_; (case hd => rfl); (case hg => rfl); (case hr => first | (go_simp; done) | (go_simp; rfl)); (case hp => exact (Reps.one (show Kd.M (Kd.int .u8) _ _ _ 231 [.int .u8 231] from rfl) (Reps.one (show Kd.M (Kd.int .u8) _ _ _ ((a0) % 256) [.int .u8 ((a0) % 256)] from rfl) (Reps.none _ _))))
    intro v157 w14 ho15 hb hg_ hnew_
    clear hg_ hnew_
    (first | rw [← Ny156.out] at ho15 | (simp only [Int.reduceToNat] at ho15; rw [← Ny156.out] at ho15))
    have HO158 := My.am (Kd.R_lower ho15 (below_size (My.bl_ HB)))
    replace HB := My.st HB hb
    clear hb ho15
    refine hK.out _ _ trivial (fun hHeld => ?_)
    clear hK K
    refine My.nm 18 ?_
    refine one_ (i := 3) (N := some 19) (My.Mb 8 63) rfl rfl (one_of HT_.out (by kernel_rfl)) (by decide) (fun K hK => ?_)
    have hcv16 := own_string (P := Tryz.prog) Tryz.underlying124 Tryz.underlying5 Tryz.underlying9 (Kd.own_of_R HO158.out)
    refine value_ (w1 := ?_) (v := ?_) (by rfl) rfl ?_ ?_
    rotate_left 2
    ·go_simp
     constructor
     ·rfl
     rfl
    clear hcv16
    refine hK.out _ _ trivial (fun hHeld => ?_)
    clear hK K
    refine My.nm 19 ?_
    exact norm_ (by simp only [putAll, Act.put, List.setIfInBounds_toArray, List.set_cons_zero, List.set_cons_succ]) (hCont (v157) _ ⟨(My.dr HO158.out), (My.bl_ HB)⟩)
   rintro v157 w17 ⟨h0_, h1_⟩
   have n0_ : Aside0 (Kd.R (Kd.int .u8) 5 w17 w.heap.size (fun _ => True) v157 y156) := ⟨h0_⟩
   have n1_ : Aside0 (Below w.heap.size w w17) := ⟨h1_⟩
   clear HB
   clear h0_ h1_
   have HB := n1_
   clear n0_ n1_
   have hHeld := trivial
   refine norm_ (a' := ?_) ?_ ?_
   rotate_left
   ·simp only [putAll, Act.put, List.setIfInBounds_toArray, List.set_cons_zero, List.set_cons_succ]
    rfl
   refine My.pu_ 6 22 8 HT_.out ?_
   refine My.pu_ 7 6 8 HT_.out ?_
   refine done_ (done_of HT_.out (by kernel_rfl)) ?_
   try go_wp2_with (first | ((with_reducible refine gate_callee (f := 72) rfl ?_); refine goesL_ (some 25) rfl rfl Tryz.func72 (by kernel_rfl) rfl #[.string ((strOfNums y156) ++ t159)] rfl My.gx ?_; (with_reducible refine (ententeref02_Sum.calls kj2 ((strOfNums y156) ++ t159) t160 _ A9.out).mono ?_); rintro e w' ⟨rfl, ⟨nd, rfl⟩⟩; refine ⟨_, rfl, ?_⟩) | ((with_reducible refine gate_callee (f := 71) rfl ?_); refine goesL_ (some 26) rfl rfl Tryz.func71 (by kernel_rfl) rfl #[.int .u64 t160] rfl My.gx ?_; (with_reducible refine (ententeref02_eight.calls kj2 t160 t161 _ A10.out).mono ?_); rintro e w18 ⟨rfl, hb⟩; refine ⟨_, rfl, ?_⟩; replace HB := My.st HB hb; (try clear hb)))
   go_ret2
   exact ⟨My.r2, (My.bl_ HB)⟩
/-! ### ententeref01_value: function 82 -/
def ententeref01_value.l0 : Nat → ByteArray → Int → Int → Option (Int × Bool)
 | 0, _, _, _ => none
 | k + 1, x0, x4, x5 => if x5 ≥ 0 then (if x4 > 144115188075855871 then (some (0, false)) else (if 0 ≤ x5 then (if x5 < (x0.size : Int) then (ententeref01_value.l0 k x0 (IntKind.u64.wrap ((IntKind.u64.wrap (128 * x4)) + (IntKind.u64.wrap (Int.tmod (bt x0 x5) 128)))) (wrap64 (x5 - 1))) else (none)) else (none))) else (some (x4, true))
def ententeref01_value.f (k : Nat) (a0 : ByteArray) : Option (Int × Bool) := ententeref01_value.l0 k a0 0 (wrap64 ((a0.size : Int) - 1))
theorem ententeref01_value.mono_l : ∀ k, (∀ y0 y1 y2, LeO (ententeref01_value.l0 k y0 y1 y2) (ententeref01_value.l0 (k + 1) y0 y1 y2))
 | 0 => fun _ _ _ r h => by simp [ententeref01_value.l0] at h
 | k + 1 => by
  have ih0 := ententeref01_value.mono_l k
  intro y0 y1 y2
  unfold ententeref01_value.l0
  repeat' (with_reducible first | exact ih0 _ _ _ | exact LeO.refl _ | exact LeO.none _ | apply LeO.ite | refine LeO.bind ?_ (fun _ => ?_))
theorem ententeref01_value.mono : ∀ a0 k, LeO (ententeref01_value.f k a0) (ententeref01_value.f (k + 1) a0) := by
 intro a0 k
 have ih0 := ententeref01_value.mono_l k
 unfold ententeref01_value.f
 repeat' (with_reducible first | exact ih0 _ _ _ | exact LeO.refl _ | exact LeO.none _ | apply LeO.ite | refine LeO.bind ?_ (fun _ => ?_))
theorem ententeref01_value.calls (k : Nat) (a0 : ByteArray) (r1 : Int) (r2 : Bool) (w : World) (h : ententeref01_value.f k a0 = some (r1, r2)) :
  Calls Tryz.prog 82 #[.string a0] w fun e w' => e = .returned (.tuple #[.int .u64 r1, .bool r2]) ∧ Drawn0 w w' := by
 unfold ententeref01_value.f at h
 have H := h
 clear h
 have H' := My.am H
 clear H
 go_enter Tryz.func82, Tryz.ntmps82
 go_wp2
 go_loopg [4, 5] k (fun kq v4 v5 w' => ∃ (x4_1 : Int) (x5_1 : Int), v4 = .int .u64 x4_1 ∧ v5 = .int .i64 x5_1 ∧ Aside0 (ententeref01_value.l0 kq a0 x4_1 x5_1 = some (r1, r2)) ∧ Aside0 (kq ≤ k) ∧ Drawn0 w w')
 case atStart => exact ⟨(0), (wrap64 ((a0.size : Int) - 1)), My.r1, My.r1, H', ⟨Nat.le_refl _⟩, by repeat (first | exact Drawn0.refl _ | apply Drawn0.step)⟩
 case round =>
  clear H'
  obtain ⟨x4_1, x5_1, rfl, rfl, HA, HK1, ⟨m1, rfl⟩⟩ := hrel
  cases gk with
  | zero => exact absurd HA.out (by simp [ententeref01_value.l0])
  | succ k1 =>
   have H := HA.out
   clear HA
   simp only [ententeref01_value.l0] at H
   by_cases c2 : x5_1 ≥ 0
   rotate_left
   ·rw [if_neg c2] at H
    have c2b0 : decide (0 ≤ x5_1) = false := decide_eq_false c2
    clear c2
    simp only [Option.some.injEq, Prod.mk.injEq] at H
    obtain ⟨rfl, rfl⟩ := H
    go_wp2
    go_ret2
    exact ⟨by first | rfl | (simp; done) | (simp [*]; done), by repeat (first | exact Drawn0.refl _ | apply Drawn0.step)⟩

   rw [if_pos c2] at H
   have c2b0 : decide (0 ≤ x5_1) = true := decide_eq_true c2
   clear c2
   by_cases c3 : x4_1 > 144115188075855871
   ·rw [if_pos c3] at H
    have c3b0 : decide (144115188075855871 < x4_1) = true := decide_eq_true c3
    clear c3
    simp only [Option.some.injEq, Prod.mk.injEq] at H
    obtain ⟨rfl, rfl⟩ := H
    go_wp2
    go_ret2
    exact ⟨by first | rfl | (simp; done) | (simp [*]; done), by repeat (first | exact Drawn0.refl _ | apply Drawn0.step)⟩
   rw [if_neg c3] at H
   have c3b0 : decide (144115188075855871 < x4_1) = false := decide_eq_false c3
   clear c3
   replace H := My.ds H
   obtain ⟨c4b0, H⟩ := H
   by_cases c5 : x5_1 < (a0.size : Int)
   ·rw [if_pos c5] at H
    have c5b0 := decide_eq_true c5
    clear c5
    have H' := My.am H
    clear H
    have p6 : 0 ≤ (x5_1 : Int) := My.as_
    have q6 : x5_1 < (a0.size : Int) := My.as_
    have hx6 := bt_at a0 x5_1
    replace p6 := eq_true p6
    replace q6 := eq_true q6
    go_wp2
    go_roundg k1
    case measure => have := HK1.out; omega
    case rel => exact ⟨(IntKind.u64.wrap ((IntKind.u64.wrap (128 * x4_1)) + (IntKind.u64.wrap (Int.tmod (bt a0 x5_1) 128)))), (wrap64 (x5_1 - 1)), My.r1, My.r1, H', ⟨by have := HK1.out; omega⟩, by repeat (first | exact Drawn0.refl _ | apply Drawn0.step)⟩
   rw [if_neg c5] at H
   exact absurd H (by simp)
end Go.Proofs.YtkcpgaplpmbmoaaGreat.PA
