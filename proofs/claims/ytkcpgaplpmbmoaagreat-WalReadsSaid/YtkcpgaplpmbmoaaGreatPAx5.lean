-- Written by a program of this session (wip/tools/mp.py over the kit's printer); Lean checks it.
import Derived.Test.YtkcpgaplpmbmoaaGreatPAx0
import Derived.Test.YtkcpgaplpmbmoaaGreatPAx1
import Derived.Test.YtkcpgaplpmbmoaaGreatPAx4
namespace Go.Proofs.YtkcpgaplpmbmoaaGreat.PA
open Go.RowKit Go.Proofs.YtkcpgaplpmbmoaaGreatW.PrintWords Go.Proofs.YtkcpgaplpmbmoaaGreatW.PrintLast Go.Proofs.YtkcpgaplpmbmoaaGreatW.PrintMore
attribute [local go_sem] max2_int min2_int max_two min_two max_three min_three max_four min_four   -- for this text's walks alone
set_option linter.unusedVariables false
set_option maxHeartbeats 8000000
set_option maxRecDepth 100000
set_option linter.unusedSimpArgs false

/-! ### seal_Seal: function 57 -/
def seal_Seal.j0 : Nat → Int → ByteArray → Bool → Option (ByteArray × Int)
 | 0, _, _, _ => none
 | k + 1, x0, x1, x12 => if x12 = true then (some ((⟨#[]⟩ : ByteArray), 2)) else (if (x1.size : Int) > 30000 then (some ((⟨#[]⟩ : ByteArray), 3)) else ((some (([231, (x0) % 256] : List Int) : List Int)).bind fun y129 => ((pack_Text.f k x1).bind fun t132 => (if (strOfNums y129).size + t132.size ≤ 9223372036854775807 then ((seal_Sum.f k (([(strOfNums y129) ++ t132] : List ByteArray))).bind fun t136 => ((seal_eight.f t136).bind fun t137 => (if ((strOfNums y129) ++ t132).size + t137.size ≤ 9223372036854775807 then (some (((strOfNums y129) ++ t132) ++ t137, 0)) else (none)))) else (none)))))
def seal_Seal.f (k : Nat) (a0 : Int) (a1 : ByteArray) : Option (ByteArray × Int) := if a0 < 0 then (seal_Seal.j0 k a0 a1 true) else (seal_Seal.j0 k a0 a1 (decide (a0 > 255)))
theorem seal_Seal.mono_l : ∀ k, (∀ y0 y1 y2, LeO (seal_Seal.j0 k y0 y1 y2) (seal_Seal.j0 (k + 1) y0 y1 y2))
 | 0 => fun _ _ _ r h => by simp [seal_Seal.j0] at h
 | k + 1 => by
  have ih0 := seal_Seal.mono_l k
  intro y0 y1 y2
  unfold seal_Seal.j0
  repeat' (with_reducible first | exact ih0 _ _ _ | exact pack_Text.mono _ _ | exact seal_Sum.mono _ _ | exact LeO.refl _ | exact LeO.none _ | apply LeO.ite | refine LeO.bind ?_ (fun _ => ?_))
theorem seal_Seal.mono : ∀ a0 a1 k, LeO (seal_Seal.f k a0 a1) (seal_Seal.f (k + 1) a0 a1) := by
 intro a0 a1 k
 have ih0 := seal_Seal.mono_l k
 unfold seal_Seal.f
 repeat' (with_reducible first | exact ih0 _ _ _ | exact pack_Text.mono _ _ | exact seal_Sum.mono _ _ | exact LeO.refl _ | exact LeO.none _ | apply LeO.ite | refine LeO.bind ?_ (fun _ => ?_))
def seal_Seal.T5 : Bool × List (List Nat × List Nat) := (true, [([], []), ([0], [0]), ([1], [1]), ([2], [2]), ([], []), ([4], [4]), ([3, 5], [3, 5]), ([6, 5, 0, 1, 2, 3, 4, 5, 6], [6])])
def seal_Seal.B5 : List Nat := [0, 1, 3, 7, 0, 16, 63, 127]
theorem seal_Seal.tab5 : rtab .any (opsOf Tryz.f57 5) = seal_Seal.T5 := by kernel_rfl
theorem seal_Seal.bits5 : waitsOk seal_Seal.T5.2 seal_Seal.B5 = true := by kernel_rfl
theorem seal_Seal.calls (k : Nat) (a0 : Int) (a1 : ByteArray) (r1 : ByteArray) (r2 : Int) (w : World) (h : seal_Seal.f k a0 a1 = some (r1, r2)) :
  Calls Tryz.prog 57 #[.int .i64 a0, .string a1] w fun e w' => e = .returned (.tuple #[.string r1, .int .i64 r2]) ∧ Below w.heap.size w w' := by
 have HB := My.am (Below.refl w.heap.size w)
 unfold seal_Seal.f at h
 have H := h
 clear h
 have HC3 := My.am H
 clear H
 go_enter Tryz.func57, Tryz.ntmps57
 go_upto_region 1 with (fail)
 go_cut [12] (fun v12 wc => ∃ (kq : Nat) (x12_2 : Bool), v12 = .bool x12_2 ∧ Aside0 (seal_Seal.j0 kq a0 a1 x12_2 = some (r1, r2)) ∧ Aside0 (kq ≤ k) ∧ Aside0 (Below w.heap.size w wc))
 case first =>
  have H := HC3.out
  clear HC3
  by_cases c4 : a0 < 0
  ·rw [if_pos c4] at H
   have c4b0 := decide_eq_true c4
   clear c4
   (first | rw [c4b0] | (simp only [i64_w, i32_w]; rw [c4b0]) | skip)
   have H' := My.am H
   clear H
   go_wp2
   go_meet
   case rel => exact ⟨_, (true), My.r1, H', ⟨My.r4⟩, ⟨(My.bl_ HB)⟩⟩
  ·rw [if_neg c4] at H
   have c4b0 := decide_eq_false c4
   clear c4
   (first | rw [c4b0] | (simp only [i64_w, i32_w]; rw [c4b0]) | skip)
   have H' := My.am H
   clear H
   go_wp2
   go_meet
   case rel => exact ⟨_, (decide (a0 > 255)), My.r1, H', ⟨My.r4⟩, ⟨(My.bl_ HB)⟩⟩
 case rest =>
  clear HC3
  obtain ⟨kq, x12_2, rfl, HA, HJ2, HB⟩ := hcut
  cases kq with
  | zero => exact absurd HA.out (by simp [seal_Seal.j0])
  | succ kj2 =>
   have H := HA.out
   clear HA
   simp only [seal_Seal.j0] at H
   by_cases c5 : x12_2 = true
   ·subst c5
    rw [if_pos rfl] at H
    simp only [Option.some.injEq, Prod.mk.injEq] at H
    obtain ⟨rfl, rfl⟩ := H
    go_wp2
    go_ret2
    exact ⟨My.r2, (My.bl_ HB)⟩
   replace c5 := Bool.eq_false_iff.mpr c5
   subst c5
   rw [if_neg (show ¬ (false = true) by decide)] at H
   by_cases c6 : (a1.size : Int) > 30000
   ·rw [if_pos c6] at H
    have c6b0 : decide (30000 < (a1.size : Int)) = true := decide_eq_true c6
    have c6b1 : decide (30000 < a1.size) = true := decide_eq_true (by omega)
    clear c6
    simp only [Option.some.injEq, Prod.mk.injEq] at H
    obtain ⟨rfl, rfl⟩ := H
    go_wp2
    go_ret2
    exact ⟨My.r2, (My.bl_ HB)⟩
   rw [if_neg c6] at H
   have c6b0 : decide (30000 < (a1.size : Int)) = false := decide_eq_false c6
   have c6b1 : decide (30000 < a1.size) = false := decide_eq_false (by omega)
   clear c6
   obtain ⟨y129, hy129⟩ : ∃ y_ : List Int, y_ = (([231, (a0) % 256] : List Int)) := ⟨_, rfl⟩
   replace H : ((pack_Text.f kj2 a1).bind fun t132 => (if (strOfNums y129).size + t132.size ≤ 9223372036854775807 then ((seal_Sum.f kj2 (([(strOfNums y129) ++ t132] : List ByteArray))).bind fun t136 => ((seal_eight.f t136).bind fun t137 => (if ((strOfNums y129) ++ t132).size + t137.size ≤ 9223372036854775807 then (some (((strOfNums y129) ++ t132) ++ t137, 0)) else (none)))) else (none))) = some (r1, r2) := by first | (rw [hy129]; with_reducible exact H) | (have H2_ := (Option.bind_some _ _).symm.trans H; rw [hy129]; with_reducible exact H2_) | (have H2_ := (Option.bind_some _ _).symm.trans H; with_reducible exact H2_) | with_reducible exact H | (rw [hy129]; exact H) | exact H
   have Ny129 := My.am hy129
   clear hy129
   replace H := Option.bind_eq_some_iff.mp H
   obtain ⟨t132, A70, H⟩ := H
   try dsimp only at H
   have A7 := My.am A70
   clear A70
   by_cases c8 : (strOfNums y129).size + t132.size ≤ 9223372036854775807
   rotate_left
   ·exact My.nn c8 H

   rw [if_pos c8] at H
   have c8b0 := eq_true c8
   have c8b1 := decide_eq_true c8
   try have c8b2 : (9223372036854775807 < (strOfNums y129).size + t132.size) = False := eq_false (Nat.not_lt.2 c8)
   try clear c8
   obtain ⟨y133, hy133⟩ : ∃ y_ : List ByteArray, y_ = (([(strOfNums y129) ++ t132] : List ByteArray)) := ⟨_, rfl⟩
   replace H : ((seal_Sum.f kj2 y133).bind fun t136 => ((seal_eight.f t136).bind fun t137 => (if ((strOfNums y129) ++ t132).size + t137.size ≤ 9223372036854775807 then (some (((strOfNums y129) ++ t132) ++ t137, 0)) else (none)))) = some (r1, r2) := by first | (rw [hy133]; with_reducible exact H) | (have H2_ := (Option.bind_some _ _).symm.trans H; rw [hy133]; with_reducible exact H2_) | (have H2_ := (Option.bind_some _ _).symm.trans H; with_reducible exact H2_) | with_reducible exact H | (rw [hy133]; exact H) | exact H
   have Ny133 := My.am hy133
   clear hy133
   replace H := Option.bind_eq_some_iff.mp H
   obtain ⟨t136, A90, H⟩ := H
   try dsimp only at H
   have A9 := My.am A90
   clear A90
   replace H := Option.bind_eq_some_iff.mp H
   obtain ⟨t137, A100, H⟩ := H
   try dsimp only at H
   have A10 := My.am A100
   clear A100
   by_cases c11 : ((strOfNums y129) ++ t132).size + t137.size ≤ 9223372036854775807
   rotate_left
   ·exact My.nn c11 H
   rw [if_pos c11] at H
   have c11b0 := eq_true c11
   have c11b1 := decide_eq_true c11
   try have c11b2 : (9223372036854775807 < ((strOfNums y129) ++ t132).size + t137.size) = False := eq_false (Nat.not_lt.2 c11)
   try (have h_ := c11; simp only [ByteArray.size_append] at h_; have c11b3 := eq_false (Nat.not_lt.2 h_); clear h_)
   try clear c11
   simp only [Option.some.injEq, Prod.mk.injEq] at H
   obtain ⟨rfl, rfl⟩ := H
   try go_wp2
   replace HB := My.am (below_drew1 HB.out)
   refine start_ (n := 8) (S := fun w' => True) (ds := []) #[false, false, false, false, false, false, false, false] (by kernel_rfl) rfl rfl trivial (fun hHeld => ?_); refine with_tabW seal_Seal.tab5 seal_Seal.bits5 (fun HT_ HW_ => ?_)
   generalize wc.drew = w12 at HB hHeld ⊢
   refine My.pu_ 0 16 8 HT_.out ?_
   refine My.pu_ 1 17 8 HT_.out ?_
   refine My.pv_ 4 20 8 19 HT_.out ?_
   refine join_ (σ := Value) 2 (My.Mb 8 63) (fun s_ => [(18, s_), (19, .string (strOfNums y129)), (21, .string t132)]) (fun s_ w' => (Kd.R (Kd.int .u8) 5 w' w.heap.size (fun _ => True) s_ y129) ∧ (Below w.heap.size w w')) ?_ ?_
   rotate_left
   ·intro hCont
    refine two_ (i := 2) (j := 5) (Ni := some 18) (Nj := some 21) (My.Mb 8 23) (My.Mb 8 51) rfl rfl rfl rfl (two_of HT_.out (by kernel_rfl)) (by decide) (by decide) (fun K hK => ?_) (fun K hK => ?_)
    ·skip
     refine Kd.R_lit_step (Kd.int .u8) _ 5 ?hg (N := 18) ?hd (xs := ([231, (a0) % 256] : List Int)) (inner := [.int .u8 231, .int .u8 ((a0) % 256)]) (ok := fun _ => True) (okp := fun _ => True) ?hr ?hp (fun _ hk => hk) trivial (Below.refl _ _) (Nat.le_refl _) (by simp) ?_; (case hd => rfl); (case hg => rfl); (case hr => first | (go_simp; done) | (go_simp; rfl)); (case hp => exact (Reps.one (show Kd.M (Kd.int .u8) _ _ _ 231 [.int .u8 231] from rfl) (Reps.one (show Kd.M (Kd.int .u8) _ _ _ ((a0) % 256) [.int .u8 ((a0) % 256)] from rfl) (Reps.none _ _))))
     intro v130 w13 ho14 hb hg_ hnew_
     clear hg_ hnew_
     (first | rw [← Ny129.out] at ho14 | (simp only [Int.reduceToNat] at ho14; rw [← Ny129.out] at ho14))
     have HO131 := My.am (Kd.R_lower ho14 (below_size (My.bl_ HB)))
     replace HB := My.st HB hb
     clear hb ho14
     refine hK.out _ _ trivial (fun hHeld => ?_)
     clear hK K
     refine My.nm 18 ?_
     refine two_ (i := 3) (j := 5) (Ni := some 19) (Nj := some 21) (My.Mb 8 31) (My.Mb 8 55) rfl rfl rfl rfl (two_of HT_.out (by kernel_rfl)) (by decide) (by decide) (fun K hK => ?_) (fun K hK => ?_)
     ·skip
      have hcv15 := own_string (P := Tryz.prog) Tryz.underlying124 Tryz.underlying5 Tryz.underlying9 (Kd.own_of_R HO131.out)
      refine value_ (w1 := ?_) (v := ?_) (by rfl) rfl ?_ ?_
      rotate_left 2
      ·go_simp
       constructor
       ·rfl
       rfl
      clear hcv15
      refine hK.out _ _ trivial (fun hHeld => ?_)
      clear hK K
      refine My.nm 19 ?_
      refine one_ (i := 5) (N := some 21) (My.Mb 8 63) rfl rfl (one_of HT_.out (by kernel_rfl)) (by decide) (fun K hK => ?_)
      refine goes_ Tryz.func77 (by kernel_rfl) rfl #[.string a1] (by rfl) rfl rfl My.gx ?_
      with_reducible refine (pack_Text.calls kj2 a1 t132 _ A7.out).mono ?_
      rintro e w16 ⟨rfl, hb⟩
      refine ⟨_, rfl, ?_⟩
      replace HO131 := My.am (Kd.R_below (My.dr HO131.out) hb)
      replace HB := My.st HB hb
      (try clear hb)
      (try clear hb2)
      (try clear hk)
      (try clear hi)
      refine hK.out _ _ trivial (fun hHeld => ?_)
      clear hK K
      refine My.nm 21 ?_
      exact norm_ (by simp only [putAll, Act.put, List.setIfInBounds_toArray, List.set_cons_zero, List.set_cons_succ]) (hCont (v130) _ ⟨(My.dr HO131.out), (My.bl_ HB)⟩)
     skip
     refine goes_ Tryz.func77 (by kernel_rfl) rfl #[.string a1] (by rfl) rfl rfl My.gx ?_
     with_reducible refine (pack_Text.calls kj2 a1 t132 _ A7.out).mono ?_
     rintro e w15 ⟨rfl, hb⟩
     refine ⟨_, rfl, ?_⟩
     replace HO131 := My.am (Kd.R_below (My.dr HO131.out) hb)
     replace HB := My.st HB hb
     (try clear hb)
     (try clear hb2)
     (try clear hk)
     (try clear hi)
     refine hK.out _ _ trivial (fun hHeld => ?_)
     clear hK K
     refine My.nm 21 ?_
     refine one_ (i := 3) (N := some 19) (My.Mb 8 63) rfl rfl (one_of HT_.out (by kernel_rfl)) (by decide) (fun K hK => ?_)
     have hcv16 := own_string (P := Tryz.prog) Tryz.underlying124 Tryz.underlying5 Tryz.underlying9 (Kd.own_of_R HO131.out)
     refine value_ (w1 := ?_) (v := ?_) (by rfl) rfl ?_ ?_
     rotate_left 2
     ·go_simp
      constructor
      ·rfl
      rfl
     clear hcv16
     refine hK.out _ _ trivial (fun hHeld => ?_)
     clear hK K
     refine My.nm 19 ?_
     exact norm_ (by simp only [putAll, Act.put, List.setIfInBounds_toArray, List.set_cons_zero, List.set_cons_succ]) (hCont (v130) _ ⟨(My.dr HO131.out), (My.bl_ HB)⟩)
    skip
    refine goes_ Tryz.func77 (by kernel_rfl) rfl #[.string a1] (by rfl) rfl rfl My.gx ?_
    with_reducible refine (pack_Text.calls kj2 a1 t132 _ A7.out).mono ?_
    rintro e w13 ⟨rfl, hb⟩
    refine ⟨_, rfl, ?_⟩
    replace HB := My.st HB hb
    (try clear hb)
    (try clear hb2)
    (try clear hk)
    (try clear hi)
    refine hK.out _ _ trivial (fun hHeld => ?_)
    clear hK K
    refine My.nm 21 ?_
    refine one_ (i := 2) (N := some 18) (My.Mb 8 55) rfl rfl (one_of HT_.out (by kernel_rfl)) (by decide) (fun K hK => ?_)
    refine Kd.R_lit_step (Kd.int .u8) _ 5 ?hg (N := 18) ?hd (xs := ([231, (a0) % 256] : List Int)) (inner := [.int .u8 231, .int .u8 ((a0) % 256)]) (ok := fun _ => True) (okp := fun _ => True) ?hr ?hp (fun _ hk => hk) trivial (Below.refl _ _) (Nat.le_refl _) (by simp) ?_; (case hd => rfl); (case hg => rfl); (case hr => first | (go_simp; done) | (go_simp; rfl)); (case hp => exact (Reps.one (show Kd.M (Kd.int .u8) _ _ _ 231 [.int .u8 231] from rfl) (Reps.one (show Kd.M (Kd.int .u8) _ _ _ ((a0) % 256) [.int .u8 ((a0) % 256)] from rfl) (Reps.none _ _))))
    intro v130 w14 ho15 hb hg_ hnew_
    clear hg_ hnew_
    (first | rw [← Ny129.out] at ho15 | (simp only [Int.reduceToNat] at ho15; rw [← Ny129.out] at ho15))
    have HO131 := My.am (Kd.R_lower ho15 (below_size (My.bl_ HB)))
    replace HB := My.st HB hb
    clear hb ho15
    refine hK.out _ _ trivial (fun hHeld => ?_)
    clear hK K
    refine My.nm 18 ?_
    refine one_ (i := 3) (N := some 19) (My.Mb 8 63) rfl rfl (one_of HT_.out (by kernel_rfl)) (by decide) (fun K hK => ?_)
    have hcv16 := own_string (P := Tryz.prog) Tryz.underlying124 Tryz.underlying5 Tryz.underlying9 (Kd.own_of_R HO131.out)
    refine value_ (w1 := ?_) (v := ?_) (by rfl) rfl ?_ ?_
    rotate_left 2
    ·go_simp
     constructor
     ·rfl
     rfl
    clear hcv16
    refine hK.out _ _ trivial (fun hHeld => ?_)
    clear hK K
    refine My.nm 19 ?_
    exact norm_ (by simp only [putAll, Act.put, List.setIfInBounds_toArray, List.set_cons_zero, List.set_cons_succ]) (hCont (v130) _ ⟨(My.dr HO131.out), (My.bl_ HB)⟩)
   rintro v130 w17 ⟨h0_, h1_⟩
   have n0_ : Aside0 (Kd.R (Kd.int .u8) 5 w17 w.heap.size (fun _ => True) v130 y129) := ⟨h0_⟩
   have n1_ : Aside0 (Below w.heap.size w w17) := ⟨h1_⟩
   clear HB
   clear h0_ h1_
   have HB := n1_
   clear n0_ n1_
   have hHeld := trivial
   refine norm_ (a' := ?_) ?_ ?_
   rotate_left
   ·simp only [putAll, Act.put, List.setIfInBounds_toArray, List.set_cons_zero, List.set_cons_succ]
    rfl
   refine My.pu_ 6 22 8 HT_.out ?_
   refine My.pu_ 7 6 8 HT_.out ?_
   refine done_ (done_of HT_.out (by kernel_rfl)) ?_
   try go_wp2_with (first | ((with_reducible refine gate_dst (N := 25) rfl ?_); refine Kd.R_lit Kd.string _ 9 ?hg (N := 25) ?hd (xs := ([(strOfNums y129) ++ t132] : List ByteArray)) (inner := [.string ((strOfNums y129) ++ t132)]) (ok := fun _ => True) (okp := fun _ => True) ?hr ?hp (fun _ hk => hk) trivial (Below.refl _ _) (Nat.le_refl _) (by simp) ?_; (case hd => rfl); (case hg => rfl); (case hr => first | (go_simp; done) | (go_simp; rfl)); (case hp => exact (Reps.one (show Kd.M Kd.string _ _ _ ((strOfNums y129) ++ t132) [.string ((strOfNums y129) ++ t132)] from rfl) (Reps.none _ _))); intro v134 w18 ho19 hb hg_ hnew_; clear hg_ hnew_; (first | rw [← Ny133.out] at ho19 | (simp only [Int.reduceToNat] at ho19; rw [← Ny133.out] at ho19)); have HO135 := My.am (Kd.R_lower ho19 (below_size (My.bl_ HB))); replace HB := My.st HB hb; clear hb ho19; obtain ⟨Ao20, co20, eo20⟩ := Kd.R_slice HO135.out; subst eo20) | ((with_reducible refine gate_callee (f := 63) rfl ?_); refine goesL_ (some 26) rfl rfl Tryz.func63 (by kernel_rfl) rfl #[.slice Ao20 y133.length co20] rfl My.gx ?_; (with_reducible refine (seal_Sum.calls kj2 _ _ y133 t136 _ ?side1 ?side2 A9.out).mono ?_); (case side1 => repeat (first | exact (Kd.R_reads' HO135.out).2.2 | (with_reducible refine Kd.C_alloc ?_ _) | (with_reducible refine Kd.C_drewN ?_ _) | (with_reducible refine Kd.C_drew ?_))); (case side2 => exact (Kd.R_reads' HO135.out).2.1); rintro e w21 ⟨rfl, hb⟩; refine ⟨_, rfl, ?_⟩; replace HB := My.st HB hb; (try clear hb)) | ((with_reducible refine gate_callee (f := 62) rfl ?_); refine goesL_ (some 27) rfl rfl Tryz.func62 (by kernel_rfl) rfl #[.int .u64 t136] rfl My.gx ?_; (with_reducible refine (seal_eight.calls t136 t137 _ A10.out).mono ?_); rintro e w22 ⟨rfl, hb⟩; refine ⟨_, rfl, ?_⟩; replace HB := My.st HB hb; (try clear hb)))
   go_ret2
   exact ⟨My.r2, (My.bl_ HB)⟩
/-! ### segment_Begin: function 46 -/
def segment_Begin.f (k : Nat) (a0 : ByteArray) : Option (ByteArray × Int) := (seal_Seal.f k 3 a0).bind fun bt138 => (some (bt138.1, bt138.2))
theorem segment_Begin.mono : ∀ a0 k, LeO (segment_Begin.f k a0) (segment_Begin.f (k + 1) a0) := by
 intro a0 k
 unfold segment_Begin.f
 repeat' (with_reducible first | exact seal_Seal.mono _ _ _ | exact LeO.refl _ | exact LeO.none _ | apply LeO.ite | refine LeO.bind ?_ (fun _ => ?_))
theorem segment_Begin.calls (k : Nat) (a0 : ByteArray) (r1 : ByteArray) (r2 : Int) (w : World) (h : segment_Begin.f k a0 = some (r1, r2)) :
  Calls Tryz.prog 46 #[.string a0] w fun e w' => e = .returned (.tuple #[.string r1, .int .i64 r2]) ∧ Below w.heap.size w w' := by
 have HB := My.am (Below.refl w.heap.size w)
 unfold segment_Begin.f at h
 have H := h
 clear h
 replace H := Option.bind_eq_some_iff.mp H
 obtain ⟨⟨t138, t139⟩, A20, H⟩ := H
 try dsimp only at H
 have A2 := My.am A20
 clear A20
 simp only [Option.some.injEq, Prod.mk.injEq] at H
 obtain ⟨rfl, rfl⟩ := H
 go_enter Tryz.func46, Tryz.ntmps46
 go_wp2_with (first | ((with_reducible refine gate_callee (f := 57) rfl ?_); refine goesL_ (some 5) rfl rfl Tryz.func57 (by kernel_rfl) rfl #[.int .i64 3, .string a0] rfl My.gx ?_; (with_reducible refine (seal_Seal.calls k 3 a0 t138 t139 _ A2.out).mono ?_); rintro e w3 ⟨rfl, hb⟩; refine ⟨_, rfl, ?_⟩; replace HB := My.st HB hb; (try clear hb)))
 go_ret2
 exact ⟨My.r2, (My.bl_ HB)⟩

/-! ### wal_file_begin: function 22 -/


/-! ### wal_Open: function 7 -/


/-! ### ententeref01_Same: function 9 -/
def ententeref01_Same.l0 : Nat → List ByteArray → List ByteArray → Int → Option (Bool)
 | 0, _, _, _ => none
 | k + 1, x0, x1, x5 => if x5 < (x0.length : Int) then (if 0 ≤ x5 then (if x5 < (x1.length : Int) then (if (rdOf ByteArray.empty x0 x5).toList = (rdOf ByteArray.empty x1 x5).toList then (ententeref01_Same.l0 k x0 x1 (wrap64 (x5 + 1))) else (some false)) else (none)) else (none)) else (some true)
def ententeref01_Same.f (k : Nat) (l0 : List ByteArray) (l1 : List ByteArray) : Option (Bool) := if (l0.length : Int) = (l1.length : Int) then (ententeref01_Same.l0 k l0 l1 0) else (some false)
theorem ententeref01_Same.mono_l : ∀ k, (∀ y0 y1 y2, LeO (ententeref01_Same.l0 k y0 y1 y2) (ententeref01_Same.l0 (k + 1) y0 y1 y2))
 | 0 => fun _ _ _ r h => by simp [ententeref01_Same.l0] at h
 | k + 1 => by
  have ih0 := ententeref01_Same.mono_l k
  intro y0 y1 y2
  unfold ententeref01_Same.l0
  repeat' (with_reducible first | exact ih0 _ _ _ | exact LeO.refl _ | exact LeO.none _ | apply LeO.ite | refine LeO.bind ?_ (fun _ => ?_))
theorem ententeref01_Same.mono : ∀ a0 a1 k, LeO (ententeref01_Same.f k a0 a1) (ententeref01_Same.f (k + 1) a0 a1) := by
 intro a0 a1 k
 have ih0 := ententeref01_Same.mono_l k
 unfold ententeref01_Same.f
 repeat' (with_reducible first | exact ih0 _ _ _ | exact LeO.refl _ | exact LeO.none _ | apply LeO.ite | refine LeO.bind ?_ (fun _ => ?_))
theorem ententeref01_Same.calls (k : Nat) (A0 : Option Addr) (c0 : Nat) (l0 : List ByteArray) (A1 : Option Addr) (c1 : Nat) (l1 : List ByteArray) (r : Bool) (w : World) (hr0 : Kd.C Kd.string w A0 l0.length l0) (hc0 : l0.length ≤ c0) (hr1 : Kd.C Kd.string w A1 l1.length l1) (hc1 : l1.length ≤ c1) (h : ententeref01_Same.f k l0 l1 = some r) :
  Calls Tryz.prog 9 #[.slice A0 l0.length c0, .slice A1 l1.length c1] w fun e w' => e = .returned (.bool r) ∧ Drawn0 w w' := by
 have HR0 := My.am hr0
 have HC0 := My.am hc0
 clear hr0 hc0
 have HR1 := My.am hr1
 have HC1 := My.am hc1
 clear hr1 hc1
 unfold ententeref01_Same.f at h
 have H := h
 clear h
 by_cases c3 : (l0.length : Int) = (l1.length : Int)
 ·rw [if_pos c3] at H
  have c3b0 : ((l0.length : Int) == (l1.length : Int)) = true := beq_iff_eq.mpr c3
  have c3b1 : ((l0.length : Int) != (l1.length : Int)) = false := bne_eq_false_iff_eq.mpr c3
  have c3b2 : (l0.length == l1.length) = true := by first | simpa using c3 | (simp at c3 ⊢; omega)
  clear c3
  have H' := My.am H
  clear H
  go_enter Tryz.func9, Tryz.ntmps9
  go_wp2
  repeat (go_quiet (fail); try go_wp2)
  go_loopg [5] k (fun kq v5 w' => ∃ (x5_1 : Int), v5 = .int .i64 x5_1 ∧ Aside0 (ententeref01_Same.l0 kq l0 l1 x5_1 = some r) ∧ Aside0 (kq ≤ k) ∧ Drawn0 w w')
  case atStart => exact ⟨(0), My.r1, H', ⟨Nat.le_refl _⟩, by repeat (first | exact Drawn0.refl _ | apply Drawn0.step)⟩
  case round =>
   clear H'
   try clear c1
   try clear c3
   try clear c3b0
   try clear c3b1
   try clear c3b2
   obtain ⟨x5_1, rfl, HA, HK1, ⟨m1, rfl⟩⟩ := hrel
   cases gk with
   | zero => exact absurd HA.out (by simp [ententeref01_Same.l0])
   | succ k1 =>
    have H := HA.out
    clear HA
    simp only [ententeref01_Same.l0] at H
    by_cases c4 : x5_1 < (l0.length : Int)
    rotate_left
    ·rw [if_neg c4] at H
     have c4b0 := decide_eq_false c4
     clear c4
     obtain rfl := Option.some.inj H
     go_wp2
     repeat (go_quiet (fail); try go_wp2)
     go_ret
     exact ⟨by first | rfl | (simp; done) | (simp [*]; done), by repeat (first | exact Drawn0.refl _ | apply Drawn0.step)⟩
    rw [if_pos c4] at H
    have c4b0 := decide_eq_true c4
    clear c4
    replace H := My.ds H
    obtain ⟨c5b0, H⟩ := H
    replace H := My.ds H
    obtain ⟨c6b0, H⟩ := H
    by_cases c7 : (rdOf ByteArray.empty l0 x5_1).toList = (rdOf ByteArray.empty l1 x5_1).toList
    ·rw [if_pos c7] at H
     have c7b0 : ((rdOf ByteArray.empty l0 x5_1).toList == (rdOf ByteArray.empty l1 x5_1).toList) = true := beq_iff_eq.mpr c7
     have c7b1 : ((rdOf ByteArray.empty l0 x5_1).toList != (rdOf ByteArray.empty l1 x5_1).toList) = false := bne_eq_false_iff_eq.mpr c7
     clear c7
     have H' := My.am H
     clear H
     have p140 : 0 ≤ (x5_1 : Int) := My.as_
     have q140 : x5_1 < (l0.length : Int) := My.as_
     obtain ⟨ad140, e140, hx140_0⟩ := Kd.at_string HR0.out x5_1 p140 q140
     cases e140
     replace p140 := eq_true p140
     replace q140 := eq_true q140
     have p141 : 0 ≤ (x5_1 : Int) := My.as_
     have q141 : x5_1 < (l1.length : Int) := My.as_
     obtain ⟨ad141, e141, hx141_0⟩ := Kd.at_string HR1.out x5_1 p141 q141
     cases e141
     replace p141 := eq_true p141
     replace q141 := eq_true q141
     go_wp2
     repeat (go_quiet (fail); try go_wp2)
     go_roundg k1
     case measure => have := HK1.out; omega
     case rel => exact ⟨(wrap64 (x5_1 + 1)), My.r1, H', ⟨by have := HK1.out; omega⟩, by repeat (first | exact Drawn0.refl _ | apply Drawn0.step)⟩
    rw [if_neg c7] at H
    have c7b0 : ((rdOf ByteArray.empty l0 x5_1).toList == (rdOf ByteArray.empty l1 x5_1).toList) = false := beq_eq_false_iff_ne.mpr c7
    have c7b1 : ((rdOf ByteArray.empty l0 x5_1).toList != (rdOf ByteArray.empty l1 x5_1).toList) = true := bne_iff_ne.mpr c7
    obtain rfl := Option.some.inj H
    have p140 : 0 ≤ (x5_1 : Int) := My.as_
    have q140 : x5_1 < (l0.length : Int) := My.as_
    obtain ⟨ad140, e140, hx140_0⟩ := Kd.at_string HR0.out x5_1 p140 q140
    cases e140
    replace p140 := eq_true p140
    replace q140 := eq_true q140
    have p141 : 0 ≤ (x5_1 : Int) := My.as_
    have q141 : x5_1 < (l1.length : Int) := My.as_
    obtain ⟨ad141, e141, hx141_0⟩ := Kd.at_string HR1.out x5_1 p141 q141
    cases e141
    replace p141 := eq_true p141
    replace q141 := eq_true q141
    go_wp2
    repeat (go_quiet (fail); try go_wp2)
    go_ret
    exact ⟨by first | rfl | (simp; done) | (simp [*]; done), by repeat (first | exact Drawn0.refl _ | apply Drawn0.step)⟩
 ·rw [if_neg c3] at H
  have c3b0 : ((l0.length : Int) == (l1.length : Int)) = false := beq_eq_false_iff_ne.mpr c3
  have c3b1 : ((l0.length : Int) != (l1.length : Int)) = true := bne_iff_ne.mpr c3
  have c3b2 : (l0.length == l1.length) = false := by first | simpa using c3 | (simp at c3 ⊢; omega)
  obtain rfl := Option.some.inj H
  go_enter Tryz.func9, Tryz.ntmps9
  go_wp2
  repeat (go_quiet (fail); try go_wp2)
  go_ret
  exact ⟨by first | rfl | (simp; done) | (simp [*]; done), by repeat (first | exact Drawn0.refl _ | apply Drawn0.step)⟩

/-! ### disk_Load: function 5 -/


/-! ### disk_New: function 12 -/


/-! ### wal_Log_ready: function 29 -/


/-! ### segment_Next: function 30 -/
def segment_Next.l0 : Nat → ByteArray → List ByteArray → Int → Int → Option (ByteArray × Int)
 | 0, _, _, _, _ => none
 | k + 1, x4, x9, x10, x11 => if x11 < x10 then (if 0 ≤ x11 then (if x11 < (x9.length : Int) then ((seal_Seal.f k 3 (rdOf ByteArray.empty x9 x11)).bind fun bt143 => (if bt143.2 = 0 then (if x4.size + bt143.1.size ≤ 9223372036854775807 then (segment_Next.l0 k (x4 ++ bt143.1) x9 x10 (wrap64 (x11 + 1))) else (none)) else (some ((⟨#[]⟩ : ByteArray), bt143.2)))) else (none)) else (none)) else (some (x4, 0))
def segment_Next.f (k : Nat) (l0 : List ByteArray) : Option (ByteArray × Int) := segment_Next.l0 k (⟨#[]⟩ : ByteArray) l0 (l0.length : Int) 0
theorem segment_Next.mono_l : ∀ k, (∀ y0 y1 y2 y3, LeO (segment_Next.l0 k y0 y1 y2 y3) (segment_Next.l0 (k + 1) y0 y1 y2 y3))
 | 0 => fun _ _ _ _ r h => by simp [segment_Next.l0] at h
 | k + 1 => by
  have ih0 := segment_Next.mono_l k
  intro y0 y1 y2 y3
  unfold segment_Next.l0
  repeat' (with_reducible first | exact ih0 _ _ _ _ | exact seal_Seal.mono _ _ _ | exact LeO.refl _ | exact LeO.none _ | apply LeO.ite | refine LeO.bind ?_ (fun _ => ?_))
theorem segment_Next.mono : ∀ a0 k, LeO (segment_Next.f k a0) (segment_Next.f (k + 1) a0) := by
 intro a0 k
 have ih0 := segment_Next.mono_l k
 unfold segment_Next.f
 repeat' (with_reducible first | exact ih0 _ _ _ _ | exact seal_Seal.mono _ _ _ | exact LeO.refl _ | exact LeO.none _ | apply LeO.ite | refine LeO.bind ?_ (fun _ => ?_))
theorem segment_Next.calls (k : Nat) (A0 : Option Addr) (c0 : Nat) (l0 : List ByteArray) (r1 : ByteArray) (r2 : Int) (w : World) (hr0 : Kd.C Kd.string w A0 l0.length l0) (hc0 : l0.length ≤ c0) (h : segment_Next.f k l0 = some (r1, r2)) :
  Calls Tryz.prog 30 #[.slice A0 l0.length c0] w fun e w' => e = .returned (.tuple #[.string r1, .int .i64 r2]) ∧ Below w.heap.size w w' := by
 have HR0 := My.am hr0
 have HC0 := My.am hc0
 clear hr0 hc0
 have HB := My.am (Below.refl w.heap.size w)
 unfold segment_Next.f at h
 have H := h
 clear h
 have H' := My.am H
 clear H
 go_enter Tryz.func30, Tryz.ntmps30
 go_wp2
 go_loopg [4, 11] k (fun kq v4 v11 w' => ∃ (x4_1 : ByteArray) (x11_1 : Int), v4 = .string x4_1 ∧ v11 = .int .i64 x11_1 ∧ Aside0 (segment_Next.l0 kq x4_1 l0 (l0.length : Int) x11_1 = some (r1, r2)) ∧ Aside0 (kq ≤ k) ∧ Aside0 (Below w.heap.size w w'))
 case atStart => exact ⟨((⟨#[]⟩ : ByteArray)), (0), My.r1, My.r1, H', ⟨Nat.le_refl _⟩, ⟨(My.bl_ HB)⟩⟩
 case round =>
  clear H'
  obtain ⟨x4_1, x11_1, rfl, rfl, HA, HK1, HB⟩ := hrel
  cases gk with
  | zero => exact absurd HA.out (by simp [segment_Next.l0])
  | succ k1 =>
   have H := HA.out
   clear HA
   simp only [segment_Next.l0] at H
   by_cases c2 : x11_1 < (l0.length : Int)
   rotate_left
   ·rw [if_neg c2] at H
    have c2b0 := decide_eq_false c2
    clear c2
    simp only [Option.some.injEq, Prod.mk.injEq] at H
    obtain ⟨rfl, rfl⟩ := H
    go_wp2
    go_ret2
    exact ⟨My.r2, (My.bl_ HB)⟩

   rw [if_pos c2] at H
   have c2b0 := decide_eq_true c2
   clear c2
   replace H := My.ds H
   obtain ⟨c3b0, H⟩ := H
   replace H := My.ds H
   obtain ⟨c4b0, H⟩ := H
   replace H := Option.bind_eq_some_iff.mp H
   obtain ⟨⟨t143, t144⟩, A50, H⟩ := H
   try dsimp only at H
   have A5 := My.am A50
   clear A50
   by_cases c6 : t144 = 0
   ·rw [if_pos c6] at H
    have c6b0 : (t144 == 0) = true := beq_iff_eq.mpr c6
    have c6b1 : (t144 != 0) = false := bne_eq_false_iff_eq.mpr c6
    clear c6
    by_cases c7 : x4_1.size + t143.size ≤ 9223372036854775807
    ·rw [if_pos c7] at H
     have c7b0 := eq_true c7
     have c7b1 := decide_eq_true c7
     try have c7b2 : (9223372036854775807 < x4_1.size + t143.size) = False := eq_false (Nat.not_lt.2 c7)
     try clear c7
     have H' := My.am H
     clear H
     have p142 : 0 ≤ (x11_1 : Int) := My.as_
     have q142 : x11_1 < (l0.length : Int) := My.as_
     obtain ⟨ad142, e142, hx142_0⟩ := Kd.at_string HR0.out x11_1 p142 q142
     cases e142
     replace hx142_0 := My.up HB hx142_0
     replace p142 := eq_true p142
     replace q142 := eq_true q142
     go_wp2_with (first | ((with_reducible refine gate_callee (f := 57) rfl ?_); refine goesL_ (some 17) rfl rfl Tryz.func57 (by kernel_rfl) rfl #[.int .i64 3, .string (rdOf ByteArray.empty l0 x11_1)] rfl My.gx ?_; (with_reducible refine (seal_Seal.calls k1 3 (rdOf ByteArray.empty l0 x11_1) t143 t144 _ A5.out).mono ?_); rintro e w8 ⟨rfl, hb⟩; refine ⟨_, rfl, ?_⟩; replace HB := My.st HB hb; (try clear hb)))
     go_roundg k1
     case measure => have := HK1.out; omega
     case rel => exact ⟨(x4_1 ++ t143), (wrap64 (x11_1 + 1)), My.r1, My.r1, H', ⟨by have := HK1.out; omega⟩, ⟨(My.bl_ HB)⟩⟩
    rw [if_neg c7] at H
    exact absurd H (by simp)
   rw [if_neg c6] at H
   have c6b0 : (t144 == 0) = false := beq_eq_false_iff_ne.mpr c6
   have c6b1 : (t144 != 0) = true := bne_iff_ne.mpr c6
   simp only [Option.some.injEq, Prod.mk.injEq] at H
   obtain ⟨rfl, rfl⟩ := H
   have p142 : 0 ≤ (x11_1 : Int) := My.as_
   have q142 : x11_1 < (l0.length : Int) := My.as_
   obtain ⟨ad142, e142, hx142_0⟩ := Kd.at_string HR0.out x11_1 p142 q142
   cases e142
   replace hx142_0 := My.up HB hx142_0
   replace p142 := eq_true p142
   replace q142 := eq_true q142
   go_wp2_with (first | ((with_reducible refine gate_callee (f := 57) rfl ?_); refine goesL_ (some 17) rfl rfl Tryz.func57 (by kernel_rfl) rfl #[.int .i64 3, .string (rdOf ByteArray.empty l0 x11_1)] rfl My.gx ?_; (with_reducible refine (seal_Seal.calls k1 3 (rdOf ByteArray.empty l0 x11_1) t143 t144 _ A5.out).mono ?_); rintro e w9 ⟨rfl, hb⟩; refine ⟨_, rfl, ?_⟩; replace HB := My.st HB hb; (try clear hb)))
   go_ret2
   exact ⟨My.r2, (My.bl_ HB)⟩
/-! ### wal_Log_told: function 31 -/


/-! ### wal_Log_Append: function 13 -/


/-! ### wal_Log_Turn: function 14 -/


/-! ### wal_file_Number: function 33 -/


/-! ### wal_Log_Number: function 15 -/


/-! ### wal_file_Size: function 34 -/


/-! ### wal_Log_Size: function 16 -/


/-! ### ententelaw17_awake: function 4 -/


/-! ### ententeref15_New: function 17 -/


/-! ### ententeref15_Load: function 6 -/


end Go.Proofs.YtkcpgaplpmbmoaaGreat.PA
