-- Written by a program of this session (wip/tools/mp.py over the kit's printer); Lean checks it.
import Derived.Test.YtkcpgaplpmbmoaaGreatPAx0
namespace Go.Proofs.YtkcpgaplpmbmoaaGreat.PA
open Go.RowKit Go.Proofs.YtkcpgaplpmbmoaaGreatW.PrintWords Go.Proofs.YtkcpgaplpmbmoaaGreatW.PrintLast Go.Proofs.YtkcpgaplpmbmoaaGreatW.PrintMore
attribute [local go_sem] max2_int min2_int max_two min_two max_three min_three max_four min_four   -- for this text's walks alone
set_option linter.unusedVariables false
set_option maxHeartbeats 8000000
set_option maxRecDepth 100000
set_option linter.unusedSimpArgs false

/-! ### ententeref01_Number: function 83 -/
def ententeref01_Number.f : Nat → Int → Option (ByteArray)
 | 0, _ => none
 | k + 1, a0 => if a0 < 128 then (some (strOfNums (([(a0) % 256] : List Int)))) else ((some (([(IntKind.u64.wrap ((Int.tmod a0 128) + 128)) % 256] : List Int) : List Int)).bind fun y148 => ((ententeref01_Number.f k (IntKind.u64.wrap (Int.tdiv a0 128))).bind fun t151 => (if (strOfNums y148).size + t151.size ≤ 9223372036854775807 then (some ((strOfNums y148) ++ t151)) else (none))))
theorem ententeref01_Number.mono_l : ∀ k, (∀ y0, LeO (ententeref01_Number.f k y0) (ententeref01_Number.f (k + 1) y0))
 | 0 => fun _ r h => by simp [ententeref01_Number.f] at h
 | k + 1 => by
  have ih0 := ententeref01_Number.mono_l k
  intro y0
  unfold ententeref01_Number.f
  repeat' (with_reducible first | exact ih0 _ | exact LeO.refl _ | exact LeO.none _ | apply LeO.ite | refine LeO.bind ?_ (fun _ => ?_))
theorem ententeref01_Number.mono : ∀ a0 k, LeO (ententeref01_Number.f k a0) (ententeref01_Number.f (k + 1) a0) := by
 intro a0 k
 have ih0 := ententeref01_Number.mono_l k
 exact ih0 a0
def ententeref01_Number.T3 : Bool × List (List Nat × List Nat) := (true, [([], []), ([0], [0]), ([1], [1]), ([2], [2]), ([3], [3]), ([4], [4]), ([], []), ([6], [6]), ([7], [7]), ([5, 8], [5, 8]), ([9, 8, 0, 1, 2, 3, 4, 5, 6, 7, 8, 9], [9])])
def ententeref01_Number.B3 : List Nat := [0, 1, 3, 7, 15, 31, 0, 64, 192, 511, 1023]
theorem ententeref01_Number.tab3 : rtab .any (opsOf Tryz.f83 3) = ententeref01_Number.T3 := by kernel_rfl
theorem ententeref01_Number.bits3 : waitsOk ententeref01_Number.T3.2 ententeref01_Number.B3 = true := by kernel_rfl
theorem ententeref01_Number.calls (k : Nat) : ∀ (a0 : Int) (r : ByteArray) (w : World) (h : ententeref01_Number.f k a0 = some r),
  Calls Tryz.prog 83 #[.int .u64 a0] w fun e w' => e = .returned (.string r) ∧ Below w.heap.size w w' := by
 induction k using Nat.strongRecOn with
 | _ k ih =>
 intro a0 r w h
 cases k with
 | zero => exact absurd h (by simp [ententeref01_Number.f])
 | succ k =>
 simp only [ententeref01_Number.f] at h
 have HB := My.am (Below.refl w.heap.size w)
 have H : (if a0 < 128 then (some (strOfNums (([(a0) % 256] : List Int)))) else ((some (([(IntKind.u64.wrap ((Int.tmod a0 128) + 128)) % 256] : List Int) : List Int)).bind fun y148 => ((ententeref01_Number.f k (IntKind.u64.wrap (Int.tdiv a0 128))).bind fun t151 => (if (strOfNums y148).size + t151.size ≤ 9223372036854775807 then (some ((strOfNums y148) ++ t151)) else (none))))) = some r := h
 clear h
 by_cases c2 : a0 < 128
 ·rw [if_pos c2] at H
  have c2b0 := decide_eq_true c2
  clear c2
  obtain ⟨y145, hy145⟩ : ∃ y_ : List Int, y_ = (([(a0) % 256] : List Int)) := ⟨_, rfl⟩
  replace H : (some (strOfNums y145)) = some r := by first | (rw [hy145]; with_reducible exact H) | (have H2_ := (Option.bind_some _ _).symm.trans H; rw [hy145]; with_reducible exact H2_) | (have H2_ := (Option.bind_some _ _).symm.trans H; with_reducible exact H2_) | with_reducible exact H | (rw [hy145]; exact H) | exact H
  have Ny145 := My.am hy145
  clear hy145
  obtain rfl := Option.some.inj H
  go_enter Tryz.func83, Tryz.ntmps83
  go_wp2_with (first | ((with_reducible refine gate_dst (N := 7) rfl ?_); refine Kd.R_lit (Kd.int .u8) _ 5 ?hg (N := 7) ?hd (xs := ([(a0) % 256] : List Int)) (inner := [.int .u8 ((a0) % 256)]) (ok := fun _ => True) (okp := fun _ => True) ?hr ?hp (fun _ hk => hk) trivial (Below.refl _ _) (Nat.le_refl _) (by simp) ?_; (case hd => rfl); (case hg => rfl); (case hr => first | (go_simp; done) | (go_simp; rfl)); (case hp => exact (Reps.one (show Kd.M (Kd.int .u8) _ _ _ ((a0) % 256) [.int .u8 ((a0) % 256)] from rfl) (Reps.none _ _))); intro v146 w3 ho4 hb hg_ hnew_; clear hg_ hnew_; (first | rw [← Ny145.out] at ho4 | (simp only [Int.reduceToNat] at ho4; rw [← Ny145.out] at ho4)); have HO147 := My.am (Kd.R_lower ho4 (below_size (My.bl_ HB))); replace HB := My.st HB hb; clear hb ho4; have hcv5 := own_string (P := Tryz.prog) Tryz.underlying124 Tryz.underlying5 Tryz.underlying9 (Kd.own_of_R HO147.out)))
  go_ret
  exact ⟨My.r2, (My.bl_ HB)⟩
 ·rw [if_neg c2] at H
  have c2b0 := decide_eq_false c2
  clear c2
  obtain ⟨y148, hy148⟩ : ∃ y_ : List Int, y_ = (([(IntKind.u64.wrap ((Int.tmod a0 128) + 128)) % 256] : List Int)) := ⟨_, rfl⟩
  replace H : ((ententeref01_Number.f k (IntKind.u64.wrap (Int.tdiv a0 128))).bind fun t151 => (if (strOfNums y148).size + t151.size ≤ 9223372036854775807 then (some ((strOfNums y148) ++ t151)) else (none))) = some r := by first | (rw [hy148]; with_reducible exact H) | (have H2_ := (Option.bind_some _ _).symm.trans H; rw [hy148]; with_reducible exact H2_) | (have H2_ := (Option.bind_some _ _).symm.trans H; with_reducible exact H2_) | with_reducible exact H | (rw [hy148]; exact H) | exact H
  have Ny148 := My.am hy148
  clear hy148
  replace H := Option.bind_eq_some_iff.mp H
  obtain ⟨t151, A60, H⟩ := H
  try dsimp only at H
  have A6 := My.am A60
  clear A60
  by_cases c7 : (strOfNums y148).size + t151.size ≤ 9223372036854775807
  rotate_left
  ·exact My.nn c7 H

  rw [if_pos c7] at H
  have c7b0 := eq_true c7
  have c7b1 := decide_eq_true c7
  try have c7b2 : (9223372036854775807 < (strOfNums y148).size + t151.size) = False := eq_false (Nat.not_lt.2 c7)
  try clear c7
  obtain rfl := Option.some.inj H
  go_enter Tryz.func83, Tryz.ntmps83
  try go_wp2
  replace HB := My.am (below_drew1 HB.out)
  refine start_ (n := 11) (S := fun w' => True) (ds := []) #[false, false, false, false, false, false, false, false, false, false, false] (by kernel_rfl) rfl rfl trivial (fun hHeld => ?_); refine with_tabW ententeref01_Number.tab3 ententeref01_Number.bits3 (fun HT_ HW_ => ?_)
  generalize w.drew = w8 at HB hHeld ⊢
  refine My.pu_ 0 9 11 HT_.out ?_
  refine My.pu_ 1 10 11 HT_.out ?_
  refine My.pu_ 2 11 11 HT_.out ?_
  refine My.pu_ 3 12 11 HT_.out ?_
  refine My.pv_ 6 15 11 79 HT_.out ?_
  refine My.pv_ 7 16 11 207 HT_.out ?_
  refine join_ (σ := Value) 2 (My.Mb 11 511) (fun s_ => [(13, s_), (14, .string (strOfNums y148)), (17, .string t151)]) (fun s_ w' => (Kd.R (Kd.int .u8) 5 w' w.heap.size (fun _ => True) s_ y148) ∧ (Below w.heap.size w w')) ?_ ?_
  rotate_left
  ·intro hCont
   refine two_ (i := 4) (j := 8) (Ni := some 13) (Nj := some 17) (My.Mb 11 223) (My.Mb 11 463) rfl rfl rfl rfl (two_of HT_.out (by kernel_rfl)) (by decide) (by decide) (fun K hK => ?_) (fun K hK => ?_)
   ·skip
    refine Kd.R_lit_step (Kd.int .u8) _ 5 ?hg (N := 13) ?hd (xs := ([(IntKind.u64.wrap ((Int.tmod a0 128) + 128)) % 256] : List Int)) (inner := [.int .u8 ((IntKind.u64.wrap ((Int.tmod a0 128) + 128)) % 256)]) (ok := fun _ => True) (okp := fun _ => True) ?hr ?hp (fun _ hk => hk) trivial (Below.refl _ _) (Nat.le_refl _) (by simp) ?_; (case hd => rfl); (case hg => rfl); (case hr => first | (go_simp; done) | (go_simp; rfl)); (case hp => exact (Reps.one (show Kd.M (Kd.int .u8) _ _ _ ((IntKind.u64.wrap ((Int.tmod a0 128) + 128)) % 256) [.int .u8 ((IntKind.u64.wrap ((Int.tmod a0 128) + 128)) % 256)] from rfl) (Reps.none _ _)))
    intro v149 w9 ho10 hb hg_ hnew_
    clear hg_ hnew_
    (first | rw [← Ny148.out] at ho10 | (simp only [Int.reduceToNat] at ho10; rw [← Ny148.out] at ho10))
    have HO150 := My.am (Kd.R_lower ho10 (below_size (My.bl_ HB)))
    replace HB := My.st HB hb
    clear hb ho10
    refine hK.out _ _ trivial (fun hHeld => ?_)
    clear hK K
    refine My.nm 13 ?_
    refine two_ (i := 5) (j := 8) (Ni := some 14) (Nj := some 17) (My.Mb 11 255) (My.Mb 11 479) rfl rfl rfl rfl (two_of HT_.out (by kernel_rfl)) (by decide) (by decide) (fun K hK => ?_) (fun K hK => ?_)
    ·skip
     have hcv11 := own_string (P := Tryz.prog) Tryz.underlying124 Tryz.underlying5 Tryz.underlying9 (Kd.own_of_R HO150.out)
     refine value_ (w1 := ?_) (v := ?_) (by rfl) rfl ?_ ?_
     rotate_left 2
     ·go_simp
      constructor
      ·rfl
      rfl
     clear hcv11
     refine hK.out _ _ trivial (fun hHeld => ?_)
     clear hK K
     refine My.nm 14 ?_
     refine one_ (i := 8) (N := some 17) (My.Mb 11 511) rfl rfl (one_of HT_.out (by kernel_rfl)) (by decide) (fun K hK => ?_)
     refine goes_ Tryz.func83 (by kernel_rfl) rfl #[.int .u64 (IntKind.u64.wrap (Int.tdiv a0 128))] (by rfl) rfl rfl My.gx ?_
     with_reducible refine (ih k (by omega) (IntKind.u64.wrap (Int.tdiv a0 128)) t151 _ A6.out).mono ?_
     rintro e w12 ⟨rfl, hb⟩
     refine ⟨_, rfl, ?_⟩
     replace HO150 := My.am (Kd.R_below (My.dr HO150.out) hb)
     replace HB := My.st HB hb
     (try clear hb)
     (try clear hb2)
     (try clear hk)
     (try clear hi)
     refine hK.out _ _ trivial (fun hHeld => ?_)
     clear hK K
     refine My.nm 17 ?_
     exact norm_ (by simp only [putAll, Act.put, List.setIfInBounds_toArray, List.set_cons_zero, List.set_cons_succ]) (hCont (v149) _ ⟨(My.dr HO150.out), (My.bl_ HB)⟩)
    skip
    refine goes_ Tryz.func83 (by kernel_rfl) rfl #[.int .u64 (IntKind.u64.wrap (Int.tdiv a0 128))] (by rfl) rfl rfl My.gx ?_
    with_reducible refine (ih k (by omega) (IntKind.u64.wrap (Int.tdiv a0 128)) t151 _ A6.out).mono ?_
    rintro e w11 ⟨rfl, hb⟩
    refine ⟨_, rfl, ?_⟩
    replace HO150 := My.am (Kd.R_below (My.dr HO150.out) hb)
    replace HB := My.st HB hb
    (try clear hb)
    (try clear hb2)
    (try clear hk)
    (try clear hi)
    refine hK.out _ _ trivial (fun hHeld => ?_)
    clear hK K
    refine My.nm 17 ?_
    refine one_ (i := 5) (N := some 14) (My.Mb 11 511) rfl rfl (one_of HT_.out (by kernel_rfl)) (by decide) (fun K hK => ?_)
    have hcv12 := own_string (P := Tryz.prog) Tryz.underlying124 Tryz.underlying5 Tryz.underlying9 (Kd.own_of_R HO150.out)
    refine value_ (w1 := ?_) (v := ?_) (by rfl) rfl ?_ ?_
    rotate_left 2
    ·go_simp
     constructor
     ·rfl
     rfl
    clear hcv12
    refine hK.out _ _ trivial (fun hHeld => ?_)
    clear hK K
    refine My.nm 14 ?_
    exact norm_ (by simp only [putAll, Act.put, List.setIfInBounds_toArray, List.set_cons_zero, List.set_cons_succ]) (hCont (v149) _ ⟨(My.dr HO150.out), (My.bl_ HB)⟩)
   skip
   refine goes_ Tryz.func83 (by kernel_rfl) rfl #[.int .u64 (IntKind.u64.wrap (Int.tdiv a0 128))] (by rfl) rfl rfl My.gx ?_
   with_reducible refine (ih k (by omega) (IntKind.u64.wrap (Int.tdiv a0 128)) t151 _ A6.out).mono ?_
   rintro e w9 ⟨rfl, hb⟩
   refine ⟨_, rfl, ?_⟩
   replace HB := My.st HB hb
   (try clear hb)
   (try clear hb2)
   (try clear hk)
   (try clear hi)
   refine hK.out _ _ trivial (fun hHeld => ?_)
   clear hK K
   refine My.nm 17 ?_
   refine one_ (i := 4) (N := some 13) (My.Mb 11 479) rfl rfl (one_of HT_.out (by kernel_rfl)) (by decide) (fun K hK => ?_)
   refine Kd.R_lit_step (Kd.int .u8) _ 5 ?hg (N := 13) ?hd (xs := ([(IntKind.u64.wrap ((Int.tmod a0 128) + 128)) % 256] : List Int)) (inner := [.int .u8 ((IntKind.u64.wrap ((Int.tmod a0 128) + 128)) % 256)]) (ok := fun _ => True) (okp := fun _ => True) ?hr ?hp (fun _ hk => hk) trivial (Below.refl _ _) (Nat.le_refl _) (by simp) ?_; (case hd => rfl); (case hg => rfl); (case hr => first | (go_simp; done) | (go_simp; rfl)); (case hp => exact (Reps.one (show Kd.M (Kd.int .u8) _ _ _ ((IntKind.u64.wrap ((Int.tmod a0 128) + 128)) % 256) [.int .u8 ((IntKind.u64.wrap ((Int.tmod a0 128) + 128)) % 256)] from rfl) (Reps.none _ _)))
   intro v149 w10 ho11 hb hg_ hnew_
   clear hg_ hnew_
   (first | rw [← Ny148.out] at ho11 | (simp only [Int.reduceToNat] at ho11; rw [← Ny148.out] at ho11))
   have HO150 := My.am (Kd.R_lower ho11 (below_size (My.bl_ HB)))
   replace HB := My.st HB hb
   clear hb ho11
   refine hK.out _ _ trivial (fun hHeld => ?_)
   clear hK K
   refine My.nm 13 ?_
   refine one_ (i := 5) (N := some 14) (My.Mb 11 511) rfl rfl (one_of HT_.out (by kernel_rfl)) (by decide) (fun K hK => ?_)
   have hcv12 := own_string (P := Tryz.prog) Tryz.underlying124 Tryz.underlying5 Tryz.underlying9 (Kd.own_of_R HO150.out)
   refine value_ (w1 := ?_) (v := ?_) (by rfl) rfl ?_ ?_
   rotate_left 2
   ·go_simp
    constructor
    ·rfl
    rfl
   clear hcv12
   refine hK.out _ _ trivial (fun hHeld => ?_)
   clear hK K
   refine My.nm 14 ?_
   exact norm_ (by simp only [putAll, Act.put, List.setIfInBounds_toArray, List.set_cons_zero, List.set_cons_succ]) (hCont (v149) _ ⟨(My.dr HO150.out), (My.bl_ HB)⟩)
  rintro v149 w13 ⟨h0_, h1_⟩
  have n0_ : Aside0 (Kd.R (Kd.int .u8) 5 w13 w.heap.size (fun _ => True) v149 y148) := ⟨h0_⟩
  have n1_ : Aside0 (Below w.heap.size w w13) := ⟨h1_⟩
  clear HB
  clear h0_ h1_
  have HB := n1_
  clear n0_ n1_
  have hHeld := trivial
  refine norm_ (a' := ?_) ?_ ?_
  rotate_left
  ·simp only [putAll, Act.put, List.setIfInBounds_toArray, List.set_cons_zero, List.set_cons_succ]
   rfl
  refine My.pu_ 9 18 11 HT_.out ?_
  refine My.pu_ 10 2 11 HT_.out ?_
  refine done_ (done_of HT_.out (by kernel_rfl)) ?_
  try go_wp2
  go_ret
  exact ⟨My.r2, (My.bl_ HB)⟩
/-! ### ententeref01_Text: function 70 -/
def ententeref01_Text.f (k : Nat) (a0 : ByteArray) : Option (ByteArray) := (ententeref01_Number.f k (IntKind.u64.wrap ((a0.size : Int)))).bind fun t152 => (if t152.size + a0.size ≤ 9223372036854775807 then (some (t152 ++ a0)) else (none))
theorem ententeref01_Text.mono : ∀ a0 k, LeO (ententeref01_Text.f k a0) (ententeref01_Text.f (k + 1) a0) := by
 intro a0 k
 unfold ententeref01_Text.f
 repeat' (with_reducible first | exact ententeref01_Number.mono _ _ | exact LeO.refl _ | exact LeO.none _ | apply LeO.ite | refine LeO.bind ?_ (fun _ => ?_))
theorem ententeref01_Text.calls (k : Nat) (a0 : ByteArray) (r : ByteArray) (w : World) (h : ententeref01_Text.f k a0 = some r) :
  Calls Tryz.prog 70 #[.string a0] w fun e w' => e = .returned (.string r) ∧ Below w.heap.size w w' := by
 have HB := My.am (Below.refl w.heap.size w)
 unfold ententeref01_Text.f at h
 have H := h
 clear h
 replace H := Option.bind_eq_some_iff.mp H
 obtain ⟨t152, A20, H⟩ := H
 try dsimp only at H
 have A2 := My.am A20
 clear A20
 by_cases c3 : t152.size + a0.size ≤ 9223372036854775807
 ·rw [if_pos c3] at H
  have c3b0 := eq_true c3
  have c3b1 := decide_eq_true c3
  try have c3b2 : (9223372036854775807 < t152.size + a0.size) = False := eq_false (Nat.not_lt.2 c3)
  try clear c3
  obtain rfl := Option.some.inj H
  go_enter Tryz.func70, Tryz.ntmps70
  go_wp2_with (first | ((with_reducible refine gate_callee (f := 83) rfl ?_); refine goesL_ (some 6) rfl rfl Tryz.func83 (by kernel_rfl) rfl #[.int .u64 (IntKind.u64.wrap ((a0.size : Int)))] rfl My.gx ?_; (with_reducible refine (ententeref01_Number.calls k (IntKind.u64.wrap ((a0.size : Int))) t152 _ A2.out).mono ?_); rintro e w4 ⟨rfl, hb⟩; refine ⟨_, rfl, ?_⟩; replace HB := My.st HB hb; (try clear hb)))
  go_ret
  exact ⟨My.r2, (My.bl_ HB)⟩
 ·exact My.nn c3 H

/-! ### ententeref02_eight: function 71 -/
def ententeref02_eight.l0 : Nat → Int → List Int → Int → Option (ByteArray)
 | 0, _, _, _ => none
 | k + 1, x0, x3, x4 => if x4 < 8 then (if x3.length < 140737488355328 then (ententeref02_eight.l0 k (IntKind.u64.wrap (Int.tdiv x0 256)) (x3 ++ [(Int.tmod x0 256) % 256]) (wrap64 (x4 + 1))) else (none)) else (some (strOfNums x3))
def ententeref02_eight.f (k : Nat) (a0 : Int) : Option (ByteArray) := ententeref02_eight.l0 k a0 ([] : List Int) 0
theorem ententeref02_eight.mono_l : ∀ k, (∀ y0 y1 y2, LeO (ententeref02_eight.l0 k y0 y1 y2) (ententeref02_eight.l0 (k + 1) y0 y1 y2))
 | 0 => fun _ _ _ r h => by simp [ententeref02_eight.l0] at h
 | k + 1 => by
  have ih0 := ententeref02_eight.mono_l k
  intro y0 y1 y2
  unfold ententeref02_eight.l0
  repeat' (with_reducible first | exact ih0 _ _ _ | exact LeO.refl _ | exact LeO.none _ | apply LeO.ite | refine LeO.bind ?_ (fun _ => ?_))
theorem ententeref02_eight.mono : ∀ a0 k, LeO (ententeref02_eight.f k a0) (ententeref02_eight.f (k + 1) a0) := by
 intro a0 k
 have ih0 := ententeref02_eight.mono_l k
 unfold ententeref02_eight.f
 repeat' (with_reducible first | exact ih0 _ _ _ | exact LeO.refl _ | exact LeO.none _ | apply LeO.ite | refine LeO.bind ?_ (fun _ => ?_))
theorem ententeref02_eight.calls (k : Nat) (a0 : Int) (r : ByteArray) (w : World) (h : ententeref02_eight.f k a0 = some r) :
  Calls Tryz.prog 71 #[.int .u64 a0] w fun e w' => e = .returned (.string r) ∧ Below w.heap.size w w' := by
 have HB := My.am (Below.refl w.heap.size w)
 unfold ententeref02_eight.f at h
 have H := h
 clear h
 have H' := My.am H
 clear H
 go_enter Tryz.func71, Tryz.ntmps71
 go_wp2
 go_loopg [0, 3, 4] k (fun kq v0 v3 v4 w' => ∃ (x0_1 : Int) (x3_1 : List Int) (x4_1 : Int), v0 = .int .u64 x0_1 ∧ v4 = .int .i64 x4_1 ∧ Aside0 (ententeref02_eight.l0 kq x0_1 x3_1 x4_1 = some r) ∧ Aside0 (kq ≤ k) ∧ Aside0 (Kd.R (Kd.int .u8) 5 w' w.heap.size (fun _ => True) v3 x3_1) ∧ Aside0 (Below w.heap.size w w'))
 case atStart => exact ⟨(a0), (([] : List Int)), (0), My.r1, My.r1, H', ⟨Nat.le_refl _⟩, ⟨My.r3⟩, ⟨(My.bl_ HB)⟩⟩
 case round =>
  clear H'
  obtain ⟨x0_1, x3_1, x4_1, rfl, rfl, HA, HK1, HO_3, HB⟩ := hrel
  cases gk with
  | zero => exact absurd HA.out (by simp [ententeref02_eight.l0])
  | succ k1 =>
   have H := HA.out
   clear HA
   simp only [ententeref02_eight.l0] at H
   by_cases c2 : x4_1 < 8
   ·rw [if_pos c2] at H
    have c2b0 := decide_eq_true c2
    clear c2
    by_cases c3 : x3_1.length < 140737488355328
    ·rw [if_pos c3] at H
     have LMc3 := My.am c3
     clear c3
     obtain ⟨y153, hy153⟩ : ∃ y_ : List Int, y_ = (x3_1 ++ [(Int.tmod x0_1 256) % 256]) := ⟨_, rfl⟩
     replace H : (ententeref02_eight.l0 k1 (IntKind.u64.wrap (Int.tdiv x0_1 256)) y153 (wrap64 (x4_1 + 1))) = some r := by first | (rw [hy153]; with_reducible exact H) | (have H2_ := (Option.bind_some _ _).symm.trans H; rw [hy153]; with_reducible exact H2_) | (have H2_ := (Option.bind_some _ _).symm.trans H; with_reducible exact H2_) | with_reducible exact H | (rw [hy153]; exact H) | exact H
     have Ny153 := My.am hy153
     clear hy153
     have H' := My.am H
     clear H
     go_wp2_with (first | ((with_reducible refine gate_builtin (b := .append) (xs := #[.tmp 9, .tmp 13]) rfl ?_); at_builtin; refine Kd.R_append (Kd.int .u8) (w0 := w) w.heap.size rfl (.tmp 9) (.tmp 13) 124 5 (.int .u8 0) 1 rfl Tryz.underlying124 info5 rfl (by decide) (by omega) u3 x3_1 ((Int.tmod x0_1 256) % 256) [.int .u8 ((Int.tmod x0_1 256) % 256)] (fun _ => True) (fun _ => False) rfl rfl ?aP (fun _ hk => hk.elim) ?aF ?aO ?aB ?aS ?aL ?_; (case aP => exact rfl); (case aB => exact (My.bl_ HB)); (case aF => exact (fun _ _ => trivial)); (case aO => exact (My.dr HO_3.out)); (case aS => exact (below_size (My.bl_ HB))); (case aL => have := LMc3.out; omega); intro v154 w4 ho hb hg hat; rw [← Ny153.out] at ho; replace HB := My.am (hb); have HO155 := My.am (ho); (try clear HO_3); clear ho hb hg hat))
     go_roundg k1
     case measure => have := HK1.out; omega
     case rel => exact ⟨(IntKind.u64.wrap (Int.tdiv x0_1 256)), (y153), (wrap64 (x4_1 + 1)), My.r1, My.r1, H', ⟨by have := HK1.out; omega⟩, ⟨My.dR HO155.out⟩, ⟨(My.bl_ HB)⟩⟩
    rw [if_neg c3] at H
    exact absurd H (by simp)
   rw [if_neg c2] at H
   have c2b0 := decide_eq_false c2
   clear c2
   obtain rfl := Option.some.inj H
   have hcv5 := own_string (P := Tryz.prog) Tryz.underlying124 Tryz.underlying5 Tryz.underlying9 (Kd.own_of_R HO_3.out)
   go_wp2
   go_ret
   exact ⟨My.r2, (My.bl_ HB)⟩

/-! ### ententeref02_Sum: function 72 -/
mutual
def ententeref02_Sum.l0 : Nat → ByteArray → Int → Int → Option (Int)
 | 0, _, _, _ => none
 | k + 1, x0, x3, x4 => if x4 < (x0.size : Int) then (ententeref02_Sum.l1 k x0 x3 x4 0) else (some (IntKind.u64.wrap (18446744073709551615 - x3)))
def ententeref02_Sum.l1 : Nat → ByteArray → Int → Int → Int → Option (Int)
 | 0, _, _, _, _ => none
 | k + 1, x0, x3, x4, x5 => if x5 < 8 then (if 0 ≤ x4 then (if x4 < (x0.size : Int) then (if 0 ≤ x5 then (if (Int.tmod x3 2) = (Int.tmod (IntKind.u64.wrap (shr .u8 (bt x0 x4) x5)) 2) then (ententeref02_Sum.l1 k x0 (IntKind.u64.wrap (Int.tdiv x3 2)) x4 (wrap64 (x5 + 1))) else (ententeref02_Sum.l1 k x0 (Go.bits .xor .u64 (IntKind.u64.wrap (Int.tdiv x3 2)) 14514072000185962306) x4 (wrap64 (x5 + 1)))) else (none)) else (none)) else (none)) else (ententeref02_Sum.l0 k x0 x3 (wrap64 (x4 + 1)))
end
def ententeref02_Sum.f (k : Nat) (a0 : ByteArray) : Option (Int) := ententeref02_Sum.l0 k a0 18446744073709551615 0
theorem ententeref02_Sum.mono_l : ∀ k, (∀ y0 y1 y2, LeO (ententeref02_Sum.l0 k y0 y1 y2) (ententeref02_Sum.l0 (k + 1) y0 y1 y2)) ∧ (∀ y0 y1 y2 y3, LeO (ententeref02_Sum.l1 k y0 y1 y2 y3) (ententeref02_Sum.l1 (k + 1) y0 y1 y2 y3))
 | 0 => ⟨fun _ _ _ r h => by simp [ententeref02_Sum.l0] at h, fun _ _ _ _ r h => by simp [ententeref02_Sum.l1] at h⟩
 | k + 1 => by
  obtain ⟨ih0, ih1⟩ := ententeref02_Sum.mono_l k
  refine ⟨?_, ?_⟩
  ·intro y0 y1 y2
   unfold ententeref02_Sum.l0
   repeat' (with_reducible first | exact ih0 _ _ _ | exact ih1 _ _ _ _ | exact LeO.refl _ | exact LeO.none _ | apply LeO.ite | refine LeO.bind ?_ (fun _ => ?_))
  intro y0 y1 y2 y3
  unfold ententeref02_Sum.l1
  repeat' (with_reducible first | exact ih0 _ _ _ | exact ih1 _ _ _ _ | exact LeO.refl _ | exact LeO.none _ | apply LeO.ite | refine LeO.bind ?_ (fun _ => ?_))
theorem ententeref02_Sum.mono : ∀ a0 k, LeO (ententeref02_Sum.f k a0) (ententeref02_Sum.f (k + 1) a0) := by
 intro a0 k
 obtain ⟨ih0, ih1⟩ := ententeref02_Sum.mono_l k
 unfold ententeref02_Sum.f
 repeat' (with_reducible first | exact ih0 _ _ _ | exact ih1 _ _ _ _ | exact LeO.refl _ | exact LeO.none _ | apply LeO.ite | refine LeO.bind ?_ (fun _ => ?_))
theorem ententeref02_Sum.calls (k : Nat) (a0 : ByteArray) (r : Int) (w : World) (h : ententeref02_Sum.f k a0 = some r) :
  Calls Tryz.prog 72 #[.string a0] w fun e w' => e = .returned (.int .u64 r) ∧ Drawn0 w w' := by
 unfold ententeref02_Sum.f at h
 have H := h
 clear h
 have H' := My.am H
 clear H
 go_enter Tryz.func72, Tryz.ntmps72
 go_wp2
 go_loopg [3, 4] k (fun kq v3 v4 w' => ∃ (x3_1 : Int) (x4_1 : Int), v3 = .int .u64 x3_1 ∧ v4 = .int .i64 x4_1 ∧ Aside0 (ententeref02_Sum.l0 kq a0 x3_1 x4_1 = some r) ∧ Aside0 (kq ≤ k) ∧ Drawn0 w w')
 case atStart => exact ⟨(18446744073709551615), (0), My.r1, My.r1, H', ⟨Nat.le_refl _⟩, by repeat (first | exact Drawn0.refl _ | apply Drawn0.step)⟩
 case round =>
  clear H'
  obtain ⟨x3_1, x4_1, rfl, rfl, HA, HK1, ⟨m1, rfl⟩⟩ := hrel
  cases gk with
  | zero => exact absurd HA.out (by simp [ententeref02_Sum.l0])
  | succ k1 =>
   have H := HA.out
   clear HA
   simp only [ententeref02_Sum.l0] at H
   by_cases c2 : x4_1 < (a0.size : Int)
   rotate_left
   ·rw [if_neg c2] at H
    have c2b0 := decide_eq_false c2
    clear c2
    obtain rfl := Option.some.inj H
    go_wp2
    go_ret
    exact ⟨by first | rfl | (simp; done) | (simp [*]; done), by repeat (first | exact Drawn0.refl _ | apply Drawn0.step)⟩

   rw [if_pos c2] at H
   have c2b0 := decide_eq_true c2
   clear c2
   have H' := My.am H
   clear H
   go_wp2
   go_loopg [3, 5] k1 (fun kq v3 v5 w' => ∃ (x3_2 : Int) (x5_2 : Int), v3 = .int .u64 x3_2 ∧ v5 = .int .i64 x5_2 ∧ Aside0 (ententeref02_Sum.l1 kq a0 x3_2 x4_1 x5_2 = some r) ∧ Aside0 (kq ≤ k1) ∧ Drawn0 w w')
   case atStart => exact ⟨(x3_1), (0), My.r1, My.r1, H', ⟨Nat.le_refl _⟩, by repeat (first | exact Drawn0.refl _ | apply Drawn0.step)⟩
   case round =>
    clear H'
    try clear c2
    try clear c2b0
    obtain ⟨x3_2, x5_2, rfl, rfl, HA, HK2, ⟨m2, rfl⟩⟩ := hrel
    cases gk with
    | zero => exact absurd HA.out (by simp [ententeref02_Sum.l1])
    | succ k2 =>
     have H := HA.out
     clear HA
     simp only [ententeref02_Sum.l1] at H
     by_cases c3 : x5_2 < 8
     rotate_left
     ·rw [if_neg c3] at H
      have c3b0 := decide_eq_false c3
      clear c3
      have H' := My.am H
      clear H
      go_wp2
      go_roundg k2
      case measure => have := HK1.out; have := HK2.out; omega
      case rel => exact ⟨(x3_2), (wrap64 (x4_1 + 1)), My.r1, My.r1, H', ⟨by have := HK1.out; have := HK2.out; omega⟩, by repeat (first | exact Drawn0.refl _ | apply Drawn0.step)⟩
     rw [if_pos c3] at H
     have c3b0 := decide_eq_true c3
     clear c3
     replace H := My.ds H
     obtain ⟨c4b0, H⟩ := H
     replace H := My.ds H
     obtain ⟨c5b0, H⟩ := H
     by_cases c7 : 0 ≤ x5_2
     rotate_left
     ·exact My.nn c7 H
     rw [if_pos c7] at H
     have c7b0 := eq_true c7
     have c7b1 := decide_eq_true c7
     clear c7
     obtain ⟨ji8, hji8⟩ : ∃ j_ : Int, (shr .u8 (bt a0 x4_1) x5_2) = j_ := ⟨_, rfl⟩
     replace H : (if (Int.tmod x3_2 2) = (Int.tmod (IntKind.u64.wrap (ji8)) 2) then (ententeref02_Sum.l1 k2 a0 (IntKind.u64.wrap (Int.tdiv x3_2 2)) x4_1 (wrap64 (x5_2 + 1))) else (ententeref02_Sum.l1 k2 a0 (Go.bits .xor .u64 (IntKind.u64.wrap (Int.tdiv x3_2 2)) 14514072000185962306) x4_1 (wrap64 (x5_2 + 1)))) = some r := by first | (rw [hji8] at H; exact H) | (simp only [hji8] at H ⊢; exact H)
     have hji8_ : ((bt a0 x4_1) / 2 ^ min x5_2.toNat 8) = ji8 := hji8
     have hji8z : x5_2 ≤ 8 → ((bt a0 x4_1) / 2 ^ x5_2.toNat) = ji8 := shr_small hji8
     by_cases c9 : (Int.tmod x3_2 2) = (Int.tmod (IntKind.u64.wrap (ji8)) 2)
     ·rw [if_pos c9] at H
      have c9b0 : ((Int.tmod x3_2 2) == (Int.tmod (IntKind.u64.wrap (ji8)) 2)) = true := beq_iff_eq.mpr c9
      have c9b1 : ((Int.tmod x3_2 2) != (Int.tmod (IntKind.u64.wrap (ji8)) 2)) = false := bne_eq_false_iff_eq.mpr c9
      clear c9
      have H' := My.am H
      clear H
      have p6 : 0 ≤ (x4_1 : Int) := My.as_
      have q6 : x4_1 < (a0.size : Int) := My.as_
      have hx6 := bt_at a0 x4_1
      replace p6 := eq_true p6
      replace q6 := eq_true q6
      go_wp2
      go_roundg k2
      case measure => have := HK1.out; have := HK2.out; omega
      case rel => exact ⟨(IntKind.u64.wrap (Int.tdiv x3_2 2)), (wrap64 (x5_2 + 1)), My.r1, My.r1, H', ⟨by have := HK1.out; have := HK2.out; omega⟩, by repeat (first | exact Drawn0.refl _ | apply Drawn0.step)⟩
     rw [if_neg c9] at H
     have c9b0 : ((Int.tmod x3_2 2) == (Int.tmod (IntKind.u64.wrap (ji8)) 2)) = false := beq_eq_false_iff_ne.mpr c9
     have c9b1 : ((Int.tmod x3_2 2) != (Int.tmod (IntKind.u64.wrap (ji8)) 2)) = true := bne_iff_ne.mpr c9
     have H' := My.am H
     clear H
     have p6 : 0 ≤ (x4_1 : Int) := My.as_
     have q6 : x4_1 < (a0.size : Int) := My.as_
     have hx6 := bt_at a0 x4_1
     replace p6 := eq_true p6
     replace q6 := eq_true q6
     go_wp2
     go_roundg k2
     case measure => have := HK1.out; have := HK2.out; omega
     case rel => exact ⟨(Go.bits .xor .u64 (IntKind.u64.wrap (Int.tdiv x3_2 2)) 14514072000185962306), (wrap64 (x5_2 + 1)), My.r1, My.r1, H', ⟨by have := HK1.out; have := HK2.out; omega⟩, by repeat (first | exact Drawn0.refl _ | apply Drawn0.step)⟩
end Go.Proofs.YtkcpgaplpmbmoaaGreat.PA
