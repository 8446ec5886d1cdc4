-- Written by a program of this session (wip/tools/mp.py over the kit's printer); Lean checks it.
import Derived.Test.YtkcpgaplpmbmoaaGreatPAx0
import Derived.Test.YtkcpgaplpmbmoaaGreatPAx9
namespace Go.Proofs.YtkcpgaplpmbmoaaGreat.PA
open Go.RowKit Go.Proofs.YtkcpgaplpmbmoaaGreatW.PrintWords Go.Proofs.YtkcpgaplpmbmoaaGreatW.PrintLast Go.Proofs.YtkcpgaplpmbmoaaGreatW.PrintMore
attribute [local go_sem] max2_int min2_int max_two min_two max_three min_three max_four min_four   -- for this text's walks alone
set_option linter.unusedVariables false
set_option maxHeartbeats 8000000
set_option maxRecDepth 100000
set_option linter.unusedSimpArgs false

/-! ### ententeref16_Look: function 23 -/
mutual
def ententeref16_Look.l0 : Nat → List (S24) → Int → Option (Int × Int × List ByteArray × List Int × Int)
 | 0, _, _ => none
 | k + 1, x0, x4 => if x4 < (x0.length : Int) then (if 0 ≤ (wrap64 (x4 - 1)) then (if (wrap64 (x4 - 1)) < (x0.length : Int) then (if 0 ≤ x4 then (if ((rd_T24 x0 (wrap64 (x4 - 1))).f0) ≥ ((rd_T24 x0 x4).f0) then (some (0, 0, ([] : List ByteArray), ([] : List Int), 2)) else (ententeref16_Look.l0 k x0 (wrap64 (x4 + 1)))) else (none)) else (none)) else (none)) else (ententeref16_Look.l1 k x0 (wrap64 ((x0.length : Int) - 1)))
def ententeref16_Look.j2 : Nat → List (S24) → Int → Option (Int × Int × List ByteArray × List Int × Int)
 | 0, _, _ => none
 | k + 1, x0, x5 => ententeref16_Look.l2 k x0 x5 0 (-1) 0 ([] : List Int)
def ententeref16_Look.l2 : Nat → List (S24) → Int → Int → Int → Int → List Int → Option (Int × Int × List ByteArray × List Int × Int)
 | 0, _, _, _, _, _, _ => none
 | k + 1, x0, x5, x10, x184000, x184001, x184003 => if x10 < (x0.length : Int) then (if x10 = x5 then (ententeref16_Look.l2 k x0 x5 (wrap64 (x10 + 1)) x184000 x184001 x184003) else (if 0 ≤ x10 then (if x184003.length < 17592186044416 then (ententeref16_Look.l2 k x0 x5 (wrap64 (x10 + 1)) x184000 x184001 (x184003 ++ [(rd_T24 x0 x10).f0])) else (none)) else (none))) else (if x5 < 0 then (some (x184000, x184001, ([] : List ByteArray), x184003, 0)) else (if 0 ≤ x5 then (if x5 < (x0.length : Int) then ((ententeref02_Cut.f k ((rd_T24 x0 x5).f1) 3).bind fun bt189 => (if bt189.2.2 = 0 then (some ((rd_T24 x0 x5).f0, bt189.2.1, bt189.1, x184003, 0)) else (if bt189.2.2 = 10 then (some ((rd_T24 x0 x5).f0, bt189.2.1, bt189.1, x184003, 0)) else (some (0, 0, ([] : List ByteArray), ([] : List Int), 170))))) else (none)) else (none)))
def ententeref16_Look.l1 : Nat → List (S24) → Int → Option (Int × Int × List ByteArray × List Int × Int)
 | 0, _, _ => none
 | k + 1, x0, x5 => if x5 ≥ 0 then (if 0 ≤ x5 then (if x5 < (x0.length : Int) then ((ententeref02_Open.f k ((rd_T24 x0 x5).f1) 0 3).bind fun bt180 => (if bt180.2.2 = 0 then (ententeref16_Look.j2 k x0 x5) else (if bt180.2.2 = 10 then (ententeref16_Look.l1 k x0 (wrap64 (x5 - 1))) else (some (0, 0, ([] : List ByteArray), ([] : List Int), 170))))) else (none)) else (none)) else (ententeref16_Look.j2 k x0 x5)
end
def ententeref16_Look.f (k : Nat) (l0 : List (S24)) : Option (Int × Int × List ByteArray × List Int × Int) := ententeref16_Look.l0 k l0 1
theorem ententeref16_Look.mono_l : ∀ k, (∀ y0 y1, LeO (ententeref16_Look.l0 k y0 y1) (ententeref16_Look.l0 (k + 1) y0 y1)) ∧ (∀ y0 y1, LeO (ententeref16_Look.j2 k y0 y1) (ententeref16_Look.j2 (k + 1) y0 y1)) ∧ (∀ y0 y1 y2 y3 y4 y5, LeO (ententeref16_Look.l2 k y0 y1 y2 y3 y4 y5) (ententeref16_Look.l2 (k + 1) y0 y1 y2 y3 y4 y5)) ∧ (∀ y0 y1, LeO (ententeref16_Look.l1 k y0 y1) (ententeref16_Look.l1 (k + 1) y0 y1))
 | 0 => ⟨fun _ _ r h => by simp [ententeref16_Look.l0] at h, fun _ _ r h => by simp [ententeref16_Look.j2] at h, fun _ _ _ _ _ _ r h => by simp [ententeref16_Look.l2] at h, fun _ _ r h => by simp [ententeref16_Look.l1] at h⟩
 | k + 1 => by
  obtain ⟨ih0, ih1, ih2, ih3⟩ := ententeref16_Look.mono_l k
  refine ⟨?_, ?_, ?_, ?_⟩
  ·intro y0 y1
   unfold ententeref16_Look.l0
   repeat' (with_reducible first | exact ih0 _ _ | exact ih1 _ _ | exact ih2 _ _ _ _ _ _ | exact ih3 _ _ | exact ententeref02_Cut.mono _ _ _ | exact ententeref02_Open.mono _ _ _ _ | exact LeO.refl _ | exact LeO.none _ | apply LeO.ite | refine LeO.bind ?_ (fun _ => ?_))
  ·intro y0 y1
   unfold ententeref16_Look.j2
   repeat' (with_reducible first | exact ih0 _ _ | exact ih1 _ _ | exact ih2 _ _ _ _ _ _ | exact ih3 _ _ | exact ententeref02_Cut.mono _ _ _ | exact ententeref02_Open.mono _ _ _ _ | exact LeO.refl _ | exact LeO.none _ | apply LeO.ite | refine LeO.bind ?_ (fun _ => ?_))
  ·intro y0 y1 y2 y3 y4 y5
   unfold ententeref16_Look.l2
   repeat' (with_reducible first | exact ih0 _ _ | exact ih1 _ _ | exact ih2 _ _ _ _ _ _ | exact ih3 _ _ | exact ententeref02_Cut.mono _ _ _ | exact ententeref02_Open.mono _ _ _ _ | exact LeO.refl _ | exact LeO.none _ | apply LeO.ite | refine LeO.bind ?_ (fun _ => ?_))
  intro y0 y1
  unfold ententeref16_Look.l1
  repeat' (with_reducible first | exact ih0 _ _ | exact ih1 _ _ | exact ih2 _ _ _ _ _ _ | exact ih3 _ _ | exact ententeref02_Cut.mono _ _ _ | exact ententeref02_Open.mono _ _ _ _ | exact LeO.refl _ | exact LeO.none _ | apply LeO.ite | refine LeO.bind ?_ (fun _ => ?_))
theorem ententeref16_Look.mono : ∀ a0 k, LeO (ententeref16_Look.f k a0) (ententeref16_Look.f (k + 1) a0) := by
 intro a0 k
 obtain ⟨ih0, ih1, ih2, ih3⟩ := ententeref16_Look.mono_l k
 unfold ententeref16_Look.f
 repeat' (with_reducible first | exact ih0 _ _ | exact ih1 _ _ | exact ih2 _ _ _ _ _ _ | exact ih3 _ _ | exact ententeref02_Cut.mono _ _ _ | exact ententeref02_Open.mono _ _ _ _ | exact LeO.refl _ | exact LeO.none _ | apply LeO.ite | refine LeO.bind ?_ (fun _ => ?_))
def ententeref16_Look.T4 : Bool × List (List Nat × List Nat) := (true, [([], []), ([], []), ([1], [1]), ([0, 2], [0, 2]), ([3], [3]), ([4], [4]), ([], []), ([], []), ([6, 7], [6, 7]), ([8], [8]), ([9], [9]), ([5, 10], [5, 10])])
def ententeref16_Look.B4 : List Nat := [0, 0, 2, 7, 15, 31, 0, 0, 192, 448, 960, 2047]
theorem ententeref16_Look.tab4 : rtab .any (opsOf Tryz.f23 4) = ententeref16_Look.T4 := by kernel_rfl
theorem ententeref16_Look.bits4 : waitsOk ententeref16_Look.T4.2 ententeref16_Look.B4 = true := by kernel_rfl
def ententeref16_Look.T18 : Bool × List (List Nat × List Nat) := (true, [([], []), ([0], [0]), ([], []), ([], []), ([2, 3], [2, 3]), ([4], [4]), ([5], [5]), ([6], [6]), ([1, 7], [1, 7]), ([0, 1, 2, 3, 4, 5, 6, 7, 8], []), ([9, 8, 8, 0, 1, 2, 3, 4, 5, 6, 7, 8], [8, 9])])
def ententeref16_Look.B18 : List Nat := [0, 1, 0, 0, 12, 28, 60, 124, 255, 511, 1023]
theorem ententeref16_Look.tab18 : rtab .any (opsOf Tryz.f23 18) = ententeref16_Look.T18 := by kernel_rfl
theorem ententeref16_Look.bits18 : waitsOk ententeref16_Look.T18.2 ententeref16_Look.B18 = true := by kernel_rfl
theorem ententeref16_Look.calls (k : Nat) (A0 : Option Addr) (c0 : Nat) (l0 : List (S24)) (r1 : Int) (r2 : Int) (r3 : List ByteArray) (r4 : List Int) (r5 : Int) (w : World) (hr0 : Kd.C k24 w A0 l0.length l0) (hc0 : l0.length ≤ c0) (h : ententeref16_Look.f k l0 = some (r1, r2, r3, r4, r5)) :
  Calls Tryz.prog 23 #[.slice A0 l0.length c0] w fun e w' => ∃ v2_ v3_ : Value, e = .returned (.tuple #[.agg #[.int .i64 r1, .int .i64 r2, v2_, v3_], .int .i64 r5]) ∧ Kd.R Kd.string 9 w' w.heap.size (fun _ => True) v2_ r3 ∧ Kd.R (Kd.int .i64) 3 w' w.heap.size (fun _ => True) v3_ r4 ∧ Below w.heap.size w w' := by
 have hu68 := Tryz.underlying68
 have HR0 := My.am hr0
 have HC0 := My.am hc0
 clear hr0 hc0
 have HB := My.am (Below.refl w.heap.size w)
 have H : (ententeref16_Look.l0 k l0 1) = some (r1, r2, r3, r4, r5) := h
 clear h
 have H' := My.am H
 clear H
 go_enter Tryz.func23, Tryz.ntmps23
 go_wp2_with (first | ((with_reducible refine gate_dst (N := 2) rfl ?_); refine My.bx 2 #[.int .i64 0, .int .i64 0, .slice none 0 0, .slice none 0 0] 68 ?_; intro gb176 hg w2 hbox hb; have BK176 := My.am (hbox); have GE176 := My.nge hg (My.bl_ HB); replace HB := My.st HB hb; clear hb hbox hg))
 go_loopg [4] k (fun kq v4 w' => ∃ (x4_1 : Int) (x177000_1 : Int) (x177001_1 : Int), v4 = .int .i64 x4_1 ∧ Aside0 (ententeref16_Look.l0 kq l0 x4_1 = some (r1, r2, r3, r4, r5)) ∧ Aside0 (kq ≤ k) ∧ Aside0 (w'.heap[gb176]? = some (.cells #[.int .i64 x177000_1, .int .i64 x177001_1, (.slice none 0 0), (.slice none 0 0)] 68 (0, 0))) ∧ Aside0 (Below w.heap.size w w'))
 case atStart => exact ⟨(1), (0), (0), My.r1, H', ⟨Nat.le_refl _⟩, ⟨(My.at_ BK176)⟩, ⟨(My.bl_ HB)⟩⟩
 case round =>
  clear H'
  obtain ⟨x4_1, x177000_1, x177001_1, rfl, HA, HK1, BK176, HB⟩ := hrel
  cases gk with
  | zero => exact absurd HA.out (by simp [ententeref16_Look.l0])
  | succ k1 =>
   have H := HA.out
   clear HA
   simp only [ententeref16_Look.l0] at H
   by_cases c3 : x4_1 < (l0.length : Int)
   ·rw [if_pos c3] at H
    have c3b0 := decide_eq_true c3
    clear c3
    obtain ⟨ji4, hji4⟩ : ∃ j_ : Int, (wrap64 (x4_1 - 1)) = j_ := ⟨_, rfl⟩
    replace H : (if 0 ≤ (ji4) then (if (ji4) < (l0.length : Int) then (if 0 ≤ x4_1 then (if ((rd_T24 l0 (ji4)).f0) ≥ ((rd_T24 l0 x4_1).f0) then (some (0, 0, ([] : List ByteArray), ([] : List Int), 2)) else (ententeref16_Look.l0 k1 l0 (wrap64 (x4_1 + 1)))) else (none)) else (none)) else (none)) = some (r1, r2, r3, r4, r5) := by first | (rw [hji4] at H; exact H) | (simp only [hji4] at H ⊢; exact H)
    have hji4w : (IntKind.i64.wrap (x4_1 - 1)) = ji4 := (i64_w _).trans hji4
    replace H := My.ds H
    obtain ⟨c5b0, H⟩ := H
    replace H := My.ds H
    obtain ⟨c6b0, H⟩ := H
    replace H := My.ds H
    obtain ⟨c7b0, H⟩ := H
    by_cases c8 : ((rd_T24 l0 (ji4)).f0) ≥ ((rd_T24 l0 x4_1).f0)
    ·rw [if_pos c8] at H
     have c8b0 : decide (((rd_T24 l0 x4_1).f0) ≤ ((rd_T24 l0 (ji4)).f0)) = true := decide_eq_true c8
     clear c8
     simp only [Option.some.injEq, Prod.mk.injEq] at H
     obtain ⟨rfl, rfl, rfl, rfl, rfl⟩ := H
     try go_wp2
     replace BK176 := My.am (blk_drew BK176.out)
     replace HB := My.am (below_drew1 HB.out)
     have p177 : 0 ≤ ((ji4) : Int) := My.as_
     have q177 : (ji4) < (l0.length : Int) := My.as_
     obtain ⟨ad177, e177, hx177_0, hx177_1, hx177_2⟩ := at_T24 HR0.out (ji4) p177 q177
     have hw177_2 := hx177_2
     have hw177_1 := hx177_1
     have hw177_0 := hx177_0
     cases e177
     replace hx177_0 := My.up HB hx177_0
     replace hx177_1 := My.up HB hx177_1
     replace hx177_2 := My.up HB hx177_2
     replace p177 := eq_true p177
     replace q177 := eq_true q177
     have p178 : 0 ≤ (x4_1 : Int) := My.as_
     have q178 : x4_1 < (l0.length : Int) := My.as_
     obtain ⟨ad178, e178, hx178_0, hx178_1, hx178_2⟩ := at_T24 HR0.out x4_1 p178 q178
     have hw178_2 := hx178_2
     have hw178_1 := hx178_1
     have hw178_0 := hx178_0
     obtain rfl : ad177 = ad178 := (by injection e178)
     replace hx178_0 := My.up HB hx178_0
     replace hx178_1 := My.up HB hx178_1
     replace hx178_2 := My.up HB hx178_2
     replace p178 := eq_true p178
     replace q178 := eq_true q178
     refine start_ (n := 12) (S := fun w' => w'.cell? (ad177.add (((ji4)).toNat * 3)) = some (.int .i64 ((rd_T24 l0 (ji4)).f0)) ∧ w'.cell? ⟨(ad177.add (((ji4)).toNat * 3)).block, (ad177.add (((ji4)).toNat * 3)).off + 1, none⟩ = some (.string ((rd_T24 l0 (ji4)).f1)) ∧ w'.cell? ⟨(ad177.add (((ji4)).toNat * 3)).block, (ad177.add (((ji4)).toNat * 3)).off + 2, none⟩ = some (.int .i64 ((rd_T24 l0 (ji4)).f2)) ∧ w'.cell? (ad177.add ((x4_1).toNat * 3)) = some (.int .i64 ((rd_T24 l0 x4_1).f0)) ∧ w'.cell? ⟨(ad177.add ((x4_1).toNat * 3)).block, (ad177.add ((x4_1).toNat * 3)).off + 1, none⟩ = some (.string ((rd_T24 l0 x4_1).f1)) ∧ w'.cell? ⟨(ad177.add ((x4_1).toNat * 3)).block, (ad177.add ((x4_1).toNat * 3)).off + 2, none⟩ = some (.int .i64 ((rd_T24 l0 x4_1).f2))) (ds := []) #[false, false, false, false, false, false, false, false, false, false, false, false] (by kernel_rfl) rfl rfl ⟨(My.up HB hw177_0), (My.up HB hw177_1), (My.up HB hw177_2), (My.up HB hw178_0), (My.up HB hw178_1), (My.up HB hw178_2)⟩ (fun hHeld => ?_); refine with_tabW ententeref16_Look.tab4 ententeref16_Look.bits4 (fun HT_ HW_ => ?_)
     generalize wr.drew = w9 at BK176 HB hx177_0 hx177_1 hx177_2 hx178_0 hx178_1 hx178_2 hHeld ⊢
     refine My.pu_ 0 20 12 HT_.out ?_
     refine My.pu_ 1 21 12 HT_.out ?_
     refine My.pu_ 2 22 12 HT_.out ?_
     refine My.pu_ 3 23 12 HT_.out ?_
     refine My.pu_ 4 24 12 HT_.out ?_
     refine My.pv_ 6 26 12 95 HT_.out ?_
     refine My.pv_ 7 27 12 223 HT_.out ?_
     refine My.pv_ 8 28 12 479 HT_.out ?_
     refine My.pv_ 9 29 12 991 HT_.out ?_
     refine My.tv_ 5 25 12 1023 HT_.out HW_.out hHeld rfl rfl (by rintro w' ⟨s0, s1, s2, s3, s4, s5⟩; go_simp; with_reducible rfl) ?_
     refine My.ta_ 10 30 12 HT_.out HW_.out hHeld rfl rfl (by rintro w' ⟨s0, s1, s2, s3, s4, s5⟩; go_simp; with_reducible rfl) ?_
     refine My.pu_ 11 31 12 HT_.out ?_
     refine done_ (done_of HT_.out (by kernel_rfl)) ?_
     have hcz10_0 : w9.cell? ⟨gb176, 0, none⟩ = some (.int .i64 x177000_1) := My.b_ BK176 0
     have hcz10_1 : w9.cell? ⟨gb176, 1, none⟩ = some (.int .i64 x177001_1) := My.b_ BK176 1
     have hcz10_2 : w9.cell? ⟨gb176, 2, none⟩ = some (.slice none 0 0) := My.b_ BK176 2
     have hcz10_3 : w9.cell? ⟨gb176, 3, none⟩ = some (.slice none 0 0) := My.b_ BK176 3
     have hfz10_0 := blk_frozen BK176.out 0
     have hfz10_1 := blk_frozen BK176.out 1
     have hfz10_2 := blk_frozen BK176.out 2
     have hfz10_3 := blk_frozen BK176.out 3
     try go_wp2
     refine bodyPost_ret (results_ct rfl _ _ gb176 68 #[.int .i64 0, .int .i64 0, .slice none 0 0, .slice none 0 0] (0, 0) _ rfl ((My.sv_ BK176)) Tryz.underlying68 rfl (by kernel_rfl)) rfl ?_
     exact ⟨_, _, by first | rfl | (simp [errW_none, errW_some] <;> rfl) | (simp only [← hji4]; first | rfl | (simp [errW_none, errW_some] <;> rfl)) | (simp [*, errW_none, errW_some] <;> rfl), My.r3, My.r3, (My.bl_ HB)⟩
    rw [if_neg c8] at H
    have c8b0 : decide (((rd_T24 l0 x4_1).f0) ≤ ((rd_T24 l0 (ji4)).f0)) = false := decide_eq_false c8
    clear c8
    have H' := My.am H
    clear H
    try go_wp2
    replace BK176 := My.am (blk_drew BK176.out)
    replace HB := My.am (below_drew1 HB.out)
    have p177 : 0 ≤ ((ji4) : Int) := My.as_
    have q177 : (ji4) < (l0.length : Int) := My.as_
    obtain ⟨ad177, e177, hx177_0, hx177_1, hx177_2⟩ := at_T24 HR0.out (ji4) p177 q177
    have hw177_2 := hx177_2
    have hw177_1 := hx177_1
    have hw177_0 := hx177_0
    cases e177
    replace hx177_0 := My.up HB hx177_0
    replace hx177_1 := My.up HB hx177_1
    replace hx177_2 := My.up HB hx177_2
    replace p177 := eq_true p177
    replace q177 := eq_true q177
    have p178 : 0 ≤ (x4_1 : Int) := My.as_
    have q178 : x4_1 < (l0.length : Int) := My.as_
    obtain ⟨ad178, e178, hx178_0, hx178_1, hx178_2⟩ := at_T24 HR0.out x4_1 p178 q178
    have hw178_2 := hx178_2
    have hw178_1 := hx178_1
    have hw178_0 := hx178_0
    obtain rfl : ad177 = ad178 := (by injection e178)
    replace hx178_0 := My.up HB hx178_0
    replace hx178_1 := My.up HB hx178_1
    replace hx178_2 := My.up HB hx178_2
    replace p178 := eq_true p178
    replace q178 := eq_true q178
    refine start_ (n := 12) (S := fun w' => w'.cell? (ad177.add (((ji4)).toNat * 3)) = some (.int .i64 ((rd_T24 l0 (ji4)).f0)) ∧ w'.cell? ⟨(ad177.add (((ji4)).toNat * 3)).block, (ad177.add (((ji4)).toNat * 3)).off + 1, none⟩ = some (.string ((rd_T24 l0 (ji4)).f1)) ∧ w'.cell? ⟨(ad177.add (((ji4)).toNat * 3)).block, (ad177.add (((ji4)).toNat * 3)).off + 2, none⟩ = some (.int .i64 ((rd_T24 l0 (ji4)).f2)) ∧ w'.cell? (ad177.add ((x4_1).toNat * 3)) = some (.int .i64 ((rd_T24 l0 x4_1).f0)) ∧ w'.cell? ⟨(ad177.add ((x4_1).toNat * 3)).block, (ad177.add ((x4_1).toNat * 3)).off + 1, none⟩ = some (.string ((rd_T24 l0 x4_1).f1)) ∧ w'.cell? ⟨(ad177.add ((x4_1).toNat * 3)).block, (ad177.add ((x4_1).toNat * 3)).off + 2, none⟩ = some (.int .i64 ((rd_T24 l0 x4_1).f2))) (ds := []) #[false, false, false, false, false, false, false, false, false, false, false, false] (by kernel_rfl) rfl rfl ⟨(My.up HB hw177_0), (My.up HB hw177_1), (My.up HB hw177_2), (My.up HB hw178_0), (My.up HB hw178_1), (My.up HB hw178_2)⟩ (fun hHeld => ?_); refine with_tabW ententeref16_Look.tab4 ententeref16_Look.bits4 (fun HT_ HW_ => ?_)
    generalize wr.drew = w11 at BK176 HB hx177_0 hx177_1 hx177_2 hx178_0 hx178_1 hx178_2 hHeld ⊢
    refine My.pu_ 0 20 12 HT_.out ?_
    refine My.pu_ 1 21 12 HT_.out ?_
    refine My.pu_ 2 22 12 HT_.out ?_
    refine My.pu_ 3 23 12 HT_.out ?_
    refine My.pu_ 4 24 12 HT_.out ?_
    refine My.pv_ 6 26 12 95 HT_.out ?_
    refine My.pv_ 7 27 12 223 HT_.out ?_
    refine My.pv_ 8 28 12 479 HT_.out ?_
    refine My.pv_ 9 29 12 991 HT_.out ?_
    refine My.tv_ 5 25 12 1023 HT_.out HW_.out hHeld rfl rfl (by rintro w' ⟨s0, s1, s2, s3, s4, s5⟩; go_simp; with_reducible rfl) ?_
    refine My.ta_ 10 30 12 HT_.out HW_.out hHeld rfl rfl (by rintro w' ⟨s0, s1, s2, s3, s4, s5⟩; go_simp; with_reducible rfl) ?_
    refine My.pu_ 11 31 12 HT_.out ?_
    refine done_ (done_of HT_.out (by kernel_rfl)) ?_
    try go_wp2
    go_roundg k1
    case measure => have := HK1.out; omega
    case rel => exact ⟨(wrap64 (x4_1 + 1)), (x177000_1), (x177001_1), My.r1, H', ⟨by have := HK1.out; omega⟩, ⟨(My.at_ BK176)⟩, ⟨(My.bl_ HB)⟩⟩
   rw [if_neg c3] at H
   have c3b0 := decide_eq_false c3
   clear c3
   have HC12 := My.am H
   clear H
   go_upto_block 2 with (fail)
   go_cut [5] (fun v5 wc => ∃ (kq : Nat) (x5_11 : Int) (x177000_11 : Int) (x177001_11 : Int), v5 = .int .i64 x5_11 ∧ Aside0 (ententeref16_Look.j2 kq l0 x5_11 = some (r1, r2, r3, r4, r5)) ∧ Aside0 (kq ≤ k1) ∧ Aside0 (wc.heap[gb176]? = some (.cells #[.int .i64 x177000_11, .int .i64 x177001_11, (.slice none 0 0), (.slice none 0 0)] 68 (0, 0))) ∧ Aside0 (Below w.heap.size w wc))
   case first =>
    have H := HC12.out
    clear HC12
    have H' := My.am H
    clear H
    go_wp2
    go_loopg [5] k1 (fun kq v5 w' => ∃ (x5_2 : Int) (x177000_2 : Int) (x177001_2 : Int), v5 = .int .i64 x5_2 ∧ Aside0 (ententeref16_Look.l1 kq l0 x5_2 = some (r1, r2, r3, r4, r5)) ∧ Aside0 (kq ≤ k1) ∧ Aside0 (w'.heap[gb176]? = some (.cells #[.int .i64 x177000_2, .int .i64 x177001_2, (.slice none 0 0), (.slice none 0 0)] 68 (0, 0))) ∧ Aside0 (Below w.heap.size w w'))
    case atStart => exact ⟨(wrap64 ((l0.length : Int) - 1)), (x177000_1), (x177001_1), My.r1, H', ⟨Nat.le_refl _⟩, ⟨(My.at_ BK176)⟩, ⟨(My.bl_ HB)⟩⟩
    case round =>
     clear H'
     try clear c3
     try clear c3b0
     obtain ⟨x5_2, x177000_2, x177001_2, rfl, HA, HK2, BK176, HB⟩ := hrel
     cases gk with
     | zero => exact absurd HA.out (by simp [ententeref16_Look.l1])
     | succ k2 =>
      have H := HA.out
      clear HA
      simp only [ententeref16_Look.l1] at H
      by_cases c13 : x5_2 ≥ 0
      rotate_left
      ·rw [if_neg c13] at H
       have c13b0 : decide (0 ≤ x5_2) = false := decide_eq_false c13
       clear c13
       (first | rw [c13b0] | (simp only [i64_w, i32_w]; rw [c13b0]) | skip)
       have H' := My.am H
       clear H
       go_wp2
       go_meet
       case rel => exact ⟨_, (x5_2), (x177000_2), (x177001_2), My.r1, H', ⟨by have := HK1.out; have := HK2.out; first | omega | exact Nat.le_refl _⟩, ⟨(My.at_ BK176)⟩, ⟨(My.bl_ HB)⟩⟩
      rw [if_pos c13] at H
      have c13b0 : decide (0 ≤ x5_2) = true := decide_eq_true c13
      clear c13
      (first | rw [c13b0] | (simp only [i64_w, i32_w]; rw [c13b0]) | skip)
      replace H := My.ds H
      obtain ⟨c14b0, H⟩ := H
      replace H := My.ds H
      obtain ⟨c15b0, H⟩ := H
      replace H := Option.bind_eq_some_iff.mp H
      obtain ⟨⟨t180, t181, t182⟩, A160, H⟩ := H
      try dsimp only at H
      have A16 := My.am A160
      clear A160
      by_cases c17 : t182 = 0
      ·rw [if_pos c17] at H
       have c17b0 : (t182 == 0) = true := beq_iff_eq.mpr c17
       have c17b1 : (t182 != 0) = false := bne_eq_false_iff_eq.mpr c17
       clear c17
       have H' := My.am H
       clear H
       have p179 : 0 ≤ (x5_2 : Int) := My.as_
       have q179 : x5_2 < (l0.length : Int) := My.as_
       obtain ⟨ad179, e179, hx179_0, hx179_1, hx179_2⟩ := My.up3 HB (at_T24 HR0.out x5_2 p179 q179)
       cases e179
       replace p179 := eq_true p179
       replace q179 := eq_true q179
       go_wp2_with (first | ((with_reducible refine gate_callee (f := 47) rfl ?_); refine goesL_ (some 44) rfl rfl Tryz.func47 (by kernel_rfl) rfl #[.string ((rd_T24 l0 x5_2).f1), .int .i64 0, .int .i64 3] rfl My.gx ?_; (with_reducible refine (ententeref02_Open.calls k2 ((rd_T24 l0 x5_2).f1) 0 3 t180 t181 t182 _ A16.out).mono ?_); rintro e w18 ⟨rfl, hb⟩; refine ⟨_, rfl, ?_⟩; replace BK176 := My.ab BK176 hb; replace HB := My.st HB hb; (try clear hb)))
       go_meet
       case rel => exact ⟨_, (x5_2), (x177000_2), (x177001_2), My.r1, H', ⟨by have := HK1.out; have := HK2.out; first | omega | exact Nat.le_refl _⟩, ⟨(My.at_ BK176)⟩, ⟨(My.bl_ HB)⟩⟩
      rw [if_neg c17] at H
      have c17b0 : (t182 == 0) = false := beq_eq_false_iff_ne.mpr c17
      have c17b1 : (t182 != 0) = true := bne_iff_ne.mpr c17
      by_cases c19 : t182 = 10
      ·rw [if_pos c19] at H
       have c19b0 : (t182 == 10) = true := beq_iff_eq.mpr c19
       have c19b1 : (t182 != 10) = false := bne_eq_false_iff_eq.mpr c19
       clear c19
       have H' := My.am H
       clear H
       have p179 : 0 ≤ (x5_2 : Int) := My.as_
       have q179 : x5_2 < (l0.length : Int) := My.as_
       obtain ⟨ad179, e179, hx179_0, hx179_1, hx179_2⟩ := My.up3 HB (at_T24 HR0.out x5_2 p179 q179)
       cases e179
       replace p179 := eq_true p179
       replace q179 := eq_true q179
       go_wp2_with (first | ((with_reducible refine gate_callee (f := 47) rfl ?_); refine goesL_ (some 44) rfl rfl Tryz.func47 (by kernel_rfl) rfl #[.string ((rd_T24 l0 x5_2).f1), .int .i64 0, .int .i64 3] rfl My.gx ?_; (with_reducible refine (ententeref02_Open.calls k2 ((rd_T24 l0 x5_2).f1) 0 3 t180 t181 t182 _ A16.out).mono ?_); rintro e w20 ⟨rfl, hb⟩; refine ⟨_, rfl, ?_⟩; replace BK176 := My.ab BK176 hb; replace HB := My.st HB hb; (try clear hb)))
       go_roundg k2
       case measure => have := HK1.out; have := HK2.out; omega
       case rel => exact ⟨(wrap64 (x5_2 - 1)), (x177000_2), (x177001_2), My.r1, H', ⟨by have := HK1.out; have := HK2.out; omega⟩, ⟨(My.at_ BK176)⟩, ⟨(My.bl_ HB)⟩⟩
      rw [if_neg c19] at H
      have c19b0 : (t182 == 10) = false := beq_eq_false_iff_ne.mpr c19
      have c19b1 : (t182 != 10) = true := bne_iff_ne.mpr c19
      simp only [Option.some.injEq, Prod.mk.injEq] at H
      obtain ⟨rfl, rfl, rfl, rfl, rfl⟩ := H
      have p179 : 0 ≤ (x5_2 : Int) := My.as_
      have q179 : x5_2 < (l0.length : Int) := My.as_
      obtain ⟨ad179, e179, hx179_0, hx179_1, hx179_2⟩ := My.up3 HB (at_T24 HR0.out x5_2 p179 q179)
      cases e179
      replace p179 := eq_true p179
      replace q179 := eq_true q179
      go_wp2_with (first | ((with_reducible refine gate_callee (f := 47) rfl ?_); refine goesL_ (some 44) rfl rfl Tryz.func47 (by kernel_rfl) rfl #[.string ((rd_T24 l0 x5_2).f1), .int .i64 0, .int .i64 3] rfl My.gx ?_; (with_reducible refine (ententeref02_Open.calls k2 ((rd_T24 l0 x5_2).f1) 0 3 t180 t181 t182 _ A16.out).mono ?_); rintro e w21 ⟨rfl, hb⟩; refine ⟨_, rfl, ?_⟩; replace BK176 := My.ab BK176 hb; replace HB := My.st HB hb; (try clear hb); have hcz22_0 : w21.cell? ⟨gb176, 0, none⟩ = some (.int .i64 x177000_2) := My.b_ BK176 0; have hcz22_1 : w21.cell? ⟨gb176, 1, none⟩ = some (.int .i64 x177001_2) := My.b_ BK176 1; have hcz22_2 : w21.cell? ⟨gb176, 2, none⟩ = some (.slice none 0 0) := My.b_ BK176 2; have hcz22_3 : w21.cell? ⟨gb176, 3, none⟩ = some (.slice none 0 0) := My.b_ BK176 3; have hfz22_0 := blk_frozen BK176.out 0; have hfz22_1 := blk_frozen BK176.out 1; have hfz22_2 := blk_frozen BK176.out 2; have hfz22_3 := blk_frozen BK176.out 3))
      refine bodyPost_ret (results_ct rfl _ _ gb176 68 #[.int .i64 0, .int .i64 0, .slice none 0 0, .slice none 0 0] (0, 0) _ rfl ((My.sv_ BK176)) Tryz.underlying68 rfl (by kernel_rfl)) rfl ?_
      exact ⟨_, _, My.r2, My.r3, My.r3, (My.bl_ HB)⟩
   case rest =>
    clear HC12
    try clear c3
    try clear c3b0
    obtain ⟨kq, x5_11, x177000_11, x177001_11, rfl, HA, HJ11, BK176, HB⟩ := hcut
    cases kq with
    | zero => exact absurd HA.out (by simp [ententeref16_Look.j2])
    | succ kj11 =>
     have H := HA.out
     clear HA
     simp only [ententeref16_Look.j2] at H
     have H' := My.am H
     clear H
     go_wp2_with (first | ((with_reducible refine gate_dst (N := 9) rfl ?_); refine My.bx 9 #[.int .i64 0, .int .i64 0, .slice none 0 0, .slice none 0 0] 68 ?_; intro gb183 hg w23 hbox hb; have BK183 := My.am (hbox); have GE183 := My.nge hg (My.bl_ HB); replace HB := My.st HB hb; obtain ⟨NB176_183, NB183_176, BK176⟩ := My.nb hg hb BK176; clear hb hbox hg; have hnb24 := NB183_176.out; have hnc24 := NB176_183.out; have hcz25_0 : w23.cell? ⟨gb183, 0, none⟩ = some (.int .i64 0) := My.b_ BK183 0; have hcz25_1 : w23.cell? ⟨gb183, 1, none⟩ = some (.int .i64 0) := My.b_ BK183 1; have hcz25_2 : w23.cell? ⟨gb183, 2, none⟩ = some (.slice none 0 0) := My.b_ BK183 2; have hcz25_3 : w23.cell? ⟨gb183, 3, none⟩ = some (.slice none 0 0) := My.b_ BK183 3; have hfz25_0 := blk_frozen BK183.out 0; have hfz25_1 := blk_frozen BK183.out 1; have hfz25_2 := blk_frozen BK183.out 2; have hfz25_3 := blk_frozen BK183.out 3))
     go_loopg [10] kj11 (fun kq v10 w' => ∃ (x10_3 : Int) (x184003_3 : List Int) (u184003 : Value), v10 = .int .i64 x10_3 ∧ Aside0 (ententeref16_Look.l2 kq l0 x5_11 x10_3 (-1) 0 x184003_3 = some (r1, r2, r3, r4, r5)) ∧ Aside0 (kq ≤ kj11) ∧ Aside0 (Kd.R (Kd.int .i64) 3 w' w.heap.size (fun _ => True) u184003 x184003_3) ∧ Aside0 (w'.heap[gb176]? = some (.cells #[.int .i64 x177000_11, .int .i64 x177001_11, (.slice none 0 0), (.slice none 0 0)] 68 (0, 0))) ∧ Aside0 (w'.heap[gb183]? = some (.cells #[.int .i64 (-1), .int .i64 0, (.slice none 0 0), u184003] 68 (0, 0))) ∧ Aside0 (Below w.heap.size w w'))
     case atStart => exact ⟨(0), (([] : List Int)), (.slice none 0 0), My.r1, H', ⟨Nat.le_refl _⟩, ⟨My.r3⟩, ⟨(My.sv_ BK176)⟩, ⟨(My.sv_ BK183)⟩, ⟨(My.bl_ HB)⟩⟩
     case round =>
      clear H'
      try clear c3
      try clear c3b0
      try clear hcz25_0
      try clear hcz25_1
      try clear hcz25_2
      try clear hcz25_3
      try clear hfz25_0
      try clear hfz25_1
      try clear hfz25_2
      try clear hfz25_3
      obtain ⟨x10_3, x184003_3, u184003, rfl, HA, HK3, HO_184003, BK176, BK183, HB⟩ := hrel
      cases gk with
      | zero => exact absurd HA.out (by simp [ententeref16_Look.l2])
      | succ k3 =>
       have H := HA.out
       clear HA
       simp only [ententeref16_Look.l2] at H
       by_cases c26 : x10_3 < (l0.length : Int)
       ·rw [if_pos c26] at H
        have c26b0 := decide_eq_true c26
        clear c26
        by_cases c27 : x10_3 = x5_11
        ·rw [if_pos c27] at H
         have c27b0 : (x10_3 == x5_11) = true := beq_iff_eq.mpr c27
         have c27b1 : (x10_3 != x5_11) = false := bne_eq_false_iff_eq.mpr c27
         clear c27
         have H' := My.am H
         clear H
         go_wp2
         go_roundg k3
         case measure => have := HK1.out; have := HJ11.out; have := HK3.out; omega
         case rel => exact ⟨(wrap64 (x10_3 + 1)), (x184003_3), (u184003), My.r1, H', ⟨by have := HK1.out; have := HJ11.out; have := HK3.out; omega⟩, ⟨My.dR HO_184003.out⟩, ⟨(My.at_ BK176)⟩, ⟨(My.at_ BK183)⟩, ⟨(My.bl_ HB)⟩⟩
        rw [if_neg c27] at H
        have c27b0 : (x10_3 == x5_11) = false := beq_eq_false_iff_ne.mpr c27
        have c27b1 : (x10_3 != x5_11) = true := bne_iff_ne.mpr c27
        replace H := My.ds H
        obtain ⟨c28b0, H⟩ := H
        by_cases c29 : x184003_3.length < 17592186044416
        rotate_left
        ·exact My.nn c29 H
        rw [if_pos c29] at H
        have LMc29 := My.am c29
        clear c29
        obtain ⟨y185, hy185⟩ : ∃ y_ : List Int, y_ = (x184003_3 ++ [(rd_T24 l0 x10_3).f0]) := ⟨_, rfl⟩
        replace H : (ententeref16_Look.l2 k3 l0 x5_11 (wrap64 (x10_3 + 1)) (-1) 0 y185) = some (r1, r2, r3, r4, r5) := by first | (rw [hy185]; with_reducible exact H) | (have H2_ := (Option.bind_some _ _).symm.trans H; rw [hy185]; with_reducible exact H2_) | (have H2_ := (Option.bind_some _ _).symm.trans H; with_reducible exact H2_) | with_reducible exact H | (rw [hy185]; exact H) | exact H
        have Ny185 := My.am hy185
        clear hy185
        have H' := My.am H
        clear H
        try go_wp2
        replace HO_184003 := My.am (Kd.R_drew HO_184003.out)
        replace BK176 := My.am (blk_drew BK176.out)
        replace BK183 := My.am (blk_drew BK183.out)
        replace HB := My.am (below_drew1 HB.out)
        have p184 : 0 ≤ (x10_3 : Int) := My.as_
        have q184 : x10_3 < (l0.length : Int) := My.as_
        obtain ⟨ad184, e184, hx184_0, hx184_1, hx184_2⟩ := at_T24 HR0.out x10_3 p184 q184
        have hw184_2 := hx184_2
        have hw184_1 := hx184_1
        have hw184_0 := hx184_0
        cases e184
        replace hx184_0 := My.up HB hx184_0
        replace hx184_1 := My.up HB hx184_1
        replace hx184_2 := My.up HB hx184_2
        replace p184 := eq_true p184
        replace q184 := eq_true q184
        refine start_ (n := 11) (S := fun w' => w'.cell? ⟨gb183, 0, none⟩ = some (.int .i64 (-1)) ∧ w'.cell? ⟨gb183, 1, none⟩ = some (.int .i64 0) ∧ w'.cell? ⟨gb183, 2, none⟩ = some (.slice none 0 0) ∧ w'.cell? ⟨gb183, 3, none⟩ = some (u184003) ∧ w'.cell? (ad184.add ((x10_3).toNat * 3)) = some (.int .i64 ((rd_T24 l0 x10_3).f0)) ∧ w'.cell? ⟨(ad184.add ((x10_3).toNat * 3)).block, (ad184.add ((x10_3).toNat * 3)).off + 1, none⟩ = some (.string ((rd_T24 l0 x10_3).f1)) ∧ w'.cell? ⟨(ad184.add ((x10_3).toNat * 3)).block, (ad184.add ((x10_3).toNat * 3)).off + 2, none⟩ = some (.int .i64 ((rd_T24 l0 x10_3).f2))) (ds := [10]) #[false, false, false, false, false, false, false, false, false, false, false] (by kernel_rfl) rfl rfl ⟨My.b_ BK183 0, My.b_ BK183 1, My.b_ BK183 2, My.b_ BK183 3, (My.up HB hw184_0), (My.up HB hw184_1), (My.up HB hw184_2)⟩ (fun hHeld => ?_); refine with_tabW ententeref16_Look.tab18 ententeref16_Look.bits18 (fun HT_ HW_ => ?_)
        generalize wr.drew = w30 at HO_184003 BK176 BK183 HB hx184_0 hx184_1 hx184_2 hHeld ⊢
        refine My.pu_ 0 65 11 HT_.out ?_
        refine My.pv_ 2 67 11 5 HT_.out ?_
        refine My.pv_ 3 68 11 13 HT_.out ?_
        refine My.pv_ 4 69 11 29 HT_.out ?_
        refine My.pv_ 5 70 11 61 HT_.out ?_
        refine My.tv_ 1 66 11 63 HT_.out HW_.out hHeld rfl rfl (by rintro w' ⟨s0, s1, s2, s3, s4, s5, s6⟩; go_simp; with_reducible rfl) ?_
        refine My.ta_ 6 71 11 HT_.out HW_.out hHeld rfl rfl (by rintro w' ⟨s0, s1, s2, s3, s4, s5, s6⟩; go_simp; with_reducible rfl) ?_
        refine one_ (i := 7) (N := some 72) (My.Mb 11 255) rfl rfl (one_of HT_.out (by kernel_rfl)) (by decide) (fun K hK => ?_)
        refine value_ (w1 := ?_) (v := ?_) (by rfl) rfl ?_ ?_
        rotate_left 2
        ·go_simp
         constructor
         ·rfl
         rfl
        refine hK.out _ _ ⟨(blk_cell (blk_alloc BK183.out _) 0).trans rfl, (blk_cell (blk_alloc BK183.out _) 1).trans rfl, (blk_cell (blk_alloc BK183.out _) 2).trans rfl, (blk_cell (blk_alloc BK183.out _) 3).trans rfl, (World.cell?_alloc_lt _ _ _ (World.block_lt_of_cell? _ _ ((My.up HB hw184_0)))).trans ((My.up HB hw184_0)), (World.cell?_alloc_lt _ _ _ (World.block_lt_of_cell? _ _ ((My.up HB hw184_1)))).trans ((My.up HB hw184_1)), (World.cell?_alloc_lt _ _ _ (World.block_lt_of_cell? _ _ ((My.up HB hw184_2)))).trans ((My.up HB hw184_2))⟩ (fun hHeld => ?_)
        clear hK K
        refine My.nm 72 ?_
        refine one_ (i := 8) (N := some 73) (My.Mb 11 511) rfl rfl (one_of HT_.out (by kernel_rfl)) (by decide) (fun K hK => ?_)
        refine Kd.R_append_step (Kd.int .i64) (w0 := w) w.heap.size (by rfl) (.tmp 66) (.tmp 72) 43 3 (.int .i64 0) 8 rfl Tryz.underlying43 info3 rfl (by decide) (by omega) u184003 x184003_3 ((rd_T24 l0 x10_3).f0) [.int .i64 ((rd_T24 l0 x10_3).f0)] (fun _ => True) (fun _ => False) rfl rfl ?aP (fun _ hk => hk.elim) ?aF ?aO ?aB ?aS ?aL ?_
        (case aP => exact rfl)
        (case aB => exact (My.bl_ HB))
        (case aF => exact (fun _ _ => trivial))
        (case aO => exact (My.dr HO_184003.out))
        (case aS => exact (below_size (My.bl_ HB)))
        (case aL => have := LMc29.out; omega)
        intro v186 w31 ho hb hg hat
        rw [← Ny185.out] at ho
        replace BK176 := My.am (blk_grown (My.at_ BK176) hg (Kd.R_ne HO_184003.out BK176.out (by decide)))
        replace BK183 := My.am (blk_grown (My.at_ BK183) hg (Kd.R_ne HO_184003.out BK183.out (by decide)))
        replace HB := My.am (hb)
        have HO187 := My.am (ho)
        (try clear HO_184003)
        clear ho hb hg hat
        obtain ⟨Ao32, co32, eo32⟩ := Kd.R_slice HO187.out
        (first | subst eo32 | (injection eo32 with f1_ f2_ f3_; have f4_ := f1_.symm; have f5_ := f3_.symm; clear f1_ f2_ f3_; subst f4_; subst f5_))
        refine hK.out _ _ ⟨My.b_ BK183 0, My.b_ BK183 1, My.b_ BK183 2, My.b_ BK183 3, (My.up HB hw184_0), (My.up HB hw184_1), (My.up HB hw184_2)⟩ (fun hHeld => ?_)
        clear hK K
        refine My.nm 73 ?_
        refine My.pu_ 9 74 11 HT_.out ?_
        refine last_ (i := 10) (N := none) (My.Mb 11 2047) rfl rfl (one_of HT_.out (by kernel_rfl)) (by decide) (fun K hK => ?_)
        have hs33 : w31.cell? ⟨gb183, 3, none⟩ = some (u184003) := My.b_ BK183 3
        have hfs33 := blk_frozen BK183.out 3
        have hns33_0 := NB176_183.out
        have hms33_0 := NB183_176.out
        refine skip_ (w1 := ?_) (by rfl) rfl ?_ ?_
        rotate_left
        ·go_simp
         rfl
        refine hK.out _ _ ?_
        clear hK K
        refine done_ (done_of HT_.out (by kernel_rfl)) ?_
        try go_wp2
        go_roundg k3
        case measure => have := HK1.out; have := HJ11.out; have := HK3.out; omega
        case rel => exact ⟨(wrap64 (x10_3 + 1)), (y185), (.slice Ao32 y185.length co32), My.r1, H', ⟨by have := HK1.out; have := HJ11.out; have := HK3.out; omega⟩, ⟨My.dR (Kd.R_mono (Kd.R_far (p := ⟨gb183, 3, none⟩) (Kd.R_types HO187.out BK183.out (by decide)) (fun _ hk => hk.2) (.slice Ao32 y185.length co32)) (fun _ hk => trivial))⟩, ⟨(My.sv_ BK176)⟩, ⟨(My.sv_ BK183)⟩, ⟨(My.bl_ HB)⟩⟩
       rw [if_neg c26] at H
       have c26b0 := decide_eq_false c26
       clear c26
       by_cases c34 : x5_11 < 0
       ·rw [if_pos c34] at H
        have c34b0 := decide_eq_true c34
        clear c34
        simp only [Option.some.injEq, Prod.mk.injEq] at H
        obtain ⟨rfl, rfl, rfl, rfl, rfl⟩ := H
        have hnb35 := NB183_176.out
        have hnc35 := NB176_183.out
        have hcz36_0 : wr.cell? ⟨gb183, 0, none⟩ = some (.int .i64 (-1)) := My.b_ BK183 0
        have hcz36_1 : wr.cell? ⟨gb183, 1, none⟩ = some (.int .i64 0) := My.b_ BK183 1
        have hcz36_2 : wr.cell? ⟨gb183, 2, none⟩ = some (.slice none 0 0) := My.b_ BK183 2
        have hcz36_3 : wr.cell? ⟨gb183, 3, none⟩ = some (u184003) := My.b_ BK183 3
        have hfz36_0 := blk_frozen BK183.out 0
        have hfz36_1 := blk_frozen BK183.out 1
        have hfz36_2 := blk_frozen BK183.out 2
        have hfz36_3 := blk_frozen BK183.out 3
        have hcz37_0 : wr.cell? ⟨gb176, 0, none⟩ = some (.int .i64 x177000_11) := My.b_ BK176 0
        have hcz37_1 : wr.cell? ⟨gb176, 1, none⟩ = some (.int .i64 x177001_11) := My.b_ BK176 1
        have hcz37_2 : wr.cell? ⟨gb176, 2, none⟩ = some (.slice none 0 0) := My.b_ BK176 2
        have hcz37_3 : wr.cell? ⟨gb176, 3, none⟩ = some (.slice none 0 0) := My.b_ BK176 3
        have hfz37_0 := blk_frozen BK176.out 0
        have hfz37_1 := blk_frozen BK176.out 1
        have hfz37_2 := blk_frozen BK176.out 2
        have hfz37_3 := blk_frozen BK176.out 3
        obtain ⟨Ao38, co38, eo38⟩ := Kd.R_slice HO_184003.out
        subst eo38
        go_wp2
        refine bodyPost_ret (results_ct rfl _ _ gb176 68 #[.int .i64 (-1), .int .i64 0, .slice none 0 0, .slice Ao38 x184003_3.length co38] (0, 0) _ rfl ((My.sv_ BK176)) Tryz.underlying68 rfl (by kernel_rfl)) rfl ?_
        exact ⟨_, _, My.r2, My.r3, My.dR (Kd.R_mono (Kd.R_far (p := ⟨gb176, 3, none⟩) (Kd.R_far (p := ⟨gb176, 2, none⟩) (Kd.R_far (p := ⟨gb176, 1, none⟩) (Kd.R_far (p := ⟨gb176, 0, none⟩) (Kd.R_types HO_184003.out BK176.out (by decide)) (fun _ hk => hk.2) (.int .i64 (-1))) (fun _ hk => hk.2) (.int .i64 0)) (fun _ hk => hk.2) (.slice none 0 0)) (fun _ hk => hk.2) (.slice Ao38 x184003_3.length co38)) (fun _ hk => trivial)), (My.bl_ HB)⟩
       rw [if_neg c34] at H
       have c34b0 := decide_eq_false c34
       clear c34
       by_cases c39 : 0 ≤ x5_11
       rotate_left
       ·exact My.nn c39 H

       rw [if_pos c39] at H
       have c39b0 := decide_eq_true c39
       clear c39
       replace H := My.ds H
       obtain ⟨c40b0, H⟩ := H
       replace H := Option.bind_eq_some_iff.mp H
       obtain ⟨⟨t189, t190, t191⟩, A410, H⟩ := H
       try dsimp only at H
       have A41 := My.am A410
       clear A410
       by_cases c42 : t191 = 0
       ·rw [if_pos c42] at H
        have c42b0 : (t191 == 0) = true := beq_iff_eq.mpr c42
        have c42b1 : (t191 != 0) = false := bne_eq_false_iff_eq.mpr c42
        clear c42
        simp only [Option.some.injEq, Prod.mk.injEq] at H
        obtain ⟨rfl, rfl, rfl, rfl, rfl⟩ := H
        have p188 : 0 ≤ (x5_11 : Int) := My.as_
        have q188 : x5_11 < (l0.length : Int) := My.as_
        obtain ⟨ad188, e188, hx188_0, hx188_1, hx188_2⟩ := My.up3 HB (at_T24 HR0.out x5_11 p188 q188)
        cases e188
        replace p188 := eq_true p188
        replace q188 := eq_true q188
        go_wp2_with (first | ((with_reducible refine gate_callee (f := 48) rfl ?_); refine goesL_ (some 84) rfl rfl Tryz.func48 (by kernel_rfl) rfl #[.string ((rd_T24 l0 x5_11).f1), .int .i64 3] rfl My.gx ?_; (with_reducible refine (ententeref02_Cut.calls k3 ((rd_T24 l0 x5_11).f1) 3 t189 t190 t191 _ A41.out).mono ?_); rintro e w43 ⟨v192, rfl, ho0, hb⟩; refine ⟨_, rfl, ?_⟩; replace HO_184003 := My.am (Kd.R_below (My.dr HO_184003.out) hb); have HO193 := My.am (Kd.R_lower ho0 (below_size (My.bl_ HB))); replace BK176 := My.ab BK176 hb; replace BK183 := My.ab BK183 hb; replace HB := My.st HB hb; (try clear hb); (try clear ho0); have p194 : 0 ≤ (x5_11 : Int) := My.as_; have q194 : x5_11 < (l0.length : Int) := My.as_; obtain ⟨ad194, e194, hx194_0, hx194_1, hx194_2⟩ := at_T24 HR0.out x5_11 p194 q194; obtain rfl : ad188 = ad194 := (by injection e194); replace hx194_0 := My.up HB hx194_0; replace hx194_1 := My.up HB hx194_1; replace hx194_2 := My.up HB hx194_2; replace p194 := eq_true p194; replace q194 := eq_true q194; have hnb44 := NB183_176.out; have hnc44 := NB176_183.out; have hcz45_0 : w43.cell? ⟨gb183, 0, none⟩ = some (.int .i64 (-1)) := My.b_ BK183 0; have hcz45_1 : w43.cell? ⟨gb183, 1, none⟩ = some (.int .i64 0) := My.b_ BK183 1; have hcz45_2 : w43.cell? ⟨gb183, 2, none⟩ = some (.slice none 0 0) := My.b_ BK183 2; have hcz45_3 : w43.cell? ⟨gb183, 3, none⟩ = some (u184003) := My.b_ BK183 3; have hfz45_0 := blk_frozen BK183.out 0; have hfz45_1 := blk_frozen BK183.out 1; have hfz45_2 := blk_frozen BK183.out 2; have hfz45_3 := blk_frozen BK183.out 3; obtain ⟨Ao46, co46, eo46⟩ := Kd.R_slice HO193.out; subst eo46; have hcz47_0 : w43.cell? ⟨gb176, 0, none⟩ = some (.int .i64 x177000_11) := My.b_ BK176 0; have hcz47_1 : w43.cell? ⟨gb176, 1, none⟩ = some (.int .i64 x177001_11) := My.b_ BK176 1; have hcz47_2 : w43.cell? ⟨gb176, 2, none⟩ = some (.slice none 0 0) := My.b_ BK176 2; have hcz47_3 : w43.cell? ⟨gb176, 3, none⟩ = some (.slice none 0 0) := My.b_ BK176 3; have hfz47_0 := blk_frozen BK176.out 0; have hfz47_1 := blk_frozen BK176.out 1; have hfz47_2 := blk_frozen BK176.out 2; have hfz47_3 := blk_frozen BK176.out 3; obtain ⟨Ao48, co48, eo48⟩ := Kd.R_slice HO_184003.out; subst eo48))
        refine bodyPost_ret (results_ct rfl _ _ gb176 68 #[.int .i64 ((rd_T24 l0 x5_11).f0), .int .i64 t190, .slice Ao46 t189.length co46, .slice Ao48 x184003_3.length co48] (0, 0) _ rfl ((My.sv_ BK176)) Tryz.underlying68 rfl (by kernel_rfl)) rfl ?_
        exact ⟨_, _, My.r2, My.dR (Kd.R_mono (Kd.R_far (p := ⟨gb176, 3, none⟩) (Kd.R_far (p := ⟨gb176, 2, none⟩) (Kd.R_far (p := ⟨gb176, 1, none⟩) (Kd.R_far (p := ⟨gb176, 0, none⟩) (Kd.R_far (p := ⟨gb183, 1, none⟩) (Kd.R_far (p := ⟨gb183, 2, none⟩) (Kd.R_far (p := ⟨gb183, 0, none⟩) (Kd.R_types (Kd.R_types HO193.out BK183.out (by decide)) BK176.out (by decide)) (fun _ hk => hk.1.2) (.int .i64 ((rd_T24 l0 x5_11).f0))) (fun _ hk => hk.1.2) (.slice Ao46 t189.length co46)) (fun _ hk => hk.1.2) (.int .i64 t190)) (fun _ hk => hk.2) (.int .i64 ((rd_T24 l0 x5_11).f0))) (fun _ hk => hk.2) (.int .i64 t190)) (fun _ hk => hk.2) (.slice Ao46 t189.length co46)) (fun _ hk => hk.2) (.slice Ao48 x184003_3.length co48)) (fun _ hk => trivial)), My.dR (Kd.R_mono (Kd.R_far (p := ⟨gb176, 3, none⟩) (Kd.R_far (p := ⟨gb176, 2, none⟩) (Kd.R_far (p := ⟨gb176, 1, none⟩) (Kd.R_far (p := ⟨gb176, 0, none⟩) (Kd.R_far (p := ⟨gb183, 1, none⟩) (Kd.R_far (p := ⟨gb183, 2, none⟩) (Kd.R_far (p := ⟨gb183, 0, none⟩) (Kd.R_types (Kd.R_types HO_184003.out BK183.out (by decide)) BK176.out (by decide)) (fun _ hk => hk.1.2) (.int .i64 ((rd_T24 l0 x5_11).f0))) (fun _ hk => hk.1.2) (.slice Ao46 t189.length co46)) (fun _ hk => hk.1.2) (.int .i64 t190)) (fun _ hk => hk.2) (.int .i64 ((rd_T24 l0 x5_11).f0))) (fun _ hk => hk.2) (.int .i64 t190)) (fun _ hk => hk.2) (.slice Ao46 t189.length co46)) (fun _ hk => hk.2) (.slice Ao48 x184003_3.length co48)) (fun _ hk => trivial)), (My.bl_ HB)⟩
       rw [if_neg c42] at H
       have c42b0 : (t191 == 0) = false := beq_eq_false_iff_ne.mpr c42
       have c42b1 : (t191 != 0) = true := bne_iff_ne.mpr c42
       by_cases c49 : t191 = 10
       ·rw [if_pos c49] at H
        have c49b0 : (t191 == 10) = true := beq_iff_eq.mpr c49
        have c49b1 : (t191 != 10) = false := bne_eq_false_iff_eq.mpr c49
        clear c49
        simp only [Option.some.injEq, Prod.mk.injEq] at H
        obtain ⟨rfl, rfl, rfl, rfl, rfl⟩ := H
        have p188 : 0 ≤ (x5_11 : Int) := My.as_
        have q188 : x5_11 < (l0.length : Int) := My.as_
        obtain ⟨ad188, e188, hx188_0, hx188_1, hx188_2⟩ := My.up3 HB (at_T24 HR0.out x5_11 p188 q188)
        cases e188
        replace p188 := eq_true p188
        replace q188 := eq_true q188
        go_wp2_with (first | ((with_reducible refine gate_callee (f := 48) rfl ?_); refine goesL_ (some 84) rfl rfl Tryz.func48 (by kernel_rfl) rfl #[.string ((rd_T24 l0 x5_11).f1), .int .i64 3] rfl My.gx ?_; (with_reducible refine (ententeref02_Cut.calls k3 ((rd_T24 l0 x5_11).f1) 3 t189 t190 t191 _ A41.out).mono ?_); rintro e w50 ⟨v192, rfl, ho0, hb⟩; refine ⟨_, rfl, ?_⟩; replace HO_184003 := My.am (Kd.R_below (My.dr HO_184003.out) hb); have HO193 := My.am (Kd.R_lower ho0 (below_size (My.bl_ HB))); replace BK176 := My.ab BK176 hb; replace BK183 := My.ab BK183 hb; replace HB := My.st HB hb; (try clear hb); (try clear ho0); have p195 : 0 ≤ (x5_11 : Int) := My.as_; have q195 : x5_11 < (l0.length : Int) := My.as_; obtain ⟨ad195, e195, hx195_0, hx195_1, hx195_2⟩ := at_T24 HR0.out x5_11 p195 q195; obtain rfl : ad188 = ad195 := (by injection e195); replace hx195_0 := My.up HB hx195_0; replace hx195_1 := My.up HB hx195_1; replace hx195_2 := My.up HB hx195_2; replace p195 := eq_true p195; replace q195 := eq_true q195; have hnb51 := NB183_176.out; have hnc51 := NB176_183.out; have hcz52_0 : w50.cell? ⟨gb183, 0, none⟩ = some (.int .i64 (-1)) := My.b_ BK183 0; have hcz52_1 : w50.cell? ⟨gb183, 1, none⟩ = some (.int .i64 0) := My.b_ BK183 1; have hcz52_2 : w50.cell? ⟨gb183, 2, none⟩ = some (.slice none 0 0) := My.b_ BK183 2; have hcz52_3 : w50.cell? ⟨gb183, 3, none⟩ = some (u184003) := My.b_ BK183 3; have hfz52_0 := blk_frozen BK183.out 0; have hfz52_1 := blk_frozen BK183.out 1; have hfz52_2 := blk_frozen BK183.out 2; have hfz52_3 := blk_frozen BK183.out 3; obtain ⟨Ao53, co53, eo53⟩ := Kd.R_slice HO193.out; subst eo53; have hcz54_0 : w50.cell? ⟨gb176, 0, none⟩ = some (.int .i64 x177000_11) := My.b_ BK176 0; have hcz54_1 : w50.cell? ⟨gb176, 1, none⟩ = some (.int .i64 x177001_11) := My.b_ BK176 1; have hcz54_2 : w50.cell? ⟨gb176, 2, none⟩ = some (.slice none 0 0) := My.b_ BK176 2; have hcz54_3 : w50.cell? ⟨gb176, 3, none⟩ = some (.slice none 0 0) := My.b_ BK176 3; have hfz54_0 := blk_frozen BK176.out 0; have hfz54_1 := blk_frozen BK176.out 1; have hfz54_2 := blk_frozen BK176.out 2; have hfz54_3 := blk_frozen BK176.out 3; obtain ⟨Ao55, co55, eo55⟩ := Kd.R_slice HO_184003.out; subst eo55))
        refine bodyPost_ret (results_ct rfl _ _ gb176 68 #[.int .i64 ((rd_T24 l0 x5_11).f0), .int .i64 t190, .slice Ao53 t189.length co53, .slice Ao55 x184003_3.length co55] (0, 0) _ rfl ((My.sv_ BK176)) Tryz.underlying68 rfl (by kernel_rfl)) rfl ?_
        exact ⟨_, _, My.r2, My.dR (Kd.R_mono (Kd.R_far (p := ⟨gb176, 3, none⟩) (Kd.R_far (p := ⟨gb176, 2, none⟩) (Kd.R_far (p := ⟨gb176, 1, none⟩) (Kd.R_far (p := ⟨gb176, 0, none⟩) (Kd.R_far (p := ⟨gb183, 1, none⟩) (Kd.R_far (p := ⟨gb183, 2, none⟩) (Kd.R_far (p := ⟨gb183, 0, none⟩) (Kd.R_types (Kd.R_types HO193.out BK183.out (by decide)) BK176.out (by decide)) (fun _ hk => hk.1.2) (.int .i64 ((rd_T24 l0 x5_11).f0))) (fun _ hk => hk.1.2) (.slice Ao53 t189.length co53)) (fun _ hk => hk.1.2) (.int .i64 t190)) (fun _ hk => hk.2) (.int .i64 ((rd_T24 l0 x5_11).f0))) (fun _ hk => hk.2) (.int .i64 t190)) (fun _ hk => hk.2) (.slice Ao53 t189.length co53)) (fun _ hk => hk.2) (.slice Ao55 x184003_3.length co55)) (fun _ hk => trivial)), My.dR (Kd.R_mono (Kd.R_far (p := ⟨gb176, 3, none⟩) (Kd.R_far (p := ⟨gb176, 2, none⟩) (Kd.R_far (p := ⟨gb176, 1, none⟩) (Kd.R_far (p := ⟨gb176, 0, none⟩) (Kd.R_far (p := ⟨gb183, 1, none⟩) (Kd.R_far (p := ⟨gb183, 2, none⟩) (Kd.R_far (p := ⟨gb183, 0, none⟩) (Kd.R_types (Kd.R_types HO_184003.out BK183.out (by decide)) BK176.out (by decide)) (fun _ hk => hk.1.2) (.int .i64 ((rd_T24 l0 x5_11).f0))) (fun _ hk => hk.1.2) (.slice Ao53 t189.length co53)) (fun _ hk => hk.1.2) (.int .i64 t190)) (fun _ hk => hk.2) (.int .i64 ((rd_T24 l0 x5_11).f0))) (fun _ hk => hk.2) (.int .i64 t190)) (fun _ hk => hk.2) (.slice Ao53 t189.length co53)) (fun _ hk => hk.2) (.slice Ao55 x184003_3.length co55)) (fun _ hk => trivial)), (My.bl_ HB)⟩
       rw [if_neg c49] at H
       have c49b0 : (t191 == 10) = false := beq_eq_false_iff_ne.mpr c49
       have c49b1 : (t191 != 10) = true := bne_iff_ne.mpr c49
       simp only [Option.some.injEq, Prod.mk.injEq] at H
       obtain ⟨rfl, rfl, rfl, rfl, rfl⟩ := H
       have p188 : 0 ≤ (x5_11 : Int) := My.as_
       have q188 : x5_11 < (l0.length : Int) := My.as_
       obtain ⟨ad188, e188, hx188_0, hx188_1, hx188_2⟩ := My.up3 HB (at_T24 HR0.out x5_11 p188 q188)
       cases e188
       replace p188 := eq_true p188
       replace q188 := eq_true q188
       go_wp2_with (first | ((with_reducible refine gate_callee (f := 48) rfl ?_); refine goesL_ (some 84) rfl rfl Tryz.func48 (by kernel_rfl) rfl #[.string ((rd_T24 l0 x5_11).f1), .int .i64 3] rfl My.gx ?_; (with_reducible refine (ententeref02_Cut.calls k3 ((rd_T24 l0 x5_11).f1) 3 t189 t190 t191 _ A41.out).mono ?_); rintro e w56 ⟨v192, rfl, ho0, hb⟩; refine ⟨_, rfl, ?_⟩; replace BK176 := My.ab BK176 hb; replace HB := My.st HB hb; (try clear hb); (try clear ho0); have hnb57 := NB176_183.out; have hnc57 := NB183_176.out; have hcz58_0 : w56.cell? ⟨gb176, 0, none⟩ = some (.int .i64 x177000_11) := My.b_ BK176 0; have hcz58_1 : w56.cell? ⟨gb176, 1, none⟩ = some (.int .i64 x177001_11) := My.b_ BK176 1; have hcz58_2 : w56.cell? ⟨gb176, 2, none⟩ = some (.slice none 0 0) := My.b_ BK176 2; have hcz58_3 : w56.cell? ⟨gb176, 3, none⟩ = some (.slice none 0 0) := My.b_ BK176 3; have hfz58_0 := blk_frozen BK176.out 0; have hfz58_1 := blk_frozen BK176.out 1; have hfz58_2 := blk_frozen BK176.out 2; have hfz58_3 := blk_frozen BK176.out 3))
       refine bodyPost_ret (results_ct rfl _ _ gb176 68 #[.int .i64 0, .int .i64 0, .slice none 0 0, .slice none 0 0] (0, 0) _ rfl ((My.sv_ BK176)) Tryz.underlying68 rfl (by kernel_rfl)) rfl ?_
       exact ⟨_, _, My.r2, My.r3, My.r3, (My.bl_ HB)⟩
end Go.Proofs.YtkcpgaplpmbmoaaGreat.PA
