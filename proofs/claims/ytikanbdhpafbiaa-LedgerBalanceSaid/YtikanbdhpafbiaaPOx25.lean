-- Written by a program of this session (wip/tools/mp.py over the kit's printer); Lean checks it.
import Derived.Test.YtikanbdhpafbiaaPOx0
import Derived.Test.YtikanbdhpafbiaaPOx5
import Derived.Test.YtikanbdhpafbiaaPOx17
import Derived.Test.YtikanbdhpafbiaaPOx21
import Derived.Test.YtikanbdhpafbiaaPOx23
import Derived.Test.YtikanbdhpafbiaaPOx24
namespace Go.Proofs.Ytikanbdhpafbiaa.PO
open Go.RowKit Go.Proofs.YtikanbdhpafbiaaW.PrintWords Go.Proofs.YtikanbdhpafbiaaW.PrintLast Go.Proofs.YtikanbdhpafbiaaW.PrintMore
attribute [local go_sem] max2_int min2_int max_two min_two max_three min_three max_four min_four   -- for this text's walks alone
set_option linter.unusedVariables false
set_option maxHeartbeats 8000000
set_option maxRecDepth 100000
set_option linter.unusedSimpArgs false

/-! ### ententelaw07_LedgerBalance: function 6 -/
mutual
def ententelaw07_LedgerBalance.l0 : Nat → List (S51) → Int → List (S51) → List (S64) → Option (Bool)
 | 0, _, _, _, _ => none
 | k + 1, x4, x5, x628000, x628001 => if x5 < (x4.length : Int) then (if 0 ≤ x5 then ((ledger_Find.f k x628000 x628001 ((rd_T51 x4 x5).f0)).bind fun bt630 => (ententelaw07_LedgerBalance.l1 k x4 x5 bt630.2.2.2.2.2.2.2 0 0 0 x628000 x628001 bt630.1 bt630.2.1 bt630.2.2.1 bt630.2.2.2.1 bt630.2.2.2.2.1 bt630.2.2.2.2.2.1 bt630.2.2.2.2.2.2.1)) else (none)) else ((ententelaw07_awake.f k).bind fun t628 => (some t628))
def ententelaw07_LedgerBalance.l1 : Nat → List (S51) → Int → Bool → Int → Int → Int → List (S51) → List (S64) → ByteArray → Int → Int → Int → Int → Int → Int → Option (Bool)
 | 0, _, _, _, _, _, _, _, _, _, _, _, _, _, _, _ => none
 | k + 1, x4, x5, x7, x8, x9, x10, x628000, x628001, x639000, x639001, x639002, x639003, x639004, x639005, x639006 => if x10 < (x628001.length : Int) then (if 0 ≤ x10 then (if 0 ≤ x5 then (if x5 < (x4.length : Int) then (if ((rd_T64 x628001 x10).f1.f1).toList = ((rd_T51 x4 x5).f0).toList then (if ((rd_T64 x628001 x10).f2) = 2 then (ententelaw07_LedgerBalance.l1 k x4 x5 x7 x8 x9 (wrap64 (x10 + 1)) x628000 x628001 x639000 x639001 x639002 x639003 x639004 x639005 x639006) else ((act_Delta.f k ((rd_T64 x628001 x10).f1.f0) ((rd_T64 x628001 x10).f1.f1) ((rd_T64 x628001 x10).f1.f2)).bind fun bt643 => (ententelaw07_LedgerBalance.l1 k x4 x5 x7 (wrap64 (x8 + bt643.1)) (wrap64 (x9 + bt643.2)) (wrap64 (x10 + 1)) x628000 x628001 x639000 x639001 x639002 x639003 x639004 x639005 x639006))) else (ententelaw07_LedgerBalance.l1 k x4 x5 x7 x8 x9 (wrap64 (x10 + 1)) x628000 x628001 x639000 x639001 x639002 x639003 x639004 x639005 x639006)) else (none)) else (none)) else (none)) else (if 0 ≤ x5 then (if x5 < (x4.length : Int) then ((ledger_Net.f k x628000 x628001 ((rd_T51 x4 x5).f0) (⟨#[]⟩ : ByteArray)).bind fun bt646 => (if x7 = true then (if bt646.2.2 = 0 then (if bt646.1 = x8 then (if bt646.2.1 = x9 then (if x639001 = (wrap64 (((rd_T51 x4 x5).f1.f0) + x8)) then (if x639004 = x9 then (ententelaw07_LedgerBalance.l0 k x4 (wrap64 (x5 + 1)) x628000 x628001) else (some false)) else (some false)) else (some false)) else (some false)) else (some false)) else (some false))) else (none)) else (none))
end
def ententelaw07_LedgerBalance.f (k : Nat) (l0 : List (S29)) : Option (Bool) := (ententelaw07_few.f k l0).bind fun t616 => (if t616 = true then ((ententelaw07_opened.f k l0).bind fun bt618 => (if (bt618.2.2.length : Int) = (bt618.1.length : Int) then (ententelaw07_LedgerBalance.l0 k bt618.2.2 0 bt618.1 bt618.2.1) else (some false))) else ((ententelaw07_awake.f k).bind fun t617 => (some t617)))
theorem ententelaw07_LedgerBalance.mono_l : ∀ k, (∀ y0 y1 y2 y3, LeO (ententelaw07_LedgerBalance.l0 k y0 y1 y2 y3) (ententelaw07_LedgerBalance.l0 (k + 1) y0 y1 y2 y3)) ∧ (∀ y0 y1 y2 y3 y4 y5 y6 y7 y8 y9 y10 y11 y12 y13 y14, LeO (ententelaw07_LedgerBalance.l1 k y0 y1 y2 y3 y4 y5 y6 y7 y8 y9 y10 y11 y12 y13 y14) (ententelaw07_LedgerBalance.l1 (k + 1) y0 y1 y2 y3 y4 y5 y6 y7 y8 y9 y10 y11 y12 y13 y14))
 | 0 => ⟨fun _ _ _ _ r h => by simp [ententelaw07_LedgerBalance.l0] at h, fun _ _ _ _ _ _ _ _ _ _ _ _ _ _ _ r h => by simp [ententelaw07_LedgerBalance.l1] at h⟩
 | k + 1 => by
  obtain ⟨ih0, ih1⟩ := ententelaw07_LedgerBalance.mono_l k
  refine ⟨?_, ?_⟩
  ·intro y0 y1 y2 y3
   unfold ententelaw07_LedgerBalance.l0
   repeat' (with_reducible first | exact ih0 _ _ _ _ | exact ih1 _ _ _ _ _ _ _ _ _ _ _ _ _ _ _ | exact act_Delta.mono _ _ _ _ | exact ententelaw07_awake.mono _ | exact ententelaw07_few.mono _ _ | exact ententelaw07_opened.mono _ _ | exact ledger_Find.mono _ _ _ _ | exact ledger_Net.mono _ _ _ _ _ | exact LeO.refl _ | exact LeO.none _ | apply LeO.ite | refine LeO.bind ?_ (fun _ => ?_))
  intro y0 y1 y2 y3 y4 y5 y6 y7 y8 y9 y10 y11 y12 y13 y14
  unfold ententelaw07_LedgerBalance.l1
  repeat' (with_reducible first | exact ih0 _ _ _ _ | exact ih1 _ _ _ _ _ _ _ _ _ _ _ _ _ _ _ | exact act_Delta.mono _ _ _ _ | exact ententelaw07_awake.mono _ | exact ententelaw07_few.mono _ _ | exact ententelaw07_opened.mono _ _ | exact ledger_Find.mono _ _ _ _ | exact ledger_Net.mono _ _ _ _ _ | exact LeO.refl _ | exact LeO.none _ | apply LeO.ite | refine LeO.bind ?_ (fun _ => ?_))
theorem ententelaw07_LedgerBalance.mono : ∀ a0 k, LeO (ententelaw07_LedgerBalance.f k a0) (ententelaw07_LedgerBalance.f (k + 1) a0) := by
 intro a0 k
 obtain ⟨ih0, ih1⟩ := ententelaw07_LedgerBalance.mono_l k
 unfold ententelaw07_LedgerBalance.f
 repeat' (with_reducible first | exact ih0 _ _ _ _ | exact ih1 _ _ _ _ _ _ _ _ _ _ _ _ _ _ _ | exact act_Delta.mono _ _ _ _ | exact ententelaw07_awake.mono _ | exact ententelaw07_few.mono _ _ | exact ententelaw07_opened.mono _ _ | exact ledger_Find.mono _ _ _ _ | exact ledger_Net.mono _ _ _ _ _ | exact LeO.refl _ | exact LeO.none _ | apply LeO.ite | refine LeO.bind ?_ (fun _ => ?_))
def ententelaw07_LedgerBalance.T9 : Bool × List (List Nat × List Nat) := (true, [([], []), ([], []), ([], []), ([1, 2], [1, 2]), ([3], [3]), ([4], [4]), ([0, 5], [0, 5]), ([6], [6]), ([7], [7]), ([7], [7]), ([], []), ([10, 8, 6, 0, 1, 2, 3, 4, 5, 6, 7, 8, 10], [8, 10]), ([9, 11, 0, 1, 2, 3, 4, 5, 6, 7, 8, 9, 10, 11], [9])])
def ententelaw07_LedgerBalance.B9 : List Nat := [0, 0, 0, 6, 14, 30, 63, 127, 255, 255, 0, 1535, 4095]
theorem ententelaw07_LedgerBalance.tab9 : rtab .any (opsOf Try.f6 9) = ententelaw07_LedgerBalance.T9 := by kernel_rfl
theorem ententelaw07_LedgerBalance.bits9 : waitsOk ententelaw07_LedgerBalance.T9.2 ententelaw07_LedgerBalance.B9 = true := by kernel_rfl
def ententelaw07_LedgerBalance.T14 : Bool × List (List Nat × List Nat) := (true, [([], []), ([0], [0]), ([], []), ([1, 2], [1, 2]), ([3], [3]), ([4], [4]), ([5], [5]), ([], []), ([], []), ([7, 8], [7, 8]), ([9], [9]), ([10], [10]), ([6, 11], [6, 11]), ([12], [12]), ([13], [13]), ([14, 13], [13, 14]), ([13], [13]), ([15, 16, 13], [13, 15, 16]), ([17, 13], [13, 17]), ([18, 13], [13, 18]), ([19, 13], [13, 19]), ([13, 20], [13, 20])])
def ententelaw07_LedgerBalance.B14 : List Nat := [0, 1, 0, 7, 15, 31, 63, 0, 0, 384, 896, 1920, 4095, 8191, 16383, 32767, 16383, 131071, 262143, 524287, 1048575, 2097151]
theorem ententelaw07_LedgerBalance.tab14 : rtab .any (opsOf Try.f6 14) = ententelaw07_LedgerBalance.T14 := by kernel_rfl
theorem ententelaw07_LedgerBalance.bits14 : waitsOk ententelaw07_LedgerBalance.T14.2 ententelaw07_LedgerBalance.B14 = true := by kernel_rfl
def ententelaw07_LedgerBalance.T17 : Bool × List (List Nat × List Nat) := (true, [([], []), ([], []), ([], []), ([1, 2], [1, 2]), ([3], [3]), ([4], [4]), ([0, 5], [0, 5]), ([6], [6]), ([7], [7]), ([7], [7]), ([7], [7]), ([8, 6, 0, 1, 2, 3, 4, 5, 6, 7, 8], [8]), ([9, 11, 0, 1, 2, 3, 4, 5, 6, 7, 8, 9, 11], [9]), ([10, 12, 0, 1, 2, 3, 4, 5, 6, 7, 8, 9, 10, 11, 12], [10])])
def ententelaw07_LedgerBalance.B17 : List Nat := [0, 0, 0, 6, 14, 30, 63, 127, 255, 255, 255, 511, 3071, 8191]
theorem ententelaw07_LedgerBalance.tab17 : rtab .any (opsOf Try.f6 17) = ententelaw07_LedgerBalance.T17 := by kernel_rfl
theorem ententelaw07_LedgerBalance.bits17 : waitsOk ententelaw07_LedgerBalance.T17.2 ententelaw07_LedgerBalance.B17 = true := by kernel_rfl
def ententelaw07_LedgerBalance.T18 : Bool × List (List Nat × List Nat) := (true, [([], []), ([0], [0]), ([1], [1]), ([2], [2]), ([3, 2], [2, 3]), ([2, 4], [2, 4]), ([5, 2], [5]), ([6], [6]), ([6], [6]), ([7, 8, 6], [6, 7, 8]), ([6, 9], [6, 9]), ([10, 6], [10]), ([11], [11]), ([11], [11]), ([12, 13, 11], [11, 12, 13]), ([11, 14], [11, 14]), ([15, 11], [15]), ([16], [16]), ([17, 16], [16, 17]), ([18, 16], [16, 18]), ([16], [16]), ([16], [16]), ([20, 21, 16], [16, 20, 21]), ([22, 16], [16, 22]), ([23, 16], [16, 23]), ([24, 16], [16, 24]), ([16], [16]), ([25, 26, 16], [16, 25, 26]), ([19, 27, 16], [16, 19, 27]), ([16, 28], [16, 28]), ([29, 16], [29]), ([30], [30]), ([31, 30], [30, 31]), ([32, 30], [30, 32]), ([30], [30]), ([33, 34, 30], [30, 33, 34]), ([30, 35], [30, 35])])
def ententelaw07_LedgerBalance.B18 : List Nat := [0, 1, 3, 7, 15, 31, 63, 127, 127, 511, 1023, 2047, 4095, 4095, 16383, 32767, 65535, 131071, 262143, 524287, 131071, 131071, 3276799, 7471103, 15859711, 32636927, 131071, 133300223, 268435455, 536870911, 1073741823, 2147483647, 4294967295, 8589934591, 2147483647, 34359738367, 68719476735]
theorem ententelaw07_LedgerBalance.tab18 : rtab .any (opsOf Try.f6 18) = ententelaw07_LedgerBalance.T18 := by kernel_rfl
theorem ententelaw07_LedgerBalance.bits18 : waitsOk ententelaw07_LedgerBalance.T18.2 ententelaw07_LedgerBalance.B18 = true := by kernel_rfl
theorem ententelaw07_LedgerBalance.calls (k : Nat) (A0 : Option Addr) (c0 : Nat) (l0 : List (S29)) (r : Bool) (w : World) (hr0 : Kd.C k29 w A0 l0.length l0) (hc0 : l0.length ≤ c0) (ht : r = true) (h : ententelaw07_LedgerBalance.f k l0 = some r) :
  Calls Try.prog 6 #[.slice A0 l0.length c0] w fun e w' => e = .returned (.bool r) ∧ Below w.heap.size w w' := by
 have hu25 := Try.underlying25
 have hu51 := Try.underlying51
 have hu27 := Try.underlying27
 have HR0 := My.am hr0
 have HC0 := My.am hc0
 clear hr0 hc0
 have HB := My.am (Below.refl w.heap.size w)
 have HT := My.am ht
 clear ht
 unfold ententelaw07_LedgerBalance.f at h
 have H := h
 clear h
 replace H := Option.bind_eq_some_iff.mp H
 obtain ⟨t616, A20, H⟩ := H
 try dsimp only at H
 have A2 := My.am A20
 clear A20
 by_cases c3 : t616 = true
 ·subst c3
  rw [if_pos rfl] at H
  replace H := Option.bind_eq_some_iff.mp H
  obtain ⟨⟨t618, t621, t624⟩, A40, H⟩ := H
  try dsimp only at H
  have A4 := My.am A40
  clear A40
  by_cases c5 : (t624.length : Int) = (t618.length : Int)
  ·rw [if_pos c5] at H
   have c5b0 : ((t624.length : Int) == (t618.length : Int)) = true := beq_iff_eq.mpr c5
   have c5b1 : ((t624.length : Int) != (t618.length : Int)) = false := bne_eq_false_iff_eq.mpr c5
   have c5b2 : (t624.length == t618.length) = true := by first | simpa using c5 | (simp at c5 ⊢; omega)
   clear c5
   have H' := My.am H
   clear H
   go_enter Try.func6, Try.ntmps6
   go_wp2_with (first | ((with_reducible refine gate_callee (f := 18) rfl ?_); refine goesL_ (some 17) rfl rfl Try.func18 (by kernel_rfl) rfl #[.slice A0 l0.length c0] rfl My.gx ?_; (with_reducible refine (ententelaw07_few.calls k _ _ l0 true _ ?side1 ?side2 A2.out).mono ?_); (case side1 => repeat (first | exact HR0.out | (with_reducible refine Kd.C_alloc ?_ _) | (with_reducible refine Kd.C_drewN ?_ _) | (with_reducible refine Kd.C_drew ?_))); (case side2 => exact HC0.out); rintro e w' ⟨rfl, ⟨nd, rfl⟩⟩; refine ⟨_, rfl, ?_⟩) | ((with_reducible refine gate_callee (f := 28) rfl ?_); refine goesL_ (some 22) rfl rfl Try.func28 (by kernel_rfl) rfl #[.slice A0 l0.length c0] rfl My.gx ?_; (with_reducible refine (ententelaw07_opened.calls k _ _ l0 t618 t621 t624 _ ?side1 ?side2 A4.out).mono ?_); (case side1 => repeat (first | exact HR0.out | (with_reducible refine Kd.C_alloc ?_ _) | (with_reducible refine Kd.C_drewN ?_ _) | (with_reducible refine Kd.C_drew ?_))); (case side2 => exact HC0.out); rintro e w6 ⟨v619, v622, v625, rfl, ho0, ho1, ho2, hb⟩; refine ⟨_, rfl, ?_⟩; have HO620 := My.am (Kd.V_lower (Kd.V_mono (ok' := fun k_ => some k_ ≠ (v625 : Value).ownBlock) ho0 (fun k_ hk_ => hk_.2)) (below_size (My.bl_ HB))); have HO623 := My.am (Kd.V_lower (Kd.V_mono (ok' := fun k_ => some k_ ≠ (v625 : Value).ownBlock) ho1 (fun k_ hk_ => hk_.2)) (below_size (My.bl_ HB))); have HO626 := My.am (Kd.R_lower (Kd.R_mono (ok' := fun k_ => True) ho2 (fun _ hk_ => trivial)) (below_size (My.bl_ HB))); replace HB := My.st HB hb; (try clear hb); (try clear ho0); (try clear ho1); (try clear ho2)) | ((with_reducible refine gate_dst (N := 3) rfl ?_); refine My.bx 3 #[.slice none 0 0, .slice none 0 0] 25 ?_; intro gb627 hg w7 hbox hb; replace HO620 := My.am (Kd.V_below (Kd.V_elderB (My.dV HO620.out) gb627 (Nat.le_of_eq hg.symm)) hb); replace HO623 := My.am (Kd.V_below (Kd.V_elderB (My.dV HO623.out) gb627 (Nat.le_of_eq hg.symm)) hb); replace HO626 := My.am (Kd.R_below (My.dr HO626.out) hb); have BK627 := My.am (hbox); have GE627 := My.nge hg (My.bl_ HB); replace HB := My.st HB hb; clear hb hbox hg; obtain ⟨Ao8, co8, eo8⟩ := Kd.V_slice HO620.out; subst eo8; have hq9 := My.cz2 BK627; obtain ⟨Ao10, co10, eo10⟩ := Kd.V_slice HO623.out; subst eo10; obtain ⟨Ao11, co11, eo11⟩ := Kd.R_slice HO626.out; subst eo11))
   go_loopg [5] k (fun kq v5 w' => ∃ (x5_1 : Int), v5 = .int .i64 x5_1 ∧ Aside0 (ententelaw07_LedgerBalance.l0 kq t624 x5_1 t618 t621 = some r) ∧ Aside0 (kq ≤ k) ∧ Aside0 (Kd.R k51 51 w' w.heap.size (fun _ => True) (.slice Ao11 t624.length co11) t624) ∧ Aside0 (Kd.V k51 51 w' w.heap.size (fun k_ => some k_ ≠ ((.slice Ao11 t624.length co11) : Value).ownBlock ∧ k_ ≠ gb627) (.slice Ao8 t618.length co8) t618) ∧ Aside0 (Kd.V k64 64 w' w.heap.size (fun k_ => some k_ ≠ ((.slice Ao11 t624.length co11) : Value).ownBlock ∧ k_ ≠ gb627) (.slice Ao10 t621.length co10) t621) ∧ Aside0 (w'.heap[gb627]? = some (.cells #[(.slice Ao8 t618.length co8), (.slice Ao10 t621.length co10)] 25 (0, 0))) ∧ Aside0 (Below w.heap.size w w'))
   case atStart => exact ⟨(0), My.r1, H', ⟨Nat.le_refl _⟩, ⟨My.dR (Kd.R_mono (Kd.R_far (p := ⟨gb627, 1, none⟩) (Kd.R_far (p := ⟨gb627, 0, none⟩) (Kd.R_types HO626.out BK627.out (by decide)) (fun _ hk => hk.2) (.slice Ao8 t618.length co8)) (fun _ hk => hk.2) (.slice Ao10 t621.length co10)) (fun _ hk => trivial))⟩, ⟨My.dV (Kd.V_mono (Kd.V_far (p := ⟨gb627, 1, none⟩) (Kd.V_far (p := ⟨gb627, 0, none⟩) (Kd.V_mono HO620.out (fun k_ hk => (⟨hk, hk.2⟩ : _ ∧ k_ ≠ gb627))) (fun _ hk => hk.2) (.slice Ao8 t618.length co8)) (fun _ hk => hk.2) (.slice Ao10 t621.length co10)) (fun _ hk => ⟨hk.1.1, hk.1.2⟩))⟩, ⟨My.dV (Kd.V_mono (Kd.V_far (p := ⟨gb627, 1, none⟩) (Kd.V_far (p := ⟨gb627, 0, none⟩) (Kd.V_mono HO623.out (fun k_ hk => (⟨hk, hk.2⟩ : _ ∧ k_ ≠ gb627))) (fun _ hk => hk.2) (.slice Ao8 t618.length co8)) (fun _ hk => hk.2) (.slice Ao10 t621.length co10)) (fun _ hk => ⟨hk.1.1, hk.1.2⟩))⟩, ⟨(My.sv_ BK627)⟩, ⟨(My.bl_ HB)⟩⟩
   case round =>
    clear H'
    try clear c3
    try clear c5
    try clear c5b0
    try clear c5b1
    try clear c5b2
    try clear hq9
    obtain ⟨x5_1, rfl, HA, HK1, HO_4, HO_628000, HO_628001, BK627, HB⟩ := hrel
    cases gk with
    | zero => exact absurd HA.out (by simp [ententelaw07_LedgerBalance.l0])
    | succ k1 =>
     have H := HA.out
     clear HA
     simp only [ententelaw07_LedgerBalance.l0] at H
     by_cases c12 : x5_1 < (t624.length : Int)
     rotate_left
     ·rw [if_neg c12] at H
      have c12b0 := decide_eq_false c12
      clear c12
      replace H := Option.bind_eq_some_iff.mp H
      obtain ⟨t628, A580, H⟩ := H
      try dsimp only at H
      have A58 := My.am A580
      clear A580
      obtain rfl := Option.some.inj H
      go_wp2_with (first | ((with_reducible refine gate_callee (f := 9) rfl ?_); refine goesL_ (some 140) rfl rfl Try.func9 (by kernel_rfl) rfl #[] rfl My.gx ?_; (with_reducible refine (ententelaw07_awake.calls k1  t628 _ A58.out).mono ?_); rintro e w59 ⟨rfl, hb⟩; refine ⟨_, rfl, ?_⟩; replace HB := My.st HB hb; (try clear hb)))
      go_ret
      exact ⟨My.r2, (My.bl_ HB)⟩
     rw [if_pos c12] at H
     have c12b0 := decide_eq_true c12
     clear c12
     replace H := My.ds H
     obtain ⟨c13b0, H⟩ := H
     replace H := Option.bind_eq_some_iff.mp H
     obtain ⟨⟨t630, t631, t632, t633, t634, t635, t636, t637⟩, A140, H⟩ := H
     try dsimp only at H
     have A14 := My.am A140
     clear A140
     have H' := My.am H
     clear H
     try go_wp2
     replace HO_4 := My.am (Kd.R_drew HO_4.out)
     replace HO_628000 := My.am (Kd.V_drew HO_628000.out)
     replace HO_628001 := My.am (Kd.V_drew HO_628001.out)
     replace BK627 := My.am (blk_drew BK627.out)
     replace HB := My.am (below_drew1 HB.out)
     have p629 : 0 ≤ (x5_1 : Int) := My.as_
     have q629 : x5_1 < (t624.length : Int) := My.as_
     obtain ⟨ad629, e629, hx629_0, hx629_1, hx629_2, hx629_3, hx629_4, hx629_5, hx629_6⟩ := at_T51 (Kd.R_reads' HO_4.out).2.2 x5_1 p629 q629
     cases e629
     replace p629 := eq_true p629
     replace q629 := eq_true q629
     refine start_ (n := 13) (S := fun w' => w'.cell? ⟨gb627, 0, none⟩ = some (.slice Ao8 t618.length co8) ∧ w'.cell? ⟨gb627, 1, none⟩ = some (.slice Ao10 t621.length co10) ∧ w'.cell? (ad629.add ((x5_1).toNat * 7)) = some (.string ((rd_T51 t624 x5_1).f0)) ∧ w'.cell? ⟨(ad629.add ((x5_1).toNat * 7)).block, (ad629.add ((x5_1).toNat * 7)).off + 1, none⟩ = some (.int .i64 ((rd_T51 t624 x5_1).f1.f0)) ∧ w'.cell? ⟨(ad629.add ((x5_1).toNat * 7)).block, (ad629.add ((x5_1).toNat * 7)).off + 2, none⟩ = some (.int .i64 ((rd_T51 t624 x5_1).f1.f1)) ∧ w'.cell? ⟨(ad629.add ((x5_1).toNat * 7)).block, (ad629.add ((x5_1).toNat * 7)).off + 3, none⟩ = some (.int .i64 ((rd_T51 t624 x5_1).f1.f2)) ∧ w'.cell? ⟨(ad629.add ((x5_1).toNat * 7)).block, (ad629.add ((x5_1).toNat * 7)).off + 4, none⟩ = some (.int .i64 ((rd_T51 t624 x5_1).f2.f0)) ∧ w'.cell? ⟨(ad629.add ((x5_1).toNat * 7)).block, (ad629.add ((x5_1).toNat * 7)).off + 5, none⟩ = some (.int .i64 ((rd_T51 t624 x5_1).f2.f1)) ∧ w'.cell? ⟨(ad629.add ((x5_1).toNat * 7)).block, (ad629.add ((x5_1).toNat * 7)).off + 6, none⟩ = some (.int .i64 ((rd_T51 t624 x5_1).f2.f2))) (ds := []) #[false, false, false, false, false, false, false, false, false, false, false, false, false] (by kernel_rfl) rfl rfl ⟨My.b_ BK627 0, My.b_ BK627 1, hx629_0, hx629_1, hx629_2, hx629_3, hx629_4, hx629_5, hx629_6⟩ (fun hHeld => ?_); refine with_tabW ententelaw07_LedgerBalance.tab9 ententelaw07_LedgerBalance.bits9 (fun HT_ HW_ => ?_)
     generalize wr.drew = w15 at HO_4 HO_628000 HO_628001 BK627 HB hx629_0 hx629_1 hx629_2 hx629_3 hx629_4 hx629_5 hx629_6 hHeld ⊢
     refine My.pv_ 1 39 13 2 HT_.out ?_
     refine My.pv_ 2 40 13 6 HT_.out ?_
     refine My.pv_ 3 41 13 14 HT_.out ?_
     refine My.pv_ 4 42 13 30 HT_.out ?_
     refine My.tv_ 0 38 13 31 HT_.out HW_.out hHeld rfl rfl (by rintro w' ⟨s0, s1, s2, s3, s4, s5, s6, s7, s8⟩; go_simp; with_reducible rfl) ?_
     refine My.ta_ 5 43 13 HT_.out HW_.out hHeld rfl rfl (by rintro w' ⟨s0, s1, s2, s3, s4, s5, s6, s7, s8⟩; go_simp; with_reducible rfl) ?_
     refine join_ (σ := Nat) 2 (My.Mb 13 2047) (fun s_ => [(44, .tuple #[.agg #[.string t630, .int .i64 t631, .int .i64 t632, .int .i64 t633, .int .i64 t634, .int .i64 t635, .int .i64 t636], .bool t637]), (6, .pointer (some ⟨s_, 0, none⟩)), (37, .tuple #[.agg #[.string t630, .int .i64 t631, .int .i64 t632, .int .i64 t633, .int .i64 t634, .int .i64 t635, .int .i64 t636], .bool t637]), (45, .agg #[.string t630, .int .i64 t631, .int .i64 t632, .int .i64 t633, .int .i64 t634, .int .i64 t635, .int .i64 t636]), (46, .bool t637)]) (fun s_ w' => (w'.cell? ⟨gb627, 0, none⟩ = some (.slice Ao8 t618.length co8) ∧ w'.cell? ⟨gb627, 1, none⟩ = some (.slice Ao10 t621.length co10) ∧ w'.cell? (ad629.add ((x5_1).toNat * 7)) = some (.string ((rd_T51 t624 x5_1).f0)) ∧ w'.cell? ⟨(ad629.add ((x5_1).toNat * 7)).block, (ad629.add ((x5_1).toNat * 7)).off + 1, none⟩ = some (.int .i64 ((rd_T51 t624 x5_1).f1.f0)) ∧ w'.cell? ⟨(ad629.add ((x5_1).toNat * 7)).block, (ad629.add ((x5_1).toNat * 7)).off + 2, none⟩ = some (.int .i64 ((rd_T51 t624 x5_1).f1.f1)) ∧ w'.cell? ⟨(ad629.add ((x5_1).toNat * 7)).block, (ad629.add ((x5_1).toNat * 7)).off + 3, none⟩ = some (.int .i64 ((rd_T51 t624 x5_1).f1.f2)) ∧ w'.cell? ⟨(ad629.add ((x5_1).toNat * 7)).block, (ad629.add ((x5_1).toNat * 7)).off + 4, none⟩ = some (.int .i64 ((rd_T51 t624 x5_1).f2.f0)) ∧ w'.cell? ⟨(ad629.add ((x5_1).toNat * 7)).block, (ad629.add ((x5_1).toNat * 7)).off + 5, none⟩ = some (.int .i64 ((rd_T51 t624 x5_1).f2.f1)) ∧ w'.cell? ⟨(ad629.add ((x5_1).toNat * 7)).block, (ad629.add ((x5_1).toNat * 7)).off + 6, none⟩ = some (.int .i64 ((rd_T51 t624 x5_1).f2.f2))) ∧ (Kd.R k51 51 w' w.heap.size (fun k_ => k_ ≠ s_) (.slice (some ad629) t624.length co11) t624) ∧ (Kd.V k51 51 w' w.heap.size (fun k_ => some k_ ≠ (.slice (some ad629) t624.length co11 : Value).ownBlock ∧ k_ ≠ gb627 ∧ k_ ≠ s_) (.slice Ao8 t618.length co8) t618) ∧ (Kd.V k64 64 w' w.heap.size (fun k_ => some k_ ≠ (.slice (some ad629) t624.length co11 : Value).ownBlock ∧ k_ ≠ gb627 ∧ k_ ≠ s_) (.slice Ao10 t621.length co10) t621) ∧ (w'.heap[gb627]? = some (.cells #[.slice Ao8 t618.length co8, .slice Ao10 t621.length co10] 25 (0, 0))) ∧ (w'.heap[s_]? = some (.cells #[.string (⟨#[]⟩ : ByteArray), .int .i64 0, .int .i64 0, .int .i64 0, .int .i64 0, .int .i64 0, .int .i64 0] 51 (0, 0))) ∧ (w.heap.size ≤ s_) ∧ (w.heap.size ≤ s_) ∧ (gb627 ≠ s_) ∧ (s_ ≠ gb627) ∧ (Below w.heap.size w w')) ?_ ?_
     rotate_left
     ·intro hCont
      refine two_ (i := 6) (j := 10) (Ni := some 44) (Nj := some 6) (My.Mb 13 127) (My.Mb 13 1087) rfl rfl rfl rfl (two_of HT_.out (by kernel_rfl)) (by decide) (by decide) (fun K hK => ?_) (fun K hK => ?_)
      ·skip
       refine goes_ Try.func21 (by kernel_rfl) rfl #[.agg #[.slice Ao8 t618.length co8, .slice Ao10 t621.length co10], .string ((rd_T51 t624 x5_1).f0)] (by rfl) rfl rfl My.gx ?_
       with_reducible refine (ledger_Find.calls k1 _ _ t618 _ _ t621 ((rd_T51 t624 x5_1).f0) t630 t631 t632 t633 t634 t635 t636 t637 _ ?side1 ?side2 ?side3 ?side4 A14.out).mono ?_
       (case side1 => repeat (first | exact (Kd.V_reads' HO_628000.out).2.2 | (with_reducible refine Kd.C_alloc ?_ _) | (with_reducible refine Kd.C_drewN ?_ _) | (with_reducible refine Kd.C_drew ?_)))
       (case side2 => exact (Kd.V_reads' HO_628000.out).2.1)
       (case side3 => repeat (first | exact (Kd.V_reads' HO_628001.out).2.2 | (with_reducible refine Kd.C_alloc ?_ _) | (with_reducible refine Kd.C_drewN ?_ _) | (with_reducible refine Kd.C_drew ?_)))
       (case side4 => exact (Kd.V_reads' HO_628001.out).2.1)
       rintro e w16 ⟨rfl, hb⟩
       have HS2_ := (hb.cell (World.block_lt_of_cell? _ _ (hHeld.2.2.1))).trans (hHeld.2.2.1)
       have HS3_ := (hb.cell (World.block_lt_of_cell? _ _ (hHeld.2.2.2.1))).trans (hHeld.2.2.2.1)
       have HS4_ := (hb.cell (World.block_lt_of_cell? _ _ (hHeld.2.2.2.2.1))).trans (hHeld.2.2.2.2.1)
       have HS5_ := (hb.cell (World.block_lt_of_cell? _ _ (hHeld.2.2.2.2.2.1))).trans (hHeld.2.2.2.2.2.1)
       have HS6_ := (hb.cell (World.block_lt_of_cell? _ _ (hHeld.2.2.2.2.2.2.1))).trans (hHeld.2.2.2.2.2.2.1)
       have HS7_ := (hb.cell (World.block_lt_of_cell? _ _ (hHeld.2.2.2.2.2.2.2.1))).trans (hHeld.2.2.2.2.2.2.2.1)
       have HS8_ := (hb.cell (World.block_lt_of_cell? _ _ (hHeld.2.2.2.2.2.2.2.2))).trans (hHeld.2.2.2.2.2.2.2.2)
       refine ⟨_, rfl, ?_⟩
       replace HO_4 := My.am (Kd.R_below (My.dr HO_4.out) hb)
       replace HO_628000 := My.am (Kd.V_below (My.dV HO_628000.out) hb)
       replace HO_628001 := My.am (Kd.V_below (My.dV HO_628001.out) hb)
       replace BK627 := My.ab BK627 hb
       replace HB := My.st HB hb
       (try clear hb)
       (try clear hb2)
       (try clear hk)
       (try clear hi)
       refine hK.out _ _ ⟨My.b_ BK627 0, My.b_ BK627 1, HS2_, HS3_, HS4_, HS5_, HS6_, HS7_, HS8_⟩ (fun hHeld => ?_)
       clear hK K
       refine My.nm 44 ?_
       refine My.pu_ 7 37 13 HT_.out ?_
       refine My.pu_ 8 45 13 HT_.out ?_
       refine My.pu_ 9 46 13 HT_.out ?_
       refine one_ (i := 10) (N := some 6) (My.Mb 13 2047) rfl rfl (one_of HT_.out (by kernel_rfl)) (by decide) (fun K hK => ?_)
       refine box_step ?hg (N := 6) ?hd (cs := #[.string (⟨#[]⟩ : ByteArray), .int .i64 0, .int .i64 0, .int .i64 0, .int .i64 0, .int .i64 0, .int .i64 0]) (t := 51) ?hr ?_; (case hd => rfl); (case hg => rfl); (case hr => first | (go_simp; done) | (go_simp; rfl))
       intro gb638 hg w17 hbox hb
       have HS2_ := (hb.cell (World.block_lt_of_cell? _ _ (hHeld.2.2.1))).trans (hHeld.2.2.1)
       have HS3_ := (hb.cell (World.block_lt_of_cell? _ _ (hHeld.2.2.2.1))).trans (hHeld.2.2.2.1)
       have HS4_ := (hb.cell (World.block_lt_of_cell? _ _ (hHeld.2.2.2.2.1))).trans (hHeld.2.2.2.2.1)
       have HS5_ := (hb.cell (World.block_lt_of_cell? _ _ (hHeld.2.2.2.2.2.1))).trans (hHeld.2.2.2.2.2.1)
       have HS6_ := (hb.cell (World.block_lt_of_cell? _ _ (hHeld.2.2.2.2.2.2.1))).trans (hHeld.2.2.2.2.2.2.1)
       have HS7_ := (hb.cell (World.block_lt_of_cell? _ _ (hHeld.2.2.2.2.2.2.2.1))).trans (hHeld.2.2.2.2.2.2.2.1)
       have HS8_ := (hb.cell (World.block_lt_of_cell? _ _ (hHeld.2.2.2.2.2.2.2.2))).trans (hHeld.2.2.2.2.2.2.2.2)
       replace HO_4 := My.am (Kd.R_below (Kd.R_elderB (My.dr HO_4.out) gb638 (Nat.le_of_eq hg.symm)) hb)
       replace HO_628000 := My.am (Kd.V_below (Kd.V_elderB (My.dV HO_628000.out) gb638 (Nat.le_of_eq hg.symm)) hb)
       replace HO_628001 := My.am (Kd.V_below (Kd.V_elderB (My.dV HO_628001.out) gb638 (Nat.le_of_eq hg.symm)) hb)
       have BK638 := My.am (hbox)
       have GW638 := My.nge hg (My.bl_ HB)
       have GE638 := My.nge hg (My.bl_ HB)
       replace HB := My.st HB hb
       obtain ⟨NB627_638, NB638_627, BK627⟩ := My.nb hg hb BK627
       clear hb hbox hg
       refine hK.out _ _ ⟨My.b_ BK627 0, My.b_ BK627 1, HS2_, HS3_, HS4_, HS5_, HS6_, HS7_, HS8_⟩ (fun hHeld => ?_)
       clear hK K
       refine My.nm 6 ?_
       exact norm_ (by simp only [putAll, Act.put, List.setIfInBounds_toArray, List.set_cons_zero, List.set_cons_succ]) (hCont (gb638) _ ⟨hHeld, (My.dR (Kd.R_mono HO_4.out (fun _ hk => hk.2))), (My.dV (Kd.V_mono HO_628000.out (fun _ hk => ⟨hk.1.1, ⟨hk.1.2, hk.2⟩⟩))), (My.dV (Kd.V_mono HO_628001.out (fun _ hk => ⟨hk.1.1, ⟨hk.1.2, hk.2⟩⟩))), (My.at_ BK627), (My.at_ BK638), GW638.out, GE638.out, NB627_638.out, NB638_627.out, (My.bl_ HB)⟩)
      skip
      refine box_step ?hg (N := 6) ?hd (cs := #[.string (⟨#[]⟩ : ByteArray), .int .i64 0, .int .i64 0, .int .i64 0, .int .i64 0, .int .i64 0, .int .i64 0]) (t := 51) ?hr ?_; (case hd => rfl); (case hg => rfl); (case hr => first | (go_simp; done) | (go_simp; rfl))
      intro gb638 hg w16 hbox hb
      have HS2_ := (hb.cell (World.block_lt_of_cell? _ _ (hHeld.2.2.1))).trans (hHeld.2.2.1)
      have HS3_ := (hb.cell (World.block_lt_of_cell? _ _ (hHeld.2.2.2.1))).trans (hHeld.2.2.2.1)
      have HS4_ := (hb.cell (World.block_lt_of_cell? _ _ (hHeld.2.2.2.2.1))).trans (hHeld.2.2.2.2.1)
      have HS5_ := (hb.cell (World.block_lt_of_cell? _ _ (hHeld.2.2.2.2.2.1))).trans (hHeld.2.2.2.2.2.1)
      have HS6_ := (hb.cell (World.block_lt_of_cell? _ _ (hHeld.2.2.2.2.2.2.1))).trans (hHeld.2.2.2.2.2.2.1)
      have HS7_ := (hb.cell (World.block_lt_of_cell? _ _ (hHeld.2.2.2.2.2.2.2.1))).trans (hHeld.2.2.2.2.2.2.2.1)
      have HS8_ := (hb.cell (World.block_lt_of_cell? _ _ (hHeld.2.2.2.2.2.2.2.2))).trans (hHeld.2.2.2.2.2.2.2.2)
      replace HO_4 := My.am (Kd.R_below (Kd.R_elderB (My.dr HO_4.out) gb638 (Nat.le_of_eq hg.symm)) hb)
      replace HO_628000 := My.am (Kd.V_below (Kd.V_elderB (My.dV HO_628000.out) gb638 (Nat.le_of_eq hg.symm)) hb)
      replace HO_628001 := My.am (Kd.V_below (Kd.V_elderB (My.dV HO_628001.out) gb638 (Nat.le_of_eq hg.symm)) hb)
      have BK638 := My.am (hbox)
      have GW638 := My.nge hg (My.bl_ HB)
      have GE638 := My.nge hg (My.bl_ HB)
      replace HB := My.st HB hb
      obtain ⟨NB627_638, NB638_627, BK627⟩ := My.nb hg hb BK627
      clear hb hbox hg
      refine hK.out _ _ ⟨My.b_ BK627 0, My.b_ BK627 1, HS2_, HS3_, HS4_, HS5_, HS6_, HS7_, HS8_⟩ (fun hHeld => ?_)
      clear hK K
      refine My.nm 6 ?_
      refine one_ (i := 6) (N := some 44) (My.Mb 13 1151) rfl rfl (one_of HT_.out (by kernel_rfl)) (by decide) (fun K hK => ?_)
      refine goes_ Try.func21 (by kernel_rfl) rfl #[.agg #[.slice Ao8 t618.length co8, .slice Ao10 t621.length co10], .string ((rd_T51 t624 x5_1).f0)] (by rfl) rfl rfl My.gx ?_
      with_reducible refine (ledger_Find.calls k1 _ _ t618 _ _ t621 ((rd_T51 t624 x5_1).f0) t630 t631 t632 t633 t634 t635 t636 t637 _ ?side1 ?side2 ?side3 ?side4 A14.out).mono ?_
      (case side1 => repeat (first | exact (Kd.V_reads' HO_628000.out).2.2 | (with_reducible refine Kd.C_alloc ?_ _) | (with_reducible refine Kd.C_drewN ?_ _) | (with_reducible refine Kd.C_drew ?_)))
      (case side2 => exact (Kd.V_reads' HO_628000.out).2.1)
      (case side3 => repeat (first | exact (Kd.V_reads' HO_628001.out).2.2 | (with_reducible refine Kd.C_alloc ?_ _) | (with_reducible refine Kd.C_drewN ?_ _) | (with_reducible refine Kd.C_drew ?_)))
      (case side4 => exact (Kd.V_reads' HO_628001.out).2.1)
      rintro e w17 ⟨rfl, hb⟩
      have HS2_ := (hb.cell (World.block_lt_of_cell? _ _ (hHeld.2.2.1))).trans (hHeld.2.2.1)
      have HS3_ := (hb.cell (World.block_lt_of_cell? _ _ (hHeld.2.2.2.1))).trans (hHeld.2.2.2.1)
      have HS4_ := (hb.cell (World.block_lt_of_cell? _ _ (hHeld.2.2.2.2.1))).trans (hHeld.2.2.2.2.1)
      have HS5_ := (hb.cell (World.block_lt_of_cell? _ _ (hHeld.2.2.2.2.2.1))).trans (hHeld.2.2.2.2.2.1)
      have HS6_ := (hb.cell (World.block_lt_of_cell? _ _ (hHeld.2.2.2.2.2.2.1))).trans (hHeld.2.2.2.2.2.2.1)
      have HS7_ := (hb.cell (World.block_lt_of_cell? _ _ (hHeld.2.2.2.2.2.2.2.1))).trans (hHeld.2.2.2.2.2.2.2.1)
      have HS8_ := (hb.cell (World.block_lt_of_cell? _ _ (hHeld.2.2.2.2.2.2.2.2))).trans (hHeld.2.2.2.2.2.2.2.2)
      refine ⟨_, rfl, ?_⟩
      replace HO_4 := My.am (Kd.R_below (My.dr HO_4.out) hb)
      replace HO_628000 := My.am (Kd.V_below (My.dV HO_628000.out) hb)
      replace HO_628001 := My.am (Kd.V_below (My.dV HO_628001.out) hb)
      replace BK627 := My.ab BK627 hb
      replace BK638 := My.ab BK638 hb
      replace HB := My.st HB hb
      (try clear hb)
      (try clear hb2)
      (try clear hk)
      (try clear hi)
      refine hK.out _ _ ⟨My.b_ BK627 0, My.b_ BK627 1, HS2_, HS3_, HS4_, HS5_, HS6_, HS7_, HS8_⟩ (fun hHeld => ?_)
      clear hK K
      refine My.nm 44 ?_
      refine My.pv_ 7 37 13 1279 HT_.out ?_
      refine My.pv_ 8 45 13 1535 HT_.out ?_
      refine My.pv_ 9 46 13 2047 HT_.out ?_
      exact norm_ (by simp only [putAll, Act.put, List.setIfInBounds_toArray, List.set_cons_zero, List.set_cons_succ]) (hCont (gb638) _ ⟨hHeld, (My.dR (Kd.R_mono HO_4.out (fun _ hk => hk.2))), (My.dV (Kd.V_mono HO_628000.out (fun _ hk => ⟨hk.1.1, ⟨hk.1.2, hk.2⟩⟩))), (My.dV (Kd.V_mono HO_628001.out (fun _ hk => ⟨hk.1.1, ⟨hk.1.2, hk.2⟩⟩))), (My.at_ BK627), (My.at_ BK638), GW638.out, GE638.out, NB627_638.out, NB638_627.out, (My.bl_ HB)⟩)
     rintro gb638 w18 ⟨hS_, h0_, h1_, h2_, h3_, h4_, h5_, h6_, h7_, h8_, h9_⟩
     have n0_ : Aside0 (Kd.R k51 51 w18 w.heap.size (fun k_ => k_ ≠ gb638) (.slice (some ad629) t624.length co11) t624) := ⟨h0_⟩
     have n1_ : Aside0 (Kd.V k51 51 w18 w.heap.size (fun k_ => some k_ ≠ (.slice (some ad629) t624.length co11 : Value).ownBlock ∧ k_ ≠ gb627 ∧ k_ ≠ gb638) (.slice Ao8 t618.length co8) t618) := ⟨h1_⟩
     have n2_ : Aside0 (Kd.V k64 64 w18 w.heap.size (fun k_ => some k_ ≠ (.slice (some ad629) t624.length co11 : Value).ownBlock ∧ k_ ≠ gb627 ∧ k_ ≠ gb638) (.slice Ao10 t621.length co10) t621) := ⟨h2_⟩
     have n3_ : Aside0 (w18.heap[gb627]? = some (.cells #[.slice Ao8 t618.length co8, .slice Ao10 t621.length co10] 25 (0, 0))) := ⟨h3_⟩
     have n4_ : Aside0 (w18.heap[gb638]? = some (.cells #[.string (⟨#[]⟩ : ByteArray), .int .i64 0, .int .i64 0, .int .i64 0, .int .i64 0, .int .i64 0, .int .i64 0] 51 (0, 0))) := ⟨h4_⟩
     have n5_ : Aside0 (w.heap.size ≤ gb638) := ⟨h5_⟩
     have n6_ : Aside0 (w.heap.size ≤ gb638) := ⟨h6_⟩
     have n7_ : Aside0 (gb627 ≠ gb638) := ⟨h7_⟩
     have n8_ : Aside0 (gb638 ≠ gb627) := ⟨h8_⟩
     have n9_ : Aside0 (Below w.heap.size w w18) := ⟨h9_⟩
     clear HO_4
     clear HO_628000
     clear HO_628001
     clear BK627
     clear HB
     clear h0_ h1_ h2_ h3_ h4_ h5_ h6_ h7_ h8_ h9_
     have HO_4 := n0_
     have HO_628000 := n1_
     have HO_628001 := n2_
     have BK627 := n3_
     have BK638 := n4_
     have GE638 := n6_
     have NB627_638 := n7_
     have NB638_627 := n8_
     have HB := n9_
     clear n0_ n1_ n2_ n3_ n4_ n5_ n6_ n7_ n8_ n9_
     have hHeld : w18.cell? ⟨gb627, 0, none⟩ = some (.slice Ao8 t618.length co8) ∧ w18.cell? ⟨gb627, 1, none⟩ = some (.slice Ao10 t621.length co10) ∧ w18.cell? (ad629.add ((x5_1).toNat * 7)) = some (.string ((rd_T51 t624 x5_1).f0)) ∧ w18.cell? ⟨(ad629.add ((x5_1).toNat * 7)).block, (ad629.add ((x5_1).toNat * 7)).off + 1, none⟩ = some (.int .i64 ((rd_T51 t624 x5_1).f1.f0)) ∧ w18.cell? ⟨(ad629.add ((x5_1).toNat * 7)).block, (ad629.add ((x5_1).toNat * 7)).off + 2, none⟩ = some (.int .i64 ((rd_T51 t624 x5_1).f1.f1)) ∧ w18.cell? ⟨(ad629.add ((x5_1).toNat * 7)).block, (ad629.add ((x5_1).toNat * 7)).off + 3, none⟩ = some (.int .i64 ((rd_T51 t624 x5_1).f1.f2)) ∧ w18.cell? ⟨(ad629.add ((x5_1).toNat * 7)).block, (ad629.add ((x5_1).toNat * 7)).off + 4, none⟩ = some (.int .i64 ((rd_T51 t624 x5_1).f2.f0)) ∧ w18.cell? ⟨(ad629.add ((x5_1).toNat * 7)).block, (ad629.add ((x5_1).toNat * 7)).off + 5, none⟩ = some (.int .i64 ((rd_T51 t624 x5_1).f2.f1)) ∧ w18.cell? ⟨(ad629.add ((x5_1).toNat * 7)).block, (ad629.add ((x5_1).toNat * 7)).off + 6, none⟩ = some (.int .i64 ((rd_T51 t624 x5_1).f2.f2)) := hS_
     refine norm_ (a' := ?_) ?_ ?_
     rotate_left
     ·simp only [putAll, Act.put, List.setIfInBounds_toArray, List.set_cons_zero, List.set_cons_succ]
      rfl
     refine one_ (i := 11) (N := none) (My.Mb 13 4095) rfl rfl (one_of HT_.out (by kernel_rfl)) (by decide) (fun K hK => ?_)
     have hs19 : w18.cell? ⟨gb638, 0, none⟩ = some (.string (⟨#[]⟩ : ByteArray)) := My.b_ BK638 0
     have hfs19 := blk_frozen BK638.out 0
     have hns19_0 := NB627_638.out
     have hms19_0 := NB638_627.out
     have hs20 : w18.cell? ⟨gb638, 1, none⟩ = some (.int .i64 0) := My.b_ BK638 1
     have hfs20 := blk_frozen BK638.out 1
     have hns20_0 := NB627_638.out
     have hms20_0 := NB638_627.out
     have hs21 : w18.cell? ⟨gb638, 2, none⟩ = some (.int .i64 0) := My.b_ BK638 2
     have hfs21 := blk_frozen BK638.out 2
     have hns21_0 := NB627_638.out
     have hms21_0 := NB638_627.out
     have hs22 : w18.cell? ⟨gb638, 3, none⟩ = some (.int .i64 0) := My.b_ BK638 3
     have hfs22 := blk_frozen BK638.out 3
     have hns22_0 := NB627_638.out
     have hms22_0 := NB638_627.out
     have hs23 : w18.cell? ⟨gb638, 4, none⟩ = some (.int .i64 0) := My.b_ BK638 4
     have hfs23 := blk_frozen BK638.out 4
     have hns23_0 := NB627_638.out
     have hms23_0 := NB638_627.out
     have hs24 : w18.cell? ⟨gb638, 5, none⟩ = some (.int .i64 0) := My.b_ BK638 5
     have hfs24 := blk_frozen BK638.out 5
     have hns24_0 := NB627_638.out
     have hms24_0 := NB638_627.out
     have hs25 : w18.cell? ⟨gb638, 6, none⟩ = some (.int .i64 0) := My.b_ BK638 6
     have hfs25 := blk_frozen BK638.out 6
     have hns25_0 := NB627_638.out
     have hms25_0 := NB638_627.out
     refine skip_ (w1 := ?_) (by rfl) rfl ?_ ?_
     rotate_left
     ·go_simp
      rfl
     refine hK.out _ _ ⟨(My.cf7 NB627_638.out (hHeld.1)), (My.cf7 NB627_638.out (hHeld.2.1)), (My.cf7 (My.nx (Kd.own_blk (Kd.R_away HO_4.out (fun _ hk => hk)))) (hHeld.2.2.1)), (My.cf7 (My.nx (Kd.own_blk (Kd.R_away HO_4.out (fun _ hk => hk)))) (hHeld.2.2.2.1)), (My.cf7 (My.nx (Kd.own_blk (Kd.R_away HO_4.out (fun _ hk => hk)))) (hHeld.2.2.2.2.1)), (My.cf7 (My.nx (Kd.own_blk (Kd.R_away HO_4.out (fun _ hk => hk)))) (hHeld.2.2.2.2.2.1)), (My.cf7 (My.nx (Kd.own_blk (Kd.R_away HO_4.out (fun _ hk => hk)))) (hHeld.2.2.2.2.2.2.1)), (My.cf7 (My.nx (Kd.own_blk (Kd.R_away HO_4.out (fun _ hk => hk)))) (hHeld.2.2.2.2.2.2.2.1)), (My.cf7 (My.nx (Kd.own_blk (Kd.R_away HO_4.out (fun _ hk => hk)))) (hHeld.2.2.2.2.2.2.2.2))⟩ (fun hHeld => ?_)
     clear hK K
     refine My.pu_ 12 7 13 HT_.out ?_
     refine done_ (done_of HT_.out (by kernel_rfl)) ?_
     try go_wp2
     go_loopg [8, 9, 10] k1 (fun kq v8 v9 v10 w' => ∃ (x8_2 : Int) (x9_2 : Int) (x10_2 : Int), v8 = .int .i64 x8_2 ∧ v9 = .int .i64 x9_2 ∧ v10 = .int .i64 x10_2 ∧ Aside0 (ententelaw07_LedgerBalance.l1 kq t624 x5_1 t637 x8_2 x9_2 x10_2 t618 t621 t630 t631 t632 t633 t634 t635 t636 = some r) ∧ Aside0 (kq ≤ k1) ∧ Aside0 (Kd.R k51 51 w' w.heap.size (fun k_ => k_ ≠ gb638) (.slice (some ad629) t624.length co11) t624) ∧ Aside0 (Kd.V k51 51 w' w.heap.size (fun k_ => some k_ ≠ ((.slice (some ad629) t624.length co11) : Value).ownBlock ∧ k_ ≠ gb627 ∧ k_ ≠ gb638) (.slice Ao8 t618.length co8) t618) ∧ Aside0 (Kd.V k64 64 w' w.heap.size (fun k_ => some k_ ≠ ((.slice (some ad629) t624.length co11) : Value).ownBlock ∧ k_ ≠ gb627 ∧ k_ ≠ gb638) (.slice Ao10 t621.length co10) t621) ∧ Aside0 (w'.heap[gb627]? = some (.cells #[(.slice Ao8 t618.length co8), (.slice Ao10 t621.length co10)] 25 (0, 0))) ∧ Aside0 (w'.heap[gb638]? = some (.cells #[.string t630, .int .i64 t631, .int .i64 t632, .int .i64 t633, .int .i64 t634, .int .i64 t635, .int .i64 t636] 51 (0, 0))) ∧ Aside0 (Below w.heap.size w w'))
     case atStart => exact ⟨(0), (0), (0), My.r1, My.r1, My.r1, H', ⟨Nat.le_refl _⟩, ⟨My.dR (Kd.R_mono (Kd.R_far (p := ⟨gb638, 6, none⟩) (Kd.R_far (p := ⟨gb638, 5, none⟩) (Kd.R_far (p := ⟨gb638, 4, none⟩) (Kd.R_far (p := ⟨gb638, 3, none⟩) (Kd.R_far (p := ⟨gb638, 2, none⟩) (Kd.R_far (p := ⟨gb638, 1, none⟩) (Kd.R_far (p := ⟨gb638, 0, none⟩) (Kd.R_mono HO_4.out (fun k_ hk => (⟨hk, hk⟩ : _ ∧ k_ ≠ gb638))) (fun _ hk => hk.2) (.string t630)) (fun _ hk => hk.2) (.int .i64 t631)) (fun _ hk => hk.2) (.int .i64 t632)) (fun _ hk => hk.2) (.int .i64 t633)) (fun _ hk => hk.2) (.int .i64 t634)) (fun _ hk => hk.2) (.int .i64 t635)) (fun _ hk => hk.2) (.int .i64 t636)) (fun _ hk => hk.1))⟩, ⟨My.dV (Kd.V_mono (Kd.V_far (p := ⟨gb638, 6, none⟩) (Kd.V_far (p := ⟨gb638, 5, none⟩) (Kd.V_far (p := ⟨gb638, 4, none⟩) (Kd.V_far (p := ⟨gb638, 3, none⟩) (Kd.V_far (p := ⟨gb638, 2, none⟩) (Kd.V_far (p := ⟨gb638, 1, none⟩) (Kd.V_far (p := ⟨gb638, 0, none⟩) (Kd.V_mono HO_628000.out (fun k_ hk => (⟨hk, hk.2.2⟩ : _ ∧ k_ ≠ gb638))) (fun _ hk => hk.2) (.string t630)) (fun _ hk => hk.2) (.int .i64 t631)) (fun _ hk => hk.2) (.int .i64 t632)) (fun _ hk => hk.2) (.int .i64 t633)) (fun _ hk => hk.2) (.int .i64 t634)) (fun _ hk => hk.2) (.int .i64 t635)) (fun _ hk => hk.2) (.int .i64 t636)) (fun _ hk => ⟨hk.1.1, ⟨hk.1.2.1, hk.1.2.2⟩⟩))⟩, ⟨My.dV (Kd.V_mono (Kd.V_far (p := ⟨gb638, 6, none⟩) (Kd.V_far (p := ⟨gb638, 5, none⟩) (Kd.V_far (p := ⟨gb638, 4, none⟩) (Kd.V_far (p := ⟨gb638, 3, none⟩) (Kd.V_far (p := ⟨gb638, 2, none⟩) (Kd.V_far (p := ⟨gb638, 1, none⟩) (Kd.V_far (p := ⟨gb638, 0, none⟩) (Kd.V_mono HO_628001.out (fun k_ hk => (⟨hk, hk.2.2⟩ : _ ∧ k_ ≠ gb638))) (fun _ hk => hk.2) (.string t630)) (fun _ hk => hk.2) (.int .i64 t631)) (fun _ hk => hk.2) (.int .i64 t632)) (fun _ hk => hk.2) (.int .i64 t633)) (fun _ hk => hk.2) (.int .i64 t634)) (fun _ hk => hk.2) (.int .i64 t635)) (fun _ hk => hk.2) (.int .i64 t636)) (fun _ hk => ⟨hk.1.1, ⟨hk.1.2.1, hk.1.2.2⟩⟩))⟩, ⟨(My.sv_ BK627)⟩, ⟨(My.sv_ BK638)⟩, ⟨(My.bl_ HB)⟩⟩
     case round =>
      clear H'
      try clear c3
      try clear c5
      try clear c5b0
      try clear c5b1
      try clear c5b2
      try clear c12
      try clear c12b0
      try clear c13b0
      try clear hq9
      try clear hx629_0
      try clear hx629_1
      try clear hx629_2
      try clear hx629_3
      try clear hx629_4
      try clear hx629_5
      try clear hx629_6
      try clear p629
      try clear q629
      obtain ⟨x8_2, x9_2, x10_2, rfl, rfl, rfl, HA, HK2, HO_4, HO_628000, HO_628001, BK627, BK638, HB⟩ := hrel
      cases gk with
      | zero => exact absurd HA.out (by simp [ententelaw07_LedgerBalance.l1])
      | succ k2 =>
       have H := HA.out
       clear HA
       simp only [ententelaw07_LedgerBalance.l1] at H
       by_cases c26 : x10_2 < (t621.length : Int)
       rotate_left
       ·rw [if_neg c26] at H
        have c26b0 := decide_eq_false c26
        clear c26
        replace H := My.ds H
        obtain ⟨c44b0, H⟩ := H
        replace H := My.ds H
        obtain ⟨c45b0, H⟩ := H
        replace H := Option.bind_eq_some_iff.mp H
        obtain ⟨⟨t646, t647, t648⟩, A460, H⟩ := H
        try dsimp only at H
        have A46 := My.am A460
        clear A460
        by_cases c47 : t637 = true
        rotate_left
        ·replace c47 := Bool.eq_false_iff.mpr c47
         subst c47
         rw [if_neg (show ¬ (false = true) by decide)] at H
         exact absurd ((Option.some.inj H).trans HT.out) Bool.false_ne_true
        subst c47
        rw [if_pos rfl] at H
        by_cases c48 : t648 = 0
        rotate_left
        ·rw [if_neg c48] at H
         have c48b0 : (t648 == 0) = false := beq_eq_false_iff_ne.mpr c48
         have c48b1 : (t648 != 0) = true := bne_iff_ne.mpr c48
         exact absurd ((Option.some.inj H).trans HT.out) Bool.false_ne_true
        rw [if_pos c48] at H
        have c48b0 : (t648 == 0) = true := beq_iff_eq.mpr c48
        have c48b1 : (t648 != 0) = false := bne_eq_false_iff_eq.mpr c48
        clear c48
        by_cases c49 : t646 = x8_2
        rotate_left
        ·rw [if_neg c49] at H
         have c49b0 : (t646 == x8_2) = false := beq_eq_false_iff_ne.mpr c49
         have c49b1 : (t646 != x8_2) = true := bne_iff_ne.mpr c49
         exact absurd ((Option.some.inj H).trans HT.out) Bool.false_ne_true
        rw [if_pos c49] at H
        have c49b0 : (t646 == x8_2) = true := beq_iff_eq.mpr c49
        have c49b1 : (t646 != x8_2) = false := bne_eq_false_iff_eq.mpr c49
        clear c49
        by_cases c50 : t647 = x9_2
        rotate_left
        ·rw [if_neg c50] at H
         have c50b0 : (t647 == x9_2) = false := beq_eq_false_iff_ne.mpr c50
         have c50b1 : (t647 != x9_2) = true := bne_iff_ne.mpr c50
         exact absurd ((Option.some.inj H).trans HT.out) Bool.false_ne_true
        rw [if_pos c50] at H
        have c50b0 : (t647 == x9_2) = true := beq_iff_eq.mpr c50
        have c50b1 : (t647 != x9_2) = false := bne_eq_false_iff_eq.mpr c50
        clear c50
        by_cases c51 : t631 = (wrap64 (((rd_T51 t624 x5_1).f1.f0) + x8_2))
        rotate_left
        ·rw [if_neg c51] at H
         have c51b0 : (t631 == (wrap64 (((rd_T51 t624 x5_1).f1.f0) + x8_2))) = false := beq_eq_false_iff_ne.mpr c51
         have c51b1 : (t631 != (wrap64 (((rd_T51 t624 x5_1).f1.f0) + x8_2))) = true := bne_iff_ne.mpr c51
         exact absurd ((Option.some.inj H).trans HT.out) Bool.false_ne_true
        rw [if_pos c51] at H
        have c51b0 : (t631 == (wrap64 (((rd_T51 t624 x5_1).f1.f0) + x8_2))) = true := beq_iff_eq.mpr c51
        have c51b1 : (t631 != (wrap64 (((rd_T51 t624 x5_1).f1.f0) + x8_2))) = false := bne_eq_false_iff_eq.mpr c51
        clear c51
        by_cases c52 : t634 = x9_2
        rotate_left
        ·rw [if_neg c52] at H
         have c52b0 : (t634 == x9_2) = false := beq_eq_false_iff_ne.mpr c52
         have c52b1 : (t634 != x9_2) = true := bne_iff_ne.mpr c52
         exact absurd ((Option.some.inj H).trans HT.out) Bool.false_ne_true
        rw [if_pos c52] at H
        have c52b0 : (t634 == x9_2) = true := beq_iff_eq.mpr c52
        have c52b1 : (t634 != x9_2) = false := bne_eq_false_iff_eq.mpr c52
        clear c52
        have H' := My.am H
        clear H
        have hnb53 := NB627_638.out
        have hnc53 := NB638_627.out
        have hq54 := My.cz2 BK627
        try go_wp2
        replace HO_4 := My.am (Kd.R_drew HO_4.out)
        replace HO_628000 := My.am (Kd.V_drew HO_628000.out)
        replace HO_628001 := My.am (Kd.V_drew HO_628001.out)
        replace BK627 := My.am (blk_drew BK627.out)
        replace BK638 := My.am (blk_drew BK638.out)
        replace HB := My.am (below_drew1 HB.out)
        have p645 : 0 ≤ (x5_1 : Int) := My.as_
        have q645 : x5_1 < (t624.length : Int) := My.as_
        obtain ⟨ad645, e645, hx645_0, hx645_1, hx645_2, hx645_3, hx645_4, hx645_5, hx645_6⟩ := at_T51 (Kd.R_reads' HO_4.out).2.2 x5_1 p645 q645
        obtain rfl : ad629 = ad645 := (by injection e645)
        replace p645 := eq_true p645
        replace q645 := eq_true q645
        refine start_ (n := 14) (S := fun w' => w'.cell? ⟨gb627, 0, none⟩ = some (.slice Ao8 t618.length co8) ∧ w'.cell? ⟨gb627, 1, none⟩ = some (.slice Ao10 t621.length co10) ∧ w'.cell? (ad629.add ((x5_1).toNat * 7)) = some (.string ((rd_T51 t624 x5_1).f0)) ∧ w'.cell? ⟨(ad629.add ((x5_1).toNat * 7)).block, (ad629.add ((x5_1).toNat * 7)).off + 1, none⟩ = some (.int .i64 ((rd_T51 t624 x5_1).f1.f0)) ∧ w'.cell? ⟨(ad629.add ((x5_1).toNat * 7)).block, (ad629.add ((x5_1).toNat * 7)).off + 2, none⟩ = some (.int .i64 ((rd_T51 t624 x5_1).f1.f1)) ∧ w'.cell? ⟨(ad629.add ((x5_1).toNat * 7)).block, (ad629.add ((x5_1).toNat * 7)).off + 3, none⟩ = some (.int .i64 ((rd_T51 t624 x5_1).f1.f2)) ∧ w'.cell? ⟨(ad629.add ((x5_1).toNat * 7)).block, (ad629.add ((x5_1).toNat * 7)).off + 4, none⟩ = some (.int .i64 ((rd_T51 t624 x5_1).f2.f0)) ∧ w'.cell? ⟨(ad629.add ((x5_1).toNat * 7)).block, (ad629.add ((x5_1).toNat * 7)).off + 5, none⟩ = some (.int .i64 ((rd_T51 t624 x5_1).f2.f1)) ∧ w'.cell? ⟨(ad629.add ((x5_1).toNat * 7)).block, (ad629.add ((x5_1).toNat * 7)).off + 6, none⟩ = some (.int .i64 ((rd_T51 t624 x5_1).f2.f2))) (ds := []) #[false, false, false, false, false, false, false, false, false, false, false, false, false, false] (by kernel_rfl) rfl rfl ⟨My.b_ BK627 0, My.b_ BK627 1, hx645_0, hx645_1, hx645_2, hx645_3, hx645_4, hx645_5, hx645_6⟩ (fun hHeld => ?_); refine with_tabW ententelaw07_LedgerBalance.tab17 ententelaw07_LedgerBalance.bits17 (fun HT_ HW_ => ?_)
        generalize wr.drew = w55 at HO_4 HO_628000 HO_628001 BK627 BK638 HB hx645_0 hx645_1 hx645_2 hx645_3 hx645_4 hx645_5 hx645_6 hHeld ⊢
        refine My.pv_ 1 94 14 2 HT_.out ?_
        refine My.pv_ 2 95 14 6 HT_.out ?_
        refine My.pv_ 3 96 14 14 HT_.out ?_
        refine My.pv_ 4 97 14 30 HT_.out ?_
        refine My.tv_ 0 93 14 31 HT_.out HW_.out hHeld rfl rfl (by rintro w' ⟨s0, s1, s2, s3, s4, s5, s6, s7, s8⟩; go_simp; with_reducible rfl) ?_
        refine My.ta_ 5 98 14 HT_.out HW_.out hHeld rfl rfl (by rintro w' ⟨s0, s1, s2, s3, s4, s5, s6, s7, s8⟩; go_simp; with_reducible rfl) ?_
        refine one_ (i := 6) (N := some 99) (My.Mb 14 127) rfl rfl (one_of HT_.out (by kernel_rfl)) (by decide) (fun K hK => ?_)
        refine goes_ Try.func23 (by kernel_rfl) rfl #[.agg #[.slice Ao8 t618.length co8, .slice Ao10 t621.length co10], .string ((rd_T51 t624 x5_1).f0), .string (⟨#[]⟩ : ByteArray)] (by rfl) rfl rfl My.gx ?_
        with_reducible refine (ledger_Net.calls k2 _ _ t618 _ _ t621 ((rd_T51 t624 x5_1).f0) (⟨#[]⟩ : ByteArray) t646 t647 t648 _ ?side1 ?side2 ?side3 ?side4 A46.out).mono ?_
        (case side1 => repeat (first | exact (Kd.V_reads' HO_628000.out).2.2 | (with_reducible refine Kd.C_alloc ?_ _) | (with_reducible refine Kd.C_drewN ?_ _) | (with_reducible refine Kd.C_drew ?_)))
        (case side2 => exact (Kd.V_reads' HO_628000.out).2.1)
        (case side3 => repeat (first | exact (Kd.V_reads' HO_628001.out).2.2 | (with_reducible refine Kd.C_alloc ?_ _) | (with_reducible refine Kd.C_drewN ?_ _) | (with_reducible refine Kd.C_drew ?_)))
        (case side4 => exact (Kd.V_reads' HO_628001.out).2.1)
        rintro e w56 ⟨rfl, hb⟩
        have HS2_ := (hb.cell (World.block_lt_of_cell? _ _ (hHeld.2.2.1))).trans (hHeld.2.2.1)
        have HS3_ := (hb.cell (World.block_lt_of_cell? _ _ (hHeld.2.2.2.1))).trans (hHeld.2.2.2.1)
        have HS4_ := (hb.cell (World.block_lt_of_cell? _ _ (hHeld.2.2.2.2.1))).trans (hHeld.2.2.2.2.1)
        have HS5_ := (hb.cell (World.block_lt_of_cell? _ _ (hHeld.2.2.2.2.2.1))).trans (hHeld.2.2.2.2.2.1)
        have HS6_ := (hb.cell (World.block_lt_of_cell? _ _ (hHeld.2.2.2.2.2.2.1))).trans (hHeld.2.2.2.2.2.2.1)
        have HS7_ := (hb.cell (World.block_lt_of_cell? _ _ (hHeld.2.2.2.2.2.2.2.1))).trans (hHeld.2.2.2.2.2.2.2.1)
        have HS8_ := (hb.cell (World.block_lt_of_cell? _ _ (hHeld.2.2.2.2.2.2.2.2))).trans (hHeld.2.2.2.2.2.2.2.2)
        refine ⟨_, rfl, ?_⟩
        replace HO_4 := My.am (Kd.R_below (My.dr HO_4.out) hb)
        replace HO_628000 := My.am (Kd.V_below (My.dV HO_628000.out) hb)
        replace HO_628001 := My.am (Kd.V_below (My.dV HO_628001.out) hb)
        replace BK627 := My.ab BK627 hb
        replace BK638 := My.ab BK638 hb
        replace HB := My.st HB hb
        (try clear hb)
        (try clear hb2)
        (try clear hk)
        (try clear hi)
        refine hK.out _ _ ⟨My.b_ BK627 0, My.b_ BK627 1, HS2_, HS3_, HS4_, HS5_, HS6_, HS7_, HS8_⟩ (fun hHeld => ?_)
        clear hK K
        refine My.nm 99 ?_
        refine My.pu_ 7 92 14 HT_.out ?_
        refine My.pu_ 8 100 14 HT_.out ?_
        refine My.pu_ 9 101 14 HT_.out ?_
        refine My.pu_ 10 102 14 HT_.out ?_
        refine My.pu_ 11 13 14 HT_.out ?_
        refine My.pu_ 12 14 14 HT_.out ?_
        refine My.pu_ 13 15 14 HT_.out ?_
        refine done_ (done_of HT_.out (by kernel_rfl)) ?_
        try go_wp2
        replace HO_4 := My.am (Kd.R_drew HO_4.out)
        replace HO_628000 := My.am (Kd.V_drew HO_628000.out)
        replace HO_628001 := My.am (Kd.V_drew HO_628001.out)
        replace BK627 := My.am (blk_drew BK627.out)
        replace BK638 := My.am (blk_drew BK638.out)
        replace HB := My.am (below_drew1 HB.out)
        have p649 : 0 ≤ (x5_1 : Int) := My.as_
        have q649 : x5_1 < (t624.length : Int) := My.as_
        obtain ⟨ad649, e649, hx649_0, hx649_1, hx649_2, hx649_3, hx649_4, hx649_5, hx649_6⟩ := at_T51 (Kd.R_reads' HO_4.out).2.2 x5_1 p649 q649
        obtain rfl : ad629 = ad649 := (by injection e649)
        replace p649 := eq_true p649
        replace q649 := eq_true q649
        refine start_ (n := 37) (S := fun w' => w'.cell? ⟨gb638, 0, none⟩ = some (.string t630) ∧ w'.cell? ⟨gb638, 1, none⟩ = some (.int .i64 t631) ∧ w'.cell? ⟨gb638, 2, none⟩ = some (.int .i64 t632) ∧ w'.cell? ⟨gb638, 3, none⟩ = some (.int .i64 t633) ∧ w'.cell? ⟨gb638, 4, none⟩ = some (.int .i64 t634) ∧ w'.cell? ⟨gb638, 5, none⟩ = some (.int .i64 t635) ∧ w'.cell? ⟨gb638, 6, none⟩ = some (.int .i64 t636) ∧ w'.cell? (ad629.add ((x5_1).toNat * 7)) = some (.string ((rd_T51 t624 x5_1).f0)) ∧ w'.cell? ⟨(ad629.add ((x5_1).toNat * 7)).block, (ad629.add ((x5_1).toNat * 7)).off + 1, none⟩ = some (.int .i64 ((rd_T51 t624 x5_1).f1.f0)) ∧ w'.cell? ⟨(ad629.add ((x5_1).toNat * 7)).block, (ad629.add ((x5_1).toNat * 7)).off + 2, none⟩ = some (.int .i64 ((rd_T51 t624 x5_1).f1.f1)) ∧ w'.cell? ⟨(ad629.add ((x5_1).toNat * 7)).block, (ad629.add ((x5_1).toNat * 7)).off + 3, none⟩ = some (.int .i64 ((rd_T51 t624 x5_1).f1.f2)) ∧ w'.cell? ⟨(ad629.add ((x5_1).toNat * 7)).block, (ad629.add ((x5_1).toNat * 7)).off + 4, none⟩ = some (.int .i64 ((rd_T51 t624 x5_1).f2.f0)) ∧ w'.cell? ⟨(ad629.add ((x5_1).toNat * 7)).block, (ad629.add ((x5_1).toNat * 7)).off + 5, none⟩ = some (.int .i64 ((rd_T51 t624 x5_1).f2.f1)) ∧ w'.cell? ⟨(ad629.add ((x5_1).toNat * 7)).block, (ad629.add ((x5_1).toNat * 7)).off + 6, none⟩ = some (.int .i64 ((rd_T51 t624 x5_1).f2.f2))) (ds := []) #[false, false, false, false, false, false, false, false, false, false, false, false, false, false, false, false, false, false, false, false, false, false, false, false, false, false, false, false, false, false, false, false, false, false, false, false, false] (by kernel_rfl) rfl rfl ⟨My.b_ BK638 0, My.b_ BK638 1, My.b_ BK638 2, My.b_ BK638 3, My.b_ BK638 4, My.b_ BK638 5, My.b_ BK638 6, hx649_0, hx649_1, hx649_2, hx649_3, hx649_4, hx649_5, hx649_6⟩ (fun hHeld => ?_); refine with_tabW ententelaw07_LedgerBalance.tab18 ententelaw07_LedgerBalance.bits18 (fun HT_ HW_ => ?_)
        generalize w56.drew = w57 at HO_4 HO_628000 HO_628001 BK627 BK638 HB hx649_0 hx649_1 hx649_2 hx649_3 hx649_4 hx649_5 hx649_6 hHeld ⊢
        refine My.pu_ 0 103 37 HT_.out ?_
        refine My.pu_ 1 104 37 HT_.out ?_
        refine My.pu_ 2 105 37 HT_.out ?_
        refine My.pu_ 3 106 37 HT_.out ?_
        refine My.pu_ 4 107 37 HT_.out ?_
        refine My.pu_ 5 108 37 HT_.out ?_
        refine My.pu_ 6 109 37 HT_.out ?_
        refine My.pu_ 7 110 37 HT_.out ?_
        refine My.pu_ 8 111 37 HT_.out ?_
        refine My.pu_ 9 112 37 HT_.out ?_
        refine My.pu_ 10 113 37 HT_.out ?_
        refine My.pu_ 11 114 37 HT_.out ?_
        refine My.pu_ 12 115 37 HT_.out ?_
        refine My.pu_ 13 116 37 HT_.out ?_
        refine My.pu_ 14 117 37 HT_.out ?_
        refine My.pu_ 15 118 37 HT_.out ?_
        refine My.pu_ 16 119 37 HT_.out ?_
        refine My.pu_ 17 120 37 HT_.out ?_
        refine My.pu_ 18 121 37 HT_.out ?_
        refine My.pv_ 20 123 37 1572863 HT_.out ?_
        refine My.pv_ 21 124 37 3670015 HT_.out ?_
        refine My.pv_ 22 125 37 7864319 HT_.out ?_
        refine My.pv_ 23 126 37 16252927 HT_.out ?_
        refine My.pv_ 24 127 37 33030143 HT_.out ?_
        refine My.pv_ 26 129 37 100139007 HT_.out ?_
        refine My.tv_ 19 122 37 100663295 HT_.out HW_.out hHeld rfl rfl (by rintro w' ⟨s0, s1, s2, s3, s4, s5, s6, s7, s8, s9, s10, s11, s12, s13⟩; go_simp; with_reducible rfl) ?_
        refine My.tv_ 25 128 37 134217727 HT_.out HW_.out hHeld rfl rfl (by rintro w' ⟨s0, s1, s2, s3, s4, s5, s6, s7, s8, s9, s10, s11, s12, s13⟩; go_simp; with_reducible rfl) ?_
        refine My.pu_ 27 130 37 HT_.out ?_
        refine My.pu_ 28 131 37 HT_.out ?_
        refine My.pu_ 29 132 37 HT_.out ?_
        refine My.pu_ 30 133 37 HT_.out ?_
        refine My.pu_ 31 134 37 HT_.out ?_
        refine My.pu_ 32 135 37 HT_.out ?_
        refine My.pv_ 34 137 37 25769803775 HT_.out ?_
        refine My.tv_ 33 136 37 34359738367 HT_.out HW_.out hHeld rfl rfl (by rintro w' ⟨s0, s1, s2, s3, s4, s5, s6, s7, s8, s9, s10, s11, s12, s13⟩; go_simp; with_reducible rfl) ?_
        refine My.pu_ 35 138 37 HT_.out ?_
        refine My.pu_ 36 139 37 HT_.out ?_
        refine done_ (done_of HT_.out (by kernel_rfl)) ?_
        try go_wp2
        go_roundg k2
        case measure => have := HK1.out; have := HK2.out; omega
        case rel => exact ⟨(wrap64 (x5_1 + 1)), My.r1, H', ⟨by have := HK1.out; have := HK2.out; omega⟩, ⟨My.dR (Kd.R_mono HO_4.out (fun _ hk => trivial))⟩, ⟨My.dV (Kd.V_mono HO_628000.out (fun _ hk => ⟨hk.1, hk.2.1⟩))⟩, ⟨My.dV (Kd.V_mono HO_628001.out (fun _ hk => ⟨hk.1, hk.2.1⟩))⟩, ⟨(My.at_ BK627)⟩, ⟨(My.bl_ HB)⟩⟩
       rw [if_pos c26] at H
       have c26b0 := decide_eq_true c26
       clear c26
       replace H := My.ds H
       obtain ⟨c27b0, H⟩ := H
       replace H := My.ds H
       obtain ⟨c28b0, H⟩ := H
       replace H := My.ds H
       obtain ⟨c29b0, H⟩ := H
       by_cases c30 : ((rd_T64 t621 x10_2).f1.f1).toList = ((rd_T51 t624 x5_1).f0).toList
       rotate_left
       ·rw [if_neg c30] at H
        have c30b0 : (((rd_T64 t621 x10_2).f1.f1).toList == ((rd_T51 t624 x5_1).f0).toList) = false := beq_eq_false_iff_ne.mpr c30
        have c30b1 : (((rd_T64 t621 x10_2).f1.f1).toList != ((rd_T51 t624 x5_1).f0).toList) = true := bne_iff_ne.mpr c30
        have H' := My.am H
        clear H
        have hnb41 := NB627_638.out
        have hnc41 := NB638_627.out
        have hq42 := My.cz2 BK627
        try go_wp2
        replace HO_4 := My.am (Kd.R_drew HO_4.out)
        replace HO_628000 := My.am (Kd.V_drew HO_628000.out)
        replace HO_628001 := My.am (Kd.V_drew HO_628001.out)
        replace BK627 := My.am (blk_drew BK627.out)
        replace BK638 := My.am (blk_drew BK638.out)
        replace HB := My.am (below_drew1 HB.out)
        have p639 : 0 ≤ (x10_2 : Int) := My.as_
        have q639 : x10_2 < (t621.length : Int) := My.as_
        obtain ⟨ad639, e639, hx639_0, hx639_1, hx639_2, hx639_3, hx639_4⟩ := at_T64 (Kd.V_reads' HO_628001.out).2.2 x10_2 p639 q639
        cases e639
        replace p639 := eq_true p639
        replace q639 := eq_true q639
        have p640 : 0 ≤ (x5_1 : Int) := My.as_
        have q640 : x5_1 < (t624.length : Int) := My.as_
        obtain ⟨ad640, e640, hx640_0, hx640_1, hx640_2, hx640_3, hx640_4, hx640_5, hx640_6⟩ := at_T51 (Kd.R_reads' HO_4.out).2.2 x5_1 p640 q640
        obtain rfl : ad629 = ad640 := (by injection e640)
        replace p640 := eq_true p640
        replace q640 := eq_true q640
        refine start_ (n := 22) (S := fun w' => w'.cell? ⟨gb627, 0, none⟩ = some (.slice Ao8 t618.length co8) ∧ w'.cell? ⟨gb627, 1, none⟩ = some (.slice (some ad639) t621.length co10) ∧ w'.cell? (ad639.add ((x10_2).toNat * 5)) = some (.string ((rd_T64 t621 x10_2).f0)) ∧ w'.cell? ⟨(ad639.add ((x10_2).toNat * 5)).block, (ad639.add ((x10_2).toNat * 5)).off + 1, none⟩ = some (.int .i64 ((rd_T64 t621 x10_2).f1.f0)) ∧ w'.cell? ⟨(ad639.add ((x10_2).toNat * 5)).block, (ad639.add ((x10_2).toNat * 5)).off + 2, none⟩ = some (.string ((rd_T64 t621 x10_2).f1.f1)) ∧ w'.cell? ⟨(ad639.add ((x10_2).toNat * 5)).block, (ad639.add ((x10_2).toNat * 5)).off + 3, none⟩ = some (.int .i64 ((rd_T64 t621 x10_2).f1.f2)) ∧ w'.cell? ⟨(ad639.add ((x10_2).toNat * 5)).block, (ad639.add ((x10_2).toNat * 5)).off + 4, none⟩ = some (.int .i64 ((rd_T64 t621 x10_2).f2)) ∧ w'.cell? (ad629.add ((x5_1).toNat * 7)) = some (.string ((rd_T51 t624 x5_1).f0)) ∧ w'.cell? ⟨(ad629.add ((x5_1).toNat * 7)).block, (ad629.add ((x5_1).toNat * 7)).off + 1, none⟩ = some (.int .i64 ((rd_T51 t624 x5_1).f1.f0)) ∧ w'.cell? ⟨(ad629.add ((x5_1).toNat * 7)).block, (ad629.add ((x5_1).toNat * 7)).off + 2, none⟩ = some (.int .i64 ((rd_T51 t624 x5_1).f1.f1)) ∧ w'.cell? ⟨(ad629.add ((x5_1).toNat * 7)).block, (ad629.add ((x5_1).toNat * 7)).off + 3, none⟩ = some (.int .i64 ((rd_T51 t624 x5_1).f1.f2)) ∧ w'.cell? ⟨(ad629.add ((x5_1).toNat * 7)).block, (ad629.add ((x5_1).toNat * 7)).off + 4, none⟩ = some (.int .i64 ((rd_T51 t624 x5_1).f2.f0)) ∧ w'.cell? ⟨(ad629.add ((x5_1).toNat * 7)).block, (ad629.add ((x5_1).toNat * 7)).off + 5, none⟩ = some (.int .i64 ((rd_T51 t624 x5_1).f2.f1)) ∧ w'.cell? ⟨(ad629.add ((x5_1).toNat * 7)).block, (ad629.add ((x5_1).toNat * 7)).off + 6, none⟩ = some (.int .i64 ((rd_T51 t624 x5_1).f2.f2))) (ds := []) #[false, false, false, false, false, false, false, false, false, false, false, false, false, false, false, false, false, false, false, false, false, false] (by kernel_rfl) rfl rfl ⟨My.b_ BK627 0, My.b_ BK627 1, hx639_0, hx639_1, hx639_2, hx639_3, hx639_4, hx640_0, hx640_1, hx640_2, hx640_3, hx640_4, hx640_5, hx640_6⟩ (fun hHeld => ?_); refine with_tabW ententelaw07_LedgerBalance.tab14 ententelaw07_LedgerBalance.bits14 (fun HT_ HW_ => ?_)
        generalize wr.drew = w43 at HO_4 HO_628000 HO_628001 BK627 BK638 HB hx639_0 hx639_1 hx639_2 hx639_3 hx639_4 hx640_0 hx640_1 hx640_2 hx640_3 hx640_4 hx640_5 hx640_6 hHeld ⊢
        refine My.pu_ 0 54 22 HT_.out ?_
        refine My.pv_ 2 56 22 5 HT_.out ?_
        refine My.pv_ 7 61 22 133 HT_.out ?_
        refine My.pv_ 8 62 22 389 HT_.out ?_
        refine My.pv_ 9 63 22 901 HT_.out ?_
        refine My.pv_ 10 64 22 1925 HT_.out ?_
        refine My.tv_ 1 55 22 1927 HT_.out HW_.out hHeld rfl rfl (by rintro w' ⟨s0, s1, s2, s3, s4, s5, s6, s7, s8, s9, s10, s11, s12, s13⟩; go_simp; with_reducible rfl) ?_
        refine My.pv_ 3 57 22 1935 HT_.out ?_
        refine My.pv_ 4 58 22 1951 HT_.out ?_
        refine My.pv_ 5 59 22 1983 HT_.out ?_
        refine My.tv_ 6 60 22 2047 HT_.out HW_.out hHeld rfl rfl (by rintro w' ⟨s0, s1, s2, s3, s4, s5, s6, s7, s8, s9, s10, s11, s12, s13⟩; go_simp; with_reducible rfl) ?_
        refine My.ta_ 11 65 22 HT_.out HW_.out hHeld rfl rfl (by rintro w' ⟨s0, s1, s2, s3, s4, s5, s6, s7, s8, s9, s10, s11, s12, s13⟩; go_simp; with_reducible rfl) ?_
        refine My.pu_ 12 66 22 HT_.out ?_
        refine My.pu_ 13 67 22 HT_.out ?_
        refine My.pn_ 14 68 22 HT_.out ?_
        refine My.pn_ 15 69 22 HT_.out ?_
        refine My.pn_ 16 70 22 HT_.out ?_
        refine My.pn_ 17 71 22 HT_.out ?_
        refine My.pn_ 18 72 22 HT_.out ?_
        refine My.pn_ 19 73 22 HT_.out ?_
        refine My.pn_ 20 74 22 HT_.out ?_
        refine My.pu_ 21 75 22 HT_.out ?_
        refine done_ (done_of HT_.out (by kernel_rfl)) ?_
        try go_wp2
        go_roundg k2
        case measure => have := HK1.out; have := HK2.out; omega
        case rel => exact ⟨(x8_2), (x9_2), (wrap64 (x10_2 + 1)), My.r1, My.r1, My.r1, H', ⟨by have := HK1.out; have := HK2.out; omega⟩, ⟨My.dR HO_4.out⟩, ⟨My.dV HO_628000.out⟩, ⟨My.dV HO_628001.out⟩, ⟨(My.at_ BK627)⟩, ⟨(My.at_ BK638)⟩, ⟨(My.bl_ HB)⟩⟩
       rw [if_pos c30] at H
       have c30b0 : (((rd_T64 t621 x10_2).f1.f1).toList == ((rd_T51 t624 x5_1).f0).toList) = true := beq_iff_eq.mpr c30
       have c30b1 : (((rd_T64 t621 x10_2).f1.f1).toList != ((rd_T51 t624 x5_1).f0).toList) = false := bne_eq_false_iff_eq.mpr c30
       clear c30
       by_cases c31 : ((rd_T64 t621 x10_2).f2) = 2
       ·rw [if_pos c31] at H
        have c31b0 : (((rd_T64 t621 x10_2).f2) == 2) = true := beq_iff_eq.mpr c31
        have c31b1 : (((rd_T64 t621 x10_2).f2) != 2) = false := bne_eq_false_iff_eq.mpr c31
        clear c31
        have H' := My.am H
        clear H
        have hnb32 := NB627_638.out
        have hnc32 := NB638_627.out
        have hq33 := My.cz2 BK627
        try go_wp2
        replace HO_4 := My.am (Kd.R_drew HO_4.out)
        replace HO_628000 := My.am (Kd.V_drew HO_628000.out)
        replace HO_628001 := My.am (Kd.V_drew HO_628001.out)
        replace BK627 := My.am (blk_drew BK627.out)
        replace BK638 := My.am (blk_drew BK638.out)
        replace HB := My.am (below_drew1 HB.out)
        have p639 : 0 ≤ (x10_2 : Int) := My.as_
        have q639 : x10_2 < (t621.length : Int) := My.as_
        obtain ⟨ad639, e639, hx639_0, hx639_1, hx639_2, hx639_3, hx639_4⟩ := at_T64 (Kd.V_reads' HO_628001.out).2.2 x10_2 p639 q639
        cases e639
        replace p639 := eq_true p639
        replace q639 := eq_true q639
        have p640 : 0 ≤ (x5_1 : Int) := My.as_
        have q640 : x5_1 < (t624.length : Int) := My.as_
        obtain ⟨ad640, e640, hx640_0, hx640_1, hx640_2, hx640_3, hx640_4, hx640_5, hx640_6⟩ := at_T51 (Kd.R_reads' HO_4.out).2.2 x5_1 p640 q640
        obtain rfl : ad629 = ad640 := (by injection e640)
        replace p640 := eq_true p640
        replace q640 := eq_true q640
        have p641 : 0 ≤ (x10_2 : Int) := My.as_
        have q641 : x10_2 < (t621.length : Int) := My.as_
        obtain ⟨ad641, e641, hx641_0, hx641_1, hx641_2, hx641_3, hx641_4⟩ := at_T64 (Kd.V_reads' HO_628001.out).2.2 x10_2 p641 q641
        obtain rfl : ad639 = ad641 := (by injection e641)
        replace p641 := eq_true p641
        replace q641 := eq_true q641
        refine start_ (n := 22) (S := fun w' => w'.cell? ⟨gb627, 0, none⟩ = some (.slice Ao8 t618.length co8) ∧ w'.cell? ⟨gb627, 1, none⟩ = some (.slice (some ad639) t621.length co10) ∧ w'.cell? (ad639.add ((x10_2).toNat * 5)) = some (.string ((rd_T64 t621 x10_2).f0)) ∧ w'.cell? ⟨(ad639.add ((x10_2).toNat * 5)).block, (ad639.add ((x10_2).toNat * 5)).off + 1, none⟩ = some (.int .i64 ((rd_T64 t621 x10_2).f1.f0)) ∧ w'.cell? ⟨(ad639.add ((x10_2).toNat * 5)).block, (ad639.add ((x10_2).toNat * 5)).off + 2, none⟩ = some (.string ((rd_T64 t621 x10_2).f1.f1)) ∧ w'.cell? ⟨(ad639.add ((x10_2).toNat * 5)).block, (ad639.add ((x10_2).toNat * 5)).off + 3, none⟩ = some (.int .i64 ((rd_T64 t621 x10_2).f1.f2)) ∧ w'.cell? ⟨(ad639.add ((x10_2).toNat * 5)).block, (ad639.add ((x10_2).toNat * 5)).off + 4, none⟩ = some (.int .i64 ((rd_T64 t621 x10_2).f2)) ∧ w'.cell? (ad629.add ((x5_1).toNat * 7)) = some (.string ((rd_T51 t624 x5_1).f0)) ∧ w'.cell? ⟨(ad629.add ((x5_1).toNat * 7)).block, (ad629.add ((x5_1).toNat * 7)).off + 1, none⟩ = some (.int .i64 ((rd_T51 t624 x5_1).f1.f0)) ∧ w'.cell? ⟨(ad629.add ((x5_1).toNat * 7)).block, (ad629.add ((x5_1).toNat * 7)).off + 2, none⟩ = some (.int .i64 ((rd_T51 t624 x5_1).f1.f1)) ∧ w'.cell? ⟨(ad629.add ((x5_1).toNat * 7)).block, (ad629.add ((x5_1).toNat * 7)).off + 3, none⟩ = some (.int .i64 ((rd_T51 t624 x5_1).f1.f2)) ∧ w'.cell? ⟨(ad629.add ((x5_1).toNat * 7)).block, (ad629.add ((x5_1).toNat * 7)).off + 4, none⟩ = some (.int .i64 ((rd_T51 t624 x5_1).f2.f0)) ∧ w'.cell? ⟨(ad629.add ((x5_1).toNat * 7)).block, (ad629.add ((x5_1).toNat * 7)).off + 5, none⟩ = some (.int .i64 ((rd_T51 t624 x5_1).f2.f1)) ∧ w'.cell? ⟨(ad629.add ((x5_1).toNat * 7)).block, (ad629.add ((x5_1).toNat * 7)).off + 6, none⟩ = some (.int .i64 ((rd_T51 t624 x5_1).f2.f2)) ∧ w'.cell? (ad639.add ((x10_2).toNat * 5)) = some (.string ((rd_T64 t621 x10_2).f0)) ∧ w'.cell? ⟨(ad639.add ((x10_2).toNat * 5)).block, (ad639.add ((x10_2).toNat * 5)).off + 1, none⟩ = some (.int .i64 ((rd_T64 t621 x10_2).f1.f0)) ∧ w'.cell? ⟨(ad639.add ((x10_2).toNat * 5)).block, (ad639.add ((x10_2).toNat * 5)).off + 2, none⟩ = some (.string ((rd_T64 t621 x10_2).f1.f1)) ∧ w'.cell? ⟨(ad639.add ((x10_2).toNat * 5)).block, (ad639.add ((x10_2).toNat * 5)).off + 3, none⟩ = some (.int .i64 ((rd_T64 t621 x10_2).f1.f2)) ∧ w'.cell? ⟨(ad639.add ((x10_2).toNat * 5)).block, (ad639.add ((x10_2).toNat * 5)).off + 4, none⟩ = some (.int .i64 ((rd_T64 t621 x10_2).f2))) (ds := []) #[false, false, false, false, false, false, false, false, false, false, false, false, false, false, false, false, false, false, false, false, false, false] (by kernel_rfl) rfl rfl ⟨My.b_ BK627 0, My.b_ BK627 1, hx639_0, hx639_1, hx639_2, hx639_3, hx639_4, hx640_0, hx640_1, hx640_2, hx640_3, hx640_4, hx640_5, hx640_6, hx641_0, hx641_1, hx641_2, hx641_3, hx641_4⟩ (fun hHeld => ?_); refine with_tabW ententelaw07_LedgerBalance.tab14 ententelaw07_LedgerBalance.bits14 (fun HT_ HW_ => ?_)
        generalize wr.drew = w34 at HO_4 HO_628000 HO_628001 BK627 BK638 HB hx639_0 hx639_1 hx639_2 hx639_3 hx639_4 hx640_0 hx640_1 hx640_2 hx640_3 hx640_4 hx640_5 hx640_6 hx641_0 hx641_1 hx641_2 hx641_3 hx641_4 hHeld ⊢
        refine My.pu_ 0 54 22 HT_.out ?_
        refine My.pv_ 2 56 22 5 HT_.out ?_
        refine My.pv_ 7 61 22 133 HT_.out ?_
        refine My.pv_ 8 62 22 389 HT_.out ?_
        refine My.pv_ 9 63 22 901 HT_.out ?_
        refine My.pv_ 10 64 22 1925 HT_.out ?_
        refine My.tv_ 1 55 22 1927 HT_.out HW_.out hHeld rfl rfl (by rintro w' ⟨s0, s1, s2, s3, s4, s5, s6, s7, s8, s9, s10, s11, s12, s13, s14, s15, s16, s17, s18⟩; go_simp; with_reducible rfl) ?_
        refine My.pv_ 3 57 22 1935 HT_.out ?_
        refine My.pv_ 4 58 22 1951 HT_.out ?_
        refine My.pv_ 5 59 22 1983 HT_.out ?_
        refine My.tv_ 6 60 22 2047 HT_.out HW_.out hHeld rfl rfl (by rintro w' ⟨s0, s1, s2, s3, s4, s5, s6, s7, s8, s9, s10, s11, s12, s13, s14, s15, s16, s17, s18⟩; go_simp; with_reducible rfl) ?_
        refine My.ta_ 11 65 22 HT_.out HW_.out hHeld rfl rfl (by rintro w' ⟨s0, s1, s2, s3, s4, s5, s6, s7, s8, s9, s10, s11, s12, s13, s14, s15, s16, s17, s18⟩; go_simp; with_reducible rfl) ?_
        refine My.pu_ 12 66 22 HT_.out ?_
        refine My.pu_ 13 67 22 HT_.out ?_
        refine My.pu_ 14 68 22 HT_.out ?_
        refine My.pv_ 16 70 22 98303 HT_.out ?_
        refine My.tv_ 15 69 22 131071 HT_.out HW_.out hHeld rfl rfl (by rintro w' ⟨s0, s1, s2, s3, s4, s5, s6, s7, s8, s9, s10, s11, s12, s13, s14, s15, s16, s17, s18⟩; go_simp; with_reducible rfl) ?_
        refine My.pu_ 17 71 22 HT_.out ?_
        refine My.pu_ 18 72 22 HT_.out ?_
        refine My.ta_ 19 73 22 HT_.out HW_.out hHeld rfl rfl (by rintro w' ⟨s0, s1, s2, s3, s4, s5, s6, s7, s8, s9, s10, s11, s12, s13, s14, s15, s16, s17, s18⟩; go_simp; with_reducible rfl) ?_
        refine My.pu_ 20 74 22 HT_.out ?_
        refine My.pu_ 21 75 22 HT_.out ?_
        refine done_ (done_of HT_.out (by kernel_rfl)) ?_
        try go_wp2
        go_roundg k2
        case measure => have := HK1.out; have := HK2.out; omega
        case rel => exact ⟨(x8_2), (x9_2), (wrap64 (x10_2 + 1)), My.r1, My.r1, My.r1, H', ⟨by have := HK1.out; have := HK2.out; omega⟩, ⟨My.dR HO_4.out⟩, ⟨My.dV HO_628000.out⟩, ⟨My.dV HO_628001.out⟩, ⟨(My.at_ BK627)⟩, ⟨(My.at_ BK638)⟩, ⟨(My.bl_ HB)⟩⟩
       rw [if_neg c31] at H
       have c31b0 : (((rd_T64 t621 x10_2).f2) == 2) = false := beq_eq_false_iff_ne.mpr c31
       have c31b1 : (((rd_T64 t621 x10_2).f2) != 2) = true := bne_iff_ne.mpr c31
       replace H := Option.bind_eq_some_iff.mp H
       obtain ⟨⟨t643, t644⟩, A350, H⟩ := H
       try dsimp only at H
       have A35 := My.am A350
       clear A350
       have H' := My.am H
       clear H
       have hnb36 := NB627_638.out
       have hnc36 := NB638_627.out
       have hq37 := My.cz2 BK627
       try go_wp2
       replace HO_4 := My.am (Kd.R_drew HO_4.out)
       replace HO_628000 := My.am (Kd.V_drew HO_628000.out)
       replace HO_628001 := My.am (Kd.V_drew HO_628001.out)
       replace BK627 := My.am (blk_drew BK627.out)
       replace BK638 := My.am (blk_drew BK638.out)
       replace HB := My.am (below_drew1 HB.out)
       have p639 : 0 ≤ (x10_2 : Int) := My.as_
       have q639 : x10_2 < (t621.length : Int) := My.as_
       obtain ⟨ad639, e639, hx639_0, hx639_1, hx639_2, hx639_3, hx639_4⟩ := at_T64 (Kd.V_reads' HO_628001.out).2.2 x10_2 p639 q639
       cases e639
       replace p639 := eq_true p639
       replace q639 := eq_true q639
       have p640 : 0 ≤ (x5_1 : Int) := My.as_
       have q640 : x5_1 < (t624.length : Int) := My.as_
       obtain ⟨ad640, e640, hx640_0, hx640_1, hx640_2, hx640_3, hx640_4, hx640_5, hx640_6⟩ := at_T51 (Kd.R_reads' HO_4.out).2.2 x5_1 p640 q640
       obtain rfl : ad629 = ad640 := (by injection e640)
       replace p640 := eq_true p640
       replace q640 := eq_true q640
       have p641 : 0 ≤ (x10_2 : Int) := My.as_
       have q641 : x10_2 < (t621.length : Int) := My.as_
       obtain ⟨ad641, e641, hx641_0, hx641_1, hx641_2, hx641_3, hx641_4⟩ := at_T64 (Kd.V_reads' HO_628001.out).2.2 x10_2 p641 q641
       obtain rfl : ad639 = ad641 := (by injection e641)
       replace p641 := eq_true p641
       replace q641 := eq_true q641
       refine start_ (n := 22) (S := fun w' => w'.cell? ⟨gb627, 0, none⟩ = some (.slice Ao8 t618.length co8) ∧ w'.cell? ⟨gb627, 1, none⟩ = some (.slice (some ad639) t621.length co10) ∧ w'.cell? (ad639.add ((x10_2).toNat * 5)) = some (.string ((rd_T64 t621 x10_2).f0)) ∧ w'.cell? ⟨(ad639.add ((x10_2).toNat * 5)).block, (ad639.add ((x10_2).toNat * 5)).off + 1, none⟩ = some (.int .i64 ((rd_T64 t621 x10_2).f1.f0)) ∧ w'.cell? ⟨(ad639.add ((x10_2).toNat * 5)).block, (ad639.add ((x10_2).toNat * 5)).off + 2, none⟩ = some (.string ((rd_T64 t621 x10_2).f1.f1)) ∧ w'.cell? ⟨(ad639.add ((x10_2).toNat * 5)).block, (ad639.add ((x10_2).toNat * 5)).off + 3, none⟩ = some (.int .i64 ((rd_T64 t621 x10_2).f1.f2)) ∧ w'.cell? ⟨(ad639.add ((x10_2).toNat * 5)).block, (ad639.add ((x10_2).toNat * 5)).off + 4, none⟩ = some (.int .i64 ((rd_T64 t621 x10_2).f2)) ∧ w'.cell? (ad629.add ((x5_1).toNat * 7)) = some (.string ((rd_T51 t624 x5_1).f0)) ∧ w'.cell? ⟨(ad629.add ((x5_1).toNat * 7)).block, (ad629.add ((x5_1).toNat * 7)).off + 1, none⟩ = some (.int .i64 ((rd_T51 t624 x5_1).f1.f0)) ∧ w'.cell? ⟨(ad629.add ((x5_1).toNat * 7)).block, (ad629.add ((x5_1).toNat * 7)).off + 2, none⟩ = some (.int .i64 ((rd_T51 t624 x5_1).f1.f1)) ∧ w'.cell? ⟨(ad629.add ((x5_1).toNat * 7)).block, (ad629.add ((x5_1).toNat * 7)).off + 3, none⟩ = some (.int .i64 ((rd_T51 t624 x5_1).f1.f2)) ∧ w'.cell? ⟨(ad629.add ((x5_1).toNat * 7)).block, (ad629.add ((x5_1).toNat * 7)).off + 4, none⟩ = some (.int .i64 ((rd_T51 t624 x5_1).f2.f0)) ∧ w'.cell? ⟨(ad629.add ((x5_1).toNat * 7)).block, (ad629.add ((x5_1).toNat * 7)).off + 5, none⟩ = some (.int .i64 ((rd_T51 t624 x5_1).f2.f1)) ∧ w'.cell? ⟨(ad629.add ((x5_1).toNat * 7)).block, (ad629.add ((x5_1).toNat * 7)).off + 6, none⟩ = some (.int .i64 ((rd_T51 t624 x5_1).f2.f2)) ∧ w'.cell? (ad639.add ((x10_2).toNat * 5)) = some (.string ((rd_T64 t621 x10_2).f0)) ∧ w'.cell? ⟨(ad639.add ((x10_2).toNat * 5)).block, (ad639.add ((x10_2).toNat * 5)).off + 1, none⟩ = some (.int .i64 ((rd_T64 t621 x10_2).f1.f0)) ∧ w'.cell? ⟨(ad639.add ((x10_2).toNat * 5)).block, (ad639.add ((x10_2).toNat * 5)).off + 2, none⟩ = some (.string ((rd_T64 t621 x10_2).f1.f1)) ∧ w'.cell? ⟨(ad639.add ((x10_2).toNat * 5)).block, (ad639.add ((x10_2).toNat * 5)).off + 3, none⟩ = some (.int .i64 ((rd_T64 t621 x10_2).f1.f2)) ∧ w'.cell? ⟨(ad639.add ((x10_2).toNat * 5)).block, (ad639.add ((x10_2).toNat * 5)).off + 4, none⟩ = some (.int .i64 ((rd_T64 t621 x10_2).f2))) (ds := []) #[false, false, false, false, false, false, false, false, false, false, false, false, false, false, false, false, false, false, false, false, false, false] (by kernel_rfl) rfl rfl ⟨My.b_ BK627 0, My.b_ BK627 1, hx639_0, hx639_1, hx639_2, hx639_3, hx639_4, hx640_0, hx640_1, hx640_2, hx640_3, hx640_4, hx640_5, hx640_6, hx641_0, hx641_1, hx641_2, hx641_3, hx641_4⟩ (fun hHeld => ?_); refine with_tabW ententelaw07_LedgerBalance.tab14 ententelaw07_LedgerBalance.bits14 (fun HT_ HW_ => ?_)
       generalize wr.drew = w38 at HO_4 HO_628000 HO_628001 BK627 BK638 HB hx639_0 hx639_1 hx639_2 hx639_3 hx639_4 hx640_0 hx640_1 hx640_2 hx640_3 hx640_4 hx640_5 hx640_6 hx641_0 hx641_1 hx641_2 hx641_3 hx641_4 hHeld ⊢
       refine My.pu_ 0 54 22 HT_.out ?_
       refine My.pv_ 2 56 22 5 HT_.out ?_
       refine My.pv_ 7 61 22 133 HT_.out ?_
       refine My.pv_ 8 62 22 389 HT_.out ?_
       refine My.pv_ 9 63 22 901 HT_.out ?_
       refine My.pv_ 10 64 22 1925 HT_.out ?_
       refine My.tv_ 1 55 22 1927 HT_.out HW_.out hHeld rfl rfl (by rintro w' ⟨s0, s1, s2, s3, s4, s5, s6, s7, s8, s9, s10, s11, s12, s13, s14, s15, s16, s17, s18⟩; go_simp; with_reducible rfl) ?_
       refine My.pv_ 3 57 22 1935 HT_.out ?_
       refine My.pv_ 4 58 22 1951 HT_.out ?_
       refine My.pv_ 5 59 22 1983 HT_.out ?_
       refine My.tv_ 6 60 22 2047 HT_.out HW_.out hHeld rfl rfl (by rintro w' ⟨s0, s1, s2, s3, s4, s5, s6, s7, s8, s9, s10, s11, s12, s13, s14, s15, s16, s17, s18⟩; go_simp; with_reducible rfl) ?_
       refine My.ta_ 11 65 22 HT_.out HW_.out hHeld rfl rfl (by rintro w' ⟨s0, s1, s2, s3, s4, s5, s6, s7, s8, s9, s10, s11, s12, s13, s14, s15, s16, s17, s18⟩; go_simp; with_reducible rfl) ?_
       refine My.pu_ 12 66 22 HT_.out ?_
       refine My.pu_ 13 67 22 HT_.out ?_
       refine My.pu_ 14 68 22 HT_.out ?_
       refine My.pv_ 16 70 22 98303 HT_.out ?_
       refine My.tv_ 15 69 22 131071 HT_.out HW_.out hHeld rfl rfl (by rintro w' ⟨s0, s1, s2, s3, s4, s5, s6, s7, s8, s9, s10, s11, s12, s13, s14, s15, s16, s17, s18⟩; go_simp; with_reducible rfl) ?_
       refine My.pu_ 17 71 22 HT_.out ?_
       refine My.pu_ 18 72 22 HT_.out ?_
       refine My.ta_ 19 73 22 HT_.out HW_.out hHeld rfl rfl (by rintro w' ⟨s0, s1, s2, s3, s4, s5, s6, s7, s8, s9, s10, s11, s12, s13, s14, s15, s16, s17, s18⟩; go_simp; with_reducible rfl) ?_
       refine My.pu_ 20 74 22 HT_.out ?_
       refine My.pu_ 21 75 22 HT_.out ?_
       refine done_ (done_of HT_.out (by kernel_rfl)) ?_
       have hq39 := My.cz2 BK627
       have p642 : 0 ≤ (x10_2 : Int) := My.as_
       have q642 : x10_2 < (t621.length : Int) := My.as_
       obtain ⟨ad642, e642, hx642_0, hx642_1, hx642_2, hx642_3, hx642_4⟩ := at_T64 (Kd.V_reads' HO_628001.out).2.2 x10_2 p642 q642
       obtain rfl : ad639 = ad642 := (by injection e642)
       replace p642 := eq_true p642
       replace q642 := eq_true q642
       try go_wp2_with (first | ((with_reducible refine gate_callee (f := 29) rfl ?_); refine goesL_ (some 83) rfl rfl Try.func29 (by kernel_rfl) rfl #[.agg #[.int .i64 ((rd_T64 t621 x10_2).f1.f0), .string ((rd_T64 t621 x10_2).f1.f1), .int .i64 ((rd_T64 t621 x10_2).f1.f2)]] rfl My.gx ?_; (with_reducible refine (act_Delta.calls k2 ((rd_T64 t621 x10_2).f1.f0) ((rd_T64 t621 x10_2).f1.f1) ((rd_T64 t621 x10_2).f1.f2) t643 t644 _ A35.out).mono ?_); rintro e w40 ⟨rfl, hb⟩; refine ⟨_, rfl, ?_⟩; replace HO_4 := My.am (Kd.R_below (My.dr HO_4.out) hb); replace HO_628000 := My.am (Kd.V_below (My.dV HO_628000.out) hb); replace HO_628001 := My.am (Kd.V_below (My.dV HO_628001.out) hb); replace BK627 := My.ab BK627 hb; replace BK638 := My.ab BK638 hb; replace HB := My.st HB hb; (try clear hb)))
       go_roundg k2
       case measure => have := HK1.out; have := HK2.out; omega
       case rel => exact ⟨(wrap64 (x8_2 + t643)), (wrap64 (x9_2 + t644)), (wrap64 (x10_2 + 1)), My.r1, My.r1, My.r1, H', ⟨by have := HK1.out; have := HK2.out; omega⟩, ⟨My.dR HO_4.out⟩, ⟨My.dV HO_628000.out⟩, ⟨My.dV HO_628001.out⟩, ⟨(My.at_ BK627)⟩, ⟨(My.at_ BK638)⟩, ⟨(My.bl_ HB)⟩⟩
  ·rw [if_neg c5] at H
   have c5b0 : ((t624.length : Int) == (t618.length : Int)) = false := beq_eq_false_iff_ne.mpr c5
   have c5b1 : ((t624.length : Int) != (t618.length : Int)) = true := bne_iff_ne.mpr c5
   have c5b2 : (t624.length == t618.length) = false := by first | simpa using c5 | (simp at c5 ⊢; omega)
   exact absurd ((Option.some.inj H).trans HT.out) Bool.false_ne_true
 ·replace c3 := Bool.eq_false_iff.mpr c3
  subst c3
  rw [if_neg (show ¬ (false = true) by decide)] at H
  replace H := Option.bind_eq_some_iff.mp H
  obtain ⟨t617, A600, H⟩ := H
  try dsimp only at H
  have A60 := My.am A600
  clear A600
  obtain rfl := Option.some.inj H
  go_enter Try.func6, Try.ntmps6
  go_wp2_with (first | ((with_reducible refine gate_callee (f := 18) rfl ?_); refine goesL_ (some 17) rfl rfl Try.func18 (by kernel_rfl) rfl #[.slice A0 l0.length c0] rfl My.gx ?_; (with_reducible refine (ententelaw07_few.calls k _ _ l0 false _ ?side1 ?side2 A2.out).mono ?_); (case side1 => repeat (first | exact HR0.out | (with_reducible refine Kd.C_alloc ?_ _) | (with_reducible refine Kd.C_drewN ?_ _) | (with_reducible refine Kd.C_drew ?_))); (case side2 => exact HC0.out); rintro e w' ⟨rfl, ⟨nd, rfl⟩⟩; refine ⟨_, rfl, ?_⟩) | ((with_reducible refine gate_callee (f := 9) rfl ?_); refine goesL_ (some 19) rfl rfl Try.func9 (by kernel_rfl) rfl #[] rfl My.gx ?_; (with_reducible refine (ententelaw07_awake.calls k  t617 _ A60.out).mono ?_); rintro e w61 ⟨rfl, hb⟩; refine ⟨_, rfl, ?_⟩; replace HB := My.st HB hb; (try clear hb)))
  go_ret
  exact ⟨My.r2, (My.bl_ HB)⟩

/-- THE ONE PURE STATEMENT of ententelaw07_LedgerBalance. -/
def ententelaw07_LedgerBalance.Pure : Prop := ∀ (l0 : List S29), (l0.length ≤ 9223372036854775807 ∧ l0.length * 56 ≤ 140737488351232 ∧ ∀ y_ ∈ l0, Q29 y_) → ∃ k, ententelaw07_LedgerBalance.f k l0 = some true

end Go.Proofs.Ytikanbdhpafbiaa.PO
