-- Written by a program of this session (wip/tools/mp.py over the kit's printer); Lean checks it.
import Derived.Test.YtikanbdhpafbiaaPOx0
import Derived.Test.YtikanbdhpafbiaaPOx16
import Derived.Test.YtikanbdhpafbiaaPOx17
import Derived.Test.YtikanbdhpafbiaaPOx21
import Derived.Test.YtikanbdhpafbiaaPOx23
import Derived.Test.YtikanbdhpafbiaaPOx24
namespace Go.Proofs.Ytikanbdhpafbiaa.PO
open Go.RowKit Go.Proofs.YtikanbdhpafbiaaW.PrintWords Go.Proofs.YtikanbdhpafbiaaW.PrintLast Go.Proofs.YtikanbdhpafbiaaW.PrintMore
attribute [local go_sem] max2_int min2_int max_two min_two max_three min_three max_four min_four   -- for this text's walks alone
set_option linter.unusedVariables false
set_option maxHeartbeats 8000000
set_option maxRecDepth 100000
set_option linter.unusedSimpArgs false

attribute [local go_sem high] eqA49
/-! ### ententelaw07_LedgerBack: function 7 -/
mutual
def ententelaw07_LedgerBack.l0 : Nat → List (S51) → List (S64) → Int → List (S51) → List (S64) → List (S51) → List (S64) → Option (Bool)
 | 0, _, _, _, _, _, _, _ => none
 | k + 1, x4, x6, x7, x662000, x662001, x663000, x663001 => if x7 < (x6.length : Int) then (if 0 ≤ x7 then (if 0 ≤ (wrap64 ((wrap64 ((x6.length : Int) - 1)) - x7)) then (if (wrap64 ((wrap64 ((x6.length : Int) - 1)) - x7)) < (x6.length : Int) then (if ((rd_T64 x6 x7).f2) = 1 then ((ledger_Undo.f k x662000 x662001 ((rd_T64 x6 x7).f0)).bind fun bt673 => (if bt673.2.2 = 0 then (ententelaw07_LedgerBack.j1 k x4 x6 x7 bt673.1 bt673.2.1 x663000 x663001 ((rd_T64 x6 (wrap64 ((wrap64 ((x6.length : Int) - 1)) - x7))).f0) ((rd_T64 x6 (wrap64 ((wrap64 ((x6.length : Int) - 1)) - x7))).f1.f0) ((rd_T64 x6 (wrap64 ((wrap64 ((x6.length : Int) - 1)) - x7))).f1.f1) ((rd_T64 x6 (wrap64 ((wrap64 ((x6.length : Int) - 1)) - x7))).f1.f2) ((rd_T64 x6 (wrap64 ((wrap64 ((x6.length : Int) - 1)) - x7))).f2)) else (some false))) else (ententelaw07_LedgerBack.j1 k x4 x6 x7 x662000 x662001 x663000 x663001 ((rd_T64 x6 (wrap64 ((wrap64 ((x6.length : Int) - 1)) - x7))).f0) ((rd_T64 x6 (wrap64 ((wrap64 ((x6.length : Int) - 1)) - x7))).f1.f0) ((rd_T64 x6 (wrap64 ((wrap64 ((x6.length : Int) - 1)) - x7))).f1.f1) ((rd_T64 x6 (wrap64 ((wrap64 ((x6.length : Int) - 1)) - x7))).f1.f2) ((rd_T64 x6 (wrap64 ((wrap64 ((x6.length : Int) - 1)) - x7))).f2))) else (none)) else (none)) else (none)) else ((ententeref07_Same.f k x662000 x662001 x663000 x663001).bind fun t689 => (if t689 = true then (ententelaw07_LedgerBack.l1 k x4 0 x662000 x662001) else (some false)))
def ententelaw07_LedgerBack.j1 : Nat → List (S51) → List (S64) → Int → List (S51) → List (S64) → List (S51) → List (S64) → ByteArray → Int → ByteArray → Int → Int → Option (Bool)
 | 0, _, _, _, _, _, _, _, _, _, _, _, _ => none
 | k + 1, x4, x6, x7, x662000, x662001, x663000, x663001, x673000, x673001, x673002, x673003, x673004 => if x673004 = 1 then ((ledger_Undo.f k x663000 x663001 x673000).bind fun bt681 => (if bt681.2.2 = 0 then (ententelaw07_LedgerBack.l0 k x4 x6 (wrap64 (x7 + 1)) x662000 x662001 bt681.1 bt681.2.1) else (some false))) else (ententelaw07_LedgerBack.l0 k x4 x6 (wrap64 (x7 + 1)) x662000 x662001 x663000 x663001)
def ententelaw07_LedgerBack.l1 : Nat → List (S51) → Int → List (S51) → List (S64) → Option (Bool)
 | 0, _, _, _, _ => none
 | k + 1, x4, x14, x662000, x662001 => if x14 < (x4.length : Int) then (if 0 ≤ x14 then ((ledger_Find.f k x662000 x662001 ((rd_T51 x4 x14).f0)).bind fun bt692 => ((ledger_Net.f k x662000 x662001 ((rd_T51 x4 x14).f0) (⟨#[]⟩ : ByteArray)).bind fun bt702 => (if bt692.2.2.2.2.2.2.2 = true then (if bt702.2.2 = 0 then (if (!(bt692.2.1 == (wrap64 (((rd_T51 x4 x14).f1.f0) + bt702.1))) || (!(bt692.2.2.1 == 0) || (!(bt692.2.2.2.1 == 0)))) = true then (some false) else (if (!(bt692.2.2.2.2.1 == bt702.2.1) || (!(bt692.2.2.2.2.2.1 == 0) || (!(bt692.2.2.2.2.2.2.1 == 0)))) = true then (some false) else (ententelaw07_LedgerBack.l1 k x4 (wrap64 (x14 + 1)) x662000 x662001))) else (some false)) else (some false)))) else (none)) else ((ententelaw07_awake.f k).bind fun t690 => (some t690))
end
def ententelaw07_LedgerBack.f (k : Nat) (l0 : List (S29)) : Option (Bool) := (ententelaw07_few.f k l0).bind fun t650 => (if t650 = true then ((ententelaw07_opened.f k l0).bind fun bt652 => ((some (([] : List (S64)) : List (S64))).bind fun y663 => (if y663.length + bt652.2.1.length < 2513169434916 then (ententelaw07_LedgerBack.l0 k bt652.2.2 (y663 ++ bt652.2.1) 0 bt652.1 bt652.2.1 bt652.1 bt652.2.1) else (none)))) else ((ententelaw07_awake.f k).bind fun t651 => (some t651)))
def ententelaw07_LedgerBack.T9 : Bool × List (List Nat × List Nat) := (true, [([], []), ([], []), ([0, 1], [0, 1]), ([2], [2]), ([], []), ([], []), ([5], [5]), ([6], [6]), ([], []), ([7, 8], [7, 8]), ([4, 9], [4, 9]), ([10], [10]), ([], []), ([], []), ([12, 3, 0, 1, 2, 3, 12, 13], [3, 12]), ([13, 11, 14, 0, 1, 2, 3, 4, 5, 6, 7, 8, 9, 10, 11, 12, 13, 14], [11, 13])])
def ententelaw07_LedgerBack.B9 : List Nat := [0, 0, 3, 7, 0, 0, 32, 96, 0, 480, 1008, 2032, 0, 0, 12303, 32767]
theorem ententelaw07_LedgerBack.tab9 : rtab .any (opsOf Try.f7 9) = ententelaw07_LedgerBack.T9 := by kernel_rfl
theorem ententelaw07_LedgerBack.bits9 : waitsOk ententelaw07_LedgerBack.T9.2 ententelaw07_LedgerBack.B9 = true := by kernel_rfl
def ententelaw07_LedgerBack.T25 : Bool × List (List Nat × List Nat) := (true, [([], []), ([], []), ([], []), ([1, 2], [1, 2]), ([3], [3]), ([4], [4]), ([0, 5], [0, 5]), ([6], [6]), ([7], [7]), ([7], [7]), ([], []), ([10, 8, 6, 0, 1, 2, 3, 4, 5, 6, 7, 8, 10], [8, 10]), ([9, 11, 0, 1, 2, 3, 4, 5, 6, 7, 8, 9, 10, 11], [9])])
def ententelaw07_LedgerBack.B25 : List Nat := [0, 0, 0, 6, 14, 30, 63, 127, 255, 255, 0, 1535, 4095]
theorem ententelaw07_LedgerBack.tab25 : rtab .any (opsOf Try.f7 25) = ententelaw07_LedgerBack.T25 := by kernel_rfl
theorem ententelaw07_LedgerBack.bits25 : waitsOk ententelaw07_LedgerBack.T25.2 ententelaw07_LedgerBack.B25 = true := by kernel_rfl
def ententelaw07_LedgerBack.T26 : Bool × List (List Nat × List Nat) := (true, [([], []), ([], []), ([], []), ([1, 2], [1, 2]), ([3], [3]), ([4], [4]), ([0, 5], [0, 5]), ([6], [6]), ([7], [7]), ([7], [7]), ([7], [7]), ([8, 6, 0, 1, 2, 3, 4, 5, 6, 7, 8], [8]), ([9, 11, 0, 1, 2, 3, 4, 5, 6, 7, 8, 9, 11], [9]), ([10, 12, 0, 1, 2, 3, 4, 5, 6, 7, 8, 9, 10, 11, 12], [10])])
def ententelaw07_LedgerBack.B26 : List Nat := [0, 0, 0, 6, 14, 30, 63, 127, 255, 255, 255, 511, 3071, 8191]
theorem ententelaw07_LedgerBack.tab26 : rtab .any (opsOf Try.f7 26) = ententelaw07_LedgerBack.T26 := by kernel_rfl
theorem ententelaw07_LedgerBack.bits26 : waitsOk ententelaw07_LedgerBack.T26.2 ententelaw07_LedgerBack.B26 = true := by kernel_rfl
def ententelaw07_LedgerBack.T27 : Bool × List (List Nat × List Nat) := (true, [([], []), ([0], [0]), ([1], [1]), ([2], [2]), ([3, 2], [2, 3]), ([2, 4], [2, 4]), ([5, 2], [5]), ([6], [6]), ([7, 6], [6, 7]), ([6], [6]), ([6], [6]), ([9, 10, 6], [6, 9, 10]), ([11, 6], [6, 11]), ([12, 6], [6, 12]), ([13, 6], [6, 13]), ([6], [6]), ([14, 15, 6], [6, 14, 15]), ([16, 6], [6, 16]), ([8, 17, 6], [6, 8, 17]), ([6, 18], [6, 18]), ([19, 6], [19]), ([20], [20]), ([21, 20], [20, 21]), ([20], [20]), ([23, 20], [20, 23]), ([22, 24, 20], [20, 22, 24]), ([20, 25], [20, 25])])
def ententelaw07_LedgerBack.B27 : List Nat := [0, 1, 3, 7, 15, 31, 63, 127, 255, 127, 127, 1663, 3711, 7807, 15999, 127, 65151, 130687, 262143, 524287, 1048575, 2097151, 4194303, 2097151, 10485759, 33554431, 67108863]
theorem ententelaw07_LedgerBack.tab27 : rtab .any (opsOf Try.f7 27) = ententelaw07_LedgerBack.T27 := by kernel_rfl
theorem ententelaw07_LedgerBack.bits27 : waitsOk ententelaw07_LedgerBack.T27.2 ententelaw07_LedgerBack.B27 = true := by kernel_rfl
theorem ententelaw07_LedgerBack.calls (k : Nat) (A0 : Option Addr) (c0 : Nat) (l0 : List (S29)) (r : Bool) (w : World) (hr0 : Kd.C k29 w A0 l0.length l0) (hc0 : l0.length ≤ c0) (ht : r = true) (h : ententelaw07_LedgerBack.f k l0 = some r) :
  Calls Try.prog 7 #[.slice A0 l0.length c0] w fun e w' => e = .returned (.bool r) ∧ Below w.heap.size w w' := by
 have hu25 := Try.underlying25
 have hu64 := Try.underlying64
 have hu51 := Try.underlying51
 have hu49 := Try.underlying49
 have HR0 := My.am hr0
 have HC0 := My.am hc0
 clear hr0 hc0
 have HB := My.am (Below.refl w.heap.size w)
 have HT := My.am ht
 clear ht
 unfold ententelaw07_LedgerBack.f at h
 have H := h
 clear h
 replace H := Option.bind_eq_some_iff.mp H
 obtain ⟨t650, A20, H⟩ := H
 try dsimp only at H
 have A2 := My.am A20
 clear A20
 by_cases c3 : t650 = true
 ·subst c3
  rw [if_pos rfl] at H
  replace H := Option.bind_eq_some_iff.mp H
  obtain ⟨⟨t652, t655, t658⟩, A40, H⟩ := H
  try dsimp only at H
  have A4 := My.am A40
  clear A40
  obtain ⟨y663, hy663⟩ : ∃ y_ : List (S64), y_ = (([] : List (S64))) := ⟨_, rfl⟩
  replace H : (if y663.length + t655.length < 2513169434916 then (ententelaw07_LedgerBack.l0 k t658 (y663 ++ t655) 0 t652 t655 t652 t655) else (none)) = some r := by first | (rw [hy663]; with_reducible exact H) | (have H2_ := (Option.bind_some _ _).symm.trans H; rw [hy663]; with_reducible exact H2_) | (have H2_ := (Option.bind_some _ _).symm.trans H; with_reducible exact H2_) | with_reducible exact H | (rw [hy663]; exact H) | exact H
  have Ny663 := My.am hy663
  clear hy663
  by_cases c5 : y663.length + t655.length < 2513169434916
  ·rw [if_pos c5] at H
   have LMc5 := My.am c5
   clear c5
   obtain ⟨y666, hy666⟩ : ∃ y_ : List (S64), y_ = (y663 ++ t655) := ⟨_, rfl⟩
   replace H : (ententelaw07_LedgerBack.l0 k t658 y666 0 t652 t655 t652 t655) = some r := by first | (rw [hy666]; with_reducible exact H) | (have H2_ := (Option.bind_some _ _).symm.trans H; rw [hy666]; with_reducible exact H2_) | (have H2_ := (Option.bind_some _ _).symm.trans H; with_reducible exact H2_) | with_reducible exact H | (rw [hy666]; exact H) | exact H
   have Ny666 := My.am hy666
   clear hy666
   have H' := My.am H
   clear H
   go_enter Try.func7, Try.ntmps7
   go_wp2_with (first | ((with_reducible refine gate_callee (f := 18) rfl ?_); refine goesL_ (some 21) rfl rfl Try.func18 (by kernel_rfl) rfl #[.slice A0 l0.length c0] rfl My.gx ?_; (with_reducible refine (ententelaw07_few.calls k _ _ l0 true _ ?side1 ?side2 A2.out).mono ?_); (case side1 => repeat (first | exact HR0.out | (with_reducible refine Kd.C_alloc ?_ _) | (with_reducible refine Kd.C_drewN ?_ _) | (with_reducible refine Kd.C_drew ?_))); (case side2 => exact HC0.out); rintro e w' ⟨rfl, ⟨nd, rfl⟩⟩; refine ⟨_, rfl, ?_⟩) | ((with_reducible refine gate_callee (f := 28) rfl ?_); refine goesL_ (some 26) rfl rfl Try.func28 (by kernel_rfl) rfl #[.slice A0 l0.length c0] rfl My.gx ?_; (with_reducible refine (ententelaw07_opened.calls k _ _ l0 t652 t655 t658 _ ?side1 ?side2 A4.out).mono ?_); (case side1 => repeat (first | exact HR0.out | (with_reducible refine Kd.C_alloc ?_ _) | (with_reducible refine Kd.C_drewN ?_ _) | (with_reducible refine Kd.C_drew ?_))); (case side2 => exact HC0.out); rintro e w6 ⟨v653, v656, v659, rfl, ho0, ho1, ho2, hb⟩; refine ⟨_, rfl, ?_⟩; have HO654 := My.am (Kd.V_lower (Kd.V_mono (ok' := fun k_ => some k_ ≠ (v659 : Value).ownBlock) ho0 (fun k_ hk_ => hk_.2)) (below_size (My.bl_ HB))); have HO657 := My.am (Kd.V_lower (Kd.V_mono (ok' := fun k_ => some k_ ≠ (v659 : Value).ownBlock) ho1 (fun k_ hk_ => hk_.2)) (below_size (My.bl_ HB))); have HO660 := My.am (Kd.R_lower (Kd.R_mono (ok' := fun k_ => True) ho2 (fun _ hk_ => trivial)) (below_size (My.bl_ HB))); replace HB := My.st HB hb; (try clear hb); (try clear ho0); (try clear ho1); (try clear ho2)) | ((with_reducible refine gate_dst (N := 3) rfl ?_); refine My.bx 3 #[.slice none 0 0, .slice none 0 0] 25 ?_; intro gb661 hg w7 hbox hb; replace HO654 := My.am (Kd.V_below (Kd.V_elderB (My.dV HO654.out) gb661 (Nat.le_of_eq hg.symm)) hb); replace HO657 := My.am (Kd.V_below (Kd.V_elderB (My.dV HO657.out) gb661 (Nat.le_of_eq hg.symm)) hb); replace HO660 := My.am (Kd.R_below (My.dr HO660.out) hb); have BK661 := My.am (hbox); have GE661 := My.nge hg (My.bl_ HB); replace HB := My.st HB hb; clear hb hbox hg; obtain ⟨Ao8, co8, eo8⟩ := Kd.V_slice HO654.out; subst eo8; have hq9 := My.cz2 BK661; obtain ⟨Ao10, co10, eo10⟩ := Kd.V_slice HO657.out; subst eo10) | ((with_reducible refine gate_dst (N := 5) rfl ?_); refine My.bx 5 #[.slice none 0 0, .slice none 0 0] 25 ?_; intro gb662 hg w11 hbox hb; replace HO654 := My.am (Kd.V_below (Kd.V_elderB (My.dV (Kd.V_mono (Kd.V_far (p := ⟨gb661, 1, none⟩) (Kd.V_far (p := ⟨gb661, 0, none⟩) (Kd.V_mono HO654.out (fun k_ hk => (⟨hk, hk.2⟩ : _ ∧ k_ ≠ gb661))) (fun _ hk => hk.2) (.slice Ao8 t652.length co8)) (fun _ hk => hk.2) (.slice Ao10 t655.length co10)) (fun _ h_ => h_.1))) gb662 (Nat.le_of_eq hg.symm)) hb); replace HO657 := My.am (Kd.V_below (Kd.V_elderB (My.dV (Kd.V_mono (Kd.V_far (p := ⟨gb661, 1, none⟩) (Kd.V_far (p := ⟨gb661, 0, none⟩) (Kd.V_mono HO657.out (fun k_ hk => (⟨hk, hk.2⟩ : _ ∧ k_ ≠ gb661))) (fun _ hk => hk.2) (.slice Ao8 t652.length co8)) (fun _ hk => hk.2) (.slice Ao10 t655.length co10)) (fun _ h_ => h_.1))) gb662 (Nat.le_of_eq hg.symm)) hb); replace HO660 := My.am (Kd.R_below (My.dR (My.rf2 gb661 (.slice Ao8 t652.length co8) (.slice Ao10 t655.length co10) (Kd.R_types HO660.out BK661.out (by decide)))) hb); have BK662 := My.am (hbox); have GE662 := My.nge hg (My.bl_ HB); replace HB := My.st HB hb; have NB661_662 := My.am ((by rw [hg]; exact Nat.ne_of_lt (blk_lt (g := gb661) (o := .cells #[.slice Ao8 t652.length co8, .slice Ao10 t655.length co10] 25 (0, 0)) ((My.sv_ BK661))) : gb661 ≠ gb662)); have NB662_661 := My.am ((by rw [hg]; exact Nat.ne_of_gt (blk_lt (g := gb661) (o := .cells #[.slice Ao8 t652.length co8, .slice Ao10 t655.length co10] 25 (0, 0)) ((My.sv_ BK661))) : gb662 ≠ gb661)); replace BK661 := My.am (blk_below (g := gb661) (o := .cells #[.slice Ao8 t652.length co8, .slice Ao10 t655.length co10] 25 (0, 0)) ((My.sv_ BK661)) hb); clear hb hbox hg; have hnb12 := NB662_661.out; have hnc12 := NB661_662.out; have hq13 := My.cz2 BK662) | ((with_reducible refine gate_dst (N := 30) rfl ?_); refine Kd.R_lit k64 _ 64 ?hg (N := 30) ?hd (xs := ([] : List (S64))) (inner := []) (ok := fun _ => True) (okp := fun _ => True) ?hr ?hp (fun _ hk => hk) trivial (Below.refl _ _) (Nat.le_refl _) (by simp) ?_; (case hd => rfl); (case hg => rfl); (case hr => first | (go_simp; done) | (go_simp; rfl)); (case hp => exact (Reps.none _ _)); intro v664 w14 ho15 hb hg_ hnew_; clear hg_ hnew_; (first | rw [← Ny663.out] at ho15 | (simp only [Int.reduceToNat] at ho15; rw [← Ny663.out] at ho15)); replace HO654 := My.am (Kd.V_elder' (My.dV (Kd.V_mono (Kd.V_far (p := ⟨gb662, 1, none⟩) (Kd.V_far (p := ⟨gb662, 0, none⟩) (Kd.V_mono HO654.out (fun k_ hk => (⟨hk, hk.2⟩ : _ ∧ k_ ≠ gb662))) (fun _ hk => hk.2) (.slice Ao8 t652.length co8)) (fun _ hk => hk.2) (.slice Ao10 t655.length co10)) (fun _ h_ => h_.1))) (Kd.R_base ho15) hb); replace HO657 := My.am (Kd.V_elder' (My.dV (Kd.V_mono (Kd.V_far (p := ⟨gb662, 1, none⟩) (Kd.V_far (p := ⟨gb662, 0, none⟩) (Kd.V_mono HO657.out (fun k_ hk => (⟨hk, hk.2⟩ : _ ∧ k_ ≠ gb662))) (fun _ hk => hk.2) (.slice Ao8 t652.length co8)) (fun _ hk => hk.2) (.slice Ao10 t655.length co10)) (fun _ h_ => h_.1))) (Kd.R_base ho15) hb); replace HO660 := My.am (Kd.R_below (My.dR (My.rf2 gb662 (.slice Ao8 t652.length co8) (.slice Ao10 t655.length co10) (Kd.R_types HO660.out BK662.out (by decide)))) hb); have HO665 := My.am (Kd.R_lower ho15 (below_size (My.bl_ HB))); replace BK661 := My.am (blk_below (g := gb661) (o := .cells #[.slice Ao8 t652.length co8, .slice Ao10 t655.length co10] 25 (0, 0)) ((My.sv_ BK661)) hb); replace BK662 := My.am (blk_below (g := gb662) (o := .cells #[.slice Ao8 t652.length co8, .slice Ao10 t655.length co10] 25 (0, 0)) ((My.sv_ BK662)) hb); replace HB := My.st HB hb; clear hb ho15; have hq16 := My.cz2 BK661) | ((with_reducible refine gate_builtin (b := .append) (xs := #[.tmp 30, .tmp 32]) rfl ?_); at_builtin; refine Kd.R_append_rows k64 (w0 := w) w.heap.size rfl (.tmp 30) (.tmp 32) 23 64 (.agg #[(.string ⟨#[]⟩), (.int .i64 0), (.string ⟨#[]⟩), (.int .i64 0), (.int .i64 0)]) 56 rfl Try.underlying23 info64 rfl (by decide) (by omega) v664 y663 t655 _ _ _ (fun _ => True) (fun _ => False) rfl rfl ?aO ?aR (fun _ _ h => h) (fun _ h => h.elim) ?aF ?aB ?aS ?aL ?_; (case aR => repeat (first | exact (Kd.V_reads' HO657.out).2.2 | (with_reducible refine Kd.C_alloc ?_ _) | (with_reducible refine Kd.C_drewN ?_ _) | (with_reducible refine Kd.C_drew ?_))); (case aB => exact (My.bl_ HB)); (case aF => exact (fun _ _ => trivial)); (case aO => exact (My.dr HO665.out)); (case aS => exact (below_size (My.bl_ HB))); (case aL => have := LMc5.out; omega); intro v667 w17 ho hb hg hat; rw [← Ny666.out] at ho; replace HO654 := My.am (Kd.V_afterv (ok := (fun k_ => some k_ ≠ (v659 : Value).ownBlock ∧ k_ ≠ gb661 ∧ k_ ≠ gb662)) (My.dV (Kd.V_mono HO654.out (fun _ hk => ⟨⟨hk.1.1.1, ⟨hk.1.1.2, hk.1.2⟩⟩, hk.2⟩))) hg hat); replace HO657 := My.am (Kd.V_afterv (ok := (fun k_ => some k_ ≠ (v659 : Value).ownBlock ∧ k_ ≠ gb661 ∧ k_ ≠ gb662)) (My.dV (Kd.V_mono HO657.out (fun _ hk => ⟨⟨hk.1.1.1, ⟨hk.1.1.2, hk.1.2⟩⟩, hk.2⟩))) hg hat); replace HO660 := My.am (Kd.R_over' (My.dr HO660.out) (Kd.R_typed (My.dr HO665.out)) (by decide) hg); replace BK661 := My.am (blk_grown (My.at_ BK661) hg (Kd.R_ne HO665.out BK661.out (by decide))); replace BK662 := My.am (blk_grown (My.at_ BK662) hg (Kd.R_ne HO665.out BK662.out (by decide))); replace HB := My.am (hb); have HO668 := My.am (ho); (try clear HO665); clear ho hb hg hat))
   go_loopg [7] k (fun kq v7 w' => ∃ (x7_1 : Int) (x662000_1 : List (S51)) (x662001_1 : List (S64)) (x663000_1 : List (S51)) (x663001_1 : List (S64)) (u662000 : Value) (u662001 : Value) (u663000 : Value) (u663001 : Value), v7 = .int .i64 x7_1 ∧ Aside0 (ententelaw07_LedgerBack.l0 kq t658 y666 x7_1 x662000_1 x662001_1 x663000_1 x663001_1 = some r) ∧ Aside0 (kq ≤ k) ∧ Aside0 (Kd.R k51 51 w' w.heap.size (fun _ => True) v659 t658) ∧ Aside0 (Kd.R k64 64 w' w.heap.size (fun _ => True) v667 y666) ∧ Aside0 (Kd.V k51 51 w' w.heap.size (fun k_ => some k_ ≠ (v659 : Value).ownBlock ∧ some k_ ≠ (v667 : Value).ownBlock ∧ k_ ≠ gb661 ∧ k_ ≠ gb662) u662000 x662000_1) ∧ Aside0 (Kd.V k64 64 w' w.heap.size (fun k_ => some k_ ≠ (v659 : Value).ownBlock ∧ some k_ ≠ (v667 : Value).ownBlock ∧ k_ ≠ gb661 ∧ k_ ≠ gb662) u662001 x662001_1) ∧ Aside0 (Kd.V k51 51 w' w.heap.size (fun k_ => some k_ ≠ (v659 : Value).ownBlock ∧ some k_ ≠ (v667 : Value).ownBlock ∧ k_ ≠ gb661 ∧ k_ ≠ gb662) u663000 x663000_1) ∧ Aside0 (Kd.V k64 64 w' w.heap.size (fun k_ => some k_ ≠ (v659 : Value).ownBlock ∧ some k_ ≠ (v667 : Value).ownBlock ∧ k_ ≠ gb661 ∧ k_ ≠ gb662) u663001 x663001_1) ∧ Aside0 (w'.heap[gb661]? = some (.cells #[u662000, u662001] 25 (0, 0))) ∧ Aside0 (w'.heap[gb662]? = some (.cells #[u663000, u663001] 25 (0, 0))) ∧ Aside0 (Below w.heap.size w w'))
   case atStart => exact ⟨(0), (t652), (t655), (t652), (t655), (.slice Ao8 t652.length co8), (.slice Ao10 t655.length co10), (.slice Ao8 t652.length co8), (.slice Ao10 t655.length co10), My.r1, H', ⟨Nat.le_refl _⟩, ⟨My.dR HO660.out⟩, ⟨My.dR HO668.out⟩, ⟨My.dV (Kd.V_mono HO654.out (fun _ hk => ⟨hk.1.1, ⟨hk.2, ⟨hk.1.2.1, hk.1.2.2⟩⟩⟩))⟩, ⟨My.dV (Kd.V_mono HO657.out (fun _ hk => ⟨hk.1.1, ⟨hk.2, ⟨hk.1.2.1, hk.1.2.2⟩⟩⟩))⟩, ⟨My.dV (Kd.V_mono HO654.out (fun _ hk => ⟨hk.1.1, ⟨hk.2, ⟨hk.1.2.1, hk.1.2.2⟩⟩⟩))⟩, ⟨My.dV (Kd.V_mono HO657.out (fun _ hk => ⟨hk.1.1, ⟨hk.2, ⟨hk.1.2.1, hk.1.2.2⟩⟩⟩))⟩, ⟨(My.at_ BK661)⟩, ⟨(My.at_ BK662)⟩, ⟨(My.bl_ HB)⟩⟩
   case round =>
    clear H'
    try clear c3
    try clear c5
    try clear hq13
    try clear hq16
    try clear hq9
    obtain ⟨x7_1, x662000_1, x662001_1, x663000_1, x663001_1, u662000, u662001, u663000, u663001, rfl, HA, HK1, HO_4, HO_6, HO_662000, HO_662001, HO_663000, HO_663001, BK661, BK662, HB⟩ := hrel
    cases gk with
    | zero => exact absurd HA.out (by simp [ententelaw07_LedgerBack.l0])
    | succ k1 =>
     have H := HA.out
     clear HA
     simp only [ententelaw07_LedgerBack.l0] at H
     by_cases c18 : x7_1 < (y666.length : Int)
     ·rw [if_pos c18] at H
      have c18b0 := decide_eq_true c18
      clear c18
      replace H := My.ds H
      obtain ⟨c19b0, H⟩ := H
      obtain ⟨ji20, hji20⟩ : ∃ j_ : Int, (wrap64 ((wrap64 ((y666.length : Int) - 1)) - x7_1)) = j_ := ⟨_, rfl⟩
      replace H : (if 0 ≤ (ji20) then (if (ji20) < (y666.length : Int) then (if ((rd_T64 y666 x7_1).f2) = 1 then ((ledger_Undo.f k1 x662000_1 x662001_1 ((rd_T64 y666 x7_1).f0)).bind fun bt673 => (if bt673.2.2 = 0 then (ententelaw07_LedgerBack.j1 k1 t658 y666 x7_1 bt673.1 bt673.2.1 x663000_1 x663001_1 ((rd_T64 y666 (ji20)).f0) ((rd_T64 y666 (ji20)).f1.f0) ((rd_T64 y666 (ji20)).f1.f1) ((rd_T64 y666 (ji20)).f1.f2) ((rd_T64 y666 (ji20)).f2)) else (some false))) else (ententelaw07_LedgerBack.j1 k1 t658 y666 x7_1 x662000_1 x662001_1 x663000_1 x663001_1 ((rd_T64 y666 (ji20)).f0) ((rd_T64 y666 (ji20)).f1.f0) ((rd_T64 y666 (ji20)).f1.f1) ((rd_T64 y666 (ji20)).f1.f2) ((rd_T64 y666 (ji20)).f2))) else (none)) else (none)) = some r := by first | (rw [hji20] at H; exact H) | (simp only [hji20] at H ⊢; exact H)
      have hji20w : (IntKind.i64.wrap ((wrap64 ((y666.length : Int) - 1)) - x7_1)) = ji20 := (i64_w _).trans hji20
      replace H := My.ds H
      obtain ⟨c21b0, H⟩ := H
      replace H := My.ds H
      obtain ⟨c22b0, H⟩ := H
      have HC23 := My.am H
      clear H
      obtain ⟨Ao24, co24, eo24⟩ := Kd.R_slice HO_6.out
      subst eo24
      try go_wp2
      replace HO_4 := My.am (Kd.R_drew HO_4.out)
      replace HO_6 := My.am (Kd.R_drew HO_6.out)
      replace HO_662000 := My.am (Kd.V_drew HO_662000.out)
      replace HO_662001 := My.am (Kd.V_drew HO_662001.out)
      replace HO_663000 := My.am (Kd.V_drew HO_663000.out)
      replace HO_663001 := My.am (Kd.V_drew HO_663001.out)
      replace BK661 := My.am (blk_drew BK661.out)
      replace BK662 := My.am (blk_drew BK662.out)
      replace HB := My.am (below_drew1 HB.out)
      have p669 : 0 ≤ (x7_1 : Int) := My.as_
      have q669 : x7_1 < (y666.length : Int) := My.as_
      obtain ⟨ad669, e669, hx669_0, hx669_1, hx669_2, hx669_3, hx669_4⟩ := at_T64 (Kd.R_reads' HO_6.out).2.2 x7_1 p669 q669
      cases e669
      replace p669 := eq_true p669
      replace q669 := eq_true q669
      have p670 : 0 ≤ ((ji20) : Int) := My.as_
      have q670 : (ji20) < (y666.length : Int) := My.as_
      obtain ⟨ad670, e670, hx670_0, hx670_1, hx670_2, hx670_3, hx670_4⟩ := at_T64 (Kd.R_reads' HO_6.out).2.2 (ji20) p670 q670
      obtain rfl : ad669 = ad670 := (by injection e670)
      replace p670 := eq_true p670
      replace q670 := eq_true q670
      refine start_ (n := 16) (S := fun w' => w'.cell? (ad669.add ((x7_1).toNat * 5)) = some (.string ((rd_T64 y666 x7_1).f0)) ∧ w'.cell? ⟨(ad669.add ((x7_1).toNat * 5)).block, (ad669.add ((x7_1).toNat * 5)).off + 1, none⟩ = some (.int .i64 ((rd_T64 y666 x7_1).f1.f0)) ∧ w'.cell? ⟨(ad669.add ((x7_1).toNat * 5)).block, (ad669.add ((x7_1).toNat * 5)).off + 2, none⟩ = some (.string ((rd_T64 y666 x7_1).f1.f1)) ∧ w'.cell? ⟨(ad669.add ((x7_1).toNat * 5)).block, (ad669.add ((x7_1).toNat * 5)).off + 3, none⟩ = some (.int .i64 ((rd_T64 y666 x7_1).f1.f2)) ∧ w'.cell? ⟨(ad669.add ((x7_1).toNat * 5)).block, (ad669.add ((x7_1).toNat * 5)).off + 4, none⟩ = some (.int .i64 ((rd_T64 y666 x7_1).f2)) ∧ w'.cell? (ad669.add (((ji20)).toNat * 5)) = some (.string ((rd_T64 y666 (ji20)).f0)) ∧ w'.cell? ⟨(ad669.add (((ji20)).toNat * 5)).block, (ad669.add (((ji20)).toNat * 5)).off + 1, none⟩ = some (.int .i64 ((rd_T64 y666 (ji20)).f1.f0)) ∧ w'.cell? ⟨(ad669.add (((ji20)).toNat * 5)).block, (ad669.add (((ji20)).toNat * 5)).off + 2, none⟩ = some (.string ((rd_T64 y666 (ji20)).f1.f1)) ∧ w'.cell? ⟨(ad669.add (((ji20)).toNat * 5)).block, (ad669.add (((ji20)).toNat * 5)).off + 3, none⟩ = some (.int .i64 ((rd_T64 y666 (ji20)).f1.f2)) ∧ w'.cell? ⟨(ad669.add (((ji20)).toNat * 5)).block, (ad669.add (((ji20)).toNat * 5)).off + 4, none⟩ = some (.int .i64 ((rd_T64 y666 (ji20)).f2))) (ds := []) #[false, false, false, false, false, false, false, false, false, false, false, false, false, false, false, false] (by kernel_rfl) rfl rfl ⟨hx669_0, hx669_1, hx669_2, hx669_3, hx669_4, hx670_0, hx670_1, hx670_2, hx670_3, hx670_4⟩ (fun hHeld => ?_); refine with_tabW ententelaw07_LedgerBack.tab9 ententelaw07_LedgerBack.bits9 (fun HT_ HW_ => ?_)
      generalize wr.drew = w25 at HO_4 HO_6 HO_662000 HO_662001 HO_663000 HO_663001 BK661 BK662 HB hx669_0 hx669_1 hx669_2 hx669_3 hx669_4 hx670_0 hx670_1 hx670_2 hx670_3 hx670_4 hHeld ⊢
      refine My.pu_ 0 40 16 HT_.out ?_
      refine My.pu_ 1 41 16 HT_.out ?_
      refine My.pu_ 2 42 16 HT_.out ?_
      refine My.pv_ 4 44 16 23 HT_.out ?_
      refine My.pv_ 5 45 16 55 HT_.out ?_
      refine My.pv_ 6 46 16 119 HT_.out ?_
      refine My.pv_ 7 47 16 247 HT_.out ?_
      refine My.pv_ 8 48 16 503 HT_.out ?_
      refine My.pv_ 9 49 16 1015 HT_.out ?_
      refine My.pv_ 10 50 16 2039 HT_.out ?_
      refine My.tv_ 3 43 16 2047 HT_.out HW_.out hHeld rfl rfl (by rintro w' ⟨s0, s1, s2, s3, s4, s5, s6, s7, s8, s9⟩; go_simp; with_reducible rfl) ?_
      refine My.ta_ 11 51 16 HT_.out HW_.out hHeld rfl rfl (by rintro w' ⟨s0, s1, s2, s3, s4, s5, s6, s7, s8, s9⟩; go_simp; with_reducible rfl) ?_
      refine join_ (σ := Nat × Nat) 2 (My.Mb 16 16383) (fun s_ => [(8, .pointer (some ⟨s_.1, 0, none⟩)), (9, .pointer (some ⟨s_.2, 0, none⟩))]) (fun s_ w' => (w'.cell? (ad669.add ((x7_1).toNat * 5)) = some (.string ((rd_T64 y666 x7_1).f0)) ∧ w'.cell? ⟨(ad669.add ((x7_1).toNat * 5)).block, (ad669.add ((x7_1).toNat * 5)).off + 1, none⟩ = some (.int .i64 ((rd_T64 y666 x7_1).f1.f0)) ∧ w'.cell? ⟨(ad669.add ((x7_1).toNat * 5)).block, (ad669.add ((x7_1).toNat * 5)).off + 2, none⟩ = some (.string ((rd_T64 y666 x7_1).f1.f1)) ∧ w'.cell? ⟨(ad669.add ((x7_1).toNat * 5)).block, (ad669.add ((x7_1).toNat * 5)).off + 3, none⟩ = some (.int .i64 ((rd_T64 y666 x7_1).f1.f2)) ∧ w'.cell? ⟨(ad669.add ((x7_1).toNat * 5)).block, (ad669.add ((x7_1).toNat * 5)).off + 4, none⟩ = some (.int .i64 ((rd_T64 y666 x7_1).f2)) ∧ w'.cell? (ad669.add (((ji20)).toNat * 5)) = some (.string ((rd_T64 y666 (ji20)).f0)) ∧ w'.cell? ⟨(ad669.add (((ji20)).toNat * 5)).block, (ad669.add (((ji20)).toNat * 5)).off + 1, none⟩ = some (.int .i64 ((rd_T64 y666 (ji20)).f1.f0)) ∧ w'.cell? ⟨(ad669.add (((ji20)).toNat * 5)).block, (ad669.add (((ji20)).toNat * 5)).off + 2, none⟩ = some (.string ((rd_T64 y666 (ji20)).f1.f1)) ∧ w'.cell? ⟨(ad669.add (((ji20)).toNat * 5)).block, (ad669.add (((ji20)).toNat * 5)).off + 3, none⟩ = some (.int .i64 ((rd_T64 y666 (ji20)).f1.f2)) ∧ w'.cell? ⟨(ad669.add (((ji20)).toNat * 5)).block, (ad669.add (((ji20)).toNat * 5)).off + 4, none⟩ = some (.int .i64 ((rd_T64 y666 (ji20)).f2))) ∧ (Kd.R k51 51 w' w.heap.size (fun _ => True) v659 t658) ∧ (Kd.R k64 64 w' w.heap.size (fun k_ => k_ ≠ s_.1 ∧ k_ ≠ s_.2) (.slice (some ad669) y666.length co24) y666) ∧ (Kd.V k51 51 w' w.heap.size (fun k_ => some k_ ≠ (v659 : Value).ownBlock ∧ some k_ ≠ (.slice (some ad669) y666.length co24 : Value).ownBlock ∧ k_ ≠ gb661 ∧ k_ ≠ gb662 ∧ k_ ≠ s_.1 ∧ k_ ≠ s_.2) u662000 x662000_1) ∧ (Kd.V k64 64 w' w.heap.size (fun k_ => some k_ ≠ (v659 : Value).ownBlock ∧ some k_ ≠ (.slice (some ad669) y666.length co24 : Value).ownBlock ∧ k_ ≠ gb661 ∧ k_ ≠ gb662 ∧ k_ ≠ s_.1 ∧ k_ ≠ s_.2) u662001 x662001_1) ∧ (Kd.V k51 51 w' w.heap.size (fun k_ => some k_ ≠ (v659 : Value).ownBlock ∧ some k_ ≠ (.slice (some ad669) y666.length co24 : Value).ownBlock ∧ k_ ≠ gb661 ∧ k_ ≠ gb662 ∧ k_ ≠ s_.1 ∧ k_ ≠ s_.2) u663000 x663000_1) ∧ (Kd.V k64 64 w' w.heap.size (fun k_ => some k_ ≠ (v659 : Value).ownBlock ∧ some k_ ≠ (.slice (some ad669) y666.length co24 : Value).ownBlock ∧ k_ ≠ gb661 ∧ k_ ≠ gb662 ∧ k_ ≠ s_.1 ∧ k_ ≠ s_.2) u663001 x663001_1) ∧ (w'.heap[gb661]? = some (.cells #[u662000, u662001] 25 (0, 0))) ∧ (w'.heap[gb662]? = some (.cells #[u663000, u663001] 25 (0, 0))) ∧ (w'.heap[s_.1]? = some (.cells #[.string (⟨#[]⟩ : ByteArray), .int .i64 0, .string (⟨#[]⟩ : ByteArray), .int .i64 0, .int .i64 0] 64 (0, 0))) ∧ (w'.heap[s_.2]? = some (.cells #[.string (⟨#[]⟩ : ByteArray), .int .i64 0, .string (⟨#[]⟩ : ByteArray), .int .i64 0, .int .i64 0] 64 (0, 0))) ∧ (w.heap.size ≤ s_.1) ∧ (w.heap.size ≤ s_.1) ∧ (gb661 ≠ s_.1) ∧ (s_.1 ≠ gb661) ∧ (gb662 ≠ s_.1) ∧ (s_.1 ≠ gb662) ∧ (s_.2 ≠ s_.1) ∧ (s_.1 ≠ s_.2) ∧ (w.heap.size ≤ s_.2) ∧ (w.heap.size ≤ s_.2) ∧ (gb661 ≠ s_.2) ∧ (s_.2 ≠ gb661) ∧ (gb662 ≠ s_.2) ∧ (s_.2 ≠ gb662) ∧ (Below w.heap.size w w')) ?_ ?_
      rotate_left
      ·intro hCont
       refine two_ (i := 12) (j := 13) (Ni := some 8) (Nj := some 9) (My.Mb 16 8191) (My.Mb 16 12287) rfl rfl rfl rfl (two_of HT_.out (by kernel_rfl)) (by decide) (by decide) (fun K hK => ?_) (fun K hK => ?_)
       ·skip
        refine box_step ?hg (N := 8) ?hd (cs := #[.string (⟨#[]⟩ : ByteArray), .int .i64 0, .string (⟨#[]⟩ : ByteArray), .int .i64 0, .int .i64 0]) (t := 64) ?hr ?_; (case hd => rfl); (case hg => rfl); (case hr => first | (go_simp; done) | (go_simp; rfl))
        intro gb671 hg w26 hbox hb
        have HS0_ := (hb.cell (World.block_lt_of_cell? _ _ (hHeld.1))).trans (hHeld.1)
        have HS1_ := (hb.cell (World.block_lt_of_cell? _ _ (hHeld.2.1))).trans (hHeld.2.1)
        have HS2_ := (hb.cell (World.block_lt_of_cell? _ _ (hHeld.2.2.1))).trans (hHeld.2.2.1)
        have HS3_ := (hb.cell (World.block_lt_of_cell? _ _ (hHeld.2.2.2.1))).trans (hHeld.2.2.2.1)
        have HS4_ := (hb.cell (World.block_lt_of_cell? _ _ (hHeld.2.2.2.2.1))).trans (hHeld.2.2.2.2.1)
        have HS5_ := (hb.cell (World.block_lt_of_cell? _ _ (hHeld.2.2.2.2.2.1))).trans (hHeld.2.2.2.2.2.1)
        have HS6_ := (hb.cell (World.block_lt_of_cell? _ _ (hHeld.2.2.2.2.2.2.1))).trans (hHeld.2.2.2.2.2.2.1)
        have HS7_ := (hb.cell (World.block_lt_of_cell? _ _ (hHeld.2.2.2.2.2.2.2.1))).trans (hHeld.2.2.2.2.2.2.2.1)
        have HS8_ := (hb.cell (World.block_lt_of_cell? _ _ (hHeld.2.2.2.2.2.2.2.2.1))).trans (hHeld.2.2.2.2.2.2.2.2.1)
        have HS9_ := (hb.cell (World.block_lt_of_cell? _ _ (hHeld.2.2.2.2.2.2.2.2.2))).trans (hHeld.2.2.2.2.2.2.2.2.2)
        replace HO_4 := My.am (Kd.R_below (My.dr HO_4.out) hb)
        replace HO_6 := My.am (Kd.R_below (Kd.R_elderB (My.dr HO_6.out) gb671 (Nat.le_of_eq hg.symm)) hb)
        replace HO_662000 := My.am (Kd.V_below (Kd.V_elderB (My.dV HO_662000.out) gb671 (Nat.le_of_eq hg.symm)) hb)
        replace HO_662001 := My.am (Kd.V_below (Kd.V_elderB (My.dV HO_662001.out) gb671 (Nat.le_of_eq hg.symm)) hb)
        replace HO_663000 := My.am (Kd.V_below (Kd.V_elderB (My.dV HO_663000.out) gb671 (Nat.le_of_eq hg.symm)) hb)
        replace HO_663001 := My.am (Kd.V_below (Kd.V_elderB (My.dV HO_663001.out) gb671 (Nat.le_of_eq hg.symm)) hb)
        have BK671 := My.am (hbox)
        have GW671 := My.nge hg (My.bl_ HB)
        have GE671 := My.nge hg (My.bl_ HB)
        replace HB := My.st HB hb
        obtain ⟨NB661_671, NB671_661, BK661⟩ := My.nb hg hb BK661
        obtain ⟨NB662_671, NB671_662, BK662⟩ := My.nb hg hb BK662
        clear hb hbox hg
        refine hK.out _ _ ⟨HS0_, HS1_, HS2_, HS3_, HS4_, HS5_, HS6_, HS7_, HS8_, HS9_⟩ (fun hHeld => ?_)
        clear hK K
        refine My.nm 8 ?_
        refine one_ (i := 13) (N := some 9) (My.Mb 16 16383) rfl rfl (one_of HT_.out (by kernel_rfl)) (by decide) (fun K hK => ?_)
        refine box_step ?hg (N := 9) ?hd (cs := #[.string (⟨#[]⟩ : ByteArray), .int .i64 0, .string (⟨#[]⟩ : ByteArray), .int .i64 0, .int .i64 0]) (t := 64) ?hr ?_; (case hd => rfl); (case hg => rfl); (case hr => first | (go_simp; done) | (go_simp; rfl))
        intro gb672 hg w27 hbox hb
        have HS0_ := (hb.cell (World.block_lt_of_cell? _ _ (hHeld.1))).trans (hHeld.1)
        have HS1_ := (hb.cell (World.block_lt_of_cell? _ _ (hHeld.2.1))).trans (hHeld.2.1)
        have HS2_ := (hb.cell (World.block_lt_of_cell? _ _ (hHeld.2.2.1))).trans (hHeld.2.2.1)
        have HS3_ := (hb.cell (World.block_lt_of_cell? _ _ (hHeld.2.2.2.1))).trans (hHeld.2.2.2.1)
        have HS4_ := (hb.cell (World.block_lt_of_cell? _ _ (hHeld.2.2.2.2.1))).trans (hHeld.2.2.2.2.1)
        have HS5_ := (hb.cell (World.block_lt_of_cell? _ _ (hHeld.2.2.2.2.2.1))).trans (hHeld.2.2.2.2.2.1)
        have HS6_ := (hb.cell (World.block_lt_of_cell? _ _ (hHeld.2.2.2.2.2.2.1))).trans (hHeld.2.2.2.2.2.2.1)
        have HS7_ := (hb.cell (World.block_lt_of_cell? _ _ (hHeld.2.2.2.2.2.2.2.1))).trans (hHeld.2.2.2.2.2.2.2.1)
        have HS8_ := (hb.cell (World.block_lt_of_cell? _ _ (hHeld.2.2.2.2.2.2.2.2.1))).trans (hHeld.2.2.2.2.2.2.2.2.1)
        have HS9_ := (hb.cell (World.block_lt_of_cell? _ _ (hHeld.2.2.2.2.2.2.2.2.2))).trans (hHeld.2.2.2.2.2.2.2.2.2)
        replace HO_4 := My.am (Kd.R_below (My.dr HO_4.out) hb)
        replace HO_6 := My.am (Kd.R_below (Kd.R_elderB (My.dr HO_6.out) gb672 (Nat.le_of_eq hg.symm)) hb)
        replace HO_662000 := My.am (Kd.V_below (Kd.V_elderB (My.dV HO_662000.out) gb672 (Nat.le_of_eq hg.symm)) hb)
        replace HO_662001 := My.am (Kd.V_below (Kd.V_elderB (My.dV HO_662001.out) gb672 (Nat.le_of_eq hg.symm)) hb)
        replace HO_663000 := My.am (Kd.V_below (Kd.V_elderB (My.dV HO_663000.out) gb672 (Nat.le_of_eq hg.symm)) hb)
        replace HO_663001 := My.am (Kd.V_below (Kd.V_elderB (My.dV HO_663001.out) gb672 (Nat.le_of_eq hg.symm)) hb)
        have BK672 := My.am (hbox)
        have GW672 := My.nge hg (My.bl_ HB)
        have GE672 := My.nge hg (My.bl_ HB)
        replace HB := My.st HB hb
        obtain ⟨NB661_672, NB672_661, BK661⟩ := My.nb hg hb BK661
        obtain ⟨NB662_672, NB672_662, BK662⟩ := My.nb hg hb BK662
        obtain ⟨NB671_672, NB672_671, BK671⟩ := My.nb hg hb BK671
        clear hb hbox hg
        refine hK.out _ _ ⟨HS0_, HS1_, HS2_, HS3_, HS4_, HS5_, HS6_, HS7_, HS8_, HS9_⟩ (fun hHeld => ?_)
        clear hK K
        refine My.nm 9 ?_
        exact norm_ (by simp only [putAll, Act.put, List.setIfInBounds_toArray, List.set_cons_zero, List.set_cons_succ]) (hCont (gb671, gb672) _ ⟨hHeld, (My.dr HO_4.out), (My.dR (Kd.R_mono HO_6.out (fun _ hk => ⟨hk.1.2, hk.2⟩))), (My.dV (Kd.V_mono HO_662000.out (fun _ hk => ⟨hk.1.1.1, ⟨hk.1.1.2.1, ⟨hk.1.1.2.2.1, ⟨hk.1.1.2.2.2, ⟨hk.1.2, hk.2⟩⟩⟩⟩⟩))), (My.dV (Kd.V_mono HO_662001.out (fun _ hk => ⟨hk.1.1.1, ⟨hk.1.1.2.1, ⟨hk.1.1.2.2.1, ⟨hk.1.1.2.2.2, ⟨hk.1.2, hk.2⟩⟩⟩⟩⟩))), (My.dV (Kd.V_mono HO_663000.out (fun _ hk => ⟨hk.1.1.1, ⟨hk.1.1.2.1, ⟨hk.1.1.2.2.1, ⟨hk.1.1.2.2.2, ⟨hk.1.2, hk.2⟩⟩⟩⟩⟩))), (My.dV (Kd.V_mono HO_663001.out (fun _ hk => ⟨hk.1.1.1, ⟨hk.1.1.2.1, ⟨hk.1.1.2.2.1, ⟨hk.1.1.2.2.2, ⟨hk.1.2, hk.2⟩⟩⟩⟩⟩))), (My.at_ BK661), (My.at_ BK662), (My.at_ BK671), (My.at_ BK672), GW671.out, GE671.out, NB661_671.out, NB671_661.out, NB662_671.out, NB671_662.out, NB672_671.out, NB671_672.out, GW672.out, GE672.out, NB661_672.out, NB672_661.out, NB662_672.out, NB672_662.out, (My.bl_ HB)⟩)
       skip
       refine box_step ?hg (N := 9) ?hd (cs := #[.string (⟨#[]⟩ : ByteArray), .int .i64 0, .string (⟨#[]⟩ : ByteArray), .int .i64 0, .int .i64 0]) (t := 64) ?hr ?_; (case hd => rfl); (case hg => rfl); (case hr => first | (go_simp; done) | (go_simp; rfl))
       intro gb672 hg w26 hbox hb
       have HS0_ := (hb.cell (World.block_lt_of_cell? _ _ (hHeld.1))).trans (hHeld.1)
       have HS1_ := (hb.cell (World.block_lt_of_cell? _ _ (hHeld.2.1))).trans (hHeld.2.1)
       have HS2_ := (hb.cell (World.block_lt_of_cell? _ _ (hHeld.2.2.1))).trans (hHeld.2.2.1)
       have HS3_ := (hb.cell (World.block_lt_of_cell? _ _ (hHeld.2.2.2.1))).trans (hHeld.2.2.2.1)
       have HS4_ := (hb.cell (World.block_lt_of_cell? _ _ (hHeld.2.2.2.2.1))).trans (hHeld.2.2.2.2.1)
       have HS5_ := (hb.cell (World.block_lt_of_cell? _ _ (hHeld.2.2.2.2.2.1))).trans (hHeld.2.2.2.2.2.1)
       have HS6_ := (hb.cell (World.block_lt_of_cell? _ _ (hHeld.2.2.2.2.2.2.1))).trans (hHeld.2.2.2.2.2.2.1)
       have HS7_ := (hb.cell (World.block_lt_of_cell? _ _ (hHeld.2.2.2.2.2.2.2.1))).trans (hHeld.2.2.2.2.2.2.2.1)
       have HS8_ := (hb.cell (World.block_lt_of_cell? _ _ (hHeld.2.2.2.2.2.2.2.2.1))).trans (hHeld.2.2.2.2.2.2.2.2.1)
       have HS9_ := (hb.cell (World.block_lt_of_cell? _ _ (hHeld.2.2.2.2.2.2.2.2.2))).trans (hHeld.2.2.2.2.2.2.2.2.2)
       replace HO_4 := My.am (Kd.R_below (My.dr HO_4.out) hb)
       replace HO_6 := My.am (Kd.R_below (Kd.R_elderB (My.dr HO_6.out) gb672 (Nat.le_of_eq hg.symm)) hb)
       replace HO_662000 := My.am (Kd.V_below (Kd.V_elderB (My.dV HO_662000.out) gb672 (Nat.le_of_eq hg.symm)) hb)
       replace HO_662001 := My.am (Kd.V_below (Kd.V_elderB (My.dV HO_662001.out) gb672 (Nat.le_of_eq hg.symm)) hb)
       replace HO_663000 := My.am (Kd.V_below (Kd.V_elderB (My.dV HO_663000.out) gb672 (Nat.le_of_eq hg.symm)) hb)
       replace HO_663001 := My.am (Kd.V_below (Kd.V_elderB (My.dV HO_663001.out) gb672 (Nat.le_of_eq hg.symm)) hb)
       have BK672 := My.am (hbox)
       have GW672 := My.nge hg (My.bl_ HB)
       have GE672 := My.nge hg (My.bl_ HB)
       replace HB := My.st HB hb
       obtain ⟨NB661_672, NB672_661, BK661⟩ := My.nb hg hb BK661
       obtain ⟨NB662_672, NB672_662, BK662⟩ := My.nb hg hb BK662
       clear hb hbox hg
       refine hK.out _ _ ⟨HS0_, HS1_, HS2_, HS3_, HS4_, HS5_, HS6_, HS7_, HS8_, HS9_⟩ (fun hHeld => ?_)
       clear hK K
       refine My.nm 9 ?_
       refine one_ (i := 12) (N := some 8) (My.Mb 16 16383) rfl rfl (one_of HT_.out (by kernel_rfl)) (by decide) (fun K hK => ?_)
       refine box_step ?hg (N := 8) ?hd (cs := #[.string (⟨#[]⟩ : ByteArray), .int .i64 0, .string (⟨#[]⟩ : ByteArray), .int .i64 0, .int .i64 0]) (t := 64) ?hr ?_; (case hd => rfl); (case hg => rfl); (case hr => first | (go_simp; done) | (go_simp; rfl))
       intro gb671 hg w27 hbox hb
       have HS0_ := (hb.cell (World.block_lt_of_cell? _ _ (hHeld.1))).trans (hHeld.1)
       have HS1_ := (hb.cell (World.block_lt_of_cell? _ _ (hHeld.2.1))).trans (hHeld.2.1)
       have HS2_ := (hb.cell (World.block_lt_of_cell? _ _ (hHeld.2.2.1))).trans (hHeld.2.2.1)
       have HS3_ := (hb.cell (World.block_lt_of_cell? _ _ (hHeld.2.2.2.1))).trans (hHeld.2.2.2.1)
       have HS4_ := (hb.cell (World.block_lt_of_cell? _ _ (hHeld.2.2.2.2.1))).trans (hHeld.2.2.2.2.1)
       have HS5_ := (hb.cell (World.block_lt_of_cell? _ _ (hHeld.2.2.2.2.2.1))).trans (hHeld.2.2.2.2.2.1)
       have HS6_ := (hb.cell (World.block_lt_of_cell? _ _ (hHeld.2.2.2.2.2.2.1))).trans (hHeld.2.2.2.2.2.2.1)
       have HS7_ := (hb.cell (World.block_lt_of_cell? _ _ (hHeld.2.2.2.2.2.2.2.1))).trans (hHeld.2.2.2.2.2.2.2.1)
       have HS8_ := (hb.cell (World.block_lt_of_cell? _ _ (hHeld.2.2.2.2.2.2.2.2.1))).trans (hHeld.2.2.2.2.2.2.2.2.1)
       have HS9_ := (hb.cell (World.block_lt_of_cell? _ _ (hHeld.2.2.2.2.2.2.2.2.2))).trans (hHeld.2.2.2.2.2.2.2.2.2)
       replace HO_4 := My.am (Kd.R_below (My.dr HO_4.out) hb)
       replace HO_6 := My.am (Kd.R_below (Kd.R_elderB (My.dr HO_6.out) gb671 (Nat.le_of_eq hg.symm)) hb)
       replace HO_662000 := My.am (Kd.V_below (Kd.V_elderB (My.dV HO_662000.out) gb671 (Nat.le_of_eq hg.symm)) hb)
       replace HO_662001 := My.am (Kd.V_below (Kd.V_elderB (My.dV HO_662001.out) gb671 (Nat.le_of_eq hg.symm)) hb)
       replace HO_663000 := My.am (Kd.V_below (Kd.V_elderB (My.dV HO_663000.out) gb671 (Nat.le_of_eq hg.symm)) hb)
       replace HO_663001 := My.am (Kd.V_below (Kd.V_elderB (My.dV HO_663001.out) gb671 (Nat.le_of_eq hg.symm)) hb)
       have BK671 := My.am (hbox)
       have GW671 := My.nge hg (My.bl_ HB)
       have GE671 := My.nge hg (My.bl_ HB)
       replace HB := My.st HB hb
       obtain ⟨NB661_671, NB671_661, BK661⟩ := My.nb hg hb BK661
       obtain ⟨NB662_671, NB671_662, BK662⟩ := My.nb hg hb BK662
       obtain ⟨NB672_671, NB671_672, BK672⟩ := My.nb hg hb BK672
       clear hb hbox hg
       refine hK.out _ _ ⟨HS0_, HS1_, HS2_, HS3_, HS4_, HS5_, HS6_, HS7_, HS8_, HS9_⟩ (fun hHeld => ?_)
       clear hK K
       refine My.nm 8 ?_
       exact norm_ (by simp only [putAll, Act.put, List.setIfInBounds_toArray, List.set_cons_zero, List.set_cons_succ]) (hCont (gb671, gb672) _ ⟨hHeld, (My.dr HO_4.out), (My.dR (Kd.R_mono HO_6.out (fun _ hk => ⟨hk.2, hk.1.2⟩))), (My.dV (Kd.V_mono HO_662000.out (fun _ hk => ⟨hk.1.1.1, ⟨hk.1.1.2.1, ⟨hk.1.1.2.2.1, ⟨hk.1.1.2.2.2, ⟨hk.2, hk.1.2⟩⟩⟩⟩⟩))), (My.dV (Kd.V_mono HO_662001.out (fun _ hk => ⟨hk.1.1.1, ⟨hk.1.1.2.1, ⟨hk.1.1.2.2.1, ⟨hk.1.1.2.2.2, ⟨hk.2, hk.1.2⟩⟩⟩⟩⟩))), (My.dV (Kd.V_mono HO_663000.out (fun _ hk => ⟨hk.1.1.1, ⟨hk.1.1.2.1, ⟨hk.1.1.2.2.1, ⟨hk.1.1.2.2.2, ⟨hk.2, hk.1.2⟩⟩⟩⟩⟩))), (My.dV (Kd.V_mono HO_663001.out (fun _ hk => ⟨hk.1.1.1, ⟨hk.1.1.2.1, ⟨hk.1.1.2.2.1, ⟨hk.1.1.2.2.2, ⟨hk.2, hk.1.2⟩⟩⟩⟩⟩))), (My.at_ BK661), (My.at_ BK662), (My.at_ BK671), (My.at_ BK672), GW671.out, GE671.out, NB661_671.out, NB671_661.out, NB662_671.out, NB671_662.out, NB672_671.out, NB671_672.out, GW672.out, GE672.out, NB661_672.out, NB672_661.out, NB662_672.out, NB672_662.out, (My.bl_ HB)⟩)
      rintro ⟨gb671, gb672⟩ w28 ⟨hS_, h0_, h1_, h2_, h3_, h4_, h5_, h6_, h7_, h8_, h9_, h10_, h11_, h12_, h13_, h14_, h15_, h16_, h17_, h18_, h19_, h20_, h21_, h22_, h23_, h24_⟩
      have n0_ : Aside0 (Kd.R k51 51 w28 w.heap.size (fun _ => True) v659 t658) := ⟨h0_⟩
      have n1_ : Aside0 (Kd.R k64 64 w28 w.heap.size (fun k_ => k_ ≠ gb671 ∧ k_ ≠ gb672) (.slice (some ad669) y666.length co24) y666) := ⟨h1_⟩
      have n2_ : Aside0 (Kd.V k51 51 w28 w.heap.size (fun k_ => some k_ ≠ (v659 : Value).ownBlock ∧ some k_ ≠ (.slice (some ad669) y666.length co24 : Value).ownBlock ∧ k_ ≠ gb661 ∧ k_ ≠ gb662 ∧ k_ ≠ gb671 ∧ k_ ≠ gb672) u662000 x662000_1) := ⟨h2_⟩
      have n3_ : Aside0 (Kd.V k64 64 w28 w.heap.size (fun k_ => some k_ ≠ (v659 : Value).ownBlock ∧ some k_ ≠ (.slice (some ad669) y666.length co24 : Value).ownBlock ∧ k_ ≠ gb661 ∧ k_ ≠ gb662 ∧ k_ ≠ gb671 ∧ k_ ≠ gb672) u662001 x662001_1) := ⟨h3_⟩
      have n4_ : Aside0 (Kd.V k51 51 w28 w.heap.size (fun k_ => some k_ ≠ (v659 : Value).ownBlock ∧ some k_ ≠ (.slice (some ad669) y666.length co24 : Value).ownBlock ∧ k_ ≠ gb661 ∧ k_ ≠ gb662 ∧ k_ ≠ gb671 ∧ k_ ≠ gb672) u663000 x663000_1) := ⟨h4_⟩
      have n5_ : Aside0 (Kd.V k64 64 w28 w.heap.size (fun k_ => some k_ ≠ (v659 : Value).ownBlock ∧ some k_ ≠ (.slice (some ad669) y666.length co24 : Value).ownBlock ∧ k_ ≠ gb661 ∧ k_ ≠ gb662 ∧ k_ ≠ gb671 ∧ k_ ≠ gb672) u663001 x663001_1) := ⟨h5_⟩
      have n6_ : Aside0 (w28.heap[gb661]? = some (.cells #[u662000, u662001] 25 (0, 0))) := ⟨h6_⟩
      have n7_ : Aside0 (w28.heap[gb662]? = some (.cells #[u663000, u663001] 25 (0, 0))) := ⟨h7_⟩
      have n8_ : Aside0 (w28.heap[gb671]? = some (.cells #[.string (⟨#[]⟩ : ByteArray), .int .i64 0, .string (⟨#[]⟩ : ByteArray), .int .i64 0, .int .i64 0] 64 (0, 0))) := ⟨h8_⟩
      have n9_ : Aside0 (w28.heap[gb672]? = some (.cells #[.string (⟨#[]⟩ : ByteArray), .int .i64 0, .string (⟨#[]⟩ : ByteArray), .int .i64 0, .int .i64 0] 64 (0, 0))) := ⟨h9_⟩
      have n10_ : Aside0 (w.heap.size ≤ gb671) := ⟨h10_⟩
      have n11_ : Aside0 (w.heap.size ≤ gb671) := ⟨h11_⟩
      have n12_ : Aside0 (gb661 ≠ gb671) := ⟨h12_⟩
      have n13_ : Aside0 (gb671 ≠ gb661) := ⟨h13_⟩
      have n14_ : Aside0 (gb662 ≠ gb671) := ⟨h14_⟩
      have n15_ : Aside0 (gb671 ≠ gb662) := ⟨h15_⟩
      have n16_ : Aside0 (gb672 ≠ gb671) := ⟨h16_⟩
      have n17_ : Aside0 (gb671 ≠ gb672) := ⟨h17_⟩
      have n18_ : Aside0 (w.heap.size ≤ gb672) := ⟨h18_⟩
      have n19_ : Aside0 (w.heap.size ≤ gb672) := ⟨h19_⟩
      have n20_ : Aside0 (gb661 ≠ gb672) := ⟨h20_⟩
      have n21_ : Aside0 (gb672 ≠ gb661) := ⟨h21_⟩
      have n22_ : Aside0 (gb662 ≠ gb672) := ⟨h22_⟩
      have n23_ : Aside0 (gb672 ≠ gb662) := ⟨h23_⟩
      have n24_ : Aside0 (Below w.heap.size w w28) := ⟨h24_⟩
      clear HO_4
      clear HO_6
      clear HO_662000
      clear HO_662001
      clear HO_663000
      clear HO_663001
      clear BK661
      clear BK662
      clear HB
      clear h0_ h1_ h2_ h3_ h4_ h5_ h6_ h7_ h8_ h9_ h10_ h11_ h12_ h13_ h14_ h15_ h16_ h17_ h18_ h19_ h20_ h21_ h22_ h23_ h24_
      have HO_4 := n0_
      have HO_6 := n1_
      have HO_662000 := n2_
      have HO_662001 := n3_
      have HO_663000 := n4_
      have HO_663001 := n5_
      have BK661 := n6_
      have BK662 := n7_
      have BK671 := n8_
      have BK672 := n9_
      have GE671 := n11_
      have NB661_671 := n12_
      have NB671_661 := n13_
      have NB662_671 := n14_
      have NB671_662 := n15_
      have NB672_671 := n16_
      have NB671_672 := n17_
      have GE672 := n19_
      have NB661_672 := n20_
      have NB672_661 := n21_
      have NB662_672 := n22_
      have NB672_662 := n23_
      have HB := n24_
      clear n0_ n1_ n2_ n3_ n4_ n5_ n6_ n7_ n8_ n9_ n10_ n11_ n12_ n13_ n14_ n15_ n16_ n17_ n18_ n19_ n20_ n21_ n22_ n23_ n24_
      have hHeld : w28.cell? (ad669.add ((x7_1).toNat * 5)) = some (.string ((rd_T64 y666 x7_1).f0)) ∧ w28.cell? ⟨(ad669.add ((x7_1).toNat * 5)).block, (ad669.add ((x7_1).toNat * 5)).off + 1, none⟩ = some (.int .i64 ((rd_T64 y666 x7_1).f1.f0)) ∧ w28.cell? ⟨(ad669.add ((x7_1).toNat * 5)).block, (ad669.add ((x7_1).toNat * 5)).off + 2, none⟩ = some (.string ((rd_T64 y666 x7_1).f1.f1)) ∧ w28.cell? ⟨(ad669.add ((x7_1).toNat * 5)).block, (ad669.add ((x7_1).toNat * 5)).off + 3, none⟩ = some (.int .i64 ((rd_T64 y666 x7_1).f1.f2)) ∧ w28.cell? ⟨(ad669.add ((x7_1).toNat * 5)).block, (ad669.add ((x7_1).toNat * 5)).off + 4, none⟩ = some (.int .i64 ((rd_T64 y666 x7_1).f2)) ∧ w28.cell? (ad669.add (((ji20)).toNat * 5)) = some (.string ((rd_T64 y666 (ji20)).f0)) ∧ w28.cell? ⟨(ad669.add (((ji20)).toNat * 5)).block, (ad669.add (((ji20)).toNat * 5)).off + 1, none⟩ = some (.int .i64 ((rd_T64 y666 (ji20)).f1.f0)) ∧ w28.cell? ⟨(ad669.add (((ji20)).toNat * 5)).block, (ad669.add (((ji20)).toNat * 5)).off + 2, none⟩ = some (.string ((rd_T64 y666 (ji20)).f1.f1)) ∧ w28.cell? ⟨(ad669.add (((ji20)).toNat * 5)).block, (ad669.add (((ji20)).toNat * 5)).off + 3, none⟩ = some (.int .i64 ((rd_T64 y666 (ji20)).f1.f2)) ∧ w28.cell? ⟨(ad669.add (((ji20)).toNat * 5)).block, (ad669.add (((ji20)).toNat * 5)).off + 4, none⟩ = some (.int .i64 ((rd_T64 y666 (ji20)).f2)) := hS_
      refine norm_ (a' := ?_) ?_ ?_
      rotate_left
      ·simp only [putAll, Act.put, List.setIfInBounds_toArray, List.set_cons_zero, List.set_cons_succ]
       rfl
      refine one_ (i := 14) (N := none) (My.Mb 16 32767) rfl rfl (one_of HT_.out (by kernel_rfl)) (by decide) (fun K hK => ?_)
      have hs29 : w28.cell? ⟨gb671, 0, none⟩ = some (.string (⟨#[]⟩ : ByteArray)) := My.b_ BK671 0
      have hfs29 := blk_frozen BK671.out 0
      have hns29_0 := NB661_671.out
      have hns29_1 := NB662_671.out
      have hns29_3 := NB672_671.out
      have hms29_0 := NB671_661.out
      have hms29_1 := NB671_662.out
      have hms29_3 := NB671_672.out
      have hs30 : w28.cell? ⟨gb671, 1, none⟩ = some (.int .i64 0) := My.b_ BK671 1
      have hfs30 := blk_frozen BK671.out 1
      have hns30_0 := NB661_671.out
      have hns30_1 := NB662_671.out
      have hns30_3 := NB672_671.out
      have hms30_0 := NB671_661.out
      have hms30_1 := NB671_662.out
      have hms30_3 := NB671_672.out
      have hs31 : w28.cell? ⟨gb671, 2, none⟩ = some (.string (⟨#[]⟩ : ByteArray)) := My.b_ BK671 2
      have hfs31 := blk_frozen BK671.out 2
      have hns31_0 := NB661_671.out
      have hns31_1 := NB662_671.out
      have hns31_3 := NB672_671.out
      have hms31_0 := NB671_661.out
      have hms31_1 := NB671_662.out
      have hms31_3 := NB671_672.out
      have hs32 : w28.cell? ⟨gb671, 3, none⟩ = some (.int .i64 0) := My.b_ BK671 3
      have hfs32 := blk_frozen BK671.out 3
      have hns32_0 := NB661_671.out
      have hns32_1 := NB662_671.out
      have hns32_3 := NB672_671.out
      have hms32_0 := NB671_661.out
      have hms32_1 := NB671_662.out
      have hms32_3 := NB671_672.out
      have hs33 : w28.cell? ⟨gb671, 4, none⟩ = some (.int .i64 0) := My.b_ BK671 4
      have hfs33 := blk_frozen BK671.out 4
      have hns33_0 := NB661_671.out
      have hns33_1 := NB662_671.out
      have hns33_3 := NB672_671.out
      have hms33_0 := NB671_661.out
      have hms33_1 := NB671_662.out
      have hms33_3 := NB671_672.out
      refine skip_ (w1 := ?_) (by rfl) rfl ?_ ?_
      rotate_left
      ·go_simp
       rfl
      refine hK.out _ _ ⟨(My.c5 (My.nx (Kd.own_blk (Kd.R_away HO_6.out (fun _ hk => hk.1)))) hHeld.1), (My.c5 (My.nx (Kd.own_blk (Kd.R_away HO_6.out (fun _ hk => hk.1)))) hHeld.2.1), (My.c5 (My.nx (Kd.own_blk (Kd.R_away HO_6.out (fun _ hk => hk.1)))) hHeld.2.2.1), (My.c5 (My.nx (Kd.own_blk (Kd.R_away HO_6.out (fun _ hk => hk.1)))) hHeld.2.2.2.1), (My.c5 (My.nx (Kd.own_blk (Kd.R_away HO_6.out (fun _ hk => hk.1)))) hHeld.2.2.2.2.1), (My.c5 (My.nx (Kd.own_blk (Kd.R_away HO_6.out (fun _ hk => hk.1)))) hHeld.2.2.2.2.2.1), (My.c5 (My.nx (Kd.own_blk (Kd.R_away HO_6.out (fun _ hk => hk.1)))) hHeld.2.2.2.2.2.2.1), (My.c5 (My.nx (Kd.own_blk (Kd.R_away HO_6.out (fun _ hk => hk.1)))) hHeld.2.2.2.2.2.2.2.1), (My.c5 (My.nx (Kd.own_blk (Kd.R_away HO_6.out (fun _ hk => hk.1)))) hHeld.2.2.2.2.2.2.2.2.1), (My.c5 (My.nx (Kd.own_blk (Kd.R_away HO_6.out (fun _ hk => hk.1)))) hHeld.2.2.2.2.2.2.2.2.2)⟩ (fun hHeld => ?_)
      clear hK K
      refine one_ (i := 15) (N := none) (My.Mb 16 65535) rfl rfl (one_of HT_.out (by kernel_rfl)) (by decide) (fun K hK => ?_)
      have hs34 : w28.cell? ⟨gb672, 0, none⟩ = some (.string (⟨#[]⟩ : ByteArray)) := My.b_ BK672 0
      have hfs34 := blk_frozen BK672.out 0
      have hns34_0 := NB661_672.out
      have hns34_1 := NB662_672.out
      have hns34_2 := NB671_672.out
      have hms34_0 := NB672_661.out
      have hms34_1 := NB672_662.out
      have hms34_2 := NB672_671.out
      have hs35 : w28.cell? ⟨gb672, 1, none⟩ = some (.int .i64 0) := My.b_ BK672 1
      have hfs35 := blk_frozen BK672.out 1
      have hns35_0 := NB661_672.out
      have hns35_1 := NB662_672.out
      have hns35_2 := NB671_672.out
      have hms35_0 := NB672_661.out
      have hms35_1 := NB672_662.out
      have hms35_2 := NB672_671.out
      have hs36 : w28.cell? ⟨gb672, 2, none⟩ = some (.string (⟨#[]⟩ : ByteArray)) := My.b_ BK672 2
      have hfs36 := blk_frozen BK672.out 2
      have hns36_0 := NB661_672.out
      have hns36_1 := NB662_672.out
      have hns36_2 := NB671_672.out
      have hms36_0 := NB672_661.out
      have hms36_1 := NB672_662.out
      have hms36_2 := NB672_671.out
      have hs37 : w28.cell? ⟨gb672, 3, none⟩ = some (.int .i64 0) := My.b_ BK672 3
      have hfs37 := blk_frozen BK672.out 3
      have hns37_0 := NB661_672.out
      have hns37_1 := NB662_672.out
      have hns37_2 := NB671_672.out
      have hms37_0 := NB672_661.out
      have hms37_1 := NB672_662.out
      have hms37_2 := NB672_671.out
      have hs38 : w28.cell? ⟨gb672, 4, none⟩ = some (.int .i64 0) := My.b_ BK672 4
      have hfs38 := blk_frozen BK672.out 4
      have hns38_0 := NB661_672.out
      have hns38_1 := NB662_672.out
      have hns38_2 := NB671_672.out
      have hms38_0 := NB672_661.out
      have hms38_1 := NB672_662.out
      have hms38_2 := NB672_671.out
      refine skip_ (w1 := ?_) (by rfl) rfl ?_ ?_
      rotate_left
      ·go_simp
       rfl
      refine hK.out _ _ ⟨(My.c5 (My.nx (Kd.own_blk (Kd.R_away HO_6.out (fun _ hk => hk.2)))) hHeld.1), (My.c5 (My.nx (Kd.own_blk (Kd.R_away HO_6.out (fun _ hk => hk.2)))) hHeld.2.1), (My.c5 (My.nx (Kd.own_blk (Kd.R_away HO_6.out (fun _ hk => hk.2)))) hHeld.2.2.1), (My.c5 (My.nx (Kd.own_blk (Kd.R_away HO_6.out (fun _ hk => hk.2)))) hHeld.2.2.2.1), (My.c5 (My.nx (Kd.own_blk (Kd.R_away HO_6.out (fun _ hk => hk.2)))) hHeld.2.2.2.2.1), (My.c5 (My.nx (Kd.own_blk (Kd.R_away HO_6.out (fun _ hk => hk.2)))) hHeld.2.2.2.2.2.1), (My.c5 (My.nx (Kd.own_blk (Kd.R_away HO_6.out (fun _ hk => hk.2)))) hHeld.2.2.2.2.2.2.1), (My.c5 (My.nx (Kd.own_blk (Kd.R_away HO_6.out (fun _ hk => hk.2)))) hHeld.2.2.2.2.2.2.2.1), (My.c5 (My.nx (Kd.own_blk (Kd.R_away HO_6.out (fun _ hk => hk.2)))) hHeld.2.2.2.2.2.2.2.2.1), (My.c5 (My.nx (Kd.own_blk (Kd.R_away HO_6.out (fun _ hk => hk.2)))) hHeld.2.2.2.2.2.2.2.2.2)⟩ (fun hHeld => ?_)
      clear hK K
      refine done_ (done_of HT_.out (by kernel_rfl)) ?_
      have hnb39 := NB671_661.out
      have hnc39 := NB661_671.out
      have hnb40 := NB671_662.out
      have hnc40 := NB662_671.out
      have hnb41 := NB671_672.out
      have hnc41 := NB672_671.out
      have hq42 := My.cz5 BK671
      go_upto_if 54 with (fail)
      go_cut [] (fun wc => ∃ (kq : Nat) (x662000_22 : List (S51)) (x662001_22 : List (S64)) (u662000 : Value) (u662001 : Value), Aside0 (ententelaw07_LedgerBack.j1 kq t658 y666 x7_1 x662000_22 x662001_22 x663000_1 x663001_1 ((rd_T64 y666 (ji20)).f0) ((rd_T64 y666 (ji20)).f1.f0) ((rd_T64 y666 (ji20)).f1.f1) ((rd_T64 y666 (ji20)).f1.f2) ((rd_T64 y666 (ji20)).f2) = some r) ∧ Aside0 (kq ≤ k1) ∧ Aside0 (Kd.R k51 51 wc w.heap.size (fun _ => True) v659 t658) ∧ Aside0 (Kd.R k64 64 wc w.heap.size (fun k_ => k_ ≠ gb671 ∧ k_ ≠ gb672) (.slice (some ad669) y666.length co24) y666) ∧ Aside0 (Kd.V k51 51 wc w.heap.size (fun k_ => some k_ ≠ (v659 : Value).ownBlock ∧ some k_ ≠ ((.slice (some ad669) y666.length co24) : Value).ownBlock ∧ k_ ≠ gb661 ∧ k_ ≠ gb662 ∧ k_ ≠ gb671 ∧ k_ ≠ gb672) u662000 x662000_22) ∧ Aside0 (Kd.V k64 64 wc w.heap.size (fun k_ => some k_ ≠ (v659 : Value).ownBlock ∧ some k_ ≠ ((.slice (some ad669) y666.length co24) : Value).ownBlock ∧ k_ ≠ gb661 ∧ k_ ≠ gb662 ∧ k_ ≠ gb671 ∧ k_ ≠ gb672) u662001 x662001_22) ∧ Aside0 (Kd.V k51 51 wc w.heap.size (fun k_ => some k_ ≠ (v659 : Value).ownBlock ∧ some k_ ≠ ((.slice (some ad669) y666.length co24) : Value).ownBlock ∧ k_ ≠ gb661 ∧ k_ ≠ gb662 ∧ k_ ≠ gb671 ∧ k_ ≠ gb672) u663000 x663000_1) ∧ Aside0 (Kd.V k64 64 wc w.heap.size (fun k_ => some k_ ≠ (v659 : Value).ownBlock ∧ some k_ ≠ ((.slice (some ad669) y666.length co24) : Value).ownBlock ∧ k_ ≠ gb661 ∧ k_ ≠ gb662 ∧ k_ ≠ gb671 ∧ k_ ≠ gb672) u663001 x663001_1) ∧ Aside0 (wc.heap[gb661]? = some (.cells #[u662000, u662001] 25 (0, 0))) ∧ Aside0 (wc.heap[gb662]? = some (.cells #[u663000, u663001] 25 (0, 0))) ∧ Aside0 (wc.heap[gb671]? = some (.cells #[.string ((rd_T64 y666 x7_1).f0), .int .i64 ((rd_T64 y666 x7_1).f1.f0), .string ((rd_T64 y666 x7_1).f1.f1), .int .i64 ((rd_T64 y666 x7_1).f1.f2), .int .i64 ((rd_T64 y666 x7_1).f2)] 64 (0, 0))) ∧ Aside0 (wc.heap[gb672]? = some (.cells #[.string ((rd_T64 y666 (ji20)).f0), .int .i64 ((rd_T64 y666 (ji20)).f1.f0), .string ((rd_T64 y666 (ji20)).f1.f1), .int .i64 ((rd_T64 y666 (ji20)).f1.f2), .int .i64 ((rd_T64 y666 (ji20)).f2)] 64 (0, 0))) ∧ Aside0 (Below w.heap.size w wc))
      case first =>
       have H := HC23.out
       clear HC23
       by_cases c43 : ((rd_T64 y666 x7_1).f2) = 1
       rotate_left
       ·rw [if_neg c43] at H
        have c43b0 : (((rd_T64 y666 x7_1).f2) == 1) = false := beq_eq_false_iff_ne.mpr c43
        have c43b1 : (((rd_T64 y666 x7_1).f2) != 1) = true := bne_iff_ne.mpr c43
        (first | rw [c43b0] | (simp only [i64_w, i32_w]; rw [c43b0]) | skip)
        have H' := My.am H
        clear H
        go_wp2
        go_meet
        case rel => exact ⟨_, (x662000_1), (x662001_1), (u662000), (u662001), H', ⟨by have := HK1.out; first | omega | exact Nat.le_refl _⟩, ⟨My.dR (Kd.R_mono (Kd.R_far (p := ⟨gb672, 4, none⟩) (Kd.R_far (p := ⟨gb672, 3, none⟩) (Kd.R_far (p := ⟨gb672, 2, none⟩) (Kd.R_far (p := ⟨gb672, 1, none⟩) (Kd.R_far (p := ⟨gb672, 0, none⟩) (Kd.R_far (p := ⟨gb671, 4, none⟩) (Kd.R_far (p := ⟨gb671, 3, none⟩) (Kd.R_far (p := ⟨gb671, 2, none⟩) (Kd.R_far (p := ⟨gb671, 1, none⟩) (Kd.R_far (p := ⟨gb671, 0, none⟩) (Kd.R_types (Kd.R_types HO_4.out BK671.out (by decide)) BK672.out (by decide)) (fun _ hk => hk.1.2) (.string ((rd_T64 y666 x7_1).f0))) (fun _ hk => hk.1.2) (.int .i64 ((rd_T64 y666 x7_1).f1.f0))) (fun _ hk => hk.1.2) (.string ((rd_T64 y666 x7_1).f1.f1))) (fun _ hk => hk.1.2) (.int .i64 ((rd_T64 y666 x7_1).f1.f2))) (fun _ hk => hk.1.2) (.int .i64 ((rd_T64 y666 x7_1).f2))) (fun _ hk => hk.2) (.string ((rd_T64 y666 (ji20)).f0))) (fun _ hk => hk.2) (.int .i64 ((rd_T64 y666 (ji20)).f1.f0))) (fun _ hk => hk.2) (.string ((rd_T64 y666 (ji20)).f1.f1))) (fun _ hk => hk.2) (.int .i64 ((rd_T64 y666 (ji20)).f1.f2))) (fun _ hk => hk.2) (.int .i64 ((rd_T64 y666 (ji20)).f2))) (fun _ hk => trivial))⟩, ⟨My.dR (Kd.R_mono (Kd.R_far (p := ⟨gb672, 4, none⟩) (Kd.R_far (p := ⟨gb672, 3, none⟩) (Kd.R_far (p := ⟨gb672, 2, none⟩) (Kd.R_far (p := ⟨gb672, 1, none⟩) (Kd.R_far (p := ⟨gb672, 0, none⟩) (Kd.R_far (p := ⟨gb671, 4, none⟩) (Kd.R_far (p := ⟨gb671, 3, none⟩) (Kd.R_far (p := ⟨gb671, 2, none⟩) (Kd.R_far (p := ⟨gb671, 1, none⟩) (Kd.R_far (p := ⟨gb671, 0, none⟩) (Kd.R_mono (Kd.R_mono HO_6.out (fun k_ hk => (⟨hk, hk.1⟩ : _ ∧ k_ ≠ gb671))) (fun k_ hk => (⟨hk, hk.1.2⟩ : _ ∧ k_ ≠ gb672))) (fun _ hk => hk.1.2) (.string ((rd_T64 y666 x7_1).f0))) (fun _ hk => hk.1.2) (.int .i64 ((rd_T64 y666 x7_1).f1.f0))) (fun _ hk => hk.1.2) (.string ((rd_T64 y666 x7_1).f1.f1))) (fun _ hk => hk.1.2) (.int .i64 ((rd_T64 y666 x7_1).f1.f2))) (fun _ hk => hk.1.2) (.int .i64 ((rd_T64 y666 x7_1).f2))) (fun _ hk => hk.2) (.string ((rd_T64 y666 (ji20)).f0))) (fun _ hk => hk.2) (.int .i64 ((rd_T64 y666 (ji20)).f1.f0))) (fun _ hk => hk.2) (.string ((rd_T64 y666 (ji20)).f1.f1))) (fun _ hk => hk.2) (.int .i64 ((rd_T64 y666 (ji20)).f1.f2))) (fun _ hk => hk.2) (.int .i64 ((rd_T64 y666 (ji20)).f2))) (fun _ hk => ⟨hk.1.1.1, hk.1.1.2⟩))⟩, ⟨My.dV (Kd.V_mono (Kd.V_far (p := ⟨gb672, 4, none⟩) (Kd.V_far (p := ⟨gb672, 3, none⟩) (Kd.V_far (p := ⟨gb672, 2, none⟩) (Kd.V_far (p := ⟨gb672, 1, none⟩) (Kd.V_far (p := ⟨gb672, 0, none⟩) (Kd.V_far (p := ⟨gb671, 4, none⟩) (Kd.V_far (p := ⟨gb671, 3, none⟩) (Kd.V_far (p := ⟨gb671, 2, none⟩) (Kd.V_far (p := ⟨gb671, 1, none⟩) (Kd.V_far (p := ⟨gb671, 0, none⟩) (Kd.V_mono (Kd.V_mono HO_662000.out (fun k_ hk => (⟨hk, hk.2.2.2.2.1⟩ : _ ∧ k_ ≠ gb671))) (fun k_ hk => (⟨hk, hk.1.2.2.2.2.2⟩ : _ ∧ k_ ≠ gb672))) (fun _ hk => hk.1.2) (.string ((rd_T64 y666 x7_1).f0))) (fun _ hk => hk.1.2) (.int .i64 ((rd_T64 y666 x7_1).f1.f0))) (fun _ hk => hk.1.2) (.string ((rd_T64 y666 x7_1).f1.f1))) (fun _ hk => hk.1.2) (.int .i64 ((rd_T64 y666 x7_1).f1.f2))) (fun _ hk => hk.1.2) (.int .i64 ((rd_T64 y666 x7_1).f2))) (fun _ hk => hk.2) (.string ((rd_T64 y666 (ji20)).f0))) (fun _ hk => hk.2) (.int .i64 ((rd_T64 y666 (ji20)).f1.f0))) (fun _ hk => hk.2) (.string ((rd_T64 y666 (ji20)).f1.f1))) (fun _ hk => hk.2) (.int .i64 ((rd_T64 y666 (ji20)).f1.f2))) (fun _ hk => hk.2) (.int .i64 ((rd_T64 y666 (ji20)).f2))) (fun _ hk => ⟨hk.1.1.1, ⟨hk.1.1.2.1, ⟨hk.1.1.2.2.1, ⟨hk.1.1.2.2.2.1, ⟨hk.1.1.2.2.2.2.1, hk.1.1.2.2.2.2.2⟩⟩⟩⟩⟩))⟩, ⟨My.dV (Kd.V_mono (Kd.V_far (p := ⟨gb672, 4, none⟩) (Kd.V_far (p := ⟨gb672, 3, none⟩) (Kd.V_far (p := ⟨gb672, 2, none⟩) (Kd.V_far (p := ⟨gb672, 1, none⟩) (Kd.V_far (p := ⟨gb672, 0, none⟩) (Kd.V_far (p := ⟨gb671, 4, none⟩) (Kd.V_far (p := ⟨gb671, 3, none⟩) (Kd.V_far (p := ⟨gb671, 2, none⟩) (Kd.V_far (p := ⟨gb671, 1, none⟩) (Kd.V_far (p := ⟨gb671, 0, none⟩) (Kd.V_mono (Kd.V_mono HO_662001.out (fun k_ hk => (⟨hk, hk.2.2.2.2.1⟩ : _ ∧ k_ ≠ gb671))) (fun k_ hk => (⟨hk, hk.1.2.2.2.2.2⟩ : _ ∧ k_ ≠ gb672))) (fun _ hk => hk.1.2) (.string ((rd_T64 y666 x7_1).f0))) (fun _ hk => hk.1.2) (.int .i64 ((rd_T64 y666 x7_1).f1.f0))) (fun _ hk => hk.1.2) (.string ((rd_T64 y666 x7_1).f1.f1))) (fun _ hk => hk.1.2) (.int .i64 ((rd_T64 y666 x7_1).f1.f2))) (fun _ hk => hk.1.2) (.int .i64 ((rd_T64 y666 x7_1).f2))) (fun _ hk => hk.2) (.string ((rd_T64 y666 (ji20)).f0))) (fun _ hk => hk.2) (.int .i64 ((rd_T64 y666 (ji20)).f1.f0))) (fun _ hk => hk.2) (.string ((rd_T64 y666 (ji20)).f1.f1))) (fun _ hk => hk.2) (.int .i64 ((rd_T64 y666 (ji20)).f1.f2))) (fun _ hk => hk.2) (.int .i64 ((rd_T64 y666 (ji20)).f2))) (fun _ hk => ⟨hk.1.1.1, ⟨hk.1.1.2.1, ⟨hk.1.1.2.2.1, ⟨hk.1.1.2.2.2.1, ⟨hk.1.1.2.2.2.2.1, hk.1.1.2.2.2.2.2⟩⟩⟩⟩⟩))⟩, ⟨My.dV (Kd.V_mono (Kd.V_far (p := ⟨gb672, 4, none⟩) (Kd.V_far (p := ⟨gb672, 3, none⟩) (Kd.V_far (p := ⟨gb672, 2, none⟩) (Kd.V_far (p := ⟨gb672, 1, none⟩) (Kd.V_far (p := ⟨gb672, 0, none⟩) (Kd.V_far (p := ⟨gb671, 4, none⟩) (Kd.V_far (p := ⟨gb671, 3, none⟩) (Kd.V_far (p := ⟨gb671, 2, none⟩) (Kd.V_far (p := ⟨gb671, 1, none⟩) (Kd.V_far (p := ⟨gb671, 0, none⟩) (Kd.V_mono (Kd.V_mono HO_663000.out (fun k_ hk => (⟨hk, hk.2.2.2.2.1⟩ : _ ∧ k_ ≠ gb671))) (fun k_ hk => (⟨hk, hk.1.2.2.2.2.2⟩ : _ ∧ k_ ≠ gb672))) (fun _ hk => hk.1.2) (.string ((rd_T64 y666 x7_1).f0))) (fun _ hk => hk.1.2) (.int .i64 ((rd_T64 y666 x7_1).f1.f0))) (fun _ hk => hk.1.2) (.string ((rd_T64 y666 x7_1).f1.f1))) (fun _ hk => hk.1.2) (.int .i64 ((rd_T64 y666 x7_1).f1.f2))) (fun _ hk => hk.1.2) (.int .i64 ((rd_T64 y666 x7_1).f2))) (fun _ hk => hk.2) (.string ((rd_T64 y666 (ji20)).f0))) (fun _ hk => hk.2) (.int .i64 ((rd_T64 y666 (ji20)).f1.f0))) (fun _ hk => hk.2) (.string ((rd_T64 y666 (ji20)).f1.f1))) (fun _ hk => hk.2) (.int .i64 ((rd_T64 y666 (ji20)).f1.f2))) (fun _ hk => hk.2) (.int .i64 ((rd_T64 y666 (ji20)).f2))) (fun _ hk => ⟨hk.1.1.1, ⟨hk.1.1.2.1, ⟨hk.1.1.2.2.1, ⟨hk.1.1.2.2.2.1, ⟨hk.1.1.2.2.2.2.1, hk.1.1.2.2.2.2.2⟩⟩⟩⟩⟩))⟩, ⟨My.dV (Kd.V_mono (Kd.V_far (p := ⟨gb672, 4, none⟩) (Kd.V_far (p := ⟨gb672, 3, none⟩) (Kd.V_far (p := ⟨gb672, 2, none⟩) (Kd.V_far (p := ⟨gb672, 1, none⟩) (Kd.V_far (p := ⟨gb672, 0, none⟩) (Kd.V_far (p := ⟨gb671, 4, none⟩) (Kd.V_far (p := ⟨gb671, 3, none⟩) (Kd.V_far (p := ⟨gb671, 2, none⟩) (Kd.V_far (p := ⟨gb671, 1, none⟩) (Kd.V_far (p := ⟨gb671, 0, none⟩) (Kd.V_mono (Kd.V_mono HO_663001.out (fun k_ hk => (⟨hk, hk.2.2.2.2.1⟩ : _ ∧ k_ ≠ gb671))) (fun k_ hk => (⟨hk, hk.1.2.2.2.2.2⟩ : _ ∧ k_ ≠ gb672))) (fun _ hk => hk.1.2) (.string ((rd_T64 y666 x7_1).f0))) (fun _ hk => hk.1.2) (.int .i64 ((rd_T64 y666 x7_1).f1.f0))) (fun _ hk => hk.1.2) (.string ((rd_T64 y666 x7_1).f1.f1))) (fun _ hk => hk.1.2) (.int .i64 ((rd_T64 y666 x7_1).f1.f2))) (fun _ hk => hk.1.2) (.int .i64 ((rd_T64 y666 x7_1).f2))) (fun _ hk => hk.2) (.string ((rd_T64 y666 (ji20)).f0))) (fun _ hk => hk.2) (.int .i64 ((rd_T64 y666 (ji20)).f1.f0))) (fun _ hk => hk.2) (.string ((rd_T64 y666 (ji20)).f1.f1))) (fun _ hk => hk.2) (.int .i64 ((rd_T64 y666 (ji20)).f1.f2))) (fun _ hk => hk.2) (.int .i64 ((rd_T64 y666 (ji20)).f2))) (fun _ hk => ⟨hk.1.1.1, ⟨hk.1.1.2.1, ⟨hk.1.1.2.2.1, ⟨hk.1.1.2.2.2.1, ⟨hk.1.1.2.2.2.2.1, hk.1.1.2.2.2.2.2⟩⟩⟩⟩⟩))⟩, ⟨(My.sv_ BK661)⟩, ⟨(My.sv_ BK662)⟩, ⟨(My.sv_ BK671)⟩, ⟨(My.sv_ BK672)⟩, ⟨(My.bl_ HB)⟩⟩
       rw [if_pos c43] at H
       have c43b0 : (((rd_T64 y666 x7_1).f2) == 1) = true := beq_iff_eq.mpr c43
       have c43b1 : (((rd_T64 y666 x7_1).f2) != 1) = false := bne_eq_false_iff_eq.mpr c43
       clear c43
       (first | rw [c43b0] | (simp only [i64_w, i32_w]; rw [c43b0]) | skip)
       replace H := Option.bind_eq_some_iff.mp H
       obtain ⟨⟨t673, t676, t679⟩, A440, H⟩ := H
       try dsimp only at H
       have A44 := My.am A440
       clear A440
       by_cases c45 : t679 = 0
       rotate_left
       ·rw [if_neg c45] at H
        have c45b0 : (t679 == 0) = false := beq_eq_false_iff_ne.mpr c45
        have c45b1 : (t679 != 0) = true := bne_iff_ne.mpr c45
        exact absurd ((Option.some.inj H).trans HT.out) Bool.false_ne_true
       rw [if_pos c45] at H
       have c45b0 : (t679 == 0) = true := beq_iff_eq.mpr c45
       have c45b1 : (t679 != 0) = false := bne_eq_false_iff_eq.mpr c45
       clear c45
       have H' := My.am H
       clear H
       have hnb46 := NB661_662.out
       have hnc46 := NB662_661.out
       have hnb47 := NB661_671.out
       have hnc47 := NB671_661.out
       have hnb48 := NB661_672.out
       have hnc48 := NB672_661.out
       have hq49 := My.cz2 BK661
       have hnb50 := NB671_662.out
       have hnc50 := NB662_671.out
       have hnb51 := NB671_672.out
       have hnc51 := NB672_671.out
       have hq52 := My.cz5 BK671
       obtain ⟨Ao53, co53, eo53⟩ := Kd.V_slice HO_662000.out
       subst eo53
       obtain ⟨Ao54, co54, eo54⟩ := Kd.V_slice HO_662001.out
       subst eo54
       go_wp2_with (first | ((with_reducible refine gate_callee (f := 14) rfl ?_); refine goesL_ (some 59) rfl rfl Try.func14 (by kernel_rfl) rfl #[.agg #[.slice Ao53 x662000_1.length co53, .slice Ao54 x662001_1.length co54], .string ((rd_T64 y666 x7_1).f0)] rfl My.gx ?_; (with_reducible refine (ledger_Undo.calls k1 _ _ x662000_1 _ _ x662001_1 ((rd_T64 y666 x7_1).f0) t673 t676 t679 _ ?side1 ?side2 ?side3 ?side4 A44.out).mono ?_); (case side1 => refine (Kd.V_reads' (e := 51) (base := w.heap.size) (ok := fun k_ => (some k_ ≠ (v659 : Value).ownBlock ∧ (some k_ ≠ (.slice (some ad669) y666.length co24 : Value).ownBlock ∧ (k_ ≠ gb661 ∧ (k_ ≠ gb662 ∧ (k_ ≠ gb671 ∧ k_ ≠ gb672)))))) (n := x662000_1.length) (c := co53) ?_).2.2; exact (My.dV (Kd.V_mono (Kd.V_mono (Kd.V_far (p := ⟨gb672, 4, none⟩) (Kd.V_far (p := ⟨gb672, 3, none⟩) (Kd.V_far (p := ⟨gb672, 2, none⟩) (Kd.V_far (p := ⟨gb672, 1, none⟩) (Kd.V_far (p := ⟨gb672, 0, none⟩) (Kd.V_far (p := ⟨gb671, 4, none⟩) (Kd.V_far (p := ⟨gb671, 3, none⟩) (Kd.V_far (p := ⟨gb671, 2, none⟩) (Kd.V_far (p := ⟨gb671, 1, none⟩) (Kd.V_far (p := ⟨gb671, 0, none⟩) (Kd.V_mono (Kd.V_mono HO_662000.out (fun k_ hk => (⟨hk, hk.2.2.2.2.1⟩ : _ ∧ k_ ≠ gb671))) (fun k_ hk => (⟨hk, hk.1.2.2.2.2.2⟩ : _ ∧ k_ ≠ gb672))) (fun _ hk => hk.1.2) (.string ((rd_T64 y666 x7_1).f0))) (fun _ hk => hk.1.2) (.int .i64 ((rd_T64 y666 x7_1).f1.f0))) (fun _ hk => hk.1.2) (.string ((rd_T64 y666 x7_1).f1.f1))) (fun _ hk => hk.1.2) (.int .i64 ((rd_T64 y666 x7_1).f1.f2))) (fun _ hk => hk.1.2) (.int .i64 ((rd_T64 y666 x7_1).f2))) (fun _ hk => hk.2) (.string ((rd_T64 y666 (ji20)).f0))) (fun _ hk => hk.2) (.int .i64 ((rd_T64 y666 (ji20)).f1.f0))) (fun _ hk => hk.2) (.string ((rd_T64 y666 (ji20)).f1.f1))) (fun _ hk => hk.2) (.int .i64 ((rd_T64 y666 (ji20)).f1.f2))) (fun _ hk => hk.2) (.int .i64 ((rd_T64 y666 (ji20)).f2))) (fun _ h_ => h_.1)) (fun _ h_ => h_.1)))); (case side2 => exact (Kd.V_reads' HO_662000.out).2.1); (case side3 => refine (Kd.V_reads' (e := 64) (base := w.heap.size) (ok := fun k_ => (some k_ ≠ (v659 : Value).ownBlock ∧ (some k_ ≠ (.slice (some ad669) y666.length co24 : Value).ownBlock ∧ (k_ ≠ gb661 ∧ (k_ ≠ gb662 ∧ (k_ ≠ gb671 ∧ k_ ≠ gb672)))))) (n := x662001_1.length) (c := co54) ?_).2.2; exact (My.dV (Kd.V_mono (Kd.V_mono (Kd.V_far (p := ⟨gb672, 4, none⟩) (Kd.V_far (p := ⟨gb672, 3, none⟩) (Kd.V_far (p := ⟨gb672, 2, none⟩) (Kd.V_far (p := ⟨gb672, 1, none⟩) (Kd.V_far (p := ⟨gb672, 0, none⟩) (Kd.V_far (p := ⟨gb671, 4, none⟩) (Kd.V_far (p := ⟨gb671, 3, none⟩) (Kd.V_far (p := ⟨gb671, 2, none⟩) (Kd.V_far (p := ⟨gb671, 1, none⟩) (Kd.V_far (p := ⟨gb671, 0, none⟩) (Kd.V_mono (Kd.V_mono HO_662001.out (fun k_ hk => (⟨hk, hk.2.2.2.2.1⟩ : _ ∧ k_ ≠ gb671))) (fun k_ hk => (⟨hk, hk.1.2.2.2.2.2⟩ : _ ∧ k_ ≠ gb672))) (fun _ hk => hk.1.2) (.string ((rd_T64 y666 x7_1).f0))) (fun _ hk => hk.1.2) (.int .i64 ((rd_T64 y666 x7_1).f1.f0))) (fun _ hk => hk.1.2) (.string ((rd_T64 y666 x7_1).f1.f1))) (fun _ hk => hk.1.2) (.int .i64 ((rd_T64 y666 x7_1).f1.f2))) (fun _ hk => hk.1.2) (.int .i64 ((rd_T64 y666 x7_1).f2))) (fun _ hk => hk.2) (.string ((rd_T64 y666 (ji20)).f0))) (fun _ hk => hk.2) (.int .i64 ((rd_T64 y666 (ji20)).f1.f0))) (fun _ hk => hk.2) (.string ((rd_T64 y666 (ji20)).f1.f1))) (fun _ hk => hk.2) (.int .i64 ((rd_T64 y666 (ji20)).f1.f2))) (fun _ hk => hk.2) (.int .i64 ((rd_T64 y666 (ji20)).f2))) (fun _ h_ => h_.1)) (fun _ h_ => h_.1)))); (case side4 => exact (Kd.V_reads' HO_662001.out).2.1); rintro e w55 ⟨v674, v677, rfl, ho0, ho1, hb⟩; refine ⟨_, rfl, ?_⟩; replace HO_662000 := My.am (Kd.V_mono (Kd.V_told (Kd.V_told (Kd.V_old (My.dV (Kd.V_mono (Kd.V_mono (Kd.V_far (p := ⟨gb672, 4, none⟩) (Kd.V_far (p := ⟨gb672, 3, none⟩) (Kd.V_far (p := ⟨gb672, 2, none⟩) (Kd.V_far (p := ⟨gb672, 1, none⟩) (Kd.V_far (p := ⟨gb672, 0, none⟩) (Kd.V_far (p := ⟨gb671, 4, none⟩) (Kd.V_far (p := ⟨gb671, 3, none⟩) (Kd.V_far (p := ⟨gb671, 2, none⟩) (Kd.V_far (p := ⟨gb671, 1, none⟩) (Kd.V_far (p := ⟨gb671, 0, none⟩) (Kd.V_mono (Kd.V_mono HO_662000.out (fun k_ hk => (⟨hk, hk.2.2.2.2.1⟩ : _ ∧ k_ ≠ gb671))) (fun k_ hk => (⟨hk, hk.1.2.2.2.2.2⟩ : _ ∧ k_ ≠ gb672))) (fun _ hk => hk.1.2) (.string ((rd_T64 y666 x7_1).f0))) (fun _ hk => hk.1.2) (.int .i64 ((rd_T64 y666 x7_1).f1.f0))) (fun _ hk => hk.1.2) (.string ((rd_T64 y666 x7_1).f1.f1))) (fun _ hk => hk.1.2) (.int .i64 ((rd_T64 y666 x7_1).f1.f2))) (fun _ hk => hk.1.2) (.int .i64 ((rd_T64 y666 x7_1).f2))) (fun _ hk => hk.2) (.string ((rd_T64 y666 (ji20)).f0))) (fun _ hk => hk.2) (.int .i64 ((rd_T64 y666 (ji20)).f1.f0))) (fun _ hk => hk.2) (.string ((rd_T64 y666 (ji20)).f1.f1))) (fun _ hk => hk.2) (.int .i64 ((rd_T64 y666 (ji20)).f1.f2))) (fun _ hk => hk.2) (.int .i64 ((rd_T64 y666 (ji20)).f2))) (fun _ h_ => h_.1)) (fun _ h_ => h_.1))) hb) (Kd.R_base ho0)) (Kd.R_base ho1)) (fun _ h_ => h_.1)); replace HO_662001 := My.am (Kd.V_mono (Kd.V_told (Kd.V_told (Kd.V_old (My.dV (Kd.V_mono (Kd.V_mono (Kd.V_far (p := ⟨gb672, 4, none⟩) (Kd.V_far (p := ⟨gb672, 3, none⟩) (Kd.V_far (p := ⟨gb672, 2, none⟩) (Kd.V_far (p := ⟨gb672, 1, none⟩) (Kd.V_far (p := ⟨gb672, 0, none⟩) (Kd.V_far (p := ⟨gb671, 4, none⟩) (Kd.V_far (p := ⟨gb671, 3, none⟩) (Kd.V_far (p := ⟨gb671, 2, none⟩) (Kd.V_far (p := ⟨gb671, 1, none⟩) (Kd.V_far (p := ⟨gb671, 0, none⟩) (Kd.V_mono (Kd.V_mono HO_662001.out (fun k_ hk => (⟨hk, hk.2.2.2.2.1⟩ : _ ∧ k_ ≠ gb671))) (fun k_ hk => (⟨hk, hk.1.2.2.2.2.2⟩ : _ ∧ k_ ≠ gb672))) (fun _ hk => hk.1.2) (.string ((rd_T64 y666 x7_1).f0))) (fun _ hk => hk.1.2) (.int .i64 ((rd_T64 y666 x7_1).f1.f0))) (fun _ hk => hk.1.2) (.string ((rd_T64 y666 x7_1).f1.f1))) (fun _ hk => hk.1.2) (.int .i64 ((rd_T64 y666 x7_1).f1.f2))) (fun _ hk => hk.1.2) (.int .i64 ((rd_T64 y666 x7_1).f2))) (fun _ hk => hk.2) (.string ((rd_T64 y666 (ji20)).f0))) (fun _ hk => hk.2) (.int .i64 ((rd_T64 y666 (ji20)).f1.f0))) (fun _ hk => hk.2) (.string ((rd_T64 y666 (ji20)).f1.f1))) (fun _ hk => hk.2) (.int .i64 ((rd_T64 y666 (ji20)).f1.f2))) (fun _ hk => hk.2) (.int .i64 ((rd_T64 y666 (ji20)).f2))) (fun _ h_ => h_.1)) (fun _ h_ => h_.1))) hb) (Kd.R_base ho0)) (Kd.R_base ho1)) (fun _ h_ => h_.1)); replace HO_663000 := My.am (Kd.V_mono (Kd.V_told (Kd.V_told (Kd.V_old (My.dV (Kd.V_mono (Kd.V_mono (Kd.V_far (p := ⟨gb672, 4, none⟩) (Kd.V_far (p := ⟨gb672, 3, none⟩) (Kd.V_far (p := ⟨gb672, 2, none⟩) (Kd.V_far (p := ⟨gb672, 1, none⟩) (Kd.V_far (p := ⟨gb672, 0, none⟩) (Kd.V_far (p := ⟨gb671, 4, none⟩) (Kd.V_far (p := ⟨gb671, 3, none⟩) (Kd.V_far (p := ⟨gb671, 2, none⟩) (Kd.V_far (p := ⟨gb671, 1, none⟩) (Kd.V_far (p := ⟨gb671, 0, none⟩) (Kd.V_mono (Kd.V_mono HO_663000.out (fun k_ hk => (⟨hk, hk.2.2.2.2.1⟩ : _ ∧ k_ ≠ gb671))) (fun k_ hk => (⟨hk, hk.1.2.2.2.2.2⟩ : _ ∧ k_ ≠ gb672))) (fun _ hk => hk.1.2) (.string ((rd_T64 y666 x7_1).f0))) (fun _ hk => hk.1.2) (.int .i64 ((rd_T64 y666 x7_1).f1.f0))) (fun _ hk => hk.1.2) (.string ((rd_T64 y666 x7_1).f1.f1))) (fun _ hk => hk.1.2) (.int .i64 ((rd_T64 y666 x7_1).f1.f2))) (fun _ hk => hk.1.2) (.int .i64 ((rd_T64 y666 x7_1).f2))) (fun _ hk => hk.2) (.string ((rd_T64 y666 (ji20)).f0))) (fun _ hk => hk.2) (.int .i64 ((rd_T64 y666 (ji20)).f1.f0))) (fun _ hk => hk.2) (.string ((rd_T64 y666 (ji20)).f1.f1))) (fun _ hk => hk.2) (.int .i64 ((rd_T64 y666 (ji20)).f1.f2))) (fun _ hk => hk.2) (.int .i64 ((rd_T64 y666 (ji20)).f2))) (fun _ h_ => h_.1)) (fun _ h_ => h_.1))) hb) (Kd.R_base ho0)) (Kd.R_base ho1)) (fun _ h_ => h_.1)); replace HO_663001 := My.am (Kd.V_mono (Kd.V_told (Kd.V_told (Kd.V_old (My.dV (Kd.V_mono (Kd.V_mono (Kd.V_far (p := ⟨gb672, 4, none⟩) (Kd.V_far (p := ⟨gb672, 3, none⟩) (Kd.V_far (p := ⟨gb672, 2, none⟩) (Kd.V_far (p := ⟨gb672, 1, none⟩) (Kd.V_far (p := ⟨gb672, 0, none⟩) (Kd.V_far (p := ⟨gb671, 4, none⟩) (Kd.V_far (p := ⟨gb671, 3, none⟩) (Kd.V_far (p := ⟨gb671, 2, none⟩) (Kd.V_far (p := ⟨gb671, 1, none⟩) (Kd.V_far (p := ⟨gb671, 0, none⟩) (Kd.V_mono (Kd.V_mono HO_663001.out (fun k_ hk => (⟨hk, hk.2.2.2.2.1⟩ : _ ∧ k_ ≠ gb671))) (fun k_ hk => (⟨hk, hk.1.2.2.2.2.2⟩ : _ ∧ k_ ≠ gb672))) (fun _ hk => hk.1.2) (.string ((rd_T64 y666 x7_1).f0))) (fun _ hk => hk.1.2) (.int .i64 ((rd_T64 y666 x7_1).f1.f0))) (fun _ hk => hk.1.2) (.string ((rd_T64 y666 x7_1).f1.f1))) (fun _ hk => hk.1.2) (.int .i64 ((rd_T64 y666 x7_1).f1.f2))) (fun _ hk => hk.1.2) (.int .i64 ((rd_T64 y666 x7_1).f2))) (fun _ hk => hk.2) (.string ((rd_T64 y666 (ji20)).f0))) (fun _ hk => hk.2) (.int .i64 ((rd_T64 y666 (ji20)).f1.f0))) (fun _ hk => hk.2) (.string ((rd_T64 y666 (ji20)).f1.f1))) (fun _ hk => hk.2) (.int .i64 ((rd_T64 y666 (ji20)).f1.f2))) (fun _ hk => hk.2) (.int .i64 ((rd_T64 y666 (ji20)).f2))) (fun _ h_ => h_.1)) (fun _ h_ => h_.1))) hb) (Kd.R_base ho0)) (Kd.R_base ho1)) (fun _ h_ => h_.1)); have HO675 := My.am (Kd.R_lower (Kd.R_new' ho0 (Kd.R_lt (My.dR (Kd.R_mono (Kd.R_mono (Kd.R_far (p := ⟨gb672, 4, none⟩) (Kd.R_far (p := ⟨gb672, 3, none⟩) (Kd.R_far (p := ⟨gb672, 2, none⟩) (Kd.R_far (p := ⟨gb672, 1, none⟩) (Kd.R_far (p := ⟨gb672, 0, none⟩) (Kd.R_far (p := ⟨gb671, 4, none⟩) (Kd.R_far (p := ⟨gb671, 3, none⟩) (Kd.R_far (p := ⟨gb671, 2, none⟩) (Kd.R_far (p := ⟨gb671, 1, none⟩) (Kd.R_far (p := ⟨gb671, 0, none⟩) (Kd.R_types (Kd.R_types HO_4.out BK671.out (by decide)) BK672.out (by decide)) (fun _ hk => hk.1.2) (.string ((rd_T64 y666 x7_1).f0))) (fun _ hk => hk.1.2) (.int .i64 ((rd_T64 y666 x7_1).f1.f0))) (fun _ hk => hk.1.2) (.string ((rd_T64 y666 x7_1).f1.f1))) (fun _ hk => hk.1.2) (.int .i64 ((rd_T64 y666 x7_1).f1.f2))) (fun _ hk => hk.1.2) (.int .i64 ((rd_T64 y666 x7_1).f2))) (fun _ hk => hk.2) (.string ((rd_T64 y666 (ji20)).f0))) (fun _ hk => hk.2) (.int .i64 ((rd_T64 y666 (ji20)).f1.f0))) (fun _ hk => hk.2) (.string ((rd_T64 y666 (ji20)).f1.f1))) (fun _ hk => hk.2) (.int .i64 ((rd_T64 y666 (ji20)).f1.f2))) (fun _ hk => hk.2) (.int .i64 ((rd_T64 y666 (ji20)).f2))) (fun _ h_ => h_.1)) (fun _ h_ => h_.1))))) (below_size (My.bl_ HB))); replace HO_4 := My.am (Kd.R_elder' (My.dR (Kd.R_mono (Kd.R_mono (Kd.R_far (p := ⟨gb672, 4, none⟩) (Kd.R_far (p := ⟨gb672, 3, none⟩) (Kd.R_far (p := ⟨gb672, 2, none⟩) (Kd.R_far (p := ⟨gb672, 1, none⟩) (Kd.R_far (p := ⟨gb672, 0, none⟩) (Kd.R_far (p := ⟨gb671, 4, none⟩) (Kd.R_far (p := ⟨gb671, 3, none⟩) (Kd.R_far (p := ⟨gb671, 2, none⟩) (Kd.R_far (p := ⟨gb671, 1, none⟩) (Kd.R_far (p := ⟨gb671, 0, none⟩) (Kd.R_types (Kd.R_types HO_4.out BK671.out (by decide)) BK672.out (by decide)) (fun _ hk => hk.1.2) (.string ((rd_T64 y666 x7_1).f0))) (fun _ hk => hk.1.2) (.int .i64 ((rd_T64 y666 x7_1).f1.f0))) (fun _ hk => hk.1.2) (.string ((rd_T64 y666 x7_1).f1.f1))) (fun _ hk => hk.1.2) (.int .i64 ((rd_T64 y666 x7_1).f1.f2))) (fun _ hk => hk.1.2) (.int .i64 ((rd_T64 y666 x7_1).f2))) (fun _ hk => hk.2) (.string ((rd_T64 y666 (ji20)).f0))) (fun _ hk => hk.2) (.int .i64 ((rd_T64 y666 (ji20)).f1.f0))) (fun _ hk => hk.2) (.string ((rd_T64 y666 (ji20)).f1.f1))) (fun _ hk => hk.2) (.int .i64 ((rd_T64 y666 (ji20)).f1.f2))) (fun _ hk => hk.2) (.int .i64 ((rd_T64 y666 (ji20)).f2))) (fun _ h_ => h_.1)) (fun _ h_ => h_.1))) (Kd.R_base ho0) hb); have HO678 := My.am (Kd.R_lower (Kd.R_newB (Kd.R_newB (Kd.R_new' ho1 (Kd.R_lt (My.dR (Kd.R_mono (Kd.R_mono (Kd.R_far (p := ⟨gb672, 4, none⟩) (Kd.R_far (p := ⟨gb672, 3, none⟩) (Kd.R_far (p := ⟨gb672, 2, none⟩) (Kd.R_far (p := ⟨gb672, 1, none⟩) (Kd.R_far (p := ⟨gb672, 0, none⟩) (Kd.R_far (p := ⟨gb671, 4, none⟩) (Kd.R_far (p := ⟨gb671, 3, none⟩) (Kd.R_far (p := ⟨gb671, 2, none⟩) (Kd.R_far (p := ⟨gb671, 1, none⟩) (Kd.R_far (p := ⟨gb671, 0, none⟩) (Kd.R_mono (Kd.R_mono HO_6.out (fun k_ hk => (⟨hk, hk.1⟩ : _ ∧ k_ ≠ gb671))) (fun k_ hk => (⟨hk, hk.1.2⟩ : _ ∧ k_ ≠ gb672))) (fun _ hk => hk.1.2) (.string ((rd_T64 y666 x7_1).f0))) (fun _ hk => hk.1.2) (.int .i64 ((rd_T64 y666 x7_1).f1.f0))) (fun _ hk => hk.1.2) (.string ((rd_T64 y666 x7_1).f1.f1))) (fun _ hk => hk.1.2) (.int .i64 ((rd_T64 y666 x7_1).f1.f2))) (fun _ hk => hk.1.2) (.int .i64 ((rd_T64 y666 x7_1).f2))) (fun _ hk => hk.2) (.string ((rd_T64 y666 (ji20)).f0))) (fun _ hk => hk.2) (.int .i64 ((rd_T64 y666 (ji20)).f1.f0))) (fun _ hk => hk.2) (.string ((rd_T64 y666 (ji20)).f1.f1))) (fun _ hk => hk.2) (.int .i64 ((rd_T64 y666 (ji20)).f1.f2))) (fun _ hk => hk.2) (.int .i64 ((rd_T64 y666 (ji20)).f2))) (fun _ h_ => h_.1)) (fun _ h_ => h_.1))))) (g := gb671) (o := .cells #[.string ((rd_T64 y666 x7_1).f0), .int .i64 ((rd_T64 y666 x7_1).f1.f0), .string ((rd_T64 y666 x7_1).f1.f1), .int .i64 ((rd_T64 y666 x7_1).f1.f2), .int .i64 ((rd_T64 y666 x7_1).f2)] 64 (0, 0)) ((My.sv_ BK671))) (g := gb672) (o := .cells #[.string ((rd_T64 y666 (ji20)).f0), .int .i64 ((rd_T64 y666 (ji20)).f1.f0), .string ((rd_T64 y666 (ji20)).f1.f1), .int .i64 ((rd_T64 y666 (ji20)).f1.f2), .int .i64 ((rd_T64 y666 (ji20)).f2)] 64 (0, 0)) ((My.sv_ BK672))) (below_size (My.bl_ HB))); replace HO_6 := My.am (Kd.R_elder' (My.dR (Kd.R_mono (Kd.R_mono (Kd.R_far (p := ⟨gb672, 4, none⟩) (Kd.R_far (p := ⟨gb672, 3, none⟩) (Kd.R_far (p := ⟨gb672, 2, none⟩) (Kd.R_far (p := ⟨gb672, 1, none⟩) (Kd.R_far (p := ⟨gb672, 0, none⟩) (Kd.R_far (p := ⟨gb671, 4, none⟩) (Kd.R_far (p := ⟨gb671, 3, none⟩) (Kd.R_far (p := ⟨gb671, 2, none⟩) (Kd.R_far (p := ⟨gb671, 1, none⟩) (Kd.R_far (p := ⟨gb671, 0, none⟩) (Kd.R_mono (Kd.R_mono HO_6.out (fun k_ hk => (⟨hk, hk.1⟩ : _ ∧ k_ ≠ gb671))) (fun k_ hk => (⟨hk, hk.1.2⟩ : _ ∧ k_ ≠ gb672))) (fun _ hk => hk.1.2) (.string ((rd_T64 y666 x7_1).f0))) (fun _ hk => hk.1.2) (.int .i64 ((rd_T64 y666 x7_1).f1.f0))) (fun _ hk => hk.1.2) (.string ((rd_T64 y666 x7_1).f1.f1))) (fun _ hk => hk.1.2) (.int .i64 ((rd_T64 y666 x7_1).f1.f2))) (fun _ hk => hk.1.2) (.int .i64 ((rd_T64 y666 x7_1).f2))) (fun _ hk => hk.2) (.string ((rd_T64 y666 (ji20)).f0))) (fun _ hk => hk.2) (.int .i64 ((rd_T64 y666 (ji20)).f1.f0))) (fun _ hk => hk.2) (.string ((rd_T64 y666 (ji20)).f1.f1))) (fun _ hk => hk.2) (.int .i64 ((rd_T64 y666 (ji20)).f1.f2))) (fun _ hk => hk.2) (.int .i64 ((rd_T64 y666 (ji20)).f2))) (fun _ h_ => h_.1)) (fun _ h_ => h_.1))) (Kd.R_base ho1) hb); replace BK661 := My.am (blk_below (g := gb661) (o := .cells #[.slice Ao53 x662000_1.length co53, .slice Ao54 x662001_1.length co54] 25 (0, 0)) ((My.sv_ BK661)) hb); replace BK662 := My.am (blk_below (g := gb662) (o := .cells #[u663000, u663001] 25 (0, 0)) ((My.sv_ BK662)) hb); replace BK671 := My.am (blk_below (g := gb671) (o := .cells #[.string ((rd_T64 y666 x7_1).f0), .int .i64 ((rd_T64 y666 x7_1).f1.f0), .string ((rd_T64 y666 x7_1).f1.f1), .int .i64 ((rd_T64 y666 x7_1).f1.f2), .int .i64 ((rd_T64 y666 x7_1).f2)] 64 (0, 0)) ((My.sv_ BK671)) hb); replace BK672 := My.am (blk_below (g := gb672) (o := .cells #[.string ((rd_T64 y666 (ji20)).f0), .int .i64 ((rd_T64 y666 (ji20)).f1.f0), .string ((rd_T64 y666 (ji20)).f1.f1), .int .i64 ((rd_T64 y666 (ji20)).f1.f2), .int .i64 ((rd_T64 y666 (ji20)).f2)] 64 (0, 0)) ((My.sv_ BK672)) hb); replace HB := My.st HB hb; (try clear hb); (try clear ho0); (try clear ho1)) | ((with_reducible refine gate_dst (N := 10) rfl ?_); refine My.bx 10 #[.slice none 0 0, .slice none 0 0] 25 ?_; intro gb680 hg w56 hbox hb; replace HO_4 := My.am (Kd.R_below (My.dr HO_4.out) hb); replace HO_6 := My.am (Kd.R_below (My.dr HO_6.out) hb); replace HO_662000 := My.am (Kd.V_below (Kd.V_elderB (My.dV HO_662000.out) gb680 (Nat.le_of_eq hg.symm)) hb); replace HO_662001 := My.am (Kd.V_below (Kd.V_elderB (My.dV HO_662001.out) gb680 (Nat.le_of_eq hg.symm)) hb); replace HO_663000 := My.am (Kd.V_below (Kd.V_elderB (My.dV HO_663000.out) gb680 (Nat.le_of_eq hg.symm)) hb); replace HO_663001 := My.am (Kd.V_below (Kd.V_elderB (My.dV HO_663001.out) gb680 (Nat.le_of_eq hg.symm)) hb); replace HO675 := My.am (Kd.R_below (My.dr HO675.out) hb); replace HO678 := My.am (Kd.R_below (My.dr HO678.out) hb); have BK680 := My.am (hbox); have GE680 := My.nge hg (My.bl_ HB); replace HB := My.st HB hb; obtain ⟨NB661_680, NB680_661, BK661⟩ := My.nb hg hb BK661; obtain ⟨NB662_680, NB680_662, BK662⟩ := My.nb hg hb BK662; obtain ⟨NB671_680, NB680_671, BK671⟩ := My.nb hg hb BK671; obtain ⟨NB672_680, NB680_672, BK672⟩ := My.nb hg hb BK672; clear hb hbox hg; obtain ⟨Ao57, co57, eo57⟩ := Kd.R_slice HO675.out; subst eo57; have hnb58 := NB680_661.out; have hnc58 := NB661_680.out; have hnb59 := NB680_662.out; have hnc59 := NB662_680.out; have hnb60 := NB680_671.out; have hnc60 := NB671_680.out; have hnb61 := NB680_672.out; have hnc61 := NB672_680.out; have hq62 := My.cz2 BK680; obtain ⟨Ao63, co63, eo63⟩ := Kd.R_slice HO678.out; subst eo63; have hq64 := My.cz2 BK661))
       go_meet
       case rel => exact ⟨_, (t673), (t676), (.slice Ao57 t673.length co57), (.slice Ao63 t676.length co63), H', ⟨by have := HK1.out; first | omega | exact Nat.le_refl _⟩, ⟨My.dR (Kd.R_mono (Kd.R_far (p := ⟨gb661, 1, none⟩) (Kd.R_far (p := ⟨gb661, 0, none⟩) (Kd.R_far (p := ⟨gb680, 1, none⟩) (Kd.R_far (p := ⟨gb680, 0, none⟩) (Kd.R_types (Kd.R_types HO_4.out BK680.out (by decide)) BK661.out (by decide)) (fun _ hk => hk.1.2) (.slice Ao57 t673.length co57)) (fun _ hk => hk.1.2) (.slice Ao63 t676.length co63)) (fun _ hk => hk.2) (.slice Ao57 t673.length co57)) (fun _ hk => hk.2) (.slice Ao63 t676.length co63)) (fun _ hk => trivial))⟩, ⟨My.dR (Kd.R_mono (Kd.R_far (p := ⟨gb661, 1, none⟩) (Kd.R_far (p := ⟨gb661, 0, none⟩) (Kd.R_far (p := ⟨gb680, 1, none⟩) (Kd.R_far (p := ⟨gb680, 0, none⟩) (Kd.R_types (Kd.R_types HO_6.out BK680.out (by decide)) BK661.out (by decide)) (fun _ hk => hk.1.2) (.slice Ao57 t673.length co57)) (fun _ hk => hk.1.2) (.slice Ao63 t676.length co63)) (fun _ hk => hk.2) (.slice Ao57 t673.length co57)) (fun _ hk => hk.2) (.slice Ao63 t676.length co63)) (fun _ hk => ⟨hk.1.1.1.1, hk.1.1.1.2⟩))⟩, ⟨Kd.R_V (My.dR (Kd.R_mono (Kd.R_far (p := ⟨gb661, 1, none⟩) (Kd.R_far (p := ⟨gb661, 0, none⟩) (Kd.R_far (p := ⟨gb680, 1, none⟩) (Kd.R_far (p := ⟨gb680, 0, none⟩) (Kd.R_types (Kd.R_types (Kd.R_types (Kd.R_types (Kd.R_types (Kd.R_types (Kd.R_apart' HO675.out (Kd.R_typed HO_6.out) (by decide)) BK661.out (by decide)) BK662.out (by decide)) BK671.out (by decide)) BK672.out (by decide)) BK680.out (by decide)) BK661.out (by decide)) (fun _ hk => hk.1.2) (.slice Ao57 t673.length co57)) (fun _ hk => hk.1.2) (.slice Ao63 t676.length co63)) (fun _ hk => hk.2) (.slice Ao57 t673.length co57)) (fun _ hk => hk.2) (.slice Ao63 t676.length co63)) (fun _ hk => ⟨hk.1.1.1.1.1.1.1.2, ⟨hk.1.1.1.1.1.1.2, ⟨hk.1.1.1.1.1.2, ⟨hk.1.1.1.1.2, ⟨hk.1.1.1.2, hk.1.1.2⟩⟩⟩⟩⟩)))⟩, ⟨Kd.R_V (My.dR (Kd.R_mono (Kd.R_far (p := ⟨gb661, 1, none⟩) (Kd.R_far (p := ⟨gb661, 0, none⟩) (Kd.R_far (p := ⟨gb680, 1, none⟩) (Kd.R_far (p := ⟨gb680, 0, none⟩) (Kd.R_types (Kd.R_types (Kd.R_types (Kd.R_types (Kd.R_apart' HO678.out (Kd.R_typed HO_4.out) (by decide)) BK661.out (by decide)) BK662.out (by decide)) BK680.out (by decide)) BK661.out (by decide)) (fun _ hk => hk.1.2) (.slice Ao57 t673.length co57)) (fun _ hk => hk.1.2) (.slice Ao63 t676.length co63)) (fun _ hk => hk.2) (.slice Ao57 t673.length co57)) (fun _ hk => hk.2) (.slice Ao63 t676.length co63)) (fun _ hk => ⟨hk.1.1.1.1.2, ⟨hk.1.1.1.1.1.1.1.2, ⟨hk.1.1.1.2, ⟨hk.1.1.2, ⟨hk.1.1.1.1.1.1.2, hk.1.1.1.1.1.2⟩⟩⟩⟩⟩)))⟩, ⟨My.dV (Kd.V_mono (Kd.V_far (p := ⟨gb661, 1, none⟩) (Kd.V_far (p := ⟨gb661, 0, none⟩) (Kd.V_far (p := ⟨gb680, 1, none⟩) (Kd.V_far (p := ⟨gb680, 0, none⟩) (Kd.V_mono (Kd.V_mono HO_663000.out (fun k_ hk => (⟨hk, hk.2⟩ : _ ∧ k_ ≠ gb680))) (fun k_ hk => (⟨hk, hk.1.1.1.1.2.2.1⟩ : _ ∧ k_ ≠ gb661))) (fun _ hk => hk.1.2) (.slice Ao57 t673.length co57)) (fun _ hk => hk.1.2) (.slice Ao63 t676.length co63)) (fun _ hk => hk.2) (.slice Ao57 t673.length co57)) (fun _ hk => hk.2) (.slice Ao63 t676.length co63)) (fun _ hk => ⟨hk.1.1.1.1.1.1, ⟨hk.1.1.1.1.1.2.1, ⟨hk.1.1.1.1.1.2.2.1, ⟨hk.1.1.1.1.1.2.2.2.1, ⟨hk.1.1.1.1.1.2.2.2.2.1, hk.1.1.1.1.1.2.2.2.2.2⟩⟩⟩⟩⟩))⟩, ⟨My.dV (Kd.V_mono (Kd.V_far (p := ⟨gb661, 1, none⟩) (Kd.V_far (p := ⟨gb661, 0, none⟩) (Kd.V_far (p := ⟨gb680, 1, none⟩) (Kd.V_far (p := ⟨gb680, 0, none⟩) (Kd.V_mono (Kd.V_mono HO_663001.out (fun k_ hk => (⟨hk, hk.2⟩ : _ ∧ k_ ≠ gb680))) (fun k_ hk => (⟨hk, hk.1.1.1.1.2.2.1⟩ : _ ∧ k_ ≠ gb661))) (fun _ hk => hk.1.2) (.slice Ao57 t673.length co57)) (fun _ hk => hk.1.2) (.slice Ao63 t676.length co63)) (fun _ hk => hk.2) (.slice Ao57 t673.length co57)) (fun _ hk => hk.2) (.slice Ao63 t676.length co63)) (fun _ hk => ⟨hk.1.1.1.1.1.1, ⟨hk.1.1.1.1.1.2.1, ⟨hk.1.1.1.1.1.2.2.1, ⟨hk.1.1.1.1.1.2.2.2.1, ⟨hk.1.1.1.1.1.2.2.2.2.1, hk.1.1.1.1.1.2.2.2.2.2⟩⟩⟩⟩⟩))⟩, ⟨(My.sv_ BK661)⟩, ⟨(My.sv_ BK662)⟩, ⟨(My.sv_ BK671)⟩, ⟨(My.sv_ BK672)⟩, ⟨(My.bl_ HB)⟩⟩
      case rest =>
       clear HC23
       try clear c3
       try clear c5
       try clear hq42
       obtain ⟨kq, x662000_22, x662001_22, u662000, u662001, HA, HJ22, HO_4, HO_6, HO_662000, HO_662001, HO_663000, HO_663001, BK661, BK662, BK671, BK672, HB⟩ := hcut
       cases kq with
       | zero => exact absurd HA.out (by simp [ententelaw07_LedgerBack.j1])
       | succ kj22 =>
        have H := HA.out
        clear HA
        simp only [ententelaw07_LedgerBack.j1] at H
        by_cases c65 : ((rd_T64 y666 (ji20)).f2) = 1
        rotate_left
        ·rw [if_neg c65] at H
         have c65b0 : (((rd_T64 y666 (ji20)).f2) == 1) = false := beq_eq_false_iff_ne.mpr c65
         have c65b1 : (((rd_T64 y666 (ji20)).f2) != 1) = true := bne_iff_ne.mpr c65
         have H' := My.am H
         clear H
         have hnb87 := NB672_661.out
         have hnc87 := NB661_672.out
         have hnb88 := NB672_662.out
         have hnc88 := NB662_672.out
         have hnb89 := NB672_671.out
         have hnc89 := NB671_672.out
         have hq90 := My.cz5 BK672
         go_wp2
         go_roundg kj22
         case measure => have := HK1.out; have := HJ22.out; omega
         case rel => exact ⟨(wrap64 (x7_1 + 1)), (x662000_22), (x662001_22), (x663000_1), (x663001_1), (u662000), (u662001), (u663000), (u663001), My.r1, H', ⟨by have := HK1.out; have := HJ22.out; omega⟩, ⟨My.dR HO_4.out⟩, ⟨My.dR (Kd.R_mono HO_6.out (fun _ hk => trivial))⟩, ⟨My.dV (Kd.V_mono HO_662000.out (fun _ hk => ⟨hk.1, ⟨hk.2.1, ⟨hk.2.2.1, hk.2.2.2.1⟩⟩⟩))⟩, ⟨My.dV (Kd.V_mono HO_662001.out (fun _ hk => ⟨hk.1, ⟨hk.2.1, ⟨hk.2.2.1, hk.2.2.2.1⟩⟩⟩))⟩, ⟨My.dV (Kd.V_mono HO_663000.out (fun _ hk => ⟨hk.1, ⟨hk.2.1, ⟨hk.2.2.1, hk.2.2.2.1⟩⟩⟩))⟩, ⟨My.dV (Kd.V_mono HO_663001.out (fun _ hk => ⟨hk.1, ⟨hk.2.1, ⟨hk.2.2.1, hk.2.2.2.1⟩⟩⟩))⟩, ⟨(My.at_ BK661)⟩, ⟨(My.at_ BK662)⟩, ⟨(My.bl_ HB)⟩⟩
        rw [if_pos c65] at H
        have c65b0 : (((rd_T64 y666 (ji20)).f2) == 1) = true := beq_iff_eq.mpr c65
        have c65b1 : (((rd_T64 y666 (ji20)).f2) != 1) = false := bne_eq_false_iff_eq.mpr c65
        clear c65
        replace H := Option.bind_eq_some_iff.mp H
        obtain ⟨⟨t681, t684, t687⟩, A660, H⟩ := H
        try dsimp only at H
        have A66 := My.am A660
        clear A660
        by_cases c67 : t687 = 0
        rotate_left
        ·rw [if_neg c67] at H
         have c67b0 : (t687 == 0) = false := beq_eq_false_iff_ne.mpr c67
         have c67b1 : (t687 != 0) = true := bne_iff_ne.mpr c67
         exact absurd ((Option.some.inj H).trans HT.out) Bool.false_ne_true
        rw [if_pos c67] at H
        have c67b0 : (t687 == 0) = true := beq_iff_eq.mpr c67
        have c67b1 : (t687 != 0) = false := bne_eq_false_iff_eq.mpr c67
        clear c67
        have H' := My.am H
        clear H
        have hnb68 := NB672_661.out
        have hnc68 := NB661_672.out
        have hnb69 := NB672_662.out
        have hnc69 := NB662_672.out
        have hnb70 := NB672_671.out
        have hnc70 := NB671_672.out
        have hq71 := My.cz5 BK672
        have hnb72 := NB662_661.out
        have hnc72 := NB661_662.out
        have hnb73 := NB662_671.out
        have hnc73 := NB671_662.out
        have hq74 := My.cz2 BK662
        obtain ⟨Ao75, co75, eo75⟩ := Kd.V_slice HO_663000.out
        subst eo75
        obtain ⟨Ao76, co76, eo76⟩ := Kd.V_slice HO_663001.out
        subst eo76
        go_wp2_with (first | ((with_reducible refine gate_callee (f := 14) rfl ?_); refine goesL_ (some 72) rfl rfl Try.func14 (by kernel_rfl) rfl #[.agg #[.slice Ao75 x663000_1.length co75, .slice Ao76 x663001_1.length co76], .string ((rd_T64 y666 (ji20)).f0)] rfl (by (try simp only [List.map_toArray, List.map_cons, List.map_nil]); first | done | (simp only [hji20]; rfl) | rfl | (simp only [List.length_drop, List.length_take]; rfl)) ?_; (with_reducible refine (ledger_Undo.calls kj22 _ _ x663000_1 _ _ x663001_1 ((rd_T64 y666 (ji20)).f0) t681 t684 t687 _ ?side1 ?side2 ?side3 ?side4 A66.out).mono ?_); (case side1 => repeat (first | exact (Kd.V_reads' HO_663000.out).2.2 | (with_reducible refine Kd.C_alloc ?_ _) | (with_reducible refine Kd.C_drewN ?_ _) | (with_reducible refine Kd.C_drew ?_))); (case side2 => exact (Kd.V_reads' HO_663000.out).2.1); (case side3 => repeat (first | exact (Kd.V_reads' HO_663001.out).2.2 | (with_reducible refine Kd.C_alloc ?_ _) | (with_reducible refine Kd.C_drewN ?_ _) | (with_reducible refine Kd.C_drew ?_))); (case side4 => exact (Kd.V_reads' HO_663001.out).2.1); rintro e w77 ⟨v682, v685, rfl, ho0, ho1, hb⟩; refine ⟨_, rfl, ?_⟩; replace HO_662000 := My.am (Kd.V_mono (Kd.V_told (Kd.V_told (Kd.V_old (My.dV HO_662000.out) hb) (Kd.R_base ho0)) (Kd.R_base ho1)) (fun _ h_ => h_.1)); replace HO_662001 := My.am (Kd.V_mono (Kd.V_told (Kd.V_told (Kd.V_old (My.dV HO_662001.out) hb) (Kd.R_base ho0)) (Kd.R_base ho1)) (fun _ h_ => h_.1)); replace HO_663000 := My.am (Kd.V_mono (Kd.V_told (Kd.V_told (Kd.V_old (My.dV HO_663000.out) hb) (Kd.R_base ho0)) (Kd.R_base ho1)) (fun _ h_ => h_.1)); replace HO_663001 := My.am (Kd.V_mono (Kd.V_told (Kd.V_told (Kd.V_old (My.dV HO_663001.out) hb) (Kd.R_base ho0)) (Kd.R_base ho1)) (fun _ h_ => h_.1)); have HO683 := My.am (Kd.R_lower (Kd.R_new' ho0 (Kd.R_lt (My.dr HO_4.out))) (below_size (My.bl_ HB))); replace HO_4 := My.am (Kd.R_elder' (My.dr HO_4.out) (Kd.R_base ho0) hb); have HO686 := My.am (Kd.R_lower (Kd.R_newB (Kd.R_newB (Kd.R_new' ho1 (Kd.R_lt (My.dr HO_6.out))) (My.at_ BK671)) (My.at_ BK672)) (below_size (My.bl_ HB))); replace HO_6 := My.am (Kd.R_elder' (My.dr HO_6.out) (Kd.R_base ho1) hb); replace BK661 := My.ab BK661 hb; replace BK662 := My.ab BK662 hb; replace BK671 := My.ab BK671 hb; replace BK672 := My.ab BK672 hb; replace HB := My.st HB hb; (try clear hb); (try clear ho0); (try clear ho1)) | ((with_reducible refine gate_dst (N := 12) rfl ?_); refine My.bx 12 #[.slice none 0 0, .slice none 0 0] 25 ?_; intro gb688 hg w78 hbox hb; replace HO_4 := My.am (Kd.R_below (My.dr HO_4.out) hb); replace HO_6 := My.am (Kd.R_below (My.dr HO_6.out) hb); replace HO_662000 := My.am (Kd.V_below (Kd.V_elderB (My.dV HO_662000.out) gb688 (Nat.le_of_eq hg.symm)) hb); replace HO_662001 := My.am (Kd.V_below (Kd.V_elderB (My.dV HO_662001.out) gb688 (Nat.le_of_eq hg.symm)) hb); replace HO_663000 := My.am (Kd.V_below (Kd.V_elderB (My.dV HO_663000.out) gb688 (Nat.le_of_eq hg.symm)) hb); replace HO_663001 := My.am (Kd.V_below (Kd.V_elderB (My.dV HO_663001.out) gb688 (Nat.le_of_eq hg.symm)) hb); replace HO683 := My.am (Kd.R_below (My.dr HO683.out) hb); replace HO686 := My.am (Kd.R_below (My.dr HO686.out) hb); have BK688 := My.am (hbox); have GE688 := My.nge hg (My.bl_ HB); replace HB := My.st HB hb; obtain ⟨NB661_688, NB688_661, BK661⟩ := My.nb hg hb BK661; obtain ⟨NB662_688, NB688_662, BK662⟩ := My.nb hg hb BK662; have NB671_688 := My.nlt hg (My.at_ BK671); have NB688_671 := My.ngt hg (My.at_ BK671); obtain ⟨NB672_688, NB688_672, BK672⟩ := My.nb hg hb BK672; clear hb hbox hg; obtain ⟨Ao79, co79, eo79⟩ := Kd.R_slice HO683.out; subst eo79; have hnb80 := NB688_661.out; have hnc80 := NB661_688.out; have hnb81 := NB688_662.out; have hnc81 := NB662_688.out; have hnb82 := NB688_671.out; have hnc82 := NB671_688.out; have hnb83 := NB688_672.out; have hnc83 := NB672_688.out; have hq84 := My.cz2 BK688; obtain ⟨Ao85, co85, eo85⟩ := Kd.R_slice HO686.out; subst eo85; have hq86 := My.cz2 BK662))
        go_roundg kj22
        case measure => have := HK1.out; have := HJ22.out; omega
        case rel => exact ⟨(wrap64 (x7_1 + 1)), (x662000_22), (x662001_22), (t681), (t684), (u662000), (u662001), (.slice Ao79 t681.length co79), (.slice Ao85 t684.length co85), My.r1, H', ⟨by have := HK1.out; have := HJ22.out; omega⟩, ⟨My.dR (Kd.R_mono (Kd.R_far (p := ⟨gb662, 1, none⟩) (Kd.R_far (p := ⟨gb662, 0, none⟩) (Kd.R_far (p := ⟨gb688, 1, none⟩) (Kd.R_far (p := ⟨gb688, 0, none⟩) (Kd.R_types (Kd.R_types HO_4.out BK688.out (by decide)) BK662.out (by decide)) (fun _ hk => hk.1.2) (.slice Ao79 t681.length co79)) (fun _ hk => hk.1.2) (.slice Ao85 t684.length co85)) (fun _ hk => hk.2) (.slice Ao79 t681.length co79)) (fun _ hk => hk.2) (.slice Ao85 t684.length co85)) (fun _ hk => trivial))⟩, ⟨My.dR (Kd.R_mono (Kd.R_far (p := ⟨gb662, 1, none⟩) (Kd.R_far (p := ⟨gb662, 0, none⟩) (Kd.R_far (p := ⟨gb688, 1, none⟩) (Kd.R_far (p := ⟨gb688, 0, none⟩) (Kd.R_types (Kd.R_types HO_6.out BK688.out (by decide)) BK662.out (by decide)) (fun _ hk => hk.1.2) (.slice Ao79 t681.length co79)) (fun _ hk => hk.1.2) (.slice Ao85 t684.length co85)) (fun _ hk => hk.2) (.slice Ao79 t681.length co79)) (fun _ hk => hk.2) (.slice Ao85 t684.length co85)) (fun _ hk => trivial))⟩, ⟨My.dV (Kd.V_mono (Kd.V_far (p := ⟨gb662, 1, none⟩) (Kd.V_far (p := ⟨gb662, 0, none⟩) (Kd.V_far (p := ⟨gb688, 1, none⟩) (Kd.V_far (p := ⟨gb688, 0, none⟩) (Kd.V_mono (Kd.V_mono HO_662000.out (fun k_ hk => (⟨hk, hk.2⟩ : _ ∧ k_ ≠ gb688))) (fun k_ hk => (⟨hk, hk.1.1.1.1.2.2.2.1⟩ : _ ∧ k_ ≠ gb662))) (fun _ hk => hk.1.2) (.slice Ao79 t681.length co79)) (fun _ hk => hk.1.2) (.slice Ao85 t684.length co85)) (fun _ hk => hk.2) (.slice Ao79 t681.length co79)) (fun _ hk => hk.2) (.slice Ao85 t684.length co85)) (fun _ hk => ⟨hk.1.1.1.1.1.1, ⟨hk.1.1.1.1.1.2.1, ⟨hk.1.1.1.1.1.2.2.1, hk.1.1.1.1.1.2.2.2.1⟩⟩⟩))⟩, ⟨My.dV (Kd.V_mono (Kd.V_far (p := ⟨gb662, 1, none⟩) (Kd.V_far (p := ⟨gb662, 0, none⟩) (Kd.V_far (p := ⟨gb688, 1, none⟩) (Kd.V_far (p := ⟨gb688, 0, none⟩) (Kd.V_mono (Kd.V_mono HO_662001.out (fun k_ hk => (⟨hk, hk.2⟩ : _ ∧ k_ ≠ gb688))) (fun k_ hk => (⟨hk, hk.1.1.1.1.2.2.2.1⟩ : _ ∧ k_ ≠ gb662))) (fun _ hk => hk.1.2) (.slice Ao79 t681.length co79)) (fun _ hk => hk.1.2) (.slice Ao85 t684.length co85)) (fun _ hk => hk.2) (.slice Ao79 t681.length co79)) (fun _ hk => hk.2) (.slice Ao85 t684.length co85)) (fun _ hk => ⟨hk.1.1.1.1.1.1, ⟨hk.1.1.1.1.1.2.1, ⟨hk.1.1.1.1.1.2.2.1, hk.1.1.1.1.1.2.2.2.1⟩⟩⟩))⟩, ⟨Kd.R_V (My.dR (Kd.R_mono (Kd.R_far (p := ⟨gb662, 1, none⟩) (Kd.R_far (p := ⟨gb662, 0, none⟩) (Kd.R_far (p := ⟨gb688, 1, none⟩) (Kd.R_far (p := ⟨gb688, 0, none⟩) (Kd.R_types (Kd.R_types (Kd.R_types (Kd.R_types (Kd.R_apart' HO683.out (Kd.R_typed HO_6.out) (by decide)) BK661.out (by decide)) BK662.out (by decide)) BK688.out (by decide)) BK662.out (by decide)) (fun _ hk => hk.1.2) (.slice Ao79 t681.length co79)) (fun _ hk => hk.1.2) (.slice Ao85 t684.length co85)) (fun _ hk => hk.2) (.slice Ao79 t681.length co79)) (fun _ hk => hk.2) (.slice Ao85 t684.length co85)) (fun _ hk => ⟨hk.1.1.1.1.1.2, ⟨hk.1.1.1.1.2, ⟨hk.1.1.1.2, hk.1.1.2⟩⟩⟩)))⟩, ⟨Kd.R_V (My.dR (Kd.R_mono (Kd.R_far (p := ⟨gb662, 1, none⟩) (Kd.R_far (p := ⟨gb662, 0, none⟩) (Kd.R_far (p := ⟨gb688, 1, none⟩) (Kd.R_far (p := ⟨gb688, 0, none⟩) (Kd.R_types (Kd.R_types (Kd.R_types (Kd.R_types (Kd.R_apart' HO686.out (Kd.R_typed HO_4.out) (by decide)) BK661.out (by decide)) BK662.out (by decide)) BK688.out (by decide)) BK662.out (by decide)) (fun _ hk => hk.1.2) (.slice Ao79 t681.length co79)) (fun _ hk => hk.1.2) (.slice Ao85 t684.length co85)) (fun _ hk => hk.2) (.slice Ao79 t681.length co79)) (fun _ hk => hk.2) (.slice Ao85 t684.length co85)) (fun _ hk => ⟨hk.1.1.1.1.2, ⟨hk.1.1.1.1.1.1.1.2, ⟨hk.1.1.1.2, hk.1.1.2⟩⟩⟩)))⟩, ⟨(My.sv_ BK661)⟩, ⟨(My.sv_ BK662)⟩, ⟨(My.bl_ HB)⟩⟩
     rw [if_neg c18] at H
     have c18b0 := decide_eq_false c18
     clear c18
     replace H := Option.bind_eq_some_iff.mp H
     obtain ⟨t689, A910, H⟩ := H
     try dsimp only at H
     have A91 := My.am A910
     clear A910
     by_cases c92 : t689 = true
     rotate_left
     ·replace c92 := Bool.eq_false_iff.mpr c92
      subst c92
      rw [if_neg (show ¬ (false = true) by decide)] at H
      exact absurd ((Option.some.inj H).trans HT.out) Bool.false_ne_true
     subst c92
     rw [if_pos rfl] at H
     have H' := My.am H
     clear H
     obtain ⟨Ao93, co93, eo93⟩ := Kd.R_slice HO_6.out
     subst eo93
     have hnb94 := NB661_662.out
     have hnc94 := NB662_661.out
     have hq95 := My.cz2 BK661
     have hq96 := My.cz2 BK662
     obtain ⟨Ao97, co97, eo97⟩ := Kd.V_slice HO_662000.out
     subst eo97
     obtain ⟨Ao98, co98, eo98⟩ := Kd.V_slice HO_662001.out
     subst eo98
     obtain ⟨Ao99, co99, eo99⟩ := Kd.V_slice HO_663000.out
     subst eo99
     obtain ⟨Ao100, co100, eo100⟩ := Kd.V_slice HO_663001.out
     subst eo100
     go_wp2_with (first | ((with_reducible refine gate_callee (f := 17) rfl ?_); refine goesL_ (some 80) rfl rfl Try.func17 (by kernel_rfl) rfl #[.agg #[.slice Ao97 x662000_1.length co97, .slice Ao98 x662001_1.length co98], .agg #[.slice Ao99 x663000_1.length co99, .slice Ao100 x663001_1.length co100]] rfl My.gx ?_; (with_reducible refine (ententeref07_Same.calls k1 _ _ x662000_1 _ _ x662001_1 _ _ x663000_1 _ _ x663001_1 true _ ?side1 ?side2 ?side3 ?side4 ?side5 ?side6 ?side7 ?side8 A91.out).mono ?_); (case side1 => repeat (first | exact (Kd.V_reads' HO_662000.out).2.2 | (with_reducible refine Kd.C_alloc ?_ _) | (with_reducible refine Kd.C_drewN ?_ _) | (with_reducible refine Kd.C_drew ?_))); (case side2 => exact (Kd.V_reads' HO_662000.out).2.1); (case side3 => repeat (first | exact (Kd.V_reads' HO_662001.out).2.2 | (with_reducible refine Kd.C_alloc ?_ _) | (with_reducible refine Kd.C_drewN ?_ _) | (with_reducible refine Kd.C_drew ?_))); (case side4 => exact (Kd.V_reads' HO_662001.out).2.1); (case side5 => repeat (first | exact (Kd.V_reads' HO_663000.out).2.2 | (with_reducible refine Kd.C_alloc ?_ _) | (with_reducible refine Kd.C_drewN ?_ _) | (with_reducible refine Kd.C_drew ?_))); (case side6 => exact (Kd.V_reads' HO_663000.out).2.1); (case side7 => repeat (first | exact (Kd.V_reads' HO_663001.out).2.2 | (with_reducible refine Kd.C_alloc ?_ _) | (with_reducible refine Kd.C_drewN ?_ _) | (with_reducible refine Kd.C_drew ?_))); (case side8 => exact (Kd.V_reads' HO_663001.out).2.1); rintro e w101 ⟨rfl, hb⟩; refine ⟨_, rfl, ?_⟩; replace HO_4 := My.am (Kd.R_below (My.dr HO_4.out) hb); replace HO_662000 := My.am (Kd.V_below (My.dV HO_662000.out) hb); replace HO_662001 := My.am (Kd.V_below (My.dV HO_662001.out) hb); replace HO_663000 := My.am (Kd.V_below (My.dV HO_663000.out) hb); replace HO_663001 := My.am (Kd.V_below (My.dV HO_663001.out) hb); replace BK661 := My.ab BK661 hb; replace BK662 := My.ab BK662 hb; replace HB := My.st HB hb; (try clear hb)))
     go_loopg [14] k1 (fun kq v14 w' => ∃ (x14_2 : Int), v14 = .int .i64 x14_2 ∧ Aside0 (ententelaw07_LedgerBack.l1 kq t658 x14_2 x662000_1 x662001_1 = some r) ∧ Aside0 (kq ≤ k1) ∧ Aside0 (Kd.R k51 51 w' w.heap.size (fun _ => True) v659 t658) ∧ Aside0 (Kd.V k51 51 w' w.heap.size (fun k_ => some k_ ≠ (v659 : Value).ownBlock ∧ k_ ≠ gb661 ∧ k_ ≠ gb662) (.slice Ao97 x662000_1.length co97) x662000_1) ∧ Aside0 (Kd.V k64 64 w' w.heap.size (fun k_ => some k_ ≠ (v659 : Value).ownBlock ∧ k_ ≠ gb661 ∧ k_ ≠ gb662) (.slice Ao98 x662001_1.length co98) x662001_1) ∧ Aside0 (Kd.V k51 51 w' w.heap.size (fun k_ => some k_ ≠ (v659 : Value).ownBlock ∧ k_ ≠ gb661 ∧ k_ ≠ gb662) (.slice Ao99 x663000_1.length co99) x663000_1) ∧ Aside0 (Kd.V k64 64 w' w.heap.size (fun k_ => some k_ ≠ (v659 : Value).ownBlock ∧ k_ ≠ gb661 ∧ k_ ≠ gb662) (.slice Ao100 x663001_1.length co100) x663001_1) ∧ Aside0 (w'.heap[gb661]? = some (.cells #[(.slice Ao97 x662000_1.length co97), (.slice Ao98 x662001_1.length co98)] 25 (0, 0))) ∧ Aside0 (w'.heap[gb662]? = some (.cells #[(.slice Ao99 x663000_1.length co99), (.slice Ao100 x663001_1.length co100)] 25 (0, 0))) ∧ Aside0 (Below w.heap.size w w'))
     case atStart => exact ⟨(0), My.r1, H', ⟨Nat.le_refl _⟩, ⟨My.dR HO_4.out⟩, ⟨My.dV (Kd.V_mono HO_662000.out (fun _ hk => ⟨hk.1, ⟨hk.2.2.1, hk.2.2.2⟩⟩))⟩, ⟨My.dV (Kd.V_mono HO_662001.out (fun _ hk => ⟨hk.1, ⟨hk.2.2.1, hk.2.2.2⟩⟩))⟩, ⟨My.dV (Kd.V_mono HO_663000.out (fun _ hk => ⟨hk.1, ⟨hk.2.2.1, hk.2.2.2⟩⟩))⟩, ⟨My.dV (Kd.V_mono HO_663001.out (fun _ hk => ⟨hk.1, ⟨hk.2.2.1, hk.2.2.2⟩⟩))⟩, ⟨(My.at_ BK661)⟩, ⟨(My.at_ BK662)⟩, ⟨(My.bl_ HB)⟩⟩
     case round =>
      clear H'
      try clear c3
      try clear c5
      try clear c18
      try clear c18b0
      try clear c92
      try clear hq95
      try clear hq96
      obtain ⟨x14_2, rfl, HA, HK2, HO_4, HO_662000, HO_662001, HO_663000, HO_663001, BK661, BK662, HB⟩ := hrel
      cases gk with
      | zero => exact absurd HA.out (by simp [ententelaw07_LedgerBack.l1])
      | succ k2 =>
       have H := HA.out
       clear HA
       simp only [ententelaw07_LedgerBack.l1] at H
       by_cases c102 : x14_2 < (t658.length : Int)
       rotate_left
       ·rw [if_neg c102] at H
        have c102b0 := decide_eq_false c102
        clear c102
        replace H := Option.bind_eq_some_iff.mp H
        obtain ⟨t690, A1260, H⟩ := H
        try dsimp only at H
        have A126 := My.am A1260
        clear A1260
        obtain rfl := Option.some.inj H
        obtain ⟨Ao127, co127, eo127⟩ := Kd.R_slice HO_4.out
        subst eo127
        go_wp2_with (first | ((with_reducible refine gate_callee (f := 9) rfl ?_); refine goesL_ (some 136) rfl rfl Try.func9 (by kernel_rfl) rfl #[] rfl My.gx ?_; (with_reducible refine (ententelaw07_awake.calls k2  t690 _ A126.out).mono ?_); rintro e w128 ⟨rfl, hb⟩; refine ⟨_, rfl, ?_⟩; replace HB := My.st HB hb; (try clear hb)))
        go_ret
        exact ⟨My.r2, (My.bl_ HB)⟩
       rw [if_pos c102] at H
       have c102b0 := decide_eq_true c102
       clear c102
       replace H := My.ds H
       obtain ⟨c103b0, H⟩ := H
       replace H := Option.bind_eq_some_iff.mp H
       obtain ⟨⟨t692, t693, t694, t695, t696, t697, t698, t699⟩, A1040, H⟩ := H
       try dsimp only at H
       have A104 := My.am A1040
       clear A1040
       replace H := Option.bind_eq_some_iff.mp H
       obtain ⟨⟨t702, t703, t704⟩, A1050, H⟩ := H
       try dsimp only at H
       have A105 := My.am A1050
       clear A1050
       by_cases c106 : t699 = true
       rotate_left
       ·replace c106 := Bool.eq_false_iff.mpr c106
        subst c106
        rw [if_neg (show ¬ (false = true) by decide)] at H
        exact absurd ((Option.some.inj H).trans HT.out) Bool.false_ne_true
       subst c106
       rw [if_pos rfl] at H
       by_cases c107 : t704 = 0
       rotate_left
       ·rw [if_neg c107] at H
        have c107b0 : (t704 == 0) = false := beq_eq_false_iff_ne.mpr c107
        have c107b1 : (t704 != 0) = true := bne_iff_ne.mpr c107
        exact absurd ((Option.some.inj H).trans HT.out) Bool.false_ne_true
       rw [if_pos c107] at H
       have c107b0 : (t704 == 0) = true := beq_iff_eq.mpr c107
       have c107b1 : (t704 != 0) = false := bne_eq_false_iff_eq.mpr c107
       clear c107
       by_cases c108 : (!(t693 == (wrap64 (((rd_T51 t658 x14_2).f1.f0) + t702))) || (!(t694 == 0) || (!(t695 == 0)))) = true
       ·rw [if_pos c108] at H
        have c108b0 : (!(t693 == (wrap64 (((rd_T51 t658 x14_2).f1.f0) + t702))) || (!(t694 == 0) || (!(t695 == 0)))) = true := c108
        clear c108
        exact absurd ((Option.some.inj H).trans HT.out) Bool.false_ne_true
       rw [if_neg c108] at H
       have c108b0 : (!(t693 == (wrap64 (((rd_T51 t658 x14_2).f1.f0) + t702))) || (!(t694 == 0) || (!(t695 == 0)))) = false := by simpa using c108
       clear c108
       by_cases c109 : (!(t696 == t703) || (!(t697 == 0) || (!(t698 == 0)))) = true
       ·rw [if_pos c109] at H
        have c109b0 : (!(t696 == t703) || (!(t697 == 0) || (!(t698 == 0)))) = true := c109
        clear c109
        exact absurd ((Option.some.inj H).trans HT.out) Bool.false_ne_true
       rw [if_neg c109] at H
       have c109b0 : (!(t696 == t703) || (!(t697 == 0) || (!(t698 == 0)))) = false := by simpa using c109
       clear c109
       have H' := My.am H
       clear H
       obtain ⟨Ao110, co110, eo110⟩ := Kd.R_slice HO_4.out
       subst eo110
       try go_wp2
       replace HO_4 := My.am (Kd.R_drew HO_4.out)
       replace HO_662000 := My.am (Kd.V_drew HO_662000.out)
       replace HO_662001 := My.am (Kd.V_drew HO_662001.out)
       replace HO_663000 := My.am (Kd.V_drew HO_663000.out)
       replace HO_663001 := My.am (Kd.V_drew HO_663001.out)
       replace BK661 := My.am (blk_drew BK661.out)
       replace BK662 := My.am (blk_drew BK662.out)
       replace HB := My.am (below_drew1 HB.out)
       have p691 : 0 ≤ (x14_2 : Int) := My.as_
       have q691 : x14_2 < (t658.length : Int) := My.as_
       obtain ⟨ad691, e691, hx691_0, hx691_1, hx691_2, hx691_3, hx691_4, hx691_5, hx691_6⟩ := at_T51 (Kd.R_reads' HO_4.out).2.2 x14_2 p691 q691
       cases e691
       replace p691 := eq_true p691
       replace q691 := eq_true q691
       refine start_ (n := 13) (S := fun w' => w'.cell? ⟨gb661, 0, none⟩ = some (.slice Ao97 x662000_1.length co97) ∧ w'.cell? ⟨gb661, 1, none⟩ = some (.slice Ao98 x662001_1.length co98) ∧ w'.cell? (ad691.add ((x14_2).toNat * 7)) = some (.string ((rd_T51 t658 x14_2).f0)) ∧ w'.cell? ⟨(ad691.add ((x14_2).toNat * 7)).block, (ad691.add ((x14_2).toNat * 7)).off + 1, none⟩ = some (.int .i64 ((rd_T51 t658 x14_2).f1.f0)) ∧ w'.cell? ⟨(ad691.add ((x14_2).toNat * 7)).block, (ad691.add ((x14_2).toNat * 7)).off + 2, none⟩ = some (.int .i64 ((rd_T51 t658 x14_2).f1.f1)) ∧ w'.cell? ⟨(ad691.add ((x14_2).toNat * 7)).block, (ad691.add ((x14_2).toNat * 7)).off + 3, none⟩ = some (.int .i64 ((rd_T51 t658 x14_2).f1.f2)) ∧ w'.cell? ⟨(ad691.add ((x14_2).toNat * 7)).block, (ad691.add ((x14_2).toNat * 7)).off + 4, none⟩ = some (.int .i64 ((rd_T51 t658 x14_2).f2.f0)) ∧ w'.cell? ⟨(ad691.add ((x14_2).toNat * 7)).block, (ad691.add ((x14_2).toNat * 7)).off + 5, none⟩ = some (.int .i64 ((rd_T51 t658 x14_2).f2.f1)) ∧ w'.cell? ⟨(ad691.add ((x14_2).toNat * 7)).block, (ad691.add ((x14_2).toNat * 7)).off + 6, none⟩ = some (.int .i64 ((rd_T51 t658 x14_2).f2.f2))) (ds := []) #[false, false, false, false, false, false, false, false, false, false, false, false, false] (by kernel_rfl) rfl rfl ⟨My.b_ BK661 0, My.b_ BK661 1, hx691_0, hx691_1, hx691_2, hx691_3, hx691_4, hx691_5, hx691_6⟩ (fun hHeld => ?_); refine with_tabW ententelaw07_LedgerBack.tab25 ententelaw07_LedgerBack.bits25 (fun HT_ HW_ => ?_)
       generalize wr.drew = w111 at HO_4 HO_662000 HO_662001 HO_663000 HO_663001 BK661 BK662 HB hx691_0 hx691_1 hx691_2 hx691_3 hx691_4 hx691_5 hx691_6 hHeld ⊢
       refine My.pv_ 1 90 13 2 HT_.out ?_
       refine My.pv_ 2 91 13 6 HT_.out ?_
       refine My.pv_ 3 92 13 14 HT_.out ?_
       refine My.pv_ 4 93 13 30 HT_.out ?_
       refine My.tv_ 0 89 13 31 HT_.out HW_.out hHeld rfl rfl (by rintro w' ⟨s0, s1, s2, s3, s4, s5, s6, s7, s8⟩; go_simp; with_reducible rfl) ?_
       refine My.ta_ 5 94 13 HT_.out HW_.out hHeld rfl rfl (by rintro w' ⟨s0, s1, s2, s3, s4, s5, s6, s7, s8⟩; go_simp; with_reducible rfl) ?_
       refine join_ (σ := Nat) 2 (My.Mb 13 2047) (fun s_ => [(95, .tuple #[.agg #[.string t692, .int .i64 t693, .int .i64 t694, .int .i64 t695, .int .i64 t696, .int .i64 t697, .int .i64 t698], .bool true]), (15, .pointer (some ⟨s_, 0, none⟩)), (88, .tuple #[.agg #[.string t692, .int .i64 t693, .int .i64 t694, .int .i64 t695, .int .i64 t696, .int .i64 t697, .int .i64 t698], .bool true]), (96, .agg #[.string t692, .int .i64 t693, .int .i64 t694, .int .i64 t695, .int .i64 t696, .int .i64 t697, .int .i64 t698]), (97, .bool true)]) (fun s_ w' => (w'.cell? ⟨gb661, 0, none⟩ = some (.slice Ao97 x662000_1.length co97) ∧ w'.cell? ⟨gb661, 1, none⟩ = some (.slice Ao98 x662001_1.length co98) ∧ w'.cell? (ad691.add ((x14_2).toNat * 7)) = some (.string ((rd_T51 t658 x14_2).f0)) ∧ w'.cell? ⟨(ad691.add ((x14_2).toNat * 7)).block, (ad691.add ((x14_2).toNat * 7)).off + 1, none⟩ = some (.int .i64 ((rd_T51 t658 x14_2).f1.f0)) ∧ w'.cell? ⟨(ad691.add ((x14_2).toNat * 7)).block, (ad691.add ((x14_2).toNat * 7)).off + 2, none⟩ = some (.int .i64 ((rd_T51 t658 x14_2).f1.f1)) ∧ w'.cell? ⟨(ad691.add ((x14_2).toNat * 7)).block, (ad691.add ((x14_2).toNat * 7)).off + 3, none⟩ = some (.int .i64 ((rd_T51 t658 x14_2).f1.f2)) ∧ w'.cell? ⟨(ad691.add ((x14_2).toNat * 7)).block, (ad691.add ((x14_2).toNat * 7)).off + 4, none⟩ = some (.int .i64 ((rd_T51 t658 x14_2).f2.f0)) ∧ w'.cell? ⟨(ad691.add ((x14_2).toNat * 7)).block, (ad691.add ((x14_2).toNat * 7)).off + 5, none⟩ = some (.int .i64 ((rd_T51 t658 x14_2).f2.f1)) ∧ w'.cell? ⟨(ad691.add ((x14_2).toNat * 7)).block, (ad691.add ((x14_2).toNat * 7)).off + 6, none⟩ = some (.int .i64 ((rd_T51 t658 x14_2).f2.f2))) ∧ (Kd.R k51 51 w' w.heap.size (fun k_ => k_ ≠ s_) (.slice (some ad691) t658.length co110) t658) ∧ (Kd.V k51 51 w' w.heap.size (fun k_ => some k_ ≠ (.slice (some ad691) t658.length co110 : Value).ownBlock ∧ k_ ≠ gb661 ∧ k_ ≠ gb662 ∧ k_ ≠ s_) (.slice Ao97 x662000_1.length co97) x662000_1) ∧ (Kd.V k64 64 w' w.heap.size (fun k_ => some k_ ≠ (.slice (some ad691) t658.length co110 : Value).ownBlock ∧ k_ ≠ gb661 ∧ k_ ≠ gb662 ∧ k_ ≠ s_) (.slice Ao98 x662001_1.length co98) x662001_1) ∧ (Kd.V k51 51 w' w.heap.size (fun k_ => some k_ ≠ (.slice (some ad691) t658.length co110 : Value).ownBlock ∧ k_ ≠ gb661 ∧ k_ ≠ gb662 ∧ k_ ≠ s_) (.slice Ao99 x663000_1.length co99) x663000_1) ∧ (Kd.V k64 64 w' w.heap.size (fun k_ => some k_ ≠ (.slice (some ad691) t658.length co110 : Value).ownBlock ∧ k_ ≠ gb661 ∧ k_ ≠ gb662 ∧ k_ ≠ s_) (.slice Ao100 x663001_1.length co100) x663001_1) ∧ (w'.heap[gb661]? = some (.cells #[.slice Ao97 x662000_1.length co97, .slice Ao98 x662001_1.length co98] 25 (0, 0))) ∧ (w'.heap[gb662]? = some (.cells #[.slice Ao99 x663000_1.length co99, .slice Ao100 x663001_1.length co100] 25 (0, 0))) ∧ (w'.heap[s_]? = some (.cells #[.string (⟨#[]⟩ : ByteArray), .int .i64 0, .int .i64 0, .int .i64 0, .int .i64 0, .int .i64 0, .int .i64 0] 51 (0, 0))) ∧ (w.heap.size ≤ s_) ∧ (w.heap.size ≤ s_) ∧ (gb661 ≠ s_) ∧ (s_ ≠ gb661) ∧ (gb662 ≠ s_) ∧ (s_ ≠ gb662) ∧ (Below w.heap.size w w')) ?_ ?_
       rotate_left
       ·intro hCont
        refine two_ (i := 6) (j := 10) (Ni := some 95) (Nj := some 15) (My.Mb 13 127) (My.Mb 13 1087) rfl rfl rfl rfl (two_of HT_.out (by kernel_rfl)) (by decide) (by decide) (fun K hK => ?_) (fun K hK => ?_)
        ·skip
         refine goes_ Try.func21 (by kernel_rfl) rfl #[.agg #[.slice Ao97 x662000_1.length co97, .slice Ao98 x662001_1.length co98], .string ((rd_T51 t658 x14_2).f0)] (by rfl) rfl rfl My.gx ?_
         with_reducible refine (ledger_Find.calls k2 _ _ x662000_1 _ _ x662001_1 ((rd_T51 t658 x14_2).f0) t692 t693 t694 t695 t696 t697 t698 true _ ?side1 ?side2 ?side3 ?side4 A104.out).mono ?_
         (case side1 => repeat (first | exact (Kd.V_reads' HO_662000.out).2.2 | (with_reducible refine Kd.C_alloc ?_ _) | (with_reducible refine Kd.C_drewN ?_ _) | (with_reducible refine Kd.C_drew ?_)))
         (case side2 => exact (Kd.V_reads' HO_662000.out).2.1)
         (case side3 => repeat (first | exact (Kd.V_reads' HO_662001.out).2.2 | (with_reducible refine Kd.C_alloc ?_ _) | (with_reducible refine Kd.C_drewN ?_ _) | (with_reducible refine Kd.C_drew ?_)))
         (case side4 => exact (Kd.V_reads' HO_662001.out).2.1)
         rintro e w112 ⟨rfl, hb⟩
         have HS2_ := (hb.cell (World.block_lt_of_cell? _ _ (hHeld.2.2.1))).trans (hHeld.2.2.1)
         have HS3_ := (hb.cell (World.block_lt_of_cell? _ _ (hHeld.2.2.2.1))).trans (hHeld.2.2.2.1)
         have HS4_ := (hb.cell (World.block_lt_of_cell? _ _ (hHeld.2.2.2.2.1))).trans (hHeld.2.2.2.2.1)
         have HS5_ := (hb.cell (World.block_lt_of_cell? _ _ (hHeld.2.2.2.2.2.1))).trans (hHeld.2.2.2.2.2.1)
         have HS6_ := (hb.cell (World.block_lt_of_cell? _ _ (hHeld.2.2.2.2.2.2.1))).trans (hHeld.2.2.2.2.2.2.1)
         have HS7_ := (hb.cell (World.block_lt_of_cell? _ _ (hHeld.2.2.2.2.2.2.2.1))).trans (hHeld.2.2.2.2.2.2.2.1)
         have HS8_ := (hb.cell (World.block_lt_of_cell? _ _ (hHeld.2.2.2.2.2.2.2.2))).trans (hHeld.2.2.2.2.2.2.2.2)
         refine ⟨_, rfl, ?_⟩
         replace HO_4 := My.am (Kd.R_below (My.dr HO_4.out) hb)
         replace HO_662000 := My.am (Kd.V_below (My.dV HO_662000.out) hb)
         replace HO_662001 := My.am (Kd.V_below (My.dV HO_662001.out) hb)
         replace HO_663000 := My.am (Kd.V_below (My.dV HO_663000.out) hb)
         replace HO_663001 := My.am (Kd.V_below (My.dV HO_663001.out) hb)
         replace BK661 := My.ab BK661 hb
         replace BK662 := My.ab BK662 hb
         replace HB := My.st HB hb
         (try clear hb)
         (try clear hb2)
         (try clear hk)
         (try clear hi)
         refine hK.out _ _ ⟨My.b_ BK661 0, My.b_ BK661 1, HS2_, HS3_, HS4_, HS5_, HS6_, HS7_, HS8_⟩ (fun hHeld => ?_)
         clear hK K
         refine My.nm 95 ?_
         refine My.pu_ 7 88 13 HT_.out ?_
         refine My.pu_ 8 96 13 HT_.out ?_
         refine My.pu_ 9 97 13 HT_.out ?_
         refine one_ (i := 10) (N := some 15) (My.Mb 13 2047) rfl rfl (one_of HT_.out (by kernel_rfl)) (by decide) (fun K hK => ?_)
         refine box_step ?hg (N := 15) ?hd (cs := #[.string (⟨#[]⟩ : ByteArray), .int .i64 0, .int .i64 0, .int .i64 0, .int .i64 0, .int .i64 0, .int .i64 0]) (t := 51) ?hr ?_; (case hd => rfl); (case hg => rfl); (case hr => first | (go_simp; done) | (go_simp; rfl))
         intro gb700 hg w113 hbox hb
         have HS2_ := (hb.cell (World.block_lt_of_cell? _ _ (hHeld.2.2.1))).trans (hHeld.2.2.1)
         have HS3_ := (hb.cell (World.block_lt_of_cell? _ _ (hHeld.2.2.2.1))).trans (hHeld.2.2.2.1)
         have HS4_ := (hb.cell (World.block_lt_of_cell? _ _ (hHeld.2.2.2.2.1))).trans (hHeld.2.2.2.2.1)
         have HS5_ := (hb.cell (World.block_lt_of_cell? _ _ (hHeld.2.2.2.2.2.1))).trans (hHeld.2.2.2.2.2.1)
         have HS6_ := (hb.cell (World.block_lt_of_cell? _ _ (hHeld.2.2.2.2.2.2.1))).trans (hHeld.2.2.2.2.2.2.1)
         have HS7_ := (hb.cell (World.block_lt_of_cell? _ _ (hHeld.2.2.2.2.2.2.2.1))).trans (hHeld.2.2.2.2.2.2.2.1)
         have HS8_ := (hb.cell (World.block_lt_of_cell? _ _ (hHeld.2.2.2.2.2.2.2.2))).trans (hHeld.2.2.2.2.2.2.2.2)
         replace HO_4 := My.am (Kd.R_below (Kd.R_elderB (My.dr HO_4.out) gb700 (Nat.le_of_eq hg.symm)) hb)
         replace HO_662000 := My.am (Kd.V_below (Kd.V_elderB (My.dV HO_662000.out) gb700 (Nat.le_of_eq hg.symm)) hb)
         replace HO_662001 := My.am (Kd.V_below (Kd.V_elderB (My.dV HO_662001.out) gb700 (Nat.le_of_eq hg.symm)) hb)
         replace HO_663000 := My.am (Kd.V_below (Kd.V_elderB (My.dV HO_663000.out) gb700 (Nat.le_of_eq hg.symm)) hb)
         replace HO_663001 := My.am (Kd.V_below (Kd.V_elderB (My.dV HO_663001.out) gb700 (Nat.le_of_eq hg.symm)) hb)
         have BK700 := My.am (hbox)
         have GW700 := My.nge hg (My.bl_ HB)
         have GE700 := My.nge hg (My.bl_ HB)
         replace HB := My.st HB hb
         obtain ⟨NB661_700, NB700_661, BK661⟩ := My.nb hg hb BK661
         obtain ⟨NB662_700, NB700_662, BK662⟩ := My.nb hg hb BK662
         clear hb hbox hg
         refine hK.out _ _ ⟨My.b_ BK661 0, My.b_ BK661 1, HS2_, HS3_, HS4_, HS5_, HS6_, HS7_, HS8_⟩ (fun hHeld => ?_)
         clear hK K
         refine My.nm 15 ?_
         exact norm_ (by simp only [putAll, Act.put, List.setIfInBounds_toArray, List.set_cons_zero, List.set_cons_succ]) (hCont (gb700) _ ⟨hHeld, (My.dR (Kd.R_mono HO_4.out (fun _ hk => hk.2))), (My.dV (Kd.V_mono HO_662000.out (fun _ hk => ⟨hk.1.1, ⟨hk.1.2.1, ⟨hk.1.2.2, hk.2⟩⟩⟩))), (My.dV (Kd.V_mono HO_662001.out (fun _ hk => ⟨hk.1.1, ⟨hk.1.2.1, ⟨hk.1.2.2, hk.2⟩⟩⟩))), (My.dV (Kd.V_mono HO_663000.out (fun _ hk => ⟨hk.1.1, ⟨hk.1.2.1, ⟨hk.1.2.2, hk.2⟩⟩⟩))), (My.dV (Kd.V_mono HO_663001.out (fun _ hk => ⟨hk.1.1, ⟨hk.1.2.1, ⟨hk.1.2.2, hk.2⟩⟩⟩))), (My.at_ BK661), (My.at_ BK662), (My.at_ BK700), GW700.out, GE700.out, NB661_700.out, NB700_661.out, NB662_700.out, NB700_662.out, (My.bl_ HB)⟩)
        skip
        refine box_step ?hg (N := 15) ?hd (cs := #[.string (⟨#[]⟩ : ByteArray), .int .i64 0, .int .i64 0, .int .i64 0, .int .i64 0, .int .i64 0, .int .i64 0]) (t := 51) ?hr ?_; (case hd => rfl); (case hg => rfl); (case hr => first | (go_simp; done) | (go_simp; rfl))
        intro gb700 hg w112 hbox hb
        have HS2_ := (hb.cell (World.block_lt_of_cell? _ _ (hHeld.2.2.1))).trans (hHeld.2.2.1)
        have HS3_ := (hb.cell (World.block_lt_of_cell? _ _ (hHeld.2.2.2.1))).trans (hHeld.2.2.2.1)
        have HS4_ := (hb.cell (World.block_lt_of_cell? _ _ (hHeld.2.2.2.2.1))).trans (hHeld.2.2.2.2.1)
        have HS5_ := (hb.cell (World.block_lt_of_cell? _ _ (hHeld.2.2.2.2.2.1))).trans (hHeld.2.2.2.2.2.1)
        have HS6_ := (hb.cell (World.block_lt_of_cell? _ _ (hHeld.2.2.2.2.2.2.1))).trans (hHeld.2.2.2.2.2.2.1)
        have HS7_ := (hb.cell (World.block_lt_of_cell? _ _ (hHeld.2.2.2.2.2.2.2.1))).trans (hHeld.2.2.2.2.2.2.2.1)
        have HS8_ := (hb.cell (World.block_lt_of_cell? _ _ (hHeld.2.2.2.2.2.2.2.2))).trans (hHeld.2.2.2.2.2.2.2.2)
        replace HO_4 := My.am (Kd.R_below (Kd.R_elderB (My.dr HO_4.out) gb700 (Nat.le_of_eq hg.symm)) hb)
        replace HO_662000 := My.am (Kd.V_below (Kd.V_elderB (My.dV HO_662000.out) gb700 (Nat.le_of_eq hg.symm)) hb)
        replace HO_662001 := My.am (Kd.V_below (Kd.V_elderB (My.dV HO_662001.out) gb700 (Nat.le_of_eq hg.symm)) hb)
        replace HO_663000 := My.am (Kd.V_below (Kd.V_elderB (My.dV HO_663000.out) gb700 (Nat.le_of_eq hg.symm)) hb)
        replace HO_663001 := My.am (Kd.V_below (Kd.V_elderB (My.dV HO_663001.out) gb700 (Nat.le_of_eq hg.symm)) hb)
        have BK700 := My.am (hbox)
        have GW700 := My.nge hg (My.bl_ HB)
        have GE700 := My.nge hg (My.bl_ HB)
        replace HB := My.st HB hb
        obtain ⟨NB661_700, NB700_661, BK661⟩ := My.nb hg hb BK661
        obtain ⟨NB662_700, NB700_662, BK662⟩ := My.nb hg hb BK662
        clear hb hbox hg
        refine hK.out _ _ ⟨My.b_ BK661 0, My.b_ BK661 1, HS2_, HS3_, HS4_, HS5_, HS6_, HS7_, HS8_⟩ (fun hHeld => ?_)
        clear hK K
        refine My.nm 15 ?_
        refine one_ (i := 6) (N := some 95) (My.Mb 13 1151) rfl rfl (one_of HT_.out (by kernel_rfl)) (by decide) (fun K hK => ?_)
        refine goes_ Try.func21 (by kernel_rfl) rfl #[.agg #[.slice Ao97 x662000_1.length co97, .slice Ao98 x662001_1.length co98], .string ((rd_T51 t658 x14_2).f0)] (by rfl) rfl rfl My.gx ?_
        with_reducible refine (ledger_Find.calls k2 _ _ x662000_1 _ _ x662001_1 ((rd_T51 t658 x14_2).f0) t692 t693 t694 t695 t696 t697 t698 true _ ?side1 ?side2 ?side3 ?side4 A104.out).mono ?_
        (case side1 => repeat (first | exact (Kd.V_reads' HO_662000.out).2.2 | (with_reducible refine Kd.C_alloc ?_ _) | (with_reducible refine Kd.C_drewN ?_ _) | (with_reducible refine Kd.C_drew ?_)))
        (case side2 => exact (Kd.V_reads' HO_662000.out).2.1)
        (case side3 => repeat (first | exact (Kd.V_reads' HO_662001.out).2.2 | (with_reducible refine Kd.C_alloc ?_ _) | (with_reducible refine Kd.C_drewN ?_ _) | (with_reducible refine Kd.C_drew ?_)))
        (case side4 => exact (Kd.V_reads' HO_662001.out).2.1)
        rintro e w113 ⟨rfl, hb⟩
        have HS2_ := (hb.cell (World.block_lt_of_cell? _ _ (hHeld.2.2.1))).trans (hHeld.2.2.1)
        have HS3_ := (hb.cell (World.block_lt_of_cell? _ _ (hHeld.2.2.2.1))).trans (hHeld.2.2.2.1)
        have HS4_ := (hb.cell (World.block_lt_of_cell? _ _ (hHeld.2.2.2.2.1))).trans (hHeld.2.2.2.2.1)
        have HS5_ := (hb.cell (World.block_lt_of_cell? _ _ (hHeld.2.2.2.2.2.1))).trans (hHeld.2.2.2.2.2.1)
        have HS6_ := (hb.cell (World.block_lt_of_cell? _ _ (hHeld.2.2.2.2.2.2.1))).trans (hHeld.2.2.2.2.2.2.1)
        have HS7_ := (hb.cell (World.block_lt_of_cell? _ _ (hHeld.2.2.2.2.2.2.2.1))).trans (hHeld.2.2.2.2.2.2.2.1)
        have HS8_ := (hb.cell (World.block_lt_of_cell? _ _ (hHeld.2.2.2.2.2.2.2.2))).trans (hHeld.2.2.2.2.2.2.2.2)
        refine ⟨_, rfl, ?_⟩
        replace HO_4 := My.am (Kd.R_below (My.dr HO_4.out) hb)
        replace HO_662000 := My.am (Kd.V_below (My.dV HO_662000.out) hb)
        replace HO_662001 := My.am (Kd.V_below (My.dV HO_662001.out) hb)
        replace HO_663000 := My.am (Kd.V_below (My.dV HO_663000.out) hb)
        replace HO_663001 := My.am (Kd.V_below (My.dV HO_663001.out) hb)
        replace BK661 := My.ab BK661 hb
        replace BK662 := My.ab BK662 hb
        replace BK700 := My.ab BK700 hb
        replace HB := My.st HB hb
        (try clear hb)
        (try clear hb2)
        (try clear hk)
        (try clear hi)
        refine hK.out _ _ ⟨My.b_ BK661 0, My.b_ BK661 1, HS2_, HS3_, HS4_, HS5_, HS6_, HS7_, HS8_⟩ (fun hHeld => ?_)
        clear hK K
        refine My.nm 95 ?_
        refine My.pv_ 7 88 13 1279 HT_.out ?_
        refine My.pv_ 8 96 13 1535 HT_.out ?_
        refine My.pv_ 9 97 13 2047 HT_.out ?_
        exact norm_ (by simp only [putAll, Act.put, List.setIfInBounds_toArray, List.set_cons_zero, List.set_cons_succ]) (hCont (gb700) _ ⟨hHeld, (My.dR (Kd.R_mono HO_4.out (fun _ hk => hk.2))), (My.dV (Kd.V_mono HO_662000.out (fun _ hk => ⟨hk.1.1, ⟨hk.1.2.1, ⟨hk.1.2.2, hk.2⟩⟩⟩))), (My.dV (Kd.V_mono HO_662001.out (fun _ hk => ⟨hk.1.1, ⟨hk.1.2.1, ⟨hk.1.2.2, hk.2⟩⟩⟩))), (My.dV (Kd.V_mono HO_663000.out (fun _ hk => ⟨hk.1.1, ⟨hk.1.2.1, ⟨hk.1.2.2, hk.2⟩⟩⟩))), (My.dV (Kd.V_mono HO_663001.out (fun _ hk => ⟨hk.1.1, ⟨hk.1.2.1, ⟨hk.1.2.2, hk.2⟩⟩⟩))), (My.at_ BK661), (My.at_ BK662), (My.at_ BK700), GW700.out, GE700.out, NB661_700.out, NB700_661.out, NB662_700.out, NB700_662.out, (My.bl_ HB)⟩)
       rintro gb700 w114 ⟨hS_, h0_, h1_, h2_, h3_, h4_, h5_, h6_, h7_, h8_, h9_, h10_, h11_, h12_, h13_, h14_⟩
       have n0_ : Aside0 (Kd.R k51 51 w114 w.heap.size (fun k_ => k_ ≠ gb700) (.slice (some ad691) t658.length co110) t658) := ⟨h0_⟩
       have n1_ : Aside0 (Kd.V k51 51 w114 w.heap.size (fun k_ => some k_ ≠ (.slice (some ad691) t658.length co110 : Value).ownBlock ∧ k_ ≠ gb661 ∧ k_ ≠ gb662 ∧ k_ ≠ gb700) (.slice Ao97 x662000_1.length co97) x662000_1) := ⟨h1_⟩
       have n2_ : Aside0 (Kd.V k64 64 w114 w.heap.size (fun k_ => some k_ ≠ (.slice (some ad691) t658.length co110 : Value).ownBlock ∧ k_ ≠ gb661 ∧ k_ ≠ gb662 ∧ k_ ≠ gb700) (.slice Ao98 x662001_1.length co98) x662001_1) := ⟨h2_⟩
       have n3_ : Aside0 (Kd.V k51 51 w114 w.heap.size (fun k_ => some k_ ≠ (.slice (some ad691) t658.length co110 : Value).ownBlock ∧ k_ ≠ gb661 ∧ k_ ≠ gb662 ∧ k_ ≠ gb700) (.slice Ao99 x663000_1.length co99) x663000_1) := ⟨h3_⟩
       have n4_ : Aside0 (Kd.V k64 64 w114 w.heap.size (fun k_ => some k_ ≠ (.slice (some ad691) t658.length co110 : Value).ownBlock ∧ k_ ≠ gb661 ∧ k_ ≠ gb662 ∧ k_ ≠ gb700) (.slice Ao100 x663001_1.length co100) x663001_1) := ⟨h4_⟩
       have n5_ : Aside0 (w114.heap[gb661]? = some (.cells #[.slice Ao97 x662000_1.length co97, .slice Ao98 x662001_1.length co98] 25 (0, 0))) := ⟨h5_⟩
       have n6_ : Aside0 (w114.heap[gb662]? = some (.cells #[.slice Ao99 x663000_1.length co99, .slice Ao100 x663001_1.length co100] 25 (0, 0))) := ⟨h6_⟩
       have n7_ : Aside0 (w114.heap[gb700]? = some (.cells #[.string (⟨#[]⟩ : ByteArray), .int .i64 0, .int .i64 0, .int .i64 0, .int .i64 0, .int .i64 0, .int .i64 0] 51 (0, 0))) := ⟨h7_⟩
       have n8_ : Aside0 (w.heap.size ≤ gb700) := ⟨h8_⟩
       have n9_ : Aside0 (w.heap.size ≤ gb700) := ⟨h9_⟩
       have n10_ : Aside0 (gb661 ≠ gb700) := ⟨h10_⟩
       have n11_ : Aside0 (gb700 ≠ gb661) := ⟨h11_⟩
       have n12_ : Aside0 (gb662 ≠ gb700) := ⟨h12_⟩
       have n13_ : Aside0 (gb700 ≠ gb662) := ⟨h13_⟩
       have n14_ : Aside0 (Below w.heap.size w w114) := ⟨h14_⟩
       clear HO_4
       clear HO_662000
       clear HO_662001
       clear HO_663000
       clear HO_663001
       clear BK661
       clear BK662
       clear HB
       clear h0_ h1_ h2_ h3_ h4_ h5_ h6_ h7_ h8_ h9_ h10_ h11_ h12_ h13_ h14_
       have HO_4 := n0_
       have HO_662000 := n1_
       have HO_662001 := n2_
       have HO_663000 := n3_
       have HO_663001 := n4_
       have BK661 := n5_
       have BK662 := n6_
       have BK700 := n7_
       have GE700 := n9_
       have NB661_700 := n10_
       have NB700_661 := n11_
       have NB662_700 := n12_
       have NB700_662 := n13_
       have HB := n14_
       clear n0_ n1_ n2_ n3_ n4_ n5_ n6_ n7_ n8_ n9_ n10_ n11_ n12_ n13_ n14_
       have hHeld : w114.cell? ⟨gb661, 0, none⟩ = some (.slice Ao97 x662000_1.length co97) ∧ w114.cell? ⟨gb661, 1, none⟩ = some (.slice Ao98 x662001_1.length co98) ∧ w114.cell? (ad691.add ((x14_2).toNat * 7)) = some (.string ((rd_T51 t658 x14_2).f0)) ∧ w114.cell? ⟨(ad691.add ((x14_2).toNat * 7)).block, (ad691.add ((x14_2).toNat * 7)).off + 1, none⟩ = some (.int .i64 ((rd_T51 t658 x14_2).f1.f0)) ∧ w114.cell? ⟨(ad691.add ((x14_2).toNat * 7)).block, (ad691.add ((x14_2).toNat * 7)).off + 2, none⟩ = some (.int .i64 ((rd_T51 t658 x14_2).f1.f1)) ∧ w114.cell? ⟨(ad691.add ((x14_2).toNat * 7)).block, (ad691.add ((x14_2).toNat * 7)).off + 3, none⟩ = some (.int .i64 ((rd_T51 t658 x14_2).f1.f2)) ∧ w114.cell? ⟨(ad691.add ((x14_2).toNat * 7)).block, (ad691.add ((x14_2).toNat * 7)).off + 4, none⟩ = some (.int .i64 ((rd_T51 t658 x14_2).f2.f0)) ∧ w114.cell? ⟨(ad691.add ((x14_2).toNat * 7)).block, (ad691.add ((x14_2).toNat * 7)).off + 5, none⟩ = some (.int .i64 ((rd_T51 t658 x14_2).f2.f1)) ∧ w114.cell? ⟨(ad691.add ((x14_2).toNat * 7)).block, (ad691.add ((x14_2).toNat * 7)).off + 6, none⟩ = some (.int .i64 ((rd_T51 t658 x14_2).f2.f2)) := hS_
       refine norm_ (a' := ?_) ?_ ?_
       rotate_left
       ·simp only [putAll, Act.put, List.setIfInBounds_toArray, List.set_cons_zero, List.set_cons_succ]
        rfl
       refine one_ (i := 11) (N := none) (My.Mb 13 4095) rfl rfl (one_of HT_.out (by kernel_rfl)) (by decide) (fun K hK => ?_)
       have hs115 : w114.cell? ⟨gb700, 0, none⟩ = some (.string (⟨#[]⟩ : ByteArray)) := My.b_ BK700 0
       have hfs115 := blk_frozen BK700.out 0
       have hns115_0 := NB661_700.out
       have hns115_1 := NB662_700.out
       have hms115_0 := NB700_661.out
       have hms115_1 := NB700_662.out
       have hs116 : w114.cell? ⟨gb700, 1, none⟩ = some (.int .i64 0) := My.b_ BK700 1
       have hfs116 := blk_frozen BK700.out 1
       have hns116_0 := NB661_700.out
       have hns116_1 := NB662_700.out
       have hms116_0 := NB700_661.out
       have hms116_1 := NB700_662.out
       have hs117 : w114.cell? ⟨gb700, 2, none⟩ = some (.int .i64 0) := My.b_ BK700 2
       have hfs117 := blk_frozen BK700.out 2
       have hns117_0 := NB661_700.out
       have hns117_1 := NB662_700.out
       have hms117_0 := NB700_661.out
       have hms117_1 := NB700_662.out
       have hs118 : w114.cell? ⟨gb700, 3, none⟩ = some (.int .i64 0) := My.b_ BK700 3
       have hfs118 := blk_frozen BK700.out 3
       have hns118_0 := NB661_700.out
       have hns118_1 := NB662_700.out
       have hms118_0 := NB700_661.out
       have hms118_1 := NB700_662.out
       have hs119 : w114.cell? ⟨gb700, 4, none⟩ = some (.int .i64 0) := My.b_ BK700 4
       have hfs119 := blk_frozen BK700.out 4
       have hns119_0 := NB661_700.out
       have hns119_1 := NB662_700.out
       have hms119_0 := NB700_661.out
       have hms119_1 := NB700_662.out
       have hs120 : w114.cell? ⟨gb700, 5, none⟩ = some (.int .i64 0) := My.b_ BK700 5
       have hfs120 := blk_frozen BK700.out 5
       have hns120_0 := NB661_700.out
       have hns120_1 := NB662_700.out
       have hms120_0 := NB700_661.out
       have hms120_1 := NB700_662.out
       have hs121 : w114.cell? ⟨gb700, 6, none⟩ = some (.int .i64 0) := My.b_ BK700 6
       have hfs121 := blk_frozen BK700.out 6
       have hns121_0 := NB661_700.out
       have hns121_1 := NB662_700.out
       have hms121_0 := NB700_661.out
       have hms121_1 := NB700_662.out
       refine skip_ (w1 := ?_) (by rfl) rfl ?_ ?_
       rotate_left
       ·go_simp
        rfl
       refine hK.out _ _ ⟨(My.cf7 NB661_700.out (hHeld.1)), (My.cf7 NB661_700.out (hHeld.2.1)), (My.cf7 (My.nx (Kd.own_blk (Kd.R_away HO_4.out (fun _ hk => hk)))) (hHeld.2.2.1)), (My.cf7 (My.nx (Kd.own_blk (Kd.R_away HO_4.out (fun _ hk => hk)))) (hHeld.2.2.2.1)), (My.cf7 (My.nx (Kd.own_blk (Kd.R_away HO_4.out (fun _ hk => hk)))) (hHeld.2.2.2.2.1)), (My.cf7 (My.nx (Kd.own_blk (Kd.R_away HO_4.out (fun _ hk => hk)))) (hHeld.2.2.2.2.2.1)), (My.cf7 (My.nx (Kd.own_blk (Kd.R_away HO_4.out (fun _ hk => hk)))) (hHeld.2.2.2.2.2.2.1)), (My.cf7 (My.nx (Kd.own_blk (Kd.R_away HO_4.out (fun _ hk => hk)))) (hHeld.2.2.2.2.2.2.2.1)), (My.cf7 (My.nx (Kd.own_blk (Kd.R_away HO_4.out (fun _ hk => hk)))) (hHeld.2.2.2.2.2.2.2.2))⟩ (fun hHeld => ?_)
       clear hK K
       refine My.pu_ 12 16 13 HT_.out ?_
       refine done_ (done_of HT_.out (by kernel_rfl)) ?_
       try go_wp2
       obtain ⟨w122, hz_⟩ : ∃ z_, z_ = (((((((w114.setCell ⟨gb700, 0, none⟩ (.string t692)).setCell ⟨gb700, 1, none⟩ (.int .i64 t693)).setCell ⟨gb700, 2, none⟩ (.int .i64 t694)).setCell ⟨gb700, 3, none⟩ (.int .i64 t695)).setCell ⟨gb700, 4, none⟩ (.int .i64 t696)).setCell ⟨gb700, 5, none⟩ (.int .i64 t697)).setCell ⟨gb700, 6, none⟩ (.int .i64 t698)) := ⟨_, rfl⟩
       replace HO_4 : Aside0 (Kd.R k51 51 w122 w.heap.size (fun k_ => k_ ≠ gb700) (.slice (some ad691) t658.length co110) t658) := ⟨by rw [hz_]; exact My.dR (Kd.R_mono (Kd.R_far (p := ⟨gb700, 6, none⟩) (Kd.R_far (p := ⟨gb700, 5, none⟩) (Kd.R_far (p := ⟨gb700, 4, none⟩) (Kd.R_far (p := ⟨gb700, 3, none⟩) (Kd.R_far (p := ⟨gb700, 2, none⟩) (Kd.R_far (p := ⟨gb700, 1, none⟩) (Kd.R_far (p := ⟨gb700, 0, none⟩) (Kd.R_mono HO_4.out (fun k_ hk => (⟨hk, hk⟩ : _ ∧ k_ ≠ gb700))) (fun _ hk => hk.2) (.string t692)) (fun _ hk => hk.2) (.int .i64 t693)) (fun _ hk => hk.2) (.int .i64 t694)) (fun _ hk => hk.2) (.int .i64 t695)) (fun _ hk => hk.2) (.int .i64 t696)) (fun _ hk => hk.2) (.int .i64 t697)) (fun _ hk => hk.2) (.int .i64 t698)) (fun _ hk => hk.1))⟩
       replace HO_662000 : Aside0 (Kd.V k51 51 w122 w.heap.size (fun k_ => some k_ ≠ (.slice (some ad691) t658.length co110 : Value).ownBlock ∧ k_ ≠ gb661 ∧ k_ ≠ gb662 ∧ k_ ≠ gb700) (.slice Ao97 x662000_1.length co97) x662000_1) := ⟨by rw [hz_]; exact My.dV (Kd.V_mono (Kd.V_far (p := ⟨gb700, 6, none⟩) (Kd.V_far (p := ⟨gb700, 5, none⟩) (Kd.V_far (p := ⟨gb700, 4, none⟩) (Kd.V_far (p := ⟨gb700, 3, none⟩) (Kd.V_far (p := ⟨gb700, 2, none⟩) (Kd.V_far (p := ⟨gb700, 1, none⟩) (Kd.V_far (p := ⟨gb700, 0, none⟩) (Kd.V_mono HO_662000.out (fun k_ hk => (⟨hk, hk.2.2.2⟩ : _ ∧ k_ ≠ gb700))) (fun _ hk => hk.2) (.string t692)) (fun _ hk => hk.2) (.int .i64 t693)) (fun _ hk => hk.2) (.int .i64 t694)) (fun _ hk => hk.2) (.int .i64 t695)) (fun _ hk => hk.2) (.int .i64 t696)) (fun _ hk => hk.2) (.int .i64 t697)) (fun _ hk => hk.2) (.int .i64 t698)) (fun _ hk => ⟨hk.1.1, ⟨hk.1.2.1, ⟨hk.1.2.2.1, hk.1.2.2.2⟩⟩⟩))⟩
       replace HO_662001 : Aside0 (Kd.V k64 64 w122 w.heap.size (fun k_ => some k_ ≠ (.slice (some ad691) t658.length co110 : Value).ownBlock ∧ k_ ≠ gb661 ∧ k_ ≠ gb662 ∧ k_ ≠ gb700) (.slice Ao98 x662001_1.length co98) x662001_1) := ⟨by rw [hz_]; exact My.dV (Kd.V_mono (Kd.V_far (p := ⟨gb700, 6, none⟩) (Kd.V_far (p := ⟨gb700, 5, none⟩) (Kd.V_far (p := ⟨gb700, 4, none⟩) (Kd.V_far (p := ⟨gb700, 3, none⟩) (Kd.V_far (p := ⟨gb700, 2, none⟩) (Kd.V_far (p := ⟨gb700, 1, none⟩) (Kd.V_far (p := ⟨gb700, 0, none⟩) (Kd.V_mono HO_662001.out (fun k_ hk => (⟨hk, hk.2.2.2⟩ : _ ∧ k_ ≠ gb700))) (fun _ hk => hk.2) (.string t692)) (fun _ hk => hk.2) (.int .i64 t693)) (fun _ hk => hk.2) (.int .i64 t694)) (fun _ hk => hk.2) (.int .i64 t695)) (fun _ hk => hk.2) (.int .i64 t696)) (fun _ hk => hk.2) (.int .i64 t697)) (fun _ hk => hk.2) (.int .i64 t698)) (fun _ hk => ⟨hk.1.1, ⟨hk.1.2.1, ⟨hk.1.2.2.1, hk.1.2.2.2⟩⟩⟩))⟩
       replace HO_663000 : Aside0 (Kd.V k51 51 w122 w.heap.size (fun k_ => some k_ ≠ (.slice (some ad691) t658.length co110 : Value).ownBlock ∧ k_ ≠ gb661 ∧ k_ ≠ gb662 ∧ k_ ≠ gb700) (.slice Ao99 x663000_1.length co99) x663000_1) := ⟨by rw [hz_]; exact My.dV (Kd.V_mono (Kd.V_far (p := ⟨gb700, 6, none⟩) (Kd.V_far (p := ⟨gb700, 5, none⟩) (Kd.V_far (p := ⟨gb700, 4, none⟩) (Kd.V_far (p := ⟨gb700, 3, none⟩) (Kd.V_far (p := ⟨gb700, 2, none⟩) (Kd.V_far (p := ⟨gb700, 1, none⟩) (Kd.V_far (p := ⟨gb700, 0, none⟩) (Kd.V_mono HO_663000.out (fun k_ hk => (⟨hk, hk.2.2.2⟩ : _ ∧ k_ ≠ gb700))) (fun _ hk => hk.2) (.string t692)) (fun _ hk => hk.2) (.int .i64 t693)) (fun _ hk => hk.2) (.int .i64 t694)) (fun _ hk => hk.2) (.int .i64 t695)) (fun _ hk => hk.2) (.int .i64 t696)) (fun _ hk => hk.2) (.int .i64 t697)) (fun _ hk => hk.2) (.int .i64 t698)) (fun _ hk => ⟨hk.1.1, ⟨hk.1.2.1, ⟨hk.1.2.2.1, hk.1.2.2.2⟩⟩⟩))⟩
       replace HO_663001 : Aside0 (Kd.V k64 64 w122 w.heap.size (fun k_ => some k_ ≠ (.slice (some ad691) t658.length co110 : Value).ownBlock ∧ k_ ≠ gb661 ∧ k_ ≠ gb662 ∧ k_ ≠ gb700) (.slice Ao100 x663001_1.length co100) x663001_1) := ⟨by rw [hz_]; exact My.dV (Kd.V_mono (Kd.V_far (p := ⟨gb700, 6, none⟩) (Kd.V_far (p := ⟨gb700, 5, none⟩) (Kd.V_far (p := ⟨gb700, 4, none⟩) (Kd.V_far (p := ⟨gb700, 3, none⟩) (Kd.V_far (p := ⟨gb700, 2, none⟩) (Kd.V_far (p := ⟨gb700, 1, none⟩) (Kd.V_far (p := ⟨gb700, 0, none⟩) (Kd.V_mono HO_663001.out (fun k_ hk => (⟨hk, hk.2.2.2⟩ : _ ∧ k_ ≠ gb700))) (fun _ hk => hk.2) (.string t692)) (fun _ hk => hk.2) (.int .i64 t693)) (fun _ hk => hk.2) (.int .i64 t694)) (fun _ hk => hk.2) (.int .i64 t695)) (fun _ hk => hk.2) (.int .i64 t696)) (fun _ hk => hk.2) (.int .i64 t697)) (fun _ hk => hk.2) (.int .i64 t698)) (fun _ hk => ⟨hk.1.1, ⟨hk.1.2.1, ⟨hk.1.2.2.1, hk.1.2.2.2⟩⟩⟩))⟩
       replace BK661 : Aside0 (w122.heap[gb661]? = some (.cells #[.slice Ao97 x662000_1.length co97, .slice Ao98 x662001_1.length co98] 25 (0, 0))) := ⟨by rw [hz_]; exact (My.sv_ BK661)⟩
       replace BK662 : Aside0 (w122.heap[gb662]? = some (.cells #[.slice Ao99 x663000_1.length co99, .slice Ao100 x663001_1.length co100] 25 (0, 0))) := ⟨by rw [hz_]; exact (My.sv_ BK662)⟩
       replace BK700 : Aside0 (w122.heap[gb700]? = some (.cells #[.string t692, .int .i64 t693, .int .i64 t694, .int .i64 t695, .int .i64 t696, .int .i64 t697, .int .i64 t698] 51 (0, 0))) := ⟨by rw [hz_]; exact (My.sv_ BK700)⟩
       replace HB : Aside0 (Below w.heap.size w w122) := ⟨by rw [hz_]; repeat (first | (with_reducible first | exact HB.out | apply below_alloc | apply pw_below_drewN | apply below_drew1 | refine below_set ?_ GE661.out | refine below_set ?_ GE662.out | refine below_set ?_ GE700.out) | exact HB.out)⟩
       rw [← hz_]
       clear hz_
       replace HO_4 := My.am (Kd.R_drew HO_4.out)
       replace HO_662000 := My.am (Kd.V_drew HO_662000.out)
       replace HO_662001 := My.am (Kd.V_drew HO_662001.out)
       replace HO_663000 := My.am (Kd.V_drew HO_663000.out)
       replace HO_663001 := My.am (Kd.V_drew HO_663001.out)
       replace BK661 := My.am (blk_drew BK661.out)
       replace BK662 := My.am (blk_drew BK662.out)
       replace BK700 := My.am (blk_drew BK700.out)
       replace HB := My.am (below_drew1 HB.out)
       have p701 : 0 ≤ (x14_2 : Int) := My.as_
       have q701 : x14_2 < (t658.length : Int) := My.as_
       obtain ⟨ad701, e701, hx701_0, hx701_1, hx701_2, hx701_3, hx701_4, hx701_5, hx701_6⟩ := at_T51 (Kd.R_reads' HO_4.out).2.2 x14_2 p701 q701
       obtain rfl : ad691 = ad701 := (by injection e701)
       replace p701 := eq_true p701
       replace q701 := eq_true q701
       refine start_ (n := 14) (S := fun w' => w'.cell? ⟨gb661, 0, none⟩ = some (.slice Ao97 x662000_1.length co97) ∧ w'.cell? ⟨gb661, 1, none⟩ = some (.slice Ao98 x662001_1.length co98) ∧ w'.cell? (ad691.add ((x14_2).toNat * 7)) = some (.string ((rd_T51 t658 x14_2).f0)) ∧ w'.cell? ⟨(ad691.add ((x14_2).toNat * 7)).block, (ad691.add ((x14_2).toNat * 7)).off + 1, none⟩ = some (.int .i64 ((rd_T51 t658 x14_2).f1.f0)) ∧ w'.cell? ⟨(ad691.add ((x14_2).toNat * 7)).block, (ad691.add ((x14_2).toNat * 7)).off + 2, none⟩ = some (.int .i64 ((rd_T51 t658 x14_2).f1.f1)) ∧ w'.cell? ⟨(ad691.add ((x14_2).toNat * 7)).block, (ad691.add ((x14_2).toNat * 7)).off + 3, none⟩ = some (.int .i64 ((rd_T51 t658 x14_2).f1.f2)) ∧ w'.cell? ⟨(ad691.add ((x14_2).toNat * 7)).block, (ad691.add ((x14_2).toNat * 7)).off + 4, none⟩ = some (.int .i64 ((rd_T51 t658 x14_2).f2.f0)) ∧ w'.cell? ⟨(ad691.add ((x14_2).toNat * 7)).block, (ad691.add ((x14_2).toNat * 7)).off + 5, none⟩ = some (.int .i64 ((rd_T51 t658 x14_2).f2.f1)) ∧ w'.cell? ⟨(ad691.add ((x14_2).toNat * 7)).block, (ad691.add ((x14_2).toNat * 7)).off + 6, none⟩ = some (.int .i64 ((rd_T51 t658 x14_2).f2.f2))) (ds := []) #[false, false, false, false, false, false, false, false, false, false, false, false, false, false] (by kernel_rfl) rfl rfl ⟨My.b_ BK661 0, My.b_ BK661 1, hx701_0, hx701_1, hx701_2, hx701_3, hx701_4, hx701_5, hx701_6⟩ (fun hHeld => ?_); refine with_tabW ententelaw07_LedgerBack.tab26 ententelaw07_LedgerBack.bits26 (fun HT_ HW_ => ?_)
       generalize w122.drew = w123 at HO_4 HO_662000 HO_662001 HO_663000 HO_663001 BK661 BK662 BK700 HB hx701_0 hx701_1 hx701_2 hx701_3 hx701_4 hx701_5 hx701_6 hHeld ⊢
       refine My.pv_ 1 100 14 2 HT_.out ?_
       refine My.pv_ 2 101 14 6 HT_.out ?_
       refine My.pv_ 3 102 14 14 HT_.out ?_
       refine My.pv_ 4 103 14 30 HT_.out ?_
       refine My.tv_ 0 99 14 31 HT_.out HW_.out hHeld rfl rfl (by rintro w' ⟨s0, s1, s2, s3, s4, s5, s6, s7, s8⟩; go_simp; with_reducible rfl) ?_
       refine My.ta_ 5 104 14 HT_.out HW_.out hHeld rfl rfl (by rintro w' ⟨s0, s1, s2, s3, s4, s5, s6, s7, s8⟩; go_simp; with_reducible rfl) ?_
       refine one_ (i := 6) (N := some 105) (My.Mb 14 127) rfl rfl (one_of HT_.out (by kernel_rfl)) (by decide) (fun K hK => ?_)
       refine goes_ Try.func23 (by kernel_rfl) rfl #[.agg #[.slice Ao97 x662000_1.length co97, .slice Ao98 x662001_1.length co98], .string ((rd_T51 t658 x14_2).f0), .string (⟨#[]⟩ : ByteArray)] (by rfl) rfl rfl My.gx ?_
       with_reducible refine (ledger_Net.calls k2 _ _ x662000_1 _ _ x662001_1 ((rd_T51 t658 x14_2).f0) (⟨#[]⟩ : ByteArray) t702 t703 t704 _ ?side1 ?side2 ?side3 ?side4 A105.out).mono ?_
       (case side1 => repeat (first | exact (Kd.V_reads' HO_662000.out).2.2 | (with_reducible refine Kd.C_alloc ?_ _) | (with_reducible refine Kd.C_drewN ?_ _) | (with_reducible refine Kd.C_drew ?_)))
       (case side2 => exact (Kd.V_reads' HO_662000.out).2.1)
       (case side3 => repeat (first | exact (Kd.V_reads' HO_662001.out).2.2 | (with_reducible refine Kd.C_alloc ?_ _) | (with_reducible refine Kd.C_drewN ?_ _) | (with_reducible refine Kd.C_drew ?_)))
       (case side4 => exact (Kd.V_reads' HO_662001.out).2.1)
       rintro e w124 ⟨rfl, hb⟩
       have HS2_ := (hb.cell (World.block_lt_of_cell? _ _ (hHeld.2.2.1))).trans (hHeld.2.2.1)
       have HS3_ := (hb.cell (World.block_lt_of_cell? _ _ (hHeld.2.2.2.1))).trans (hHeld.2.2.2.1)
       have HS4_ := (hb.cell (World.block_lt_of_cell? _ _ (hHeld.2.2.2.2.1))).trans (hHeld.2.2.2.2.1)
       have HS5_ := (hb.cell (World.block_lt_of_cell? _ _ (hHeld.2.2.2.2.2.1))).trans (hHeld.2.2.2.2.2.1)
       have HS6_ := (hb.cell (World.block_lt_of_cell? _ _ (hHeld.2.2.2.2.2.2.1))).trans (hHeld.2.2.2.2.2.2.1)
       have HS7_ := (hb.cell (World.block_lt_of_cell? _ _ (hHeld.2.2.2.2.2.2.2.1))).trans (hHeld.2.2.2.2.2.2.2.1)
       have HS8_ := (hb.cell (World.block_lt_of_cell? _ _ (hHeld.2.2.2.2.2.2.2.2))).trans (hHeld.2.2.2.2.2.2.2.2)
       refine ⟨_, rfl, ?_⟩
       replace HO_4 := My.am (Kd.R_below (My.dr HO_4.out) hb)
       replace HO_662000 := My.am (Kd.V_below (My.dV HO_662000.out) hb)
       replace HO_662001 := My.am (Kd.V_below (My.dV HO_662001.out) hb)
       replace HO_663000 := My.am (Kd.V_below (My.dV HO_663000.out) hb)
       replace HO_663001 := My.am (Kd.V_below (My.dV HO_663001.out) hb)
       replace BK661 := My.ab BK661 hb
       replace BK662 := My.ab BK662 hb
       replace BK700 := My.ab BK700 hb
       replace HB := My.st HB hb
       (try clear hb)
       (try clear hb2)
       (try clear hk)
       (try clear hi)
       refine hK.out _ _ ⟨My.b_ BK661 0, My.b_ BK661 1, HS2_, HS3_, HS4_, HS5_, HS6_, HS7_, HS8_⟩ (fun hHeld => ?_)
       clear hK K
       refine My.nm 105 ?_
       refine My.pu_ 7 98 14 HT_.out ?_
       refine My.pu_ 8 106 14 HT_.out ?_
       refine My.pu_ 9 107 14 HT_.out ?_
       refine My.pu_ 10 108 14 HT_.out ?_
       refine My.pu_ 11 17 14 HT_.out ?_
       refine My.pu_ 12 18 14 HT_.out ?_
       refine My.pu_ 13 19 14 HT_.out ?_
       refine done_ (done_of HT_.out (by kernel_rfl)) ?_
       try go_wp2
       replace HO_4 := My.am (Kd.R_drew HO_4.out)
       replace HO_662000 := My.am (Kd.V_drew HO_662000.out)
       replace HO_662001 := My.am (Kd.V_drew HO_662001.out)
       replace HO_663000 := My.am (Kd.V_drew HO_663000.out)
       replace HO_663001 := My.am (Kd.V_drew HO_663001.out)
       replace BK661 := My.am (blk_drew BK661.out)
       replace BK662 := My.am (blk_drew BK662.out)
       replace BK700 := My.am (blk_drew BK700.out)
       replace HB := My.am (below_drew1 HB.out)
       have p705 : 0 ≤ (x14_2 : Int) := My.as_
       have q705 : x14_2 < (t658.length : Int) := My.as_
       obtain ⟨ad705, e705, hx705_0, hx705_1, hx705_2, hx705_3, hx705_4, hx705_5, hx705_6⟩ := at_T51 (Kd.R_reads' HO_4.out).2.2 x14_2 p705 q705
       obtain rfl : ad691 = ad705 := (by injection e705)
       replace p705 := eq_true p705
       replace q705 := eq_true q705
       refine start_ (n := 27) (S := fun w' => w'.cell? ⟨gb700, 0, none⟩ = some (.string t692) ∧ w'.cell? ⟨gb700, 1, none⟩ = some (.int .i64 t693) ∧ w'.cell? ⟨gb700, 2, none⟩ = some (.int .i64 t694) ∧ w'.cell? ⟨gb700, 3, none⟩ = some (.int .i64 t695) ∧ w'.cell? ⟨gb700, 4, none⟩ = some (.int .i64 t696) ∧ w'.cell? ⟨gb700, 5, none⟩ = some (.int .i64 t697) ∧ w'.cell? ⟨gb700, 6, none⟩ = some (.int .i64 t698) ∧ w'.cell? (ad691.add ((x14_2).toNat * 7)) = some (.string ((rd_T51 t658 x14_2).f0)) ∧ w'.cell? ⟨(ad691.add ((x14_2).toNat * 7)).block, (ad691.add ((x14_2).toNat * 7)).off + 1, none⟩ = some (.int .i64 ((rd_T51 t658 x14_2).f1.f0)) ∧ w'.cell? ⟨(ad691.add ((x14_2).toNat * 7)).block, (ad691.add ((x14_2).toNat * 7)).off + 2, none⟩ = some (.int .i64 ((rd_T51 t658 x14_2).f1.f1)) ∧ w'.cell? ⟨(ad691.add ((x14_2).toNat * 7)).block, (ad691.add ((x14_2).toNat * 7)).off + 3, none⟩ = some (.int .i64 ((rd_T51 t658 x14_2).f1.f2)) ∧ w'.cell? ⟨(ad691.add ((x14_2).toNat * 7)).block, (ad691.add ((x14_2).toNat * 7)).off + 4, none⟩ = some (.int .i64 ((rd_T51 t658 x14_2).f2.f0)) ∧ w'.cell? ⟨(ad691.add ((x14_2).toNat * 7)).block, (ad691.add ((x14_2).toNat * 7)).off + 5, none⟩ = some (.int .i64 ((rd_T51 t658 x14_2).f2.f1)) ∧ w'.cell? ⟨(ad691.add ((x14_2).toNat * 7)).block, (ad691.add ((x14_2).toNat * 7)).off + 6, none⟩ = some (.int .i64 ((rd_T51 t658 x14_2).f2.f2))) (ds := []) #[false, false, false, false, false, false, false, false, false, false, false, false, false, false, false, false, false, false, false, false, false, false, false, false, false, false, false] (by kernel_rfl) rfl rfl ⟨My.b_ BK700 0, My.b_ BK700 1, My.b_ BK700 2, My.b_ BK700 3, My.b_ BK700 4, My.b_ BK700 5, My.b_ BK700 6, hx705_0, hx705_1, hx705_2, hx705_3, hx705_4, hx705_5, hx705_6⟩ (fun hHeld => ?_); refine with_tabW ententelaw07_LedgerBack.tab27 ententelaw07_LedgerBack.bits27 (fun HT_ HW_ => ?_)
       generalize w124.drew = w125 at HO_4 HO_662000 HO_662001 HO_663000 HO_663001 BK661 BK662 BK700 HB hx705_0 hx705_1 hx705_2 hx705_3 hx705_4 hx705_5 hx705_6 hHeld ⊢
       refine My.pu_ 0 109 27 HT_.out ?_
       refine My.pu_ 1 110 27 HT_.out ?_
       refine My.pu_ 2 111 27 HT_.out ?_
       refine My.pu_ 3 112 27 HT_.out ?_
       refine My.pu_ 4 113 27 HT_.out ?_
       refine My.pu_ 5 114 27 HT_.out ?_
       refine My.pu_ 6 115 27 HT_.out ?_
       refine My.pu_ 7 116 27 HT_.out ?_
       refine My.pv_ 9 118 27 767 HT_.out ?_
       refine My.pv_ 10 119 27 1791 HT_.out ?_
       refine My.pv_ 11 120 27 3839 HT_.out ?_
       refine My.pv_ 12 121 27 7935 HT_.out ?_
       refine My.pv_ 13 122 27 16127 HT_.out ?_
       refine My.pv_ 15 124 27 48895 HT_.out ?_
       refine My.tv_ 8 117 27 49151 HT_.out HW_.out hHeld rfl rfl (by rintro w' ⟨s0, s1, s2, s3, s4, s5, s6, s7, s8, s9, s10, s11, s12, s13⟩; go_simp; with_reducible rfl) ?_
       refine My.tv_ 14 123 27 65535 HT_.out HW_.out hHeld rfl rfl (by rintro w' ⟨s0, s1, s2, s3, s4, s5, s6, s7, s8, s9, s10, s11, s12, s13⟩; go_simp; with_reducible rfl) ?_
       refine My.pu_ 16 125 27 HT_.out ?_
       refine My.pu_ 17 126 27 HT_.out ?_
       refine My.pu_ 18 127 27 HT_.out ?_
       refine My.pu_ 19 128 27 HT_.out ?_
       refine My.pu_ 20 129 27 HT_.out ?_
       refine My.pu_ 21 130 27 HT_.out ?_
       refine My.pv_ 23 132 27 12582911 HT_.out ?_
       refine My.pv_ 24 133 27 29360127 HT_.out ?_
       refine My.tv_ 22 131 27 33554431 HT_.out HW_.out hHeld rfl rfl (by rintro w' ⟨s0, s1, s2, s3, s4, s5, s6, s7, s8, s9, s10, s11, s12, s13⟩; go_simp; with_reducible rfl) ?_
       refine My.pu_ 25 134 27 HT_.out ?_
       refine My.pu_ 26 135 27 HT_.out ?_
       refine done_ (done_of HT_.out (by kernel_rfl)) ?_
       try go_wp2
       go_roundg k2
       case measure => have := HK1.out; have := HK2.out; omega
       case rel => exact ⟨(wrap64 (x14_2 + 1)), My.r1, H', ⟨by have := HK1.out; have := HK2.out; omega⟩, ⟨My.dR (Kd.R_mono HO_4.out (fun _ hk => trivial))⟩, ⟨My.dV (Kd.V_mono HO_662000.out (fun _ hk => ⟨hk.1, ⟨hk.2.1, hk.2.2.1⟩⟩))⟩, ⟨My.dV (Kd.V_mono HO_662001.out (fun _ hk => ⟨hk.1, ⟨hk.2.1, hk.2.2.1⟩⟩))⟩, ⟨My.dV (Kd.V_mono HO_663000.out (fun _ hk => ⟨hk.1, ⟨hk.2.1, hk.2.2.1⟩⟩))⟩, ⟨My.dV (Kd.V_mono HO_663001.out (fun _ hk => ⟨hk.1, ⟨hk.2.1, hk.2.2.1⟩⟩))⟩, ⟨(My.at_ BK661)⟩, ⟨(My.at_ BK662)⟩, ⟨(My.bl_ HB)⟩⟩
  ·exact My.nn c5 H
 ·replace c3 := Bool.eq_false_iff.mpr c3
  subst c3
  rw [if_neg (show ¬ (false = true) by decide)] at H
  replace H := Option.bind_eq_some_iff.mp H
  obtain ⟨t651, A1290, H⟩ := H
  try dsimp only at H
  have A129 := My.am A1290
  clear A1290
  obtain rfl := Option.some.inj H
  go_enter Try.func7, Try.ntmps7
  go_wp2_with (first | ((with_reducible refine gate_callee (f := 18) rfl ?_); refine goesL_ (some 21) rfl rfl Try.func18 (by kernel_rfl) rfl #[.slice A0 l0.length c0] rfl My.gx ?_; (with_reducible refine (ententelaw07_few.calls k _ _ l0 false _ ?side1 ?side2 A2.out).mono ?_); (case side1 => repeat (first | exact HR0.out | (with_reducible refine Kd.C_alloc ?_ _) | (with_reducible refine Kd.C_drewN ?_ _) | (with_reducible refine Kd.C_drew ?_))); (case side2 => exact HC0.out); rintro e w' ⟨rfl, ⟨nd, rfl⟩⟩; refine ⟨_, rfl, ?_⟩) | ((with_reducible refine gate_callee (f := 9) rfl ?_); refine goesL_ (some 23) rfl rfl Try.func9 (by kernel_rfl) rfl #[] rfl My.gx ?_; (with_reducible refine (ententelaw07_awake.calls k  t651 _ A129.out).mono ?_); rintro e w130 ⟨rfl, hb⟩; refine ⟨_, rfl, ?_⟩; replace HB := My.st HB hb; (try clear hb)))
  go_ret
  exact ⟨My.r2, (My.bl_ HB)⟩

/-- THE ONE PURE STATEMENT of ententelaw07_LedgerBack. -/
def ententelaw07_LedgerBack.Pure : Prop := ∀ (l0 : List S29), (l0.length ≤ 9223372036854775807 ∧ l0.length * 56 ≤ 140737488351232 ∧ ∀ y_ ∈ l0, Q29 y_) → ∃ k, ententelaw07_LedgerBack.f k l0 = some true

end Go.Proofs.Ytikanbdhpafbiaa.PO
