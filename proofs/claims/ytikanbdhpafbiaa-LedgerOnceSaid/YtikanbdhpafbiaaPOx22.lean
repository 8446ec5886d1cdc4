-- Written by a program of this session (wip/tools/mp.py over the kit's printer); Lean checks it.
import Derived.Test.YtikanbdhpafbiaaPOx0
import Derived.Test.YtikanbdhpafbiaaPOx6
import Derived.Test.YtikanbdhpafbiaaPOx16
import Derived.Test.YtikanbdhpafbiaaPOx17
import Derived.Test.YtikanbdhpafbiaaPOx21
namespace Go.Proofs.Ytikanbdhpafbiaa.PO
open Go.RowKit Go.Proofs.YtikanbdhpafbiaaW.PrintWords Go.Proofs.YtikanbdhpafbiaaW.PrintLast Go.Proofs.YtikanbdhpafbiaaW.PrintMore
attribute [local go_sem] max2_int min2_int max_two min_two max_three min_three max_four min_four   -- for this text's walks alone
set_option linter.unusedVariables false
set_option maxHeartbeats 8000000
set_option maxRecDepth 100000
set_option linter.unusedSimpArgs false

/-! ### ententelaw07_LedgerOnce: function 4 -/
mutual
def ententelaw07_LedgerOnce.l0 : Nat → List (S29) → Int → List (S51) → List (S64) → Option (Bool)
 | 0, _, _, _, _ => none
 | k + 1, x0, x4, x565000, x565001 => if x4 < (x0.length : Int) then (if 0 ≤ x4 then ((ententelaw07_does.f k x565000 x565001 ((rd_T29 x0 x4).f0) ((rd_T29 x0 x4).f1) ((rd_T29 x0 x4).f2.f0) ((rd_T29 x0 x4).f2.f1) ((rd_T29 x0 x4).f2.f2)).bind fun bt567 => ((ledger_May.f k bt567.1 bt567.2.1).bind fun t575 => (if t575 = 0 then (if bt567.2.2 = true then (ententelaw07_LedgerOnce.j1 k x0 x4 (((rd_T29 x0 x4).f0) != 0) bt567.1 bt567.2.1) else (ententelaw07_LedgerOnce.j1 k x0 x4 false bt567.1 bt567.2.1)) else (some false)))) else (none)) else ((ententelaw07_awake.f k).bind fun t565 => (some t565))
def ententelaw07_LedgerOnce.j1 : Nat → List (S29) → Int → Bool → List (S51) → List (S64) → Option (Bool)
 | 0, _, _, _, _, _ => none
 | k + 1, x0, x4, x40, x575000, x575001 => if x40 = true then (if 0 ≤ x4 then (if x4 < (x0.length : Int) then ((ententelaw07_does.f k x575000 x575001 ((rd_T29 x0 x4).f0) ((rd_T29 x0 x4).f1) ((rd_T29 x0 x4).f2.f0) ((rd_T29 x0 x4).f2.f1) ((rd_T29 x0 x4).f2.f2)).bind fun bt578 => (if bt578.2.2 = true then ((ententeref07_Same.f k bt578.1 bt578.2.1 x575000 x575001).bind fun t586 => (if t586 = true then (ententelaw07_LedgerOnce.l0 k x0 (wrap64 (x4 + 1)) x575000 x575001) else (some false))) else (some false))) else (none)) else (none)) else (ententelaw07_LedgerOnce.l0 k x0 (wrap64 (x4 + 1)) x575000 x575001)
end
def ententelaw07_LedgerOnce.f (k : Nat) (l0 : List (S29)) : Option (Bool) := (ententelaw07_few.f k l0).bind fun t562 => (if t562 = true then (ententelaw07_LedgerOnce.l0 k l0 0 ([] : List (S51)) ([] : List (S64))) else ((ententelaw07_awake.f k).bind fun t563 => (some t563)))
theorem ententelaw07_LedgerOnce.mono_l : ∀ k, (∀ y0 y1 y2 y3, LeO (ententelaw07_LedgerOnce.l0 k y0 y1 y2 y3) (ententelaw07_LedgerOnce.l0 (k + 1) y0 y1 y2 y3)) ∧ (∀ y0 y1 y2 y3 y4, LeO (ententelaw07_LedgerOnce.j1 k y0 y1 y2 y3 y4) (ententelaw07_LedgerOnce.j1 (k + 1) y0 y1 y2 y3 y4))
 | 0 => ⟨fun _ _ _ _ r h => by simp [ententelaw07_LedgerOnce.l0] at h, fun _ _ _ _ _ r h => by simp [ententelaw07_LedgerOnce.j1] at h⟩
 | k + 1 => by
  obtain ⟨ih0, ih1⟩ := ententelaw07_LedgerOnce.mono_l k
  refine ⟨?_, ?_⟩
  ·intro y0 y1 y2 y3
   unfold ententelaw07_LedgerOnce.l0
   repeat' (with_reducible first | exact ih0 _ _ _ _ | exact ih1 _ _ _ _ _ | exact ententelaw07_awake.mono _ | exact ententelaw07_does.mono _ _ _ _ _ _ _ _ | exact ententelaw07_few.mono _ _ | exact ententeref07_Same.mono _ _ _ _ _ | exact ledger_May.mono _ _ _ | exact LeO.refl _ | exact LeO.none _ | apply LeO.ite | refine LeO.bind ?_ (fun _ => ?_))
  intro y0 y1 y2 y3 y4
  unfold ententelaw07_LedgerOnce.j1
  repeat' (with_reducible first | exact ih0 _ _ _ _ | exact ih1 _ _ _ _ _ | exact ententelaw07_awake.mono _ | exact ententelaw07_does.mono _ _ _ _ _ _ _ _ | exact ententelaw07_few.mono _ _ | exact ententeref07_Same.mono _ _ _ _ _ | exact ledger_May.mono _ _ _ | exact LeO.refl _ | exact LeO.none _ | apply LeO.ite | refine LeO.bind ?_ (fun _ => ?_))
theorem ententelaw07_LedgerOnce.mono : ∀ a0 k, LeO (ententelaw07_LedgerOnce.f k a0) (ententelaw07_LedgerOnce.f (k + 1) a0) := by
 intro a0 k
 obtain ⟨ih0, ih1⟩ := ententelaw07_LedgerOnce.mono_l k
 unfold ententelaw07_LedgerOnce.f
 repeat' (with_reducible first | exact ih0 _ _ _ _ | exact ih1 _ _ _ _ _ | exact ententelaw07_awake.mono _ | exact ententelaw07_does.mono _ _ _ _ _ _ _ _ | exact ententelaw07_few.mono _ _ | exact ententeref07_Same.mono _ _ _ _ _ | exact ledger_May.mono _ _ _ | exact LeO.refl _ | exact LeO.none _ | apply LeO.ite | refine LeO.bind ?_ (fun _ => ?_))
def ententelaw07_LedgerOnce.T7 : Bool × List (List Nat × List Nat) := (true, [([], []), ([], []), ([], []), ([1, 2], [1, 2]), ([3], [3]), ([0, 4], [0, 4]), ([5], [5]), ([6], [6]), ([6], [6]), ([], []), ([9, 7, 5, 0, 1, 2, 3, 4, 5, 6, 7, 9], [7, 9]), ([8, 10, 0, 1, 2, 3, 4, 5, 6, 7, 8, 9, 10], [8])])
def ententelaw07_LedgerOnce.B7 : List Nat := [0, 0, 0, 6, 14, 31, 63, 127, 127, 0, 767, 2047]
theorem ententelaw07_LedgerOnce.tab7 : rtab .any (opsOf Try.f4 7) = ententelaw07_LedgerOnce.T7 := by kernel_rfl
theorem ententelaw07_LedgerOnce.bits7 : waitsOk ententelaw07_LedgerOnce.T7.2 ententelaw07_LedgerOnce.B7 = true := by kernel_rfl
def ententelaw07_LedgerOnce.T11 : Bool × List (List Nat × List Nat) := (true, [([], []), ([], []), ([], []), ([1, 2], [1, 2]), ([3], [3]), ([0, 4], [0, 4]), ([5], [5]), ([6], [6]), ([6], [6]), ([], []), ([9, 7, 5, 0, 1, 2, 3, 4, 5, 6, 7, 9], [7, 9]), ([8, 10, 0, 1, 2, 3, 4, 5, 6, 7, 8, 9, 10], [8])])
def ententelaw07_LedgerOnce.B11 : List Nat := [0, 0, 0, 6, 14, 31, 63, 127, 127, 0, 767, 2047]
theorem ententelaw07_LedgerOnce.tab11 : rtab .any (opsOf Try.f4 11) = ententelaw07_LedgerOnce.T11 := by kernel_rfl
theorem ententelaw07_LedgerOnce.bits11 : waitsOk ententelaw07_LedgerOnce.T11.2 ententelaw07_LedgerOnce.B11 = true := by kernel_rfl
theorem ententelaw07_LedgerOnce.calls (k : Nat) (A0 : Option Addr) (c0 : Nat) (l0 : List (S29)) (r : Bool) (w : World) (hr0 : Kd.C k29 w A0 l0.length l0) (hc0 : l0.length ≤ c0) (ht : r = true) (h : ententelaw07_LedgerOnce.f k l0 = some r) :
  Calls Try.prog 4 #[.slice A0 l0.length c0] w fun e w' => e = .returned (.bool r) ∧ Below w.heap.size w w' := by
 have hu25 := Try.underlying25
 have hu29 := Try.underlying29
 have HR0 := My.am hr0
 have HC0 := My.am hc0
 clear hr0 hc0
 have HB := My.am (Below.refl w.heap.size w)
 have HT := My.am ht
 clear ht
 unfold ententelaw07_LedgerOnce.f at h
 have H := h
 clear h
 replace H := Option.bind_eq_some_iff.mp H
 obtain ⟨t562, A20, H⟩ := H
 try dsimp only at H
 have A2 := My.am A20
 clear A20
 by_cases c3 : t562 = true
 ·subst c3
  rw [if_pos rfl] at H
  have H' := My.am H
  clear H
  go_enter Try.func4, Try.ntmps4
  go_wp2_with (first | ((with_reducible refine gate_callee (f := 18) rfl ?_); refine goesL_ (some 10) rfl rfl Try.func18 (by kernel_rfl) rfl #[.slice A0 l0.length c0] rfl My.gx ?_; (with_reducible refine (ententelaw07_few.calls k _ _ l0 true _ ?side1 ?side2 A2.out).mono ?_); (case side1 => repeat (first | exact HR0.out | (with_reducible refine Kd.C_alloc ?_ _) | (with_reducible refine Kd.C_drewN ?_ _) | (with_reducible refine Kd.C_drew ?_))); (case side2 => exact HC0.out); rintro e w' ⟨rfl, ⟨nd, rfl⟩⟩; refine ⟨_, rfl, ?_⟩) | ((with_reducible refine gate_dst (N := 3) rfl ?_); refine My.bx 3 #[.slice none 0 0, .slice none 0 0] 25 ?_; intro gb564 hg w4 hbox hb; have BK564 := My.am (hbox); have GE564 := My.nge hg (My.bl_ HB); replace HB := My.st HB hb; clear hb hbox hg; have hq5 := My.cz2 BK564))
  go_loopg [4] k (fun kq v4 w' => ∃ (x4_1 : Int) (x565000_1 : List (S51)) (x565001_1 : List (S64)) (u565000 : Value) (u565001 : Value), v4 = .int .i64 x4_1 ∧ Aside0 (ententelaw07_LedgerOnce.l0 kq l0 x4_1 x565000_1 x565001_1 = some r) ∧ Aside0 (kq ≤ k) ∧ Aside0 (Kd.V k51 51 w' w.heap.size (fun k_ => k_ ≠ gb564) u565000 x565000_1) ∧ Aside0 (Kd.V k64 64 w' w.heap.size (fun k_ => k_ ≠ gb564) u565001 x565001_1) ∧ Aside0 (w'.heap[gb564]? = some (.cells #[u565000, u565001] 25 (0, 0))) ∧ Aside0 (Below w.heap.size w w'))
  case atStart => exact ⟨(0), (([] : List (S51))), (([] : List (S64))), (.slice none 0 0), (.slice none 0 0), My.r1, H', ⟨Nat.le_refl _⟩, ⟨Kd.V_nil _ _ _ _ _⟩, ⟨Kd.V_nil _ _ _ _ _⟩, ⟨(My.sv_ BK564)⟩, ⟨(My.bl_ HB)⟩⟩
  case round =>
   clear H'
   try clear c3
   try clear hq5
   obtain ⟨x4_1, x565000_1, x565001_1, u565000, u565001, rfl, HA, HK1, HO_565000, HO_565001, BK564, HB⟩ := hrel
   cases gk with
   | zero => exact absurd HA.out (by simp [ententelaw07_LedgerOnce.l0])
   | succ k1 =>
    have H := HA.out
    clear HA
    simp only [ententelaw07_LedgerOnce.l0] at H
    by_cases c6 : x4_1 < (l0.length : Int)
    rotate_left
    ·rw [if_neg c6] at H
     have c6b0 := decide_eq_false c6
     clear c6
     replace H := Option.bind_eq_some_iff.mp H
     obtain ⟨t565, A520, H⟩ := H
     try dsimp only at H
     have A52 := My.am A520
     clear A520
     obtain rfl := Option.some.inj H
     go_wp2_with (first | ((with_reducible refine gate_callee (f := 9) rfl ?_); refine goesL_ (some 59) rfl rfl Try.func9 (by kernel_rfl) rfl #[] rfl My.gx ?_; (with_reducible refine (ententelaw07_awake.calls k1  t565 _ A52.out).mono ?_); rintro e w53 ⟨rfl, hb⟩; refine ⟨_, rfl, ?_⟩; replace HB := My.st HB hb; (try clear hb)))
     go_ret
     exact ⟨My.r2, (My.bl_ HB)⟩
    rw [if_pos c6] at H
    have c6b0 := decide_eq_true c6
    clear c6
    replace H := My.ds H
    obtain ⟨c7b0, H⟩ := H
    replace H := Option.bind_eq_some_iff.mp H
    obtain ⟨⟨t567, t570, t573⟩, A80, H⟩ := H
    try dsimp only at H
    have A8 := My.am A80
    clear A80
    replace H := Option.bind_eq_some_iff.mp H
    obtain ⟨t575, A90, H⟩ := H
    try dsimp only at H
    have A9 := My.am A90
    clear A90
    by_cases c10 : t575 = 0
    rotate_left
    ·rw [if_neg c10] at H
     have c10b0 : (t575 == 0) = false := beq_eq_false_iff_ne.mpr c10
     have c10b1 : (t575 != 0) = true := bne_iff_ne.mpr c10
     exact absurd ((Option.some.inj H).trans HT.out) Bool.false_ne_true
    rw [if_pos c10] at H
    have c10b0 : (t575 == 0) = true := beq_iff_eq.mpr c10
    have c10b1 : (t575 != 0) = false := bne_eq_false_iff_eq.mpr c10
    clear c10
    have HC11 := My.am H
    clear H
    obtain ⟨Ao12, co12, eo12⟩ := Kd.V_slice HO_565000.out
    subst eo12
    obtain ⟨Ao13, co13, eo13⟩ := Kd.V_slice HO_565001.out
    subst eo13
    try go_wp2
    replace HO_565000 := My.am (Kd.V_drew HO_565000.out)
    replace HO_565001 := My.am (Kd.V_drew HO_565001.out)
    replace BK564 := My.am (blk_drew BK564.out)
    replace HB := My.am (below_drew1 HB.out)
    have p566 : 0 ≤ (x4_1 : Int) := My.as_
    have q566 : x4_1 < (l0.length : Int) := My.as_
    obtain ⟨ad566, e566, hx566_0, hx566_1, hx566_2, hx566_3, hx566_4⟩ := at_T29 HR0.out x4_1 p566 q566
    have hw566_4 := hx566_4
    have hw566_3 := hx566_3
    have hw566_2 := hx566_2
    have hw566_1 := hx566_1
    have hw566_0 := hx566_0
    cases e566
    replace hx566_0 := My.up HB hx566_0
    replace hx566_1 := My.up HB hx566_1
    replace hx566_2 := My.up HB hx566_2
    replace hx566_3 := My.up HB hx566_3
    replace hx566_4 := My.up HB hx566_4
    replace p566 := eq_true p566
    replace q566 := eq_true q566
    refine start_ (n := 12) (S := fun w' => w'.cell? ⟨gb564, 0, none⟩ = some (.slice Ao12 x565000_1.length co12) ∧ w'.cell? ⟨gb564, 1, none⟩ = some (.slice Ao13 x565001_1.length co13) ∧ w'.cell? (ad566.add ((x4_1).toNat * 5)) = some (.int .i64 ((rd_T29 l0 x4_1).f0)) ∧ w'.cell? ⟨(ad566.add ((x4_1).toNat * 5)).block, (ad566.add ((x4_1).toNat * 5)).off + 1, none⟩ = some (.string ((rd_T29 l0 x4_1).f1)) ∧ w'.cell? ⟨(ad566.add ((x4_1).toNat * 5)).block, (ad566.add ((x4_1).toNat * 5)).off + 2, none⟩ = some (.int .i64 ((rd_T29 l0 x4_1).f2.f0)) ∧ w'.cell? ⟨(ad566.add ((x4_1).toNat * 5)).block, (ad566.add ((x4_1).toNat * 5)).off + 3, none⟩ = some (.string ((rd_T29 l0 x4_1).f2.f1)) ∧ w'.cell? ⟨(ad566.add ((x4_1).toNat * 5)).block, (ad566.add ((x4_1).toNat * 5)).off + 4, none⟩ = some (.int .i64 ((rd_T29 l0 x4_1).f2.f2))) (ds := []) #[false, false, false, false, false, false, false, false, false, false, false, false] (by kernel_rfl) rfl rfl ⟨My.b_ BK564 0, My.b_ BK564 1, (My.up HB hw566_0), (My.up HB hw566_1), (My.up HB hw566_2), (My.up HB hw566_3), (My.up HB hw566_4)⟩ (fun hHeld => ?_); refine with_tabW ententelaw07_LedgerOnce.tab7 ententelaw07_LedgerOnce.bits7 (fun HT_ HW_ => ?_)
    generalize wr.drew = w14 at HO_565000 HO_565001 BK564 HB hx566_0 hx566_1 hx566_2 hx566_3 hx566_4 hHeld ⊢
    refine My.pv_ 1 22 12 2 HT_.out ?_
    refine My.pv_ 2 23 12 6 HT_.out ?_
    refine My.pv_ 3 24 12 14 HT_.out ?_
    refine My.tv_ 0 21 12 15 HT_.out HW_.out hHeld rfl rfl (by rintro w' ⟨s0, s1, s2, s3, s4, s5, s6⟩; go_simp; with_reducible rfl) ?_
    refine My.ta_ 4 25 12 HT_.out HW_.out hHeld rfl rfl (by rintro w' ⟨s0, s1, s2, s3, s4, s5, s6⟩; go_simp; with_reducible rfl) ?_
    refine join_ (σ := Value × Value × Nat) 2 (My.Mb 12 1023) (fun s_ => [(26, .tuple #[.agg #[s_.1, s_.2.1], .bool t573]), (5, .pointer (some ⟨s_.2.2, 0, none⟩)), (20, .tuple #[.agg #[s_.1, s_.2.1], .bool t573]), (27, .agg #[s_.1, s_.2.1]), (28, .bool t573)]) (fun s_ w' => (w'.cell? ⟨gb564, 0, none⟩ = some (.slice Ao12 x565000_1.length co12) ∧ w'.cell? ⟨gb564, 1, none⟩ = some (.slice Ao13 x565001_1.length co13) ∧ w'.cell? (ad566.add ((x4_1).toNat * 5)) = some (.int .i64 ((rd_T29 l0 x4_1).f0)) ∧ w'.cell? ⟨(ad566.add ((x4_1).toNat * 5)).block, (ad566.add ((x4_1).toNat * 5)).off + 1, none⟩ = some (.string ((rd_T29 l0 x4_1).f1)) ∧ w'.cell? ⟨(ad566.add ((x4_1).toNat * 5)).block, (ad566.add ((x4_1).toNat * 5)).off + 2, none⟩ = some (.int .i64 ((rd_T29 l0 x4_1).f2.f0)) ∧ w'.cell? ⟨(ad566.add ((x4_1).toNat * 5)).block, (ad566.add ((x4_1).toNat * 5)).off + 3, none⟩ = some (.string ((rd_T29 l0 x4_1).f2.f1)) ∧ w'.cell? ⟨(ad566.add ((x4_1).toNat * 5)).block, (ad566.add ((x4_1).toNat * 5)).off + 4, none⟩ = some (.int .i64 ((rd_T29 l0 x4_1).f2.f2))) ∧ (Kd.V k51 51 w' w.heap.size (fun k_ => k_ ≠ gb564 ∧ k_ ≠ s_.2.2) s_.1 t567) ∧ (Kd.V k64 64 w' w.heap.size (fun k_ => k_ ≠ gb564 ∧ k_ ≠ s_.2.2) s_.2.1 t570) ∧ (Kd.V k51 51 w' w.heap.size (fun k_ => k_ ≠ gb564 ∧ k_ ≠ s_.2.2) (.slice Ao12 x565000_1.length co12) x565000_1) ∧ (Kd.V k64 64 w' w.heap.size (fun k_ => k_ ≠ gb564 ∧ k_ ≠ s_.2.2) (.slice Ao13 x565001_1.length co13) x565001_1) ∧ (w'.heap[gb564]? = some (.cells #[.slice Ao12 x565000_1.length co12, .slice Ao13 x565001_1.length co13] 25 (0, 0))) ∧ (w'.heap[s_.2.2]? = some (.cells #[.slice none 0 0, .slice none 0 0] 25 (0, 0))) ∧ (w.heap.size ≤ s_.2.2) ∧ (w.heap.size ≤ s_.2.2) ∧ (gb564 ≠ s_.2.2) ∧ (s_.2.2 ≠ gb564) ∧ (Below w.heap.size w w')) ?_ ?_
    rotate_left
    ·intro hCont
     refine two_ (i := 5) (j := 9) (Ni := some 26) (Nj := some 5) (My.Mb 12 63) (My.Mb 12 543) rfl rfl rfl rfl (two_of HT_.out (by kernel_rfl)) (by decide) (by decide) (fun K hK => ?_) (fun K hK => ?_)
     ·skip
      refine goes_ Try.func19 (by kernel_rfl) rfl #[.agg #[.slice Ao12 x565000_1.length co12, .slice Ao13 x565001_1.length co13], .agg #[.int .i64 ((rd_T29 l0 x4_1).f0), .string ((rd_T29 l0 x4_1).f1), .int .i64 ((rd_T29 l0 x4_1).f2.f0), .string ((rd_T29 l0 x4_1).f2.f1), .int .i64 ((rd_T29 l0 x4_1).f2.f2)]] (by rfl) rfl rfl My.gx ?_
      with_reducible refine (ententelaw07_does.calls k1 (fun k_ => k_ ≠ gb564) _ _ x565000_1 (fun k_ => k_ ≠ gb564) _ _ x565001_1 ((rd_T29 l0 x4_1).f0) ((rd_T29 l0 x4_1).f1) ((rd_T29 l0 x4_1).f2.f0) ((rd_T29 l0 x4_1).f2.f1) ((rd_T29 l0 x4_1).f2.f2) t567 t570 t573 _ ?side1 ?side2 A8.out).mono ?_
      (case side1 => exact HO_565000.out)
      (case side2 => exact HO_565001.out)
      rintro e w15 ⟨v568, v571, rfl, ho0, ho1, hb⟩
      refine ⟨_, rfl, ?_⟩
      replace HO_565000 := My.am (Kd.V_below (My.dV HO_565000.out) hb)
      replace HO_565001 := My.am (Kd.V_below (My.dV HO_565001.out) hb)
      have HO569 := My.am (Kd.V_lower (Kd.V_mono (ok' := fun k_ => k_ ≠ gb564) ho0 (fun k_ hk_ => Or.elim hk_ (fun hs_ => Or.elim hs_ (fun hs_ => hs_) (fun hs_ => hs_)) (fun hn_ => (Kd.freshB (My.at_ BK564) k_ hn_)))) (below_size (My.bl_ HB)))
      have HO572 := My.am (Kd.V_lower (Kd.V_mono (ok' := fun k_ => k_ ≠ gb564) ho1 (fun k_ hk_ => Or.elim hk_ (fun hs_ => Or.elim hs_ (fun hs_ => hs_) (fun hs_ => hs_)) (fun hn_ => (Kd.freshB (My.at_ BK564) k_ hn_)))) (below_size (My.bl_ HB)))
      replace BK564 := My.ab BK564 hb
      replace HB := My.st HB hb
      (try clear hb)
      (try clear hb2)
      (try clear hk)
      (try clear hi)
      (try clear ho0)
      (try clear ho1)
      refine hK.out _ _ ⟨My.b_ BK564 0, My.b_ BK564 1, (My.up HB hw566_0), (My.up HB hw566_1), (My.up HB hw566_2), (My.up HB hw566_3), (My.up HB hw566_4)⟩ (fun hHeld => ?_)
      clear hK K
      refine My.nm 26 ?_
      refine My.pu_ 6 20 12 HT_.out ?_
      refine My.pu_ 7 27 12 HT_.out ?_
      refine My.pu_ 8 28 12 HT_.out ?_
      refine one_ (i := 9) (N := some 5) (My.Mb 12 1023) rfl rfl (one_of HT_.out (by kernel_rfl)) (by decide) (fun K hK => ?_)
      refine box_step ?hg (N := 5) ?hd (cs := #[.slice none 0 0, .slice none 0 0]) (t := 25) ?hr ?_; (case hd => rfl); (case hg => rfl); (case hr => first | (go_simp; done) | (go_simp; rfl))
      intro gb574 hg w16 hbox hb
      replace HO_565000 := My.am (Kd.V_below (Kd.V_elderB (My.dV HO_565000.out) gb574 (Nat.le_of_eq hg.symm)) hb)
      replace HO_565001 := My.am (Kd.V_below (Kd.V_elderB (My.dV HO_565001.out) gb574 (Nat.le_of_eq hg.symm)) hb)
      replace HO569 := My.am (Kd.V_below (Kd.V_elderB (My.dV HO569.out) gb574 (Nat.le_of_eq hg.symm)) hb)
      replace HO572 := My.am (Kd.V_below (Kd.V_elderB (My.dV HO572.out) gb574 (Nat.le_of_eq hg.symm)) hb)
      have BK574 := My.am (hbox)
      have GW574 := My.nge hg (My.bl_ HB)
      have GE574 := My.nge hg (My.bl_ HB)
      replace HB := My.st HB hb
      obtain ⟨NB564_574, NB574_564, BK564⟩ := My.nb hg hb BK564
      clear hb hbox hg
      refine hK.out _ _ ⟨My.b_ BK564 0, My.b_ BK564 1, (My.up HB hw566_0), (My.up HB hw566_1), (My.up HB hw566_2), (My.up HB hw566_3), (My.up HB hw566_4)⟩ (fun hHeld => ?_)
      clear hK K
      refine My.nm 5 ?_
      exact norm_ (by simp only [putAll, Act.put, List.setIfInBounds_toArray, List.set_cons_zero, List.set_cons_succ]) (hCont (v568, v571, gb574) _ ⟨hHeld, (My.dV HO569.out), (My.dV HO572.out), (My.dV HO_565000.out), (My.dV HO_565001.out), (My.at_ BK564), (My.at_ BK574), GW574.out, GE574.out, NB564_574.out, NB574_564.out, (My.bl_ HB)⟩)
     skip
     refine box_step ?hg (N := 5) ?hd (cs := #[.slice none 0 0, .slice none 0 0]) (t := 25) ?hr ?_; (case hd => rfl); (case hg => rfl); (case hr => first | (go_simp; done) | (go_simp; rfl))
     intro gb574 hg w15 hbox hb
     replace HO_565000 := My.am (Kd.V_below (Kd.V_elderB (My.dV HO_565000.out) gb574 (Nat.le_of_eq hg.symm)) hb)
     replace HO_565001 := My.am (Kd.V_below (Kd.V_elderB (My.dV HO_565001.out) gb574 (Nat.le_of_eq hg.symm)) hb)
     have BK574 := My.am (hbox)
     have GW574 := My.nge hg (My.bl_ HB)
     have GE574 := My.nge hg (My.bl_ HB)
     replace HB := My.st HB hb
     obtain ⟨NB564_574, NB574_564, BK564⟩ := My.nb hg hb BK564
     clear hb hbox hg
     refine hK.out _ _ ⟨My.b_ BK564 0, My.b_ BK564 1, (My.up HB hw566_0), (My.up HB hw566_1), (My.up HB hw566_2), (My.up HB hw566_3), (My.up HB hw566_4)⟩ (fun hHeld => ?_)
     clear hK K
     refine My.nm 5 ?_
     refine one_ (i := 5) (N := some 26) (My.Mb 12 575) rfl rfl (one_of HT_.out (by kernel_rfl)) (by decide) (fun K hK => ?_)
     refine goes_ Try.func19 (by kernel_rfl) rfl #[.agg #[.slice Ao12 x565000_1.length co12, .slice Ao13 x565001_1.length co13], .agg #[.int .i64 ((rd_T29 l0 x4_1).f0), .string ((rd_T29 l0 x4_1).f1), .int .i64 ((rd_T29 l0 x4_1).f2.f0), .string ((rd_T29 l0 x4_1).f2.f1), .int .i64 ((rd_T29 l0 x4_1).f2.f2)]] (by rfl) rfl rfl My.gx ?_
     with_reducible refine (ententelaw07_does.calls k1 (fun k_ => (k_ ≠ gb564 ∧ k_ ≠ gb574)) _ _ x565000_1 (fun k_ => (k_ ≠ gb564 ∧ k_ ≠ gb574)) _ _ x565001_1 ((rd_T29 l0 x4_1).f0) ((rd_T29 l0 x4_1).f1) ((rd_T29 l0 x4_1).f2.f0) ((rd_T29 l0 x4_1).f2.f1) ((rd_T29 l0 x4_1).f2.f2) t567 t570 t573 _ ?side1 ?side2 A8.out).mono ?_
     (case side1 => exact HO_565000.out)
     (case side2 => exact HO_565001.out)
     rintro e w16 ⟨v568, v571, rfl, ho0, ho1, hb⟩
     refine ⟨_, rfl, ?_⟩
     replace HO_565000 := My.am (Kd.V_below (My.dV HO_565000.out) hb)
     replace HO_565001 := My.am (Kd.V_below (My.dV HO_565001.out) hb)
     have HO569 := My.am (Kd.V_lower (Kd.V_mono (ok' := fun k_ => k_ ≠ gb564 ∧ k_ ≠ gb574) ho0 (fun k_ hk_ => ⟨Or.elim hk_ (fun hs_ => Or.elim hs_ (fun hs_ => hs_.1) (fun hs_ => hs_.1)) (fun hn_ => (Kd.freshB (My.at_ BK564) k_ hn_)), Or.elim hk_ (fun hs_ => Or.elim hs_ (fun hs_ => hs_.2) (fun hs_ => hs_.2)) (fun hn_ => (Kd.freshB (My.at_ BK574) k_ hn_))⟩)) (below_size (My.bl_ HB)))
     have HO572 := My.am (Kd.V_lower (Kd.V_mono (ok' := fun k_ => k_ ≠ gb564 ∧ k_ ≠ gb574) ho1 (fun k_ hk_ => ⟨Or.elim hk_ (fun hs_ => Or.elim hs_ (fun hs_ => hs_.1) (fun hs_ => hs_.1)) (fun hn_ => (Kd.freshB (My.at_ BK564) k_ hn_)), Or.elim hk_ (fun hs_ => Or.elim hs_ (fun hs_ => hs_.2) (fun hs_ => hs_.2)) (fun hn_ => (Kd.freshB (My.at_ BK574) k_ hn_))⟩)) (below_size (My.bl_ HB)))
     replace BK564 := My.ab BK564 hb
     replace BK574 := My.ab BK574 hb
     replace HB := My.st HB hb
     (try clear hb)
     (try clear hb2)
     (try clear hk)
     (try clear hi)
     (try clear ho0)
     (try clear ho1)
     refine hK.out _ _ ⟨My.b_ BK564 0, My.b_ BK564 1, (My.up HB hw566_0), (My.up HB hw566_1), (My.up HB hw566_2), (My.up HB hw566_3), (My.up HB hw566_4)⟩ (fun hHeld => ?_)
     clear hK K
     refine My.nm 26 ?_
     refine My.pv_ 6 20 12 639 HT_.out ?_
     refine My.pv_ 7 27 12 767 HT_.out ?_
     refine My.pv_ 8 28 12 1023 HT_.out ?_
     exact norm_ (by simp only [putAll, Act.put, List.setIfInBounds_toArray, List.set_cons_zero, List.set_cons_succ]) (hCont (v568, v571, gb574) _ ⟨hHeld, (My.dV HO569.out), (My.dV HO572.out), (My.dV HO_565000.out), (My.dV HO_565001.out), (My.at_ BK564), (My.at_ BK574), GW574.out, GE574.out, NB564_574.out, NB574_564.out, (My.bl_ HB)⟩)
    rintro ⟨v568, v571, gb574⟩ w17 ⟨hS_, h0_, h1_, h2_, h3_, h4_, h5_, h6_, h7_, h8_, h9_, h10_⟩
    have n0_ : Aside0 (Kd.V k51 51 w17 w.heap.size (fun k_ => k_ ≠ gb564 ∧ k_ ≠ gb574) v568 t567) := ⟨h0_⟩
    have n1_ : Aside0 (Kd.V k64 64 w17 w.heap.size (fun k_ => k_ ≠ gb564 ∧ k_ ≠ gb574) v571 t570) := ⟨h1_⟩
    have n2_ : Aside0 (Kd.V k51 51 w17 w.heap.size (fun k_ => k_ ≠ gb564 ∧ k_ ≠ gb574) (.slice Ao12 x565000_1.length co12) x565000_1) := ⟨h2_⟩
    have n3_ : Aside0 (Kd.V k64 64 w17 w.heap.size (fun k_ => k_ ≠ gb564 ∧ k_ ≠ gb574) (.slice Ao13 x565001_1.length co13) x565001_1) := ⟨h3_⟩
    have n4_ : Aside0 (w17.heap[gb564]? = some (.cells #[.slice Ao12 x565000_1.length co12, .slice Ao13 x565001_1.length co13] 25 (0, 0))) := ⟨h4_⟩
    have n5_ : Aside0 (w17.heap[gb574]? = some (.cells #[.slice none 0 0, .slice none 0 0] 25 (0, 0))) := ⟨h5_⟩
    have n6_ : Aside0 (w.heap.size ≤ gb574) := ⟨h6_⟩
    have n7_ : Aside0 (w.heap.size ≤ gb574) := ⟨h7_⟩
    have n8_ : Aside0 (gb564 ≠ gb574) := ⟨h8_⟩
    have n9_ : Aside0 (gb574 ≠ gb564) := ⟨h9_⟩
    have n10_ : Aside0 (Below w.heap.size w w17) := ⟨h10_⟩
    clear HO_565000
    clear HO_565001
    clear BK564
    clear HB
    clear h0_ h1_ h2_ h3_ h4_ h5_ h6_ h7_ h8_ h9_ h10_
    have HO569 := n0_
    have HO572 := n1_
    have HO_565000 := n2_
    have HO_565001 := n3_
    have BK564 := n4_
    have BK574 := n5_
    have GW574 := n6_
    have GE574 := n7_
    have NB564_574 := n8_
    have NB574_564 := n9_
    have HB := n10_
    clear n0_ n1_ n2_ n3_ n4_ n5_ n6_ n7_ n8_ n9_ n10_
    have hHeld : w17.cell? ⟨gb564, 0, none⟩ = some (.slice Ao12 x565000_1.length co12) ∧ w17.cell? ⟨gb564, 1, none⟩ = some (.slice Ao13 x565001_1.length co13) ∧ w17.cell? (ad566.add ((x4_1).toNat * 5)) = some (.int .i64 ((rd_T29 l0 x4_1).f0)) ∧ w17.cell? ⟨(ad566.add ((x4_1).toNat * 5)).block, (ad566.add ((x4_1).toNat * 5)).off + 1, none⟩ = some (.string ((rd_T29 l0 x4_1).f1)) ∧ w17.cell? ⟨(ad566.add ((x4_1).toNat * 5)).block, (ad566.add ((x4_1).toNat * 5)).off + 2, none⟩ = some (.int .i64 ((rd_T29 l0 x4_1).f2.f0)) ∧ w17.cell? ⟨(ad566.add ((x4_1).toNat * 5)).block, (ad566.add ((x4_1).toNat * 5)).off + 3, none⟩ = some (.string ((rd_T29 l0 x4_1).f2.f1)) ∧ w17.cell? ⟨(ad566.add ((x4_1).toNat * 5)).block, (ad566.add ((x4_1).toNat * 5)).off + 4, none⟩ = some (.int .i64 ((rd_T29 l0 x4_1).f2.f2)) := hS_
    obtain ⟨Ao18, co18, eo18⟩ := Kd.V_slice HO569.out
    (first | subst eo18 | (injection eo18 with f1_ f2_ f3_; have f4_ := f1_.symm; have f5_ := f3_.symm; clear f1_ f2_ f3_; subst f4_; subst f5_))
    obtain ⟨Ao20, co20, eo20⟩ := Kd.V_slice HO572.out
    (first | subst eo20 | (injection eo20 with f1_ f2_ f3_; have f4_ := f1_.symm; have f5_ := f3_.symm; clear f1_ f2_ f3_; subst f4_; subst f5_))
    refine norm_ (a' := ?_) ?_ ?_
    rotate_left
    ·simp only [putAll, Act.put, List.setIfInBounds_toArray, List.set_cons_zero, List.set_cons_succ]
     rfl
    refine one_ (i := 10) (N := none) (My.Mb 12 2047) rfl rfl (one_of HT_.out (by kernel_rfl)) (by decide) (fun K hK => ?_)
    have hs19 : w17.cell? ⟨gb574, 0, none⟩ = some (.slice none 0 0) := My.b_ BK574 0
    have hfs19 := blk_frozen BK574.out 0
    have hns19_0 := NB564_574.out
    have hms19_0 := NB574_564.out
    have hs21 : w17.cell? ⟨gb574, 1, none⟩ = some (.slice none 0 0) := My.b_ BK574 1
    have hfs21 := blk_frozen BK574.out 1
    have hns21_0 := NB564_574.out
    have hms21_0 := NB574_564.out
    refine skip_ (w1 := ?_) (by rfl) rfl ?_ ?_
    rotate_left
    ·go_simp
     rfl
    refine hK.out _ _ ⟨(My.c2 NB564_574.out hHeld.1), (My.c2 NB564_574.out hHeld.2.1), (My.c2 (My.nw hw566_0 GW574) hHeld.2.2.1), (My.c2 (My.nw hw566_1 GW574) hHeld.2.2.2.1), (My.c2 (My.nw hw566_2 GW574) hHeld.2.2.2.2.1), (My.c2 (My.nw hw566_3 GW574) hHeld.2.2.2.2.2.1), (My.c2 (My.nw hw566_4 GW574) hHeld.2.2.2.2.2.2)⟩ (fun hHeld => ?_)
    clear hK K
    refine My.pu_ 11 6 12 HT_.out ?_
    refine done_ (done_of HT_.out (by kernel_rfl)) ?_
    have hnb22 := NB574_564.out
    have hnc22 := NB564_574.out
    have hq23 := My.cz2 BK574
    go_upto_region 10 with (first | ((with_reducible refine gate_callee (f := 20) rfl ?_); refine goesL_ (some 30) rfl rfl Try.func20 (by kernel_rfl) rfl #[.agg #[.slice Ao18 t567.length co18, .slice Ao20 t570.length co20]] rfl My.gx ?_; (with_reducible refine (ledger_May.calls k1 _ _ t567 _ _ t570 t575 _ ?side1 ?side2 ?side3 ?side4 A9.out).mono ?_); (case side1 => refine (Kd.V_reads' (e := 51) (base := w.heap.size) (ok := fun k_ => (k_ ≠ gb564 ∧ k_ ≠ gb574)) (n := t567.length) (c := co18) ?_).2.2; exact (My.dV (Kd.V_mono (Kd.V_far (p := ⟨gb574, 1, none⟩) (Kd.V_far (p := ⟨gb574, 0, none⟩) (Kd.V_mono HO569.out (fun k_ hk => (⟨hk, hk.2⟩ : _ ∧ k_ ≠ gb574))) (fun _ hk => hk.2) (.slice Ao18 t567.length co18)) (fun _ hk => hk.2) (.slice Ao20 t570.length co20)) (fun _ h_ => h_.1)))); (case side2 => exact (Kd.V_reads' HO569.out).2.1); (case side3 => refine (Kd.V_reads' (e := 64) (base := w.heap.size) (ok := fun k_ => (k_ ≠ gb564 ∧ k_ ≠ gb574)) (n := t570.length) (c := co20) ?_).2.2; exact (My.dV (Kd.V_mono (Kd.V_far (p := ⟨gb574, 1, none⟩) (Kd.V_far (p := ⟨gb574, 0, none⟩) (Kd.V_mono HO572.out (fun k_ hk => (⟨hk, hk.2⟩ : _ ∧ k_ ≠ gb574))) (fun _ hk => hk.2) (.slice Ao18 t567.length co18)) (fun _ hk => hk.2) (.slice Ao20 t570.length co20)) (fun _ h_ => h_.1)))); (case side4 => exact (Kd.V_reads' HO572.out).2.1); rintro e w24 ⟨rfl, hb⟩; refine ⟨_, rfl, ?_⟩; replace HO_565000 := My.am (Kd.V_below (My.dV (Kd.V_mono (Kd.V_far (p := ⟨gb574, 1, none⟩) (Kd.V_far (p := ⟨gb574, 0, none⟩) (Kd.V_mono HO_565000.out (fun k_ hk => (⟨hk, hk.2⟩ : _ ∧ k_ ≠ gb574))) (fun _ hk => hk.2) (.slice Ao18 t567.length co18)) (fun _ hk => hk.2) (.slice Ao20 t570.length co20)) (fun _ h_ => h_.1))) hb); replace HO_565001 := My.am (Kd.V_below (My.dV (Kd.V_mono (Kd.V_far (p := ⟨gb574, 1, none⟩) (Kd.V_far (p := ⟨gb574, 0, none⟩) (Kd.V_mono HO_565001.out (fun k_ hk => (⟨hk, hk.2⟩ : _ ∧ k_ ≠ gb574))) (fun _ hk => hk.2) (.slice Ao18 t567.length co18)) (fun _ hk => hk.2) (.slice Ao20 t570.length co20)) (fun _ h_ => h_.1))) hb); replace HO569 := My.am (Kd.V_below (My.dV (Kd.V_mono (Kd.V_far (p := ⟨gb574, 1, none⟩) (Kd.V_far (p := ⟨gb574, 0, none⟩) (Kd.V_mono HO569.out (fun k_ hk => (⟨hk, hk.2⟩ : _ ∧ k_ ≠ gb574))) (fun _ hk => hk.2) (.slice Ao18 t567.length co18)) (fun _ hk => hk.2) (.slice Ao20 t570.length co20)) (fun _ h_ => h_.1))) hb); replace HO572 := My.am (Kd.V_below (My.dV (Kd.V_mono (Kd.V_far (p := ⟨gb574, 1, none⟩) (Kd.V_far (p := ⟨gb574, 0, none⟩) (Kd.V_mono HO572.out (fun k_ hk => (⟨hk, hk.2⟩ : _ ∧ k_ ≠ gb574))) (fun _ hk => hk.2) (.slice Ao18 t567.length co18)) (fun _ hk => hk.2) (.slice Ao20 t570.length co20)) (fun _ h_ => h_.1))) hb); replace BK564 := My.am (blk_below (g := gb564) (o := .cells #[.slice Ao12 x565000_1.length co12, .slice Ao13 x565001_1.length co13] 25 (0, 0)) ((My.sv_ BK564)) hb); replace BK574 := My.am (blk_below (g := gb574) (o := .cells #[.slice Ao18 t567.length co18, .slice Ao20 t570.length co20] 25 (0, 0)) ((My.sv_ BK574)) hb); replace HB := My.st HB hb; (try clear hb)))
    (try simp only [Act.put, List.setIfInBounds_toArray, List.set_cons_zero, List.set_cons_succ])
    go_cut [40] (fun v40 wc => ∃ (kq : Nat) (x40_10 : Bool), v40 = .bool x40_10 ∧ Aside0 (ententelaw07_LedgerOnce.j1 kq l0 x4_1 x40_10 t567 t570 = some r) ∧ Aside0 (kq ≤ k1) ∧ Aside0 (Kd.V k51 51 wc w.heap.size (fun k_ => k_ ≠ gb564 ∧ k_ ≠ gb574) (.slice Ao12 x565000_1.length co12) x565000_1) ∧ Aside0 (Kd.V k64 64 wc w.heap.size (fun k_ => k_ ≠ gb564 ∧ k_ ≠ gb574) (.slice Ao13 x565001_1.length co13) x565001_1) ∧ Aside0 (Kd.V k51 51 wc w.heap.size (fun k_ => k_ ≠ gb564 ∧ k_ ≠ gb574) (.slice Ao18 t567.length co18) t567) ∧ Aside0 (Kd.V k64 64 wc w.heap.size (fun k_ => k_ ≠ gb564 ∧ k_ ≠ gb574) (.slice Ao20 t570.length co20) t570) ∧ Aside0 (wc.heap[gb564]? = some (.cells #[(.slice Ao12 x565000_1.length co12), (.slice Ao13 x565001_1.length co13)] 25 (0, 0))) ∧ Aside0 (wc.heap[gb574]? = some (.cells #[(.slice Ao18 t567.length co18), (.slice Ao20 t570.length co20)] 25 (0, 0))) ∧ Aside0 (Below w.heap.size w wc))
    case first =>
     have H := HC11.out
     clear HC11
     by_cases c25 : t573 = true
     ·subst c25
      rw [if_pos rfl] at H
      have H' := My.am H
      clear H
      have p576 : 0 ≤ (x4_1 : Int) := My.as_
      have q576 : x4_1 < (l0.length : Int) := My.as_
      obtain ⟨ad576, e576, hx576_0, hx576_1, hx576_2, hx576_3, hx576_4⟩ := at_T29 HR0.out x4_1 p576 q576
      obtain rfl : ad566 = ad576 := (by injection e576)
      replace hx576_0 := My.up HB hx576_0
      replace hx576_1 := My.up HB hx576_1
      replace hx576_2 := My.up HB hx576_2
      replace hx576_3 := My.up HB hx576_3
      replace hx576_4 := My.up HB hx576_4
      replace p576 := eq_true p576
      replace q576 := eq_true q576
      go_wp2
      go_meet
      case rel => exact ⟨_, ((((rd_T29 l0 x4_1).f0) != 0)), My.r1, H', ⟨by have := HK1.out; first | omega | exact Nat.le_refl _⟩, ⟨My.dV HO_565000.out⟩, ⟨My.dV HO_565001.out⟩, ⟨My.dV HO569.out⟩, ⟨My.dV HO572.out⟩, ⟨(My.at_ BK564)⟩, ⟨(My.at_ BK574)⟩, ⟨(My.bl_ HB)⟩⟩
     replace c25 := Bool.eq_false_iff.mpr c25
     subst c25
     rw [if_neg (show ¬ (false = true) by decide)] at H
     have H' := My.am H
     clear H
     go_wp2
     go_meet
     case rel => exact ⟨_, (false), My.r1, H', ⟨by have := HK1.out; first | omega | exact Nat.le_refl _⟩, ⟨My.dV HO_565000.out⟩, ⟨My.dV HO_565001.out⟩, ⟨My.dV HO569.out⟩, ⟨My.dV HO572.out⟩, ⟨(My.at_ BK564)⟩, ⟨(My.at_ BK574)⟩, ⟨(My.bl_ HB)⟩⟩
    case rest =>
     clear HC11
     try clear c3
     try clear c6
     try clear c6b0
     try clear c7b0
     try clear c10
     try clear c10b0
     try clear c10b1
     try clear hq23
     try clear hq5
     try clear hx566_0
     try clear hx566_1
     try clear hx566_2
     try clear hx566_3
     try clear hx566_4
     try clear p566
     try clear q566
     obtain ⟨kq, x40_10, rfl, HA, HJ10, HO_565000, HO_565001, HO_575000, HO_575001, BK564, BK574, HB⟩ := hcut
     cases kq with
     | zero => exact absurd HA.out (by simp [ententelaw07_LedgerOnce.j1])
     | succ kj10 =>
      have H := HA.out
      clear HA
      simp only [ententelaw07_LedgerOnce.j1] at H
      by_cases c26 : x40_10 = true
      rotate_left
      ·replace c26 := Bool.eq_false_iff.mpr c26
       subst c26
       rw [if_neg (show ¬ (false = true) by decide)] at H
       have H' := My.am H
       clear H
       have hnb49 := NB574_564.out
       have hnc49 := NB564_574.out
       have hq50 := My.cz2 BK574
       have hq51 := My.cz2 BK564
       go_wp2
       go_roundg kj10
       case measure => have := HK1.out; have := HJ10.out; omega
       case rel => exact ⟨(wrap64 (x4_1 + 1)), (t567), (t570), (.slice Ao18 t567.length co18), (.slice Ao20 t570.length co20), My.r1, H', ⟨by have := HK1.out; have := HJ10.out; omega⟩, ⟨My.dV (Kd.V_mono (Kd.V_far (p := ⟨gb564, 1, none⟩) (Kd.V_far (p := ⟨gb564, 0, none⟩) (Kd.V_mono HO_575000.out (fun k_ hk => (⟨hk, hk.1⟩ : _ ∧ k_ ≠ gb564))) (fun _ hk => hk.2) (.slice Ao18 t567.length co18)) (fun _ hk => hk.2) (.slice Ao20 t570.length co20)) (fun _ hk => hk.1.1))⟩, ⟨My.dV (Kd.V_mono (Kd.V_far (p := ⟨gb564, 1, none⟩) (Kd.V_far (p := ⟨gb564, 0, none⟩) (Kd.V_mono HO_575001.out (fun k_ hk => (⟨hk, hk.1⟩ : _ ∧ k_ ≠ gb564))) (fun _ hk => hk.2) (.slice Ao18 t567.length co18)) (fun _ hk => hk.2) (.slice Ao20 t570.length co20)) (fun _ hk => hk.1.1))⟩, ⟨(My.sv_ BK564)⟩, ⟨(My.bl_ HB)⟩⟩
      subst c26
      rw [if_pos rfl] at H
      replace H := My.ds H
      obtain ⟨c27b0, H⟩ := H
      replace H := My.ds H
      obtain ⟨c28b0, H⟩ := H
      replace H := Option.bind_eq_some_iff.mp H
      obtain ⟨⟨t578, t581, t584⟩, A290, H⟩ := H
      try dsimp only at H
      have A29 := My.am A290
      clear A290
      by_cases c30 : t584 = true
      rotate_left
      ·replace c30 := Bool.eq_false_iff.mpr c30
       subst c30
       rw [if_neg (show ¬ (false = true) by decide)] at H
       exact absurd ((Option.some.inj H).trans HT.out) Bool.false_ne_true
      subst c30
      rw [if_pos rfl] at H
      replace H := Option.bind_eq_some_iff.mp H
      obtain ⟨t586, A310, H⟩ := H
      try dsimp only at H
      have A31 := My.am A310
      clear A310
      by_cases c32 : t586 = true
      rotate_left
      ·replace c32 := Bool.eq_false_iff.mpr c32
       subst c32
       rw [if_neg (show ¬ (false = true) by decide)] at H
       exact absurd ((Option.some.inj H).trans HT.out) Bool.false_ne_true
      subst c32
      rw [if_pos rfl] at H
      have H' := My.am H
      clear H
      try go_wp2
      replace HO_565000 := My.am (Kd.V_drew HO_565000.out)
      replace HO_565001 := My.am (Kd.V_drew HO_565001.out)
      replace HO_575000 := My.am (Kd.V_drew HO_575000.out)
      replace HO_575001 := My.am (Kd.V_drew HO_575001.out)
      replace BK564 := My.am (blk_drew BK564.out)
      replace BK574 := My.am (blk_drew BK574.out)
      replace HB := My.am (below_drew1 HB.out)
      have p577 : 0 ≤ (x4_1 : Int) := My.as_
      have q577 : x4_1 < (l0.length : Int) := My.as_
      obtain ⟨ad577, e577, hx577_0, hx577_1, hx577_2, hx577_3, hx577_4⟩ := at_T29 HR0.out x4_1 p577 q577
      have hw577_4 := hx577_4
      have hw577_3 := hx577_3
      have hw577_2 := hx577_2
      have hw577_1 := hx577_1
      have hw577_0 := hx577_0
      obtain rfl : ad566 = ad577 := (by injection e577)
      replace hx577_0 := My.up HB hx577_0
      replace hx577_1 := My.up HB hx577_1
      replace hx577_2 := My.up HB hx577_2
      replace hx577_3 := My.up HB hx577_3
      replace hx577_4 := My.up HB hx577_4
      replace p577 := eq_true p577
      replace q577 := eq_true q577
      refine start_ (n := 12) (S := fun w' => w'.cell? ⟨gb574, 0, none⟩ = some (.slice Ao18 t567.length co18) ∧ w'.cell? ⟨gb574, 1, none⟩ = some (.slice Ao20 t570.length co20) ∧ w'.cell? (ad566.add ((x4_1).toNat * 5)) = some (.int .i64 ((rd_T29 l0 x4_1).f0)) ∧ w'.cell? ⟨(ad566.add ((x4_1).toNat * 5)).block, (ad566.add ((x4_1).toNat * 5)).off + 1, none⟩ = some (.string ((rd_T29 l0 x4_1).f1)) ∧ w'.cell? ⟨(ad566.add ((x4_1).toNat * 5)).block, (ad566.add ((x4_1).toNat * 5)).off + 2, none⟩ = some (.int .i64 ((rd_T29 l0 x4_1).f2.f0)) ∧ w'.cell? ⟨(ad566.add ((x4_1).toNat * 5)).block, (ad566.add ((x4_1).toNat * 5)).off + 3, none⟩ = some (.string ((rd_T29 l0 x4_1).f2.f1)) ∧ w'.cell? ⟨(ad566.add ((x4_1).toNat * 5)).block, (ad566.add ((x4_1).toNat * 5)).off + 4, none⟩ = some (.int .i64 ((rd_T29 l0 x4_1).f2.f2))) (ds := []) #[false, false, false, false, false, false, false, false, false, false, false, false] (by kernel_rfl) rfl rfl ⟨My.b_ BK574 0, My.b_ BK574 1, (My.up HB hw577_0), (My.up HB hw577_1), (My.up HB hw577_2), (My.up HB hw577_3), (My.up HB hw577_4)⟩ (fun hHeld => ?_); refine with_tabW ententelaw07_LedgerOnce.tab11 ententelaw07_LedgerOnce.bits11 (fun HT_ HW_ => ?_)
      generalize wc.drew = w33 at HO_565000 HO_565001 HO_575000 HO_575001 BK564 BK574 HB hx577_0 hx577_1 hx577_2 hx577_3 hx577_4 hHeld ⊢
      refine My.pv_ 1 43 12 2 HT_.out ?_
      refine My.pv_ 2 44 12 6 HT_.out ?_
      refine My.pv_ 3 45 12 14 HT_.out ?_
      refine My.tv_ 0 42 12 15 HT_.out HW_.out hHeld rfl rfl (by rintro w' ⟨s0, s1, s2, s3, s4, s5, s6⟩; go_simp; with_reducible rfl) ?_
      refine My.ta_ 4 46 12 HT_.out HW_.out hHeld rfl rfl (by rintro w' ⟨s0, s1, s2, s3, s4, s5, s6⟩; go_simp; with_reducible rfl) ?_
      refine join_ (σ := Value × Value × Nat) 2 (My.Mb 12 1023) (fun s_ => [(47, .tuple #[.agg #[s_.1, s_.2.1], .bool true]), (7, .pointer (some ⟨s_.2.2, 0, none⟩)), (41, .tuple #[.agg #[s_.1, s_.2.1], .bool true]), (48, .agg #[s_.1, s_.2.1]), (49, .bool true)]) (fun s_ w' => (w'.cell? ⟨gb574, 0, none⟩ = some (.slice Ao18 t567.length co18) ∧ w'.cell? ⟨gb574, 1, none⟩ = some (.slice Ao20 t570.length co20) ∧ w'.cell? (ad566.add ((x4_1).toNat * 5)) = some (.int .i64 ((rd_T29 l0 x4_1).f0)) ∧ w'.cell? ⟨(ad566.add ((x4_1).toNat * 5)).block, (ad566.add ((x4_1).toNat * 5)).off + 1, none⟩ = some (.string ((rd_T29 l0 x4_1).f1)) ∧ w'.cell? ⟨(ad566.add ((x4_1).toNat * 5)).block, (ad566.add ((x4_1).toNat * 5)).off + 2, none⟩ = some (.int .i64 ((rd_T29 l0 x4_1).f2.f0)) ∧ w'.cell? ⟨(ad566.add ((x4_1).toNat * 5)).block, (ad566.add ((x4_1).toNat * 5)).off + 3, none⟩ = some (.string ((rd_T29 l0 x4_1).f2.f1)) ∧ w'.cell? ⟨(ad566.add ((x4_1).toNat * 5)).block, (ad566.add ((x4_1).toNat * 5)).off + 4, none⟩ = some (.int .i64 ((rd_T29 l0 x4_1).f2.f2))) ∧ (Kd.V k51 51 w' w.heap.size (fun k_ => k_ ≠ gb564 ∧ k_ ≠ gb574 ∧ k_ ≠ s_.2.2) s_.1 t578) ∧ (Kd.V k64 64 w' w.heap.size (fun k_ => k_ ≠ gb564 ∧ k_ ≠ gb574 ∧ k_ ≠ s_.2.2) s_.2.1 t581) ∧ (Kd.V k51 51 w' w.heap.size (fun k_ => k_ ≠ gb564 ∧ k_ ≠ gb574 ∧ k_ ≠ s_.2.2) (.slice Ao12 x565000_1.length co12) x565000_1) ∧ (Kd.V k64 64 w' w.heap.size (fun k_ => k_ ≠ gb564 ∧ k_ ≠ gb574 ∧ k_ ≠ s_.2.2) (.slice Ao13 x565001_1.length co13) x565001_1) ∧ (Kd.V k51 51 w' w.heap.size (fun k_ => k_ ≠ gb564 ∧ k_ ≠ gb574 ∧ k_ ≠ s_.2.2) (.slice Ao18 t567.length co18) t567) ∧ (Kd.V k64 64 w' w.heap.size (fun k_ => k_ ≠ gb564 ∧ k_ ≠ gb574 ∧ k_ ≠ s_.2.2) (.slice Ao20 t570.length co20) t570) ∧ (w'.heap[gb564]? = some (.cells #[.slice Ao12 x565000_1.length co12, .slice Ao13 x565001_1.length co13] 25 (0, 0))) ∧ (w'.heap[gb574]? = some (.cells #[.slice Ao18 t567.length co18, .slice Ao20 t570.length co20] 25 (0, 0))) ∧ (w'.heap[s_.2.2]? = some (.cells #[.slice none 0 0, .slice none 0 0] 25 (0, 0))) ∧ (w.heap.size ≤ s_.2.2) ∧ (w.heap.size ≤ s_.2.2) ∧ (gb564 ≠ s_.2.2) ∧ (s_.2.2 ≠ gb564) ∧ (gb574 ≠ s_.2.2) ∧ (s_.2.2 ≠ gb574) ∧ (Below w.heap.size w w')) ?_ ?_
      rotate_left
      ·intro hCont
       refine two_ (i := 5) (j := 9) (Ni := some 47) (Nj := some 7) (My.Mb 12 63) (My.Mb 12 543) rfl rfl rfl rfl (two_of HT_.out (by kernel_rfl)) (by decide) (by decide) (fun K hK => ?_) (fun K hK => ?_)
       ·skip
        refine goes_ Try.func19 (by kernel_rfl) rfl #[.agg #[.slice Ao18 t567.length co18, .slice Ao20 t570.length co20], .agg #[.int .i64 ((rd_T29 l0 x4_1).f0), .string ((rd_T29 l0 x4_1).f1), .int .i64 ((rd_T29 l0 x4_1).f2.f0), .string ((rd_T29 l0 x4_1).f2.f1), .int .i64 ((rd_T29 l0 x4_1).f2.f2)]] (by rfl) rfl rfl My.gx ?_
        with_reducible refine (ententelaw07_does.calls kj10 (fun k_ => (k_ ≠ gb564 ∧ k_ ≠ gb574)) _ _ t567 (fun k_ => (k_ ≠ gb564 ∧ k_ ≠ gb574)) _ _ t570 ((rd_T29 l0 x4_1).f0) ((rd_T29 l0 x4_1).f1) ((rd_T29 l0 x4_1).f2.f0) ((rd_T29 l0 x4_1).f2.f1) ((rd_T29 l0 x4_1).f2.f2) t578 t581 true _ ?side1 ?side2 A29.out).mono ?_
        (case side1 => exact HO_575000.out)
        (case side2 => exact HO_575001.out)
        rintro e w34 ⟨v579, v582, rfl, ho0, ho1, hb⟩
        refine ⟨_, rfl, ?_⟩
        replace HO_565000 := My.am (Kd.V_below (My.dV HO_565000.out) hb)
        replace HO_565001 := My.am (Kd.V_below (My.dV HO_565001.out) hb)
        replace HO_575000 := My.am (Kd.V_below (My.dV HO_575000.out) hb)
        replace HO_575001 := My.am (Kd.V_below (My.dV HO_575001.out) hb)
        have HO580 := My.am (Kd.V_lower (Kd.V_mono (ok' := fun k_ => k_ ≠ gb564 ∧ k_ ≠ gb574) ho0 (fun k_ hk_ => ⟨Or.elim hk_ (fun hs_ => Or.elim hs_ (fun hs_ => hs_.1) (fun hs_ => hs_.1)) (fun hn_ => (Kd.freshB (My.at_ BK564) k_ hn_)), Or.elim hk_ (fun hs_ => Or.elim hs_ (fun hs_ => hs_.2) (fun hs_ => hs_.2)) (fun hn_ => (Kd.freshB (My.at_ BK574) k_ hn_))⟩)) (below_size (My.bl_ HB)))
        have HO583 := My.am (Kd.V_lower (Kd.V_mono (ok' := fun k_ => k_ ≠ gb564 ∧ k_ ≠ gb574) ho1 (fun k_ hk_ => ⟨Or.elim hk_ (fun hs_ => Or.elim hs_ (fun hs_ => hs_.1) (fun hs_ => hs_.1)) (fun hn_ => (Kd.freshB (My.at_ BK564) k_ hn_)), Or.elim hk_ (fun hs_ => Or.elim hs_ (fun hs_ => hs_.2) (fun hs_ => hs_.2)) (fun hn_ => (Kd.freshB (My.at_ BK574) k_ hn_))⟩)) (below_size (My.bl_ HB)))
        replace BK564 := My.ab BK564 hb
        replace BK574 := My.ab BK574 hb
        replace HB := My.st HB hb
        (try clear hb)
        (try clear hb2)
        (try clear hk)
        (try clear hi)
        (try clear ho0)
        (try clear ho1)
        refine hK.out _ _ ⟨My.b_ BK574 0, My.b_ BK574 1, (My.up HB hw577_0), (My.up HB hw577_1), (My.up HB hw577_2), (My.up HB hw577_3), (My.up HB hw577_4)⟩ (fun hHeld => ?_)
        clear hK K
        refine My.nm 47 ?_
        refine My.pu_ 6 41 12 HT_.out ?_
        refine My.pu_ 7 48 12 HT_.out ?_
        refine My.pu_ 8 49 12 HT_.out ?_
        refine one_ (i := 9) (N := some 7) (My.Mb 12 1023) rfl rfl (one_of HT_.out (by kernel_rfl)) (by decide) (fun K hK => ?_)
        refine box_step ?hg (N := 7) ?hd (cs := #[.slice none 0 0, .slice none 0 0]) (t := 25) ?hr ?_; (case hd => rfl); (case hg => rfl); (case hr => first | (go_simp; done) | (go_simp; rfl))
        intro gb585 hg w35 hbox hb
        replace HO_565000 := My.am (Kd.V_below (Kd.V_elderB (My.dV HO_565000.out) gb585 (Nat.le_of_eq hg.symm)) hb)
        replace HO_565001 := My.am (Kd.V_below (Kd.V_elderB (My.dV HO_565001.out) gb585 (Nat.le_of_eq hg.symm)) hb)
        replace HO_575000 := My.am (Kd.V_below (Kd.V_elderB (My.dV HO_575000.out) gb585 (Nat.le_of_eq hg.symm)) hb)
        replace HO_575001 := My.am (Kd.V_below (Kd.V_elderB (My.dV HO_575001.out) gb585 (Nat.le_of_eq hg.symm)) hb)
        replace HO580 := My.am (Kd.V_below (Kd.V_elderB (My.dV HO580.out) gb585 (Nat.le_of_eq hg.symm)) hb)
        replace HO583 := My.am (Kd.V_below (Kd.V_elderB (My.dV HO583.out) gb585 (Nat.le_of_eq hg.symm)) hb)
        have BK585 := My.am (hbox)
        have GW585 := My.nge hg (My.bl_ HB)
        have GE585 := My.nge hg (My.bl_ HB)
        replace HB := My.st HB hb
        obtain ⟨NB564_585, NB585_564, BK564⟩ := My.nb hg hb BK564
        obtain ⟨NB574_585, NB585_574, BK574⟩ := My.nb hg hb BK574
        clear hb hbox hg
        refine hK.out _ _ ⟨My.b_ BK574 0, My.b_ BK574 1, (My.up HB hw577_0), (My.up HB hw577_1), (My.up HB hw577_2), (My.up HB hw577_3), (My.up HB hw577_4)⟩ (fun hHeld => ?_)
        clear hK K
        refine My.nm 7 ?_
        exact norm_ (by simp only [putAll, Act.put, List.setIfInBounds_toArray, List.set_cons_zero, List.set_cons_succ]) (hCont (v579, v582, gb585) _ ⟨hHeld, (My.dV (Kd.V_mono HO580.out (fun _ hk => ⟨hk.1.1, ⟨hk.1.2, hk.2⟩⟩))), (My.dV (Kd.V_mono HO583.out (fun _ hk => ⟨hk.1.1, ⟨hk.1.2, hk.2⟩⟩))), (My.dV (Kd.V_mono HO_565000.out (fun _ hk => ⟨hk.1.1, ⟨hk.1.2, hk.2⟩⟩))), (My.dV (Kd.V_mono HO_565001.out (fun _ hk => ⟨hk.1.1, ⟨hk.1.2, hk.2⟩⟩))), (My.dV (Kd.V_mono HO_575000.out (fun _ hk => ⟨hk.1.1, ⟨hk.1.2, hk.2⟩⟩))), (My.dV (Kd.V_mono HO_575001.out (fun _ hk => ⟨hk.1.1, ⟨hk.1.2, hk.2⟩⟩))), (My.at_ BK564), (My.at_ BK574), (My.at_ BK585), GW585.out, GE585.out, NB564_585.out, NB585_564.out, NB574_585.out, NB585_574.out, (My.bl_ HB)⟩)
       skip
       refine box_step ?hg (N := 7) ?hd (cs := #[.slice none 0 0, .slice none 0 0]) (t := 25) ?hr ?_; (case hd => rfl); (case hg => rfl); (case hr => first | (go_simp; done) | (go_simp; rfl))
       intro gb585 hg w34 hbox hb
       replace HO_565000 := My.am (Kd.V_below (Kd.V_elderB (My.dV HO_565000.out) gb585 (Nat.le_of_eq hg.symm)) hb)
       replace HO_565001 := My.am (Kd.V_below (Kd.V_elderB (My.dV HO_565001.out) gb585 (Nat.le_of_eq hg.symm)) hb)
       replace HO_575000 := My.am (Kd.V_below (Kd.V_elderB (My.dV HO_575000.out) gb585 (Nat.le_of_eq hg.symm)) hb)
       replace HO_575001 := My.am (Kd.V_below (Kd.V_elderB (My.dV HO_575001.out) gb585 (Nat.le_of_eq hg.symm)) hb)
       have BK585 := My.am (hbox)
       have GW585 := My.nge hg (My.bl_ HB)
       have GE585 := My.nge hg (My.bl_ HB)
       replace HB := My.st HB hb
       obtain ⟨NB564_585, NB585_564, BK564⟩ := My.nb hg hb BK564
       obtain ⟨NB574_585, NB585_574, BK574⟩ := My.nb hg hb BK574
       clear hb hbox hg
       refine hK.out _ _ ⟨My.b_ BK574 0, My.b_ BK574 1, (My.up HB hw577_0), (My.up HB hw577_1), (My.up HB hw577_2), (My.up HB hw577_3), (My.up HB hw577_4)⟩ (fun hHeld => ?_)
       clear hK K
       refine My.nm 7 ?_
       refine one_ (i := 5) (N := some 47) (My.Mb 12 575) rfl rfl (one_of HT_.out (by kernel_rfl)) (by decide) (fun K hK => ?_)
       refine goes_ Try.func19 (by kernel_rfl) rfl #[.agg #[.slice Ao18 t567.length co18, .slice Ao20 t570.length co20], .agg #[.int .i64 ((rd_T29 l0 x4_1).f0), .string ((rd_T29 l0 x4_1).f1), .int .i64 ((rd_T29 l0 x4_1).f2.f0), .string ((rd_T29 l0 x4_1).f2.f1), .int .i64 ((rd_T29 l0 x4_1).f2.f2)]] (by rfl) rfl rfl My.gx ?_
       with_reducible refine (ententelaw07_does.calls kj10 (fun k_ => ((k_ ≠ gb564 ∧ k_ ≠ gb574) ∧ k_ ≠ gb585)) _ _ t567 (fun k_ => ((k_ ≠ gb564 ∧ k_ ≠ gb574) ∧ k_ ≠ gb585)) _ _ t570 ((rd_T29 l0 x4_1).f0) ((rd_T29 l0 x4_1).f1) ((rd_T29 l0 x4_1).f2.f0) ((rd_T29 l0 x4_1).f2.f1) ((rd_T29 l0 x4_1).f2.f2) t578 t581 true _ ?side1 ?side2 A29.out).mono ?_
       (case side1 => exact HO_575000.out)
       (case side2 => exact HO_575001.out)
       rintro e w35 ⟨v579, v582, rfl, ho0, ho1, hb⟩
       refine ⟨_, rfl, ?_⟩
       replace HO_565000 := My.am (Kd.V_below (My.dV HO_565000.out) hb)
       replace HO_565001 := My.am (Kd.V_below (My.dV HO_565001.out) hb)
       replace HO_575000 := My.am (Kd.V_below (My.dV HO_575000.out) hb)
       replace HO_575001 := My.am (Kd.V_below (My.dV HO_575001.out) hb)
       have HO580 := My.am (Kd.V_lower (Kd.V_mono (ok' := fun k_ => k_ ≠ gb564 ∧ k_ ≠ gb574 ∧ k_ ≠ gb585) ho0 (fun k_ hk_ => ⟨Or.elim hk_ (fun hs_ => Or.elim hs_ (fun hs_ => hs_.1.1) (fun hs_ => hs_.1.1)) (fun hn_ => (Kd.freshB (My.at_ BK564) k_ hn_)), Or.elim hk_ (fun hs_ => Or.elim hs_ (fun hs_ => hs_.1.2) (fun hs_ => hs_.1.2)) (fun hn_ => (Kd.freshB (My.at_ BK574) k_ hn_)), Or.elim hk_ (fun hs_ => Or.elim hs_ (fun hs_ => hs_.2) (fun hs_ => hs_.2)) (fun hn_ => (Kd.freshB (My.at_ BK585) k_ hn_))⟩)) (below_size (My.bl_ HB)))
       have HO583 := My.am (Kd.V_lower (Kd.V_mono (ok' := fun k_ => k_ ≠ gb564 ∧ k_ ≠ gb574 ∧ k_ ≠ gb585) ho1 (fun k_ hk_ => ⟨Or.elim hk_ (fun hs_ => Or.elim hs_ (fun hs_ => hs_.1.1) (fun hs_ => hs_.1.1)) (fun hn_ => (Kd.freshB (My.at_ BK564) k_ hn_)), Or.elim hk_ (fun hs_ => Or.elim hs_ (fun hs_ => hs_.1.2) (fun hs_ => hs_.1.2)) (fun hn_ => (Kd.freshB (My.at_ BK574) k_ hn_)), Or.elim hk_ (fun hs_ => Or.elim hs_ (fun hs_ => hs_.2) (fun hs_ => hs_.2)) (fun hn_ => (Kd.freshB (My.at_ BK585) k_ hn_))⟩)) (below_size (My.bl_ HB)))
       replace BK564 := My.ab BK564 hb
       replace BK574 := My.ab BK574 hb
       replace BK585 := My.ab BK585 hb
       replace HB := My.st HB hb
       (try clear hb)
       (try clear hb2)
       (try clear hk)
       (try clear hi)
       (try clear ho0)
       (try clear ho1)
       refine hK.out _ _ ⟨My.b_ BK574 0, My.b_ BK574 1, (My.up HB hw577_0), (My.up HB hw577_1), (My.up HB hw577_2), (My.up HB hw577_3), (My.up HB hw577_4)⟩ (fun hHeld => ?_)
       clear hK K
       refine My.nm 47 ?_
       refine My.pv_ 6 41 12 639 HT_.out ?_
       refine My.pv_ 7 48 12 767 HT_.out ?_
       refine My.pv_ 8 49 12 1023 HT_.out ?_
       exact norm_ (by simp only [putAll, Act.put, List.setIfInBounds_toArray, List.set_cons_zero, List.set_cons_succ]) (hCont (v579, v582, gb585) _ ⟨hHeld, (My.dV HO580.out), (My.dV HO583.out), (My.dV (Kd.V_mono HO_565000.out (fun _ hk => ⟨hk.1.1, ⟨hk.1.2, hk.2⟩⟩))), (My.dV (Kd.V_mono HO_565001.out (fun _ hk => ⟨hk.1.1, ⟨hk.1.2, hk.2⟩⟩))), (My.dV (Kd.V_mono HO_575000.out (fun _ hk => ⟨hk.1.1, ⟨hk.1.2, hk.2⟩⟩))), (My.dV (Kd.V_mono HO_575001.out (fun _ hk => ⟨hk.1.1, ⟨hk.1.2, hk.2⟩⟩))), (My.at_ BK564), (My.at_ BK574), (My.at_ BK585), GW585.out, GE585.out, NB564_585.out, NB585_564.out, NB574_585.out, NB585_574.out, (My.bl_ HB)⟩)
      rintro ⟨v579, v582, gb585⟩ w36 ⟨hS_, h0_, h1_, h2_, h3_, h4_, h5_, h6_, h7_, h8_, h9_, h10_, h11_, h12_, h13_, h14_, h15_⟩
      have n0_ : Aside0 (Kd.V k51 51 w36 w.heap.size (fun k_ => k_ ≠ gb564 ∧ k_ ≠ gb574 ∧ k_ ≠ gb585) v579 t578) := ⟨h0_⟩
      have n1_ : Aside0 (Kd.V k64 64 w36 w.heap.size (fun k_ => k_ ≠ gb564 ∧ k_ ≠ gb574 ∧ k_ ≠ gb585) v582 t581) := ⟨h1_⟩
      have n2_ : Aside0 (Kd.V k51 51 w36 w.heap.size (fun k_ => k_ ≠ gb564 ∧ k_ ≠ gb574 ∧ k_ ≠ gb585) (.slice Ao12 x565000_1.length co12) x565000_1) := ⟨h2_⟩
      have n3_ : Aside0 (Kd.V k64 64 w36 w.heap.size (fun k_ => k_ ≠ gb564 ∧ k_ ≠ gb574 ∧ k_ ≠ gb585) (.slice Ao13 x565001_1.length co13) x565001_1) := ⟨h3_⟩
      have n4_ : Aside0 (Kd.V k51 51 w36 w.heap.size (fun k_ => k_ ≠ gb564 ∧ k_ ≠ gb574 ∧ k_ ≠ gb585) (.slice Ao18 t567.length co18) t567) := ⟨h4_⟩
      have n5_ : Aside0 (Kd.V k64 64 w36 w.heap.size (fun k_ => k_ ≠ gb564 ∧ k_ ≠ gb574 ∧ k_ ≠ gb585) (.slice Ao20 t570.length co20) t570) := ⟨h5_⟩
      have n6_ : Aside0 (w36.heap[gb564]? = some (.cells #[.slice Ao12 x565000_1.length co12, .slice Ao13 x565001_1.length co13] 25 (0, 0))) := ⟨h6_⟩
      have n7_ : Aside0 (w36.heap[gb574]? = some (.cells #[.slice Ao18 t567.length co18, .slice Ao20 t570.length co20] 25 (0, 0))) := ⟨h7_⟩
      have n8_ : Aside0 (w36.heap[gb585]? = some (.cells #[.slice none 0 0, .slice none 0 0] 25 (0, 0))) := ⟨h8_⟩
      have n9_ : Aside0 (w.heap.size ≤ gb585) := ⟨h9_⟩
      have n10_ : Aside0 (w.heap.size ≤ gb585) := ⟨h10_⟩
      have n11_ : Aside0 (gb564 ≠ gb585) := ⟨h11_⟩
      have n12_ : Aside0 (gb585 ≠ gb564) := ⟨h12_⟩
      have n13_ : Aside0 (gb574 ≠ gb585) := ⟨h13_⟩
      have n14_ : Aside0 (gb585 ≠ gb574) := ⟨h14_⟩
      have n15_ : Aside0 (Below w.heap.size w w36) := ⟨h15_⟩
      clear HO_565000
      clear HO_565001
      clear HO_575000
      clear HO_575001
      clear BK564
      clear BK574
      clear HB
      clear h0_ h1_ h2_ h3_ h4_ h5_ h6_ h7_ h8_ h9_ h10_ h11_ h12_ h13_ h14_ h15_
      have HO580 := n0_
      have HO583 := n1_
      have HO_575000 := n4_
      have HO_575001 := n5_
      have BK564 := n6_
      have BK574 := n7_
      have BK585 := n8_
      have GW585 := n9_
      have GE585 := n10_
      have NB564_585 := n11_
      have NB585_564 := n12_
      have NB574_585 := n13_
      have NB585_574 := n14_
      have HB := n15_
      clear n0_ n1_ n2_ n3_ n4_ n5_ n6_ n7_ n8_ n9_ n10_ n11_ n12_ n13_ n14_ n15_
      have hHeld : w36.cell? ⟨gb574, 0, none⟩ = some (.slice Ao18 t567.length co18) ∧ w36.cell? ⟨gb574, 1, none⟩ = some (.slice Ao20 t570.length co20) ∧ w36.cell? (ad566.add ((x4_1).toNat * 5)) = some (.int .i64 ((rd_T29 l0 x4_1).f0)) ∧ w36.cell? ⟨(ad566.add ((x4_1).toNat * 5)).block, (ad566.add ((x4_1).toNat * 5)).off + 1, none⟩ = some (.string ((rd_T29 l0 x4_1).f1)) ∧ w36.cell? ⟨(ad566.add ((x4_1).toNat * 5)).block, (ad566.add ((x4_1).toNat * 5)).off + 2, none⟩ = some (.int .i64 ((rd_T29 l0 x4_1).f2.f0)) ∧ w36.cell? ⟨(ad566.add ((x4_1).toNat * 5)).block, (ad566.add ((x4_1).toNat * 5)).off + 3, none⟩ = some (.string ((rd_T29 l0 x4_1).f2.f1)) ∧ w36.cell? ⟨(ad566.add ((x4_1).toNat * 5)).block, (ad566.add ((x4_1).toNat * 5)).off + 4, none⟩ = some (.int .i64 ((rd_T29 l0 x4_1).f2.f2)) := hS_
      obtain ⟨Ao37, co37, eo37⟩ := Kd.V_slice HO580.out
      (first | subst eo37 | (injection eo37 with f1_ f2_ f3_; have f4_ := f1_.symm; have f5_ := f3_.symm; clear f1_ f2_ f3_; subst f4_; subst f5_))
      obtain ⟨Ao39, co39, eo39⟩ := Kd.V_slice HO583.out
      (first | subst eo39 | (injection eo39 with f1_ f2_ f3_; have f4_ := f1_.symm; have f5_ := f3_.symm; clear f1_ f2_ f3_; subst f4_; subst f5_))
      refine norm_ (a' := ?_) ?_ ?_
      rotate_left
      ·simp only [putAll, Act.put, List.setIfInBounds_toArray, List.set_cons_zero, List.set_cons_succ]
       rfl
      refine one_ (i := 10) (N := none) (My.Mb 12 2047) rfl rfl (one_of HT_.out (by kernel_rfl)) (by decide) (fun K hK => ?_)
      have hs38 : w36.cell? ⟨gb585, 0, none⟩ = some (.slice none 0 0) := My.b_ BK585 0
      have hfs38 := blk_frozen BK585.out 0
      have hns38_0 := NB564_585.out
      have hns38_1 := NB574_585.out
      have hms38_0 := NB585_564.out
      have hms38_1 := NB585_574.out
      have hs40 : w36.cell? ⟨gb585, 1, none⟩ = some (.slice none 0 0) := My.b_ BK585 1
      have hfs40 := blk_frozen BK585.out 1
      have hns40_0 := NB564_585.out
      have hns40_1 := NB574_585.out
      have hms40_0 := NB585_564.out
      have hms40_1 := NB585_574.out
      refine skip_ (w1 := ?_) (by rfl) rfl ?_ ?_
      rotate_left
      ·go_simp
       rfl
      refine hK.out _ _ ⟨(My.c2 NB574_585.out hHeld.1), (My.c2 NB574_585.out hHeld.2.1), (My.c2 (My.nw hw577_0 GW585) hHeld.2.2.1), (My.c2 (My.nw hw577_1 GW585) hHeld.2.2.2.1), (My.c2 (My.nw hw577_2 GW585) hHeld.2.2.2.2.1), (My.c2 (My.nw hw577_3 GW585) hHeld.2.2.2.2.2.1), (My.c2 (My.nw hw577_4 GW585) hHeld.2.2.2.2.2.2)⟩ (fun hHeld => ?_)
      clear hK K
      refine My.pu_ 11 8 12 HT_.out ?_
      refine done_ (done_of HT_.out (by kernel_rfl)) ?_
      have hnb41 := NB585_564.out
      have hnc41 := NB564_585.out
      have hnb42 := NB585_574.out
      have hnc42 := NB574_585.out
      have hq43 := My.cz2 BK585
      have hnb44 := NB574_564.out
      have hnc44 := NB564_574.out
      have hq45 := My.cz2 BK574
      try go_wp2_with (first | (go_at_call 17; (with_reducible refine (ententeref07_Same.calls kj10 _ _ t578 _ _ t581 _ _ t567 _ _ t570 true _ ?side1 ?side2 ?side3 ?side4 ?side5 ?side6 ?side7 ?side8 A31.out).mono ?_); (case side1 => refine (Kd.V_reads' (e := 51) (base := w.heap.size) (ok := fun k_ => (k_ ≠ gb564 ∧ (k_ ≠ gb574 ∧ k_ ≠ gb585))) (n := t578.length) (c := co37) ?_).2.2; exact (My.dV (Kd.V_mono (Kd.V_far (p := ⟨gb585, 1, none⟩) (Kd.V_far (p := ⟨gb585, 0, none⟩) (Kd.V_mono HO580.out (fun k_ hk => (⟨hk, hk.2.2⟩ : _ ∧ k_ ≠ gb585))) (fun _ hk => hk.2) (.slice Ao37 t578.length co37)) (fun _ hk => hk.2) (.slice Ao39 t581.length co39)) (fun _ h_ => h_.1)))); (case side2 => exact (Kd.V_reads' HO580.out).2.1); (case side3 => refine (Kd.V_reads' (e := 64) (base := w.heap.size) (ok := fun k_ => (k_ ≠ gb564 ∧ (k_ ≠ gb574 ∧ k_ ≠ gb585))) (n := t581.length) (c := co39) ?_).2.2; exact (My.dV (Kd.V_mono (Kd.V_far (p := ⟨gb585, 1, none⟩) (Kd.V_far (p := ⟨gb585, 0, none⟩) (Kd.V_mono HO583.out (fun k_ hk => (⟨hk, hk.2.2⟩ : _ ∧ k_ ≠ gb585))) (fun _ hk => hk.2) (.slice Ao37 t578.length co37)) (fun _ hk => hk.2) (.slice Ao39 t581.length co39)) (fun _ h_ => h_.1)))); (case side4 => exact (Kd.V_reads' HO583.out).2.1); (case side5 => refine (Kd.V_reads' (e := 51) (base := w.heap.size) (ok := fun k_ => (k_ ≠ gb564 ∧ (k_ ≠ gb574 ∧ k_ ≠ gb585))) (n := t567.length) (c := co18) ?_).2.2; exact (My.dV (Kd.V_mono (Kd.V_far (p := ⟨gb585, 1, none⟩) (Kd.V_far (p := ⟨gb585, 0, none⟩) (Kd.V_mono HO_575000.out (fun k_ hk => (⟨hk, hk.2.2⟩ : _ ∧ k_ ≠ gb585))) (fun _ hk => hk.2) (.slice Ao37 t578.length co37)) (fun _ hk => hk.2) (.slice Ao39 t581.length co39)) (fun _ h_ => h_.1)))); (case side6 => exact (Kd.V_reads' HO_575000.out).2.1); (case side7 => refine (Kd.V_reads' (e := 64) (base := w.heap.size) (ok := fun k_ => (k_ ≠ gb564 ∧ (k_ ≠ gb574 ∧ k_ ≠ gb585))) (n := t570.length) (c := co20) ?_).2.2; exact (My.dV (Kd.V_mono (Kd.V_far (p := ⟨gb585, 1, none⟩) (Kd.V_far (p := ⟨gb585, 0, none⟩) (Kd.V_mono HO_575001.out (fun k_ hk => (⟨hk, hk.2.2⟩ : _ ∧ k_ ≠ gb585))) (fun _ hk => hk.2) (.slice Ao37 t578.length co37)) (fun _ hk => hk.2) (.slice Ao39 t581.length co39)) (fun _ h_ => h_.1)))); (case side8 => exact (Kd.V_reads' HO_575001.out).2.1); rintro e w46 ⟨rfl, hb⟩; replace HO_575000 := My.am (Kd.V_below (My.dV (Kd.V_mono (Kd.V_far (p := ⟨gb585, 1, none⟩) (Kd.V_far (p := ⟨gb585, 0, none⟩) (Kd.V_mono HO_575000.out (fun k_ hk => (⟨hk, hk.2.2⟩ : _ ∧ k_ ≠ gb585))) (fun _ hk => hk.2) (.slice Ao37 t578.length co37)) (fun _ hk => hk.2) (.slice Ao39 t581.length co39)) (fun _ h_ => h_.1))) hb); replace HO_575001 := My.am (Kd.V_below (My.dV (Kd.V_mono (Kd.V_far (p := ⟨gb585, 1, none⟩) (Kd.V_far (p := ⟨gb585, 0, none⟩) (Kd.V_mono HO_575001.out (fun k_ hk => (⟨hk, hk.2.2⟩ : _ ∧ k_ ≠ gb585))) (fun _ hk => hk.2) (.slice Ao37 t578.length co37)) (fun _ hk => hk.2) (.slice Ao39 t581.length co39)) (fun _ h_ => h_.1))) hb); replace BK564 := My.am (blk_below (g := gb564) (o := .cells #[.slice Ao12 x565000_1.length co12, .slice Ao13 x565001_1.length co13] 25 (0, 0)) ((My.sv_ BK564)) hb); replace BK574 := My.am (blk_below (g := gb574) (o := .cells #[.slice Ao18 t567.length co18, .slice Ao20 t570.length co20] 25 (0, 0)) ((My.sv_ BK574)) hb); replace HB := My.st HB hb; (try clear hb); have hq47 := My.cz2 BK574; have hq48 := My.cz2 BK564))
      go_roundg kj10
      case measure => have := HK1.out; have := HJ10.out; omega
      case rel => exact ⟨(wrap64 (x4_1 + 1)), (t567), (t570), (.slice Ao18 t567.length co18), (.slice Ao20 t570.length co20), My.r1, H', ⟨by have := HK1.out; have := HJ10.out; omega⟩, ⟨My.dV (Kd.V_mono (Kd.V_far (p := ⟨gb564, 1, none⟩) (Kd.V_far (p := ⟨gb564, 0, none⟩) (Kd.V_mono HO_575000.out (fun k_ hk => (⟨hk, hk.1⟩ : _ ∧ k_ ≠ gb564))) (fun _ hk => hk.2) (.slice Ao18 t567.length co18)) (fun _ hk => hk.2) (.slice Ao20 t570.length co20)) (fun _ hk => hk.1.1))⟩, ⟨My.dV (Kd.V_mono (Kd.V_far (p := ⟨gb564, 1, none⟩) (Kd.V_far (p := ⟨gb564, 0, none⟩) (Kd.V_mono HO_575001.out (fun k_ hk => (⟨hk, hk.1⟩ : _ ∧ k_ ≠ gb564))) (fun _ hk => hk.2) (.slice Ao18 t567.length co18)) (fun _ hk => hk.2) (.slice Ao20 t570.length co20)) (fun _ hk => hk.1.1))⟩, ⟨(My.sv_ BK564)⟩, ⟨(My.bl_ HB)⟩⟩
 ·replace c3 := Bool.eq_false_iff.mpr c3
  subst c3
  rw [if_neg (show ¬ (false = true) by decide)] at H
  replace H := Option.bind_eq_some_iff.mp H
  obtain ⟨t563, A540, H⟩ := H
  try dsimp only at H
  have A54 := My.am A540
  clear A540
  obtain rfl := Option.some.inj H
  go_enter Try.func4, Try.ntmps4
  go_wp2_with (first | ((with_reducible refine gate_callee (f := 18) rfl ?_); refine goesL_ (some 10) rfl rfl Try.func18 (by kernel_rfl) rfl #[.slice A0 l0.length c0] rfl My.gx ?_; (with_reducible refine (ententelaw07_few.calls k _ _ l0 false _ ?side1 ?side2 A2.out).mono ?_); (case side1 => repeat (first | exact HR0.out | (with_reducible refine Kd.C_alloc ?_ _) | (with_reducible refine Kd.C_drewN ?_ _) | (with_reducible refine Kd.C_drew ?_))); (case side2 => exact HC0.out); rintro e w' ⟨rfl, ⟨nd, rfl⟩⟩; refine ⟨_, rfl, ?_⟩) | ((with_reducible refine gate_callee (f := 9) rfl ?_); refine goesL_ (some 12) rfl rfl Try.func9 (by kernel_rfl) rfl #[] rfl My.gx ?_; (with_reducible refine (ententelaw07_awake.calls k  t563 _ A54.out).mono ?_); rintro e w55 ⟨rfl, hb⟩; refine ⟨_, rfl, ?_⟩; replace HB := My.st HB hb; (try clear hb)))
  go_ret
  exact ⟨My.r2, (My.bl_ HB)⟩

/-- THE ONE PURE STATEMENT of ententelaw07_LedgerOnce. -/
def ententelaw07_LedgerOnce.Pure : Prop := ∀ (l0 : List S29), (l0.length ≤ 9223372036854775807 ∧ l0.length * 56 ≤ 140737488351232 ∧ ∀ y_ ∈ l0, Q29 y_) → ∃ k, ententelaw07_LedgerOnce.f k l0 = some true

end Go.Proofs.Ytikanbdhpafbiaa.PO
