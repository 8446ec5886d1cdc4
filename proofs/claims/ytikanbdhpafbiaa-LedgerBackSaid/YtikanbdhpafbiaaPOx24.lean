-- Written by a program of this session (wip/tools/mp.py over the kit's printer); Lean checks it.
import Derived.Test.YtikanbdhpafbiaaPOx0
import Derived.Test.YtikanbdhpafbiaaPOx21
namespace Go.Proofs.Ytikanbdhpafbiaa.PO
open Go.RowKit Go.Proofs.YtikanbdhpafbiaaW.PrintWords Go.Proofs.YtikanbdhpafbiaaW.PrintLast Go.Proofs.YtikanbdhpafbiaaW.PrintMore
attribute [local go_sem] max2_int min2_int max_two min_two max_three min_three max_four min_four   -- for this text's walks alone
set_option linter.unusedVariables false
set_option maxHeartbeats 8000000
set_option maxRecDepth 100000
set_option linter.unusedSimpArgs false

/-! ### ententelaw07_opened: function 28 -/
def ententelaw07_opened.l0 : Nat → List (S29) → List (S51) → Int → List (S51) → List (S64) → Option ((List (S51)) × (List (S64)) × (List (S51)))
 | 0, _, _, _, _, _ => none
 | k + 1, x0, x5, x6, x601000, x601001 => if x6 < (x0.length : Int) then (if 0 ≤ x6 then ((ententelaw07_does.f k x601000 x601001 ((rd_T29 x0 x6).f0) ((rd_T29 x0 x6).f1) ((rd_T29 x0 x6).f2.f0) ((rd_T29 x0 x6).f2.f1) ((rd_T29 x0 x6).f2.f2)).bind fun bt602 => (if bt602.2.2 = true then (if ((rd_T29 x0 x6).f0) = 0 then (if x5.length < 2199023255552 then (ententelaw07_opened.l0 k x0 (x5 ++ [(⟨(rd_T29 x0 x6).f2.f1, (⟨(rd_T29 x0 x6).f2.f2, 0, 0⟩ : S49), (⟨0, 0, 0⟩ : S49)⟩ : S51)]) (wrap64 (x6 + 1)) bt602.1 bt602.2.1) else (none)) else (ententelaw07_opened.l0 k x0 x5 (wrap64 (x6 + 1)) bt602.1 bt602.2.1)) else (ententelaw07_opened.l0 k x0 x5 (wrap64 (x6 + 1)) bt602.1 bt602.2.1))) else (none)) else (some (x601000, x601001, x5))
def ententelaw07_opened.f (k : Nat) (l0 : List (S29)) : Option ((List (S51)) × (List (S64)) × (List (S51))) := ententelaw07_opened.l0 k l0 ([] : List (S51)) 0 ([] : List (S51)) ([] : List (S64))
def ententelaw07_opened.T6 : Bool × List (List Nat × List Nat) := (true, [([], []), ([], []), ([], []), ([1, 2], [1, 2]), ([3], [3]), ([0, 4], [0, 4]), ([5], [5]), ([6], [6]), ([6], [6]), ([], []), ([9, 7, 5, 0, 1, 2, 3, 4, 5, 6, 7, 9], [7, 9]), ([8, 10, 0, 1, 2, 3, 4, 5, 6, 7, 8, 9, 10], [8])])
def ententelaw07_opened.B6 : List Nat := [0, 0, 0, 6, 14, 31, 63, 127, 127, 0, 767, 2047]
theorem ententelaw07_opened.tab6 : rtab .any (opsOf Try.f28 6) = ententelaw07_opened.T6 := by kernel_rfl
theorem ententelaw07_opened.bits6 : waitsOk ententelaw07_opened.T6.2 ententelaw07_opened.B6 = true := by kernel_rfl
def ententelaw07_opened.T8 : Bool × List (List Nat × List Nat) := (true, [([], []), ([], []), ([], []), ([1, 2], [1, 2]), ([3], [3]), ([4], [4]), ([5], [5]), ([], []), ([], []), ([7, 8], [7, 8]), ([9], [9]), ([10], [10]), ([11], [11]), ([12], [12]), ([6, 13], [6, 13]), ([14], [14]), ([0, 15], [0, 15]), ([16, 16, 0, 1, 2, 3, 4, 5, 6, 7, 8, 9, 10, 11, 12, 13, 14, 15, 16], [0, 16])])
def ententelaw07_opened.B8 : List Nat := [0, 0, 0, 6, 14, 30, 62, 0, 0, 384, 896, 1920, 3968, 8064, 16382, 32766, 65535, 131071]
theorem ententelaw07_opened.tab8 : rtab .any (opsOf Try.f28 8) = ententelaw07_opened.T8 := by kernel_rfl
theorem ententelaw07_opened.bits8 : waitsOk ententelaw07_opened.T8.2 ententelaw07_opened.B8 = true := by kernel_rfl
theorem ententelaw07_opened.calls (k : Nat) (A0 : Option Addr) (c0 : Nat) (l0 : List (S29)) (r1 : List (S51)) (r2 : List (S64)) (r3 : List (S51)) (w : World) (hr0 : Kd.C k29 w A0 l0.length l0) (hc0 : l0.length ≤ c0) (h : ententelaw07_opened.f k l0 = some (r1, r2, r3)) :
  Calls Try.prog 28 #[.slice A0 l0.length c0] w fun e w' => ∃ v0_ v1_ v2_ : Value, e = .returned (.tuple #[.agg #[v0_, v1_], v2_]) ∧ Kd.V k51 51 w' w.heap.size (fun k_ => (w.heap.size ≤ k_) ∧ some k_ ≠ (v2_ : Value).ownBlock) v0_ r1 ∧ Kd.V k64 64 w' w.heap.size (fun k_ => (w.heap.size ≤ k_) ∧ some k_ ≠ (v2_ : Value).ownBlock) v1_ r2 ∧ Kd.R k51 51 w' w.heap.size (fun k_ => (w.heap.size ≤ k_)) v2_ r3 ∧ Below w.heap.size w w' := by
 have hu25 := Try.underlying25
 have hu29 := Try.underlying29
 have hu49 := Try.underlying49
 have hu51 := Try.underlying51
 have HR0 := My.am hr0
 have HC0 := My.am hc0
 clear hr0 hc0
 have HB := My.am (Below.refl w.heap.size w)
 unfold ententelaw07_opened.f at h
 have H := h
 clear h
 have H' := My.am H
 clear H
 go_enter Try.func28, Try.ntmps28
 go_wp2_with (first | ((with_reducible refine gate_dst (N := 2) rfl ?_); refine My.bx 2 #[.slice none 0 0, .slice none 0 0] 25 ?_; intro gb599 hg w2 hbox hb; have BK599 := My.am (hbox); have GE599 := My.nge hg (My.bl_ HB); replace HB := My.st HB hb; clear hb hbox hg) | ((with_reducible refine gate_dst (N := 4) rfl ?_); refine My.bx 4 #[.slice none 0 0, .slice none 0 0] 25 ?_; intro gb600 hg w3 hbox hb; have BK600 := My.am (hbox); have GE600 := My.nge hg (My.bl_ HB); replace HB := My.st HB hb; obtain ⟨NB599_600, NB600_599, BK599⟩ := My.nb hg hb BK599; clear hb hbox hg; have hnb4 := NB600_599.out; have hnc4 := NB599_600.out; have hq5 := My.cz2 BK600))
 go_loopg [5, 6] k (fun kq v5 v6 w' => ∃ (x5_1 : List (S51)) (x6_1 : Int) (x601000_1 : List (S51)) (x601001_1 : List (S64)) (u601000 : Value) (u601001 : Value), v6 = .int .i64 x6_1 ∧ Aside0 (ententelaw07_opened.l0 kq l0 x5_1 x6_1 x601000_1 x601001_1 = some (r1, r2, r3)) ∧ Aside0 (kq ≤ k) ∧ Aside0 (Kd.R k51 51 w' w.heap.size (fun k_ => (w.heap.size ≤ k_)) v5 x5_1) ∧ Aside0 (Kd.V k51 51 w' w.heap.size (fun k_ => (w.heap.size ≤ k_) ∧ some k_ ≠ (v5 : Value).ownBlock ∧ k_ ≠ gb599 ∧ k_ ≠ gb600) u601000 x601000_1) ∧ Aside0 (Kd.V k64 64 w' w.heap.size (fun k_ => (w.heap.size ≤ k_) ∧ some k_ ≠ (v5 : Value).ownBlock ∧ k_ ≠ gb599 ∧ k_ ≠ gb600) u601001 x601001_1) ∧ Aside0 (w'.heap[gb599]? = some (.cells #[(.slice none 0 0), (.slice none 0 0)] 25 (0, 0))) ∧ Aside0 (w'.heap[gb600]? = some (.cells #[u601000, u601001] 25 (0, 0))) ∧ Aside0 (Below w.heap.size w w'))
 case atStart => exact ⟨(([] : List (S51))), (0), (([] : List (S51))), (([] : List (S64))), (.slice none 0 0), (.slice none 0 0), My.r1, H', ⟨Nat.le_refl _⟩, ⟨My.r3⟩, ⟨Kd.V_nil _ _ _ _ _⟩, ⟨Kd.V_nil _ _ _ _ _⟩, ⟨(My.sv_ BK599)⟩, ⟨(My.sv_ BK600)⟩, ⟨(My.bl_ HB)⟩⟩
 case round =>
  clear H'
  try clear hq5
  obtain ⟨x5_1, x6_1, x601000_1, x601001_1, u601000, u601001, rfl, HA, HK1, HO_5, HO_601000, HO_601001, BK599, BK600, HB⟩ := hrel
  cases gk with
  | zero => exact absurd HA.out (by simp [ententelaw07_opened.l0])
  | succ k1 =>
   have H := HA.out
   clear HA
   simp only [ententelaw07_opened.l0] at H
   by_cases c6 : x6_1 < (l0.length : Int)
   rotate_left
   ·rw [if_neg c6] at H
    have c6b0 := decide_eq_false c6
    clear c6
    simp only [Option.some.injEq, Prod.mk.injEq] at H
    obtain ⟨rfl, rfl, rfl⟩ := H
    have hnb60 := NB600_599.out
    have hnc60 := NB599_600.out
    have hq61 := My.cz2 BK600
    obtain ⟨Ao62, co62, eo62⟩ := Kd.V_slice HO_601000.out
    subst eo62
    have hq63 := My.cz2 BK599
    obtain ⟨Ao64, co64, eo64⟩ := Kd.V_slice HO_601001.out
    subst eo64
    go_wp2
    refine bodyPost_ret (results_ct rfl _ _ gb599 25 #[.slice Ao62 x601000_1.length co62, .slice Ao64 x601001_1.length co64] (0, 0) _ rfl ((My.sv_ BK599)) Try.underlying25 rfl (by kernel_rfl)) rfl ?_
    exact ⟨_, _, _, My.r2, My.dV (Kd.V_mono (Kd.V_far (p := ⟨gb599, 1, none⟩) (Kd.V_far (p := ⟨gb599, 0, none⟩) (Kd.V_mono HO_601000.out (fun k_ hk => (⟨hk, hk.2.2.1⟩ : _ ∧ k_ ≠ gb599))) (fun _ hk => hk.2) (.slice Ao62 x601000_1.length co62)) (fun _ hk => hk.2) (.slice Ao64 x601001_1.length co64)) (fun _ hk => ⟨hk.1.1, hk.1.2.1⟩)), My.dV (Kd.V_mono (Kd.V_far (p := ⟨gb599, 1, none⟩) (Kd.V_far (p := ⟨gb599, 0, none⟩) (Kd.V_mono HO_601001.out (fun k_ hk => (⟨hk, hk.2.2.1⟩ : _ ∧ k_ ≠ gb599))) (fun _ hk => hk.2) (.slice Ao62 x601000_1.length co62)) (fun _ hk => hk.2) (.slice Ao64 x601001_1.length co64)) (fun _ hk => ⟨hk.1.1, hk.1.2.1⟩)), My.dR (Kd.R_mono (Kd.R_far (p := ⟨gb599, 1, none⟩) (Kd.R_far (p := ⟨gb599, 0, none⟩) (Kd.R_types HO_5.out BK599.out (by decide)) (fun _ hk => hk.2) (.slice Ao62 x601000_1.length co62)) (fun _ hk => hk.2) (.slice Ao64 x601001_1.length co64)) (fun _ hk => hk.1)), (My.bl_ HB)⟩

   rw [if_pos c6] at H
   have c6b0 := decide_eq_true c6
   clear c6
   replace H := My.ds H
   obtain ⟨c7b0, H⟩ := H
   replace H := Option.bind_eq_some_iff.mp H
   obtain ⟨⟨t602, t605, t608⟩, A80, H⟩ := H
   try dsimp only at H
   have A8 := My.am A80
   clear A80
   by_cases c9 : t608 = true
   rotate_left
   ·replace c9 := Bool.eq_false_iff.mpr c9
    subst c9
    rw [if_neg (show ¬ (false = true) by decide)] at H
    have H' := My.am H
    clear H
    obtain ⟨Ao45, co45, eo45⟩ := Kd.V_slice HO_601000.out
    subst eo45
    obtain ⟨Ao46, co46, eo46⟩ := Kd.V_slice HO_601001.out
    subst eo46
    try go_wp2
    replace HO_5 := My.am (Kd.R_drew HO_5.out)
    replace HO_601000 := My.am (Kd.V_drew HO_601000.out)
    replace HO_601001 := My.am (Kd.V_drew HO_601001.out)
    replace BK599 := My.am (blk_drew BK599.out)
    replace BK600 := My.am (blk_drew BK600.out)
    replace HB := My.am (below_drew1 HB.out)
    have p601 : 0 ≤ (x6_1 : Int) := My.as_
    have q601 : x6_1 < (l0.length : Int) := My.as_
    obtain ⟨ad601, e601, hx601_0, hx601_1, hx601_2, hx601_3, hx601_4⟩ := at_T29 HR0.out x6_1 p601 q601
    have hw601_4 := hx601_4
    have hw601_3 := hx601_3
    have hw601_2 := hx601_2
    have hw601_1 := hx601_1
    have hw601_0 := hx601_0
    cases e601
    replace hx601_0 := My.up HB hx601_0
    replace hx601_1 := My.up HB hx601_1
    replace hx601_2 := My.up HB hx601_2
    replace hx601_3 := My.up HB hx601_3
    replace hx601_4 := My.up HB hx601_4
    replace p601 := eq_true p601
    replace q601 := eq_true q601
    refine start_ (n := 12) (S := fun w' => w'.cell? ⟨gb600, 0, none⟩ = some (.slice Ao45 x601000_1.length co45) ∧ w'.cell? ⟨gb600, 1, none⟩ = some (.slice Ao46 x601001_1.length co46) ∧ w'.cell? (ad601.add ((x6_1).toNat * 5)) = some (.int .i64 ((rd_T29 l0 x6_1).f0)) ∧ w'.cell? ⟨(ad601.add ((x6_1).toNat * 5)).block, (ad601.add ((x6_1).toNat * 5)).off + 1, none⟩ = some (.string ((rd_T29 l0 x6_1).f1)) ∧ w'.cell? ⟨(ad601.add ((x6_1).toNat * 5)).block, (ad601.add ((x6_1).toNat * 5)).off + 2, none⟩ = some (.int .i64 ((rd_T29 l0 x6_1).f2.f0)) ∧ w'.cell? ⟨(ad601.add ((x6_1).toNat * 5)).block, (ad601.add ((x6_1).toNat * 5)).off + 3, none⟩ = some (.string ((rd_T29 l0 x6_1).f2.f1)) ∧ w'.cell? ⟨(ad601.add ((x6_1).toNat * 5)).block, (ad601.add ((x6_1).toNat * 5)).off + 4, none⟩ = some (.int .i64 ((rd_T29 l0 x6_1).f2.f2))) (ds := []) #[false, false, false, false, false, false, false, false, false, false, false, false] (by kernel_rfl) rfl rfl ⟨My.b_ BK600 0, My.b_ BK600 1, (My.up HB hw601_0), (My.up HB hw601_1), (My.up HB hw601_2), (My.up HB hw601_3), (My.up HB hw601_4)⟩ (fun hHeld => ?_); refine with_tabW ententelaw07_opened.tab6 ententelaw07_opened.bits6 (fun HT_ HW_ => ?_)
    generalize wr.drew = w47 at HO_5 HO_601000 HO_601001 BK599 BK600 HB hx601_0 hx601_1 hx601_2 hx601_3 hx601_4 hHeld ⊢
    refine My.pv_ 1 18 12 2 HT_.out ?_
    refine My.pv_ 2 19 12 6 HT_.out ?_
    refine My.pv_ 3 20 12 14 HT_.out ?_
    refine My.tv_ 0 17 12 15 HT_.out HW_.out hHeld rfl rfl (by rintro w' ⟨s0, s1, s2, s3, s4, s5, s6⟩; go_simp; with_reducible rfl) ?_
    refine My.ta_ 4 21 12 HT_.out HW_.out hHeld rfl rfl (by rintro w' ⟨s0, s1, s2, s3, s4, s5, s6⟩; go_simp; with_reducible rfl) ?_
    refine join_ (σ := Value × Value × Nat) 2 (My.Mb 12 1023) (fun s_ => [(22, .tuple #[.agg #[s_.1, s_.2.1], .bool false]), (7, .pointer (some ⟨s_.2.2, 0, none⟩)), (16, .tuple #[.agg #[s_.1, s_.2.1], .bool false]), (23, .agg #[s_.1, s_.2.1]), (24, .bool false)]) (fun s_ w' => (w'.cell? ⟨gb600, 0, none⟩ = some (.slice Ao45 x601000_1.length co45) ∧ w'.cell? ⟨gb600, 1, none⟩ = some (.slice Ao46 x601001_1.length co46) ∧ w'.cell? (ad601.add ((x6_1).toNat * 5)) = some (.int .i64 ((rd_T29 l0 x6_1).f0)) ∧ w'.cell? ⟨(ad601.add ((x6_1).toNat * 5)).block, (ad601.add ((x6_1).toNat * 5)).off + 1, none⟩ = some (.string ((rd_T29 l0 x6_1).f1)) ∧ w'.cell? ⟨(ad601.add ((x6_1).toNat * 5)).block, (ad601.add ((x6_1).toNat * 5)).off + 2, none⟩ = some (.int .i64 ((rd_T29 l0 x6_1).f2.f0)) ∧ w'.cell? ⟨(ad601.add ((x6_1).toNat * 5)).block, (ad601.add ((x6_1).toNat * 5)).off + 3, none⟩ = some (.string ((rd_T29 l0 x6_1).f2.f1)) ∧ w'.cell? ⟨(ad601.add ((x6_1).toNat * 5)).block, (ad601.add ((x6_1).toNat * 5)).off + 4, none⟩ = some (.int .i64 ((rd_T29 l0 x6_1).f2.f2))) ∧ (Kd.V k51 51 w' w.heap.size (fun k_ => (w.heap.size ≤ k_) ∧ some k_ ≠ (u5 : Value).ownBlock ∧ k_ ≠ gb599 ∧ k_ ≠ gb600 ∧ k_ ≠ s_.2.2) s_.1 t602) ∧ (Kd.V k64 64 w' w.heap.size (fun k_ => (w.heap.size ≤ k_) ∧ some k_ ≠ (u5 : Value).ownBlock ∧ k_ ≠ gb599 ∧ k_ ≠ gb600 ∧ k_ ≠ s_.2.2) s_.2.1 t605) ∧ (Kd.R k51 51 w' w.heap.size (fun k_ => (w.heap.size ≤ k_)) u5 x5_1) ∧ (Kd.V k51 51 w' w.heap.size (fun k_ => (w.heap.size ≤ k_) ∧ some k_ ≠ (u5 : Value).ownBlock ∧ k_ ≠ gb599 ∧ k_ ≠ gb600 ∧ k_ ≠ s_.2.2) (.slice Ao45 x601000_1.length co45) x601000_1) ∧ (Kd.V k64 64 w' w.heap.size (fun k_ => (w.heap.size ≤ k_) ∧ some k_ ≠ (u5 : Value).ownBlock ∧ k_ ≠ gb599 ∧ k_ ≠ gb600 ∧ k_ ≠ s_.2.2) (.slice Ao46 x601001_1.length co46) x601001_1) ∧ (w'.heap[gb599]? = some (.cells #[.slice none 0 0, .slice none 0 0] 25 (0, 0))) ∧ (w'.heap[gb600]? = some (.cells #[.slice Ao45 x601000_1.length co45, .slice Ao46 x601001_1.length co46] 25 (0, 0))) ∧ (w'.heap[s_.2.2]? = some (.cells #[.slice none 0 0, .slice none 0 0] 25 (0, 0))) ∧ (w.heap.size ≤ s_.2.2) ∧ (w.heap.size ≤ s_.2.2) ∧ (gb599 ≠ s_.2.2) ∧ (s_.2.2 ≠ gb599) ∧ (gb600 ≠ s_.2.2) ∧ (s_.2.2 ≠ gb600) ∧ (Below w.heap.size w w')) ?_ ?_
    rotate_left
    ·intro hCont
     refine two_ (i := 5) (j := 9) (Ni := some 22) (Nj := some 7) (My.Mb 12 63) (My.Mb 12 543) rfl rfl rfl rfl (two_of HT_.out (by kernel_rfl)) (by decide) (by decide) (fun K hK => ?_) (fun K hK => ?_)
     ·skip
      refine goes_ Try.func19 (by kernel_rfl) rfl #[.agg #[.slice Ao45 x601000_1.length co45, .slice Ao46 x601001_1.length co46], .agg #[.int .i64 ((rd_T29 l0 x6_1).f0), .string ((rd_T29 l0 x6_1).f1), .int .i64 ((rd_T29 l0 x6_1).f2.f0), .string ((rd_T29 l0 x6_1).f2.f1), .int .i64 ((rd_T29 l0 x6_1).f2.f2)]] (by rfl) rfl rfl My.gx ?_
      with_reducible refine (ententelaw07_does.calls k1 (fun k_ => ((w.heap.size ≤ k_) ∧ (some k_ ≠ (u5 : Value).ownBlock ∧ (k_ ≠ gb599 ∧ k_ ≠ gb600)))) _ _ x601000_1 (fun k_ => ((w.heap.size ≤ k_) ∧ (some k_ ≠ (u5 : Value).ownBlock ∧ (k_ ≠ gb599 ∧ k_ ≠ gb600)))) _ _ x601001_1 ((rd_T29 l0 x6_1).f0) ((rd_T29 l0 x6_1).f1) ((rd_T29 l0 x6_1).f2.f0) ((rd_T29 l0 x6_1).f2.f1) ((rd_T29 l0 x6_1).f2.f2) t602 t605 false _ ?side1 ?side2 A8.out).mono ?_
      (case side1 => exact HO_601000.out)
      (case side2 => exact HO_601001.out)
      rintro e w48 ⟨v603, v606, rfl, ho0, ho1, hb⟩
      refine ⟨_, rfl, ?_⟩
      replace HO_601000 := My.am (Kd.V_below (My.dV HO_601000.out) hb)
      replace HO_601001 := My.am (Kd.V_below (My.dV HO_601001.out) hb)
      have HO604 := My.am (Kd.V_lower (Kd.V_mono (ok' := fun k_ => (w.heap.size ≤ k_) ∧ some k_ ≠ (u5 : Value).ownBlock ∧ k_ ≠ gb599 ∧ k_ ≠ gb600) ho0 (fun k_ hk_ => ⟨Or.elim hk_ (fun hs_ => Or.elim hs_ (fun hs_ => hs_.1) (fun hs_ => hs_.1)) (fun hn_ => (Nat.le_trans (below_size (My.bl_ HB)) hn_)), Or.elim hk_ (fun hs_ => Or.elim hs_ (fun hs_ => hs_.2.1) (fun hs_ => hs_.2.1)) (fun hn_ => (Kd.fresh' (Kd.R_lt (My.dr HO_5.out)) k_ hn_)), Or.elim hk_ (fun hs_ => Or.elim hs_ (fun hs_ => hs_.2.2.1) (fun hs_ => hs_.2.2.1)) (fun hn_ => (Kd.freshB (My.at_ BK599) k_ hn_)), Or.elim hk_ (fun hs_ => Or.elim hs_ (fun hs_ => hs_.2.2.2) (fun hs_ => hs_.2.2.2)) (fun hn_ => (Kd.freshB (My.at_ BK600) k_ hn_))⟩)) (below_size (My.bl_ HB)))
      have HO607 := My.am (Kd.V_lower (Kd.V_mono (ok' := fun k_ => (w.heap.size ≤ k_) ∧ some k_ ≠ (u5 : Value).ownBlock ∧ k_ ≠ gb599 ∧ k_ ≠ gb600) ho1 (fun k_ hk_ => ⟨Or.elim hk_ (fun hs_ => Or.elim hs_ (fun hs_ => hs_.1) (fun hs_ => hs_.1)) (fun hn_ => (Nat.le_trans (below_size (My.bl_ HB)) hn_)), Or.elim hk_ (fun hs_ => Or.elim hs_ (fun hs_ => hs_.2.1) (fun hs_ => hs_.2.1)) (fun hn_ => (Kd.fresh' (Kd.R_lt (My.dr HO_5.out)) k_ hn_)), Or.elim hk_ (fun hs_ => Or.elim hs_ (fun hs_ => hs_.2.2.1) (fun hs_ => hs_.2.2.1)) (fun hn_ => (Kd.freshB (My.at_ BK599) k_ hn_)), Or.elim hk_ (fun hs_ => Or.elim hs_ (fun hs_ => hs_.2.2.2) (fun hs_ => hs_.2.2.2)) (fun hn_ => (Kd.freshB (My.at_ BK600) k_ hn_))⟩)) (below_size (My.bl_ HB)))
      replace HO_5 := My.am (Kd.R_below (My.dr HO_5.out) hb)
      replace BK599 := My.ab BK599 hb
      replace BK600 := My.ab BK600 hb
      replace HB := My.st HB hb
      (try clear hb)
      (try clear hb2)
      (try clear hk)
      (try clear hi)
      (try clear ho0)
      (try clear ho1)
      refine hK.out _ _ ⟨My.b_ BK600 0, My.b_ BK600 1, (My.up HB hw601_0), (My.up HB hw601_1), (My.up HB hw601_2), (My.up HB hw601_3), (My.up HB hw601_4)⟩ (fun hHeld => ?_)
      clear hK K
      refine My.nm 22 ?_
      refine My.pu_ 6 16 12 HT_.out ?_
      refine My.pu_ 7 23 12 HT_.out ?_
      refine My.pu_ 8 24 12 HT_.out ?_
      refine one_ (i := 9) (N := some 7) (My.Mb 12 1023) rfl rfl (one_of HT_.out (by kernel_rfl)) (by decide) (fun K hK => ?_)
      refine box_step ?hg (N := 7) ?hd (cs := #[.slice none 0 0, .slice none 0 0]) (t := 25) ?hr ?_; (case hd => rfl); (case hg => rfl); (case hr => first | (go_simp; done) | (go_simp; rfl))
      intro gb609 hg w49 hbox hb
      replace HO_5 := My.am (Kd.R_below (My.dr HO_5.out) hb)
      replace HO_601000 := My.am (Kd.V_below (Kd.V_elderB (My.dV HO_601000.out) gb609 (Nat.le_of_eq hg.symm)) hb)
      replace HO_601001 := My.am (Kd.V_below (Kd.V_elderB (My.dV HO_601001.out) gb609 (Nat.le_of_eq hg.symm)) hb)
      replace HO604 := My.am (Kd.V_below (Kd.V_elderB (My.dV HO604.out) gb609 (Nat.le_of_eq hg.symm)) hb)
      replace HO607 := My.am (Kd.V_below (Kd.V_elderB (My.dV HO607.out) gb609 (Nat.le_of_eq hg.symm)) hb)
      have BK609 := My.am (hbox)
      have GW609 := My.nge hg (My.bl_ HB)
      have GE609 := My.nge hg (My.bl_ HB)
      replace HB := My.st HB hb
      obtain ⟨NB599_609, NB609_599, BK599⟩ := My.nb hg hb BK599
      obtain ⟨NB600_609, NB609_600, BK600⟩ := My.nb hg hb BK600
      clear hb hbox hg
      refine hK.out _ _ ⟨My.b_ BK600 0, My.b_ BK600 1, (My.up HB hw601_0), (My.up HB hw601_1), (My.up HB hw601_2), (My.up HB hw601_3), (My.up HB hw601_4)⟩ (fun hHeld => ?_)
      clear hK K
      refine My.nm 7 ?_
      exact norm_ (by simp only [putAll, Act.put, List.setIfInBounds_toArray, List.set_cons_zero, List.set_cons_succ]) (hCont (v603, v606, gb609) _ ⟨hHeld, (My.dV (Kd.V_mono HO604.out (fun _ hk => ⟨hk.1.1, ⟨hk.1.2.1, ⟨hk.1.2.2.1, ⟨hk.1.2.2.2, hk.2⟩⟩⟩⟩))), (My.dV (Kd.V_mono HO607.out (fun _ hk => ⟨hk.1.1, ⟨hk.1.2.1, ⟨hk.1.2.2.1, ⟨hk.1.2.2.2, hk.2⟩⟩⟩⟩))), (My.dr HO_5.out), (My.dV (Kd.V_mono HO_601000.out (fun _ hk => ⟨hk.1.1, ⟨hk.1.2.1, ⟨hk.1.2.2.1, ⟨hk.1.2.2.2, hk.2⟩⟩⟩⟩))), (My.dV (Kd.V_mono HO_601001.out (fun _ hk => ⟨hk.1.1, ⟨hk.1.2.1, ⟨hk.1.2.2.1, ⟨hk.1.2.2.2, hk.2⟩⟩⟩⟩))), (My.at_ BK599), (My.at_ BK600), (My.at_ BK609), GW609.out, GE609.out, NB599_609.out, NB609_599.out, NB600_609.out, NB609_600.out, (My.bl_ HB)⟩)
     skip
     refine box_step ?hg (N := 7) ?hd (cs := #[.slice none 0 0, .slice none 0 0]) (t := 25) ?hr ?_; (case hd => rfl); (case hg => rfl); (case hr => first | (go_simp; done) | (go_simp; rfl))
     intro gb609 hg w48 hbox hb
     replace HO_5 := My.am (Kd.R_below (My.dr HO_5.out) hb)
     replace HO_601000 := My.am (Kd.V_below (Kd.V_elderB (My.dV HO_601000.out) gb609 (Nat.le_of_eq hg.symm)) hb)
     replace HO_601001 := My.am (Kd.V_below (Kd.V_elderB (My.dV HO_601001.out) gb609 (Nat.le_of_eq hg.symm)) hb)
     have BK609 := My.am (hbox)
     have GW609 := My.nge hg (My.bl_ HB)
     have GE609 := My.nge hg (My.bl_ HB)
     replace HB := My.st HB hb
     obtain ⟨NB599_609, NB609_599, BK599⟩ := My.nb hg hb BK599
     obtain ⟨NB600_609, NB609_600, BK600⟩ := My.nb hg hb BK600
     clear hb hbox hg
     refine hK.out _ _ ⟨My.b_ BK600 0, My.b_ BK600 1, (My.up HB hw601_0), (My.up HB hw601_1), (My.up HB hw601_2), (My.up HB hw601_3), (My.up HB hw601_4)⟩ (fun hHeld => ?_)
     clear hK K
     refine My.nm 7 ?_
     refine one_ (i := 5) (N := some 22) (My.Mb 12 575) rfl rfl (one_of HT_.out (by kernel_rfl)) (by decide) (fun K hK => ?_)
     refine goes_ Try.func19 (by kernel_rfl) rfl #[.agg #[.slice Ao45 x601000_1.length co45, .slice Ao46 x601001_1.length co46], .agg #[.int .i64 ((rd_T29 l0 x6_1).f0), .string ((rd_T29 l0 x6_1).f1), .int .i64 ((rd_T29 l0 x6_1).f2.f0), .string ((rd_T29 l0 x6_1).f2.f1), .int .i64 ((rd_T29 l0 x6_1).f2.f2)]] (by rfl) rfl rfl My.gx ?_
     with_reducible refine (ententelaw07_does.calls k1 (fun k_ => (((w.heap.size ≤ k_) ∧ (some k_ ≠ (u5 : Value).ownBlock ∧ (k_ ≠ gb599 ∧ k_ ≠ gb600))) ∧ k_ ≠ gb609)) _ _ x601000_1 (fun k_ => (((w.heap.size ≤ k_) ∧ (some k_ ≠ (u5 : Value).ownBlock ∧ (k_ ≠ gb599 ∧ k_ ≠ gb600))) ∧ k_ ≠ gb609)) _ _ x601001_1 ((rd_T29 l0 x6_1).f0) ((rd_T29 l0 x6_1).f1) ((rd_T29 l0 x6_1).f2.f0) ((rd_T29 l0 x6_1).f2.f1) ((rd_T29 l0 x6_1).f2.f2) t602 t605 false _ ?side1 ?side2 A8.out).mono ?_
     (case side1 => exact HO_601000.out)
     (case side2 => exact HO_601001.out)
     rintro e w49 ⟨v603, v606, rfl, ho0, ho1, hb⟩
     refine ⟨_, rfl, ?_⟩
     replace HO_601000 := My.am (Kd.V_below (My.dV HO_601000.out) hb)
     replace HO_601001 := My.am (Kd.V_below (My.dV HO_601001.out) hb)
     have HO604 := My.am (Kd.V_lower (Kd.V_mono (ok' := fun k_ => (w.heap.size ≤ k_) ∧ some k_ ≠ (u5 : Value).ownBlock ∧ k_ ≠ gb599 ∧ k_ ≠ gb600 ∧ k_ ≠ gb609) ho0 (fun k_ hk_ => ⟨Or.elim hk_ (fun hs_ => Or.elim hs_ (fun hs_ => hs_.1.1) (fun hs_ => hs_.1.1)) (fun hn_ => (Nat.le_trans (below_size (My.bl_ HB)) hn_)), Or.elim hk_ (fun hs_ => Or.elim hs_ (fun hs_ => hs_.1.2.1) (fun hs_ => hs_.1.2.1)) (fun hn_ => (Kd.fresh' (Kd.R_lt (My.dr HO_5.out)) k_ hn_)), Or.elim hk_ (fun hs_ => Or.elim hs_ (fun hs_ => hs_.1.2.2.1) (fun hs_ => hs_.1.2.2.1)) (fun hn_ => (Kd.freshB (My.at_ BK599) k_ hn_)), Or.elim hk_ (fun hs_ => Or.elim hs_ (fun hs_ => hs_.1.2.2.2) (fun hs_ => hs_.1.2.2.2)) (fun hn_ => (Kd.freshB (My.at_ BK600) k_ hn_)), Or.elim hk_ (fun hs_ => Or.elim hs_ (fun hs_ => hs_.2) (fun hs_ => hs_.2)) (fun hn_ => (Kd.freshB (My.at_ BK609) k_ hn_))⟩)) (below_size (My.bl_ HB)))
     have HO607 := My.am (Kd.V_lower (Kd.V_mono (ok' := fun k_ => (w.heap.size ≤ k_) ∧ some k_ ≠ (u5 : Value).ownBlock ∧ k_ ≠ gb599 ∧ k_ ≠ gb600 ∧ k_ ≠ gb609) ho1 (fun k_ hk_ => ⟨Or.elim hk_ (fun hs_ => Or.elim hs_ (fun hs_ => hs_.1.1) (fun hs_ => hs_.1.1)) (fun hn_ => (Nat.le_trans (below_size (My.bl_ HB)) hn_)), Or.elim hk_ (fun hs_ => Or.elim hs_ (fun hs_ => hs_.1.2.1) (fun hs_ => hs_.1.2.1)) (fun hn_ => (Kd.fresh' (Kd.R_lt (My.dr HO_5.out)) k_ hn_)), Or.elim hk_ (fun hs_ => Or.elim hs_ (fun hs_ => hs_.1.2.2.1) (fun hs_ => hs_.1.2.2.1)) (fun hn_ => (Kd.freshB (My.at_ BK599) k_ hn_)), Or.elim hk_ (fun hs_ => Or.elim hs_ (fun hs_ => hs_.1.2.2.2) (fun hs_ => hs_.1.2.2.2)) (fun hn_ => (Kd.freshB (My.at_ BK600) k_ hn_)), Or.elim hk_ (fun hs_ => Or.elim hs_ (fun hs_ => hs_.2) (fun hs_ => hs_.2)) (fun hn_ => (Kd.freshB (My.at_ BK609) k_ hn_))⟩)) (below_size (My.bl_ HB)))
     replace HO_5 := My.am (Kd.R_below (My.dr HO_5.out) hb)
     replace BK599 := My.ab BK599 hb
     replace BK600 := My.ab BK600 hb
     replace BK609 := My.ab BK609 hb
     replace HB := My.st HB hb
     (try clear hb)
     (try clear hb2)
     (try clear hk)
     (try clear hi)
     (try clear ho0)
     (try clear ho1)
     refine hK.out _ _ ⟨My.b_ BK600 0, My.b_ BK600 1, (My.up HB hw601_0), (My.up HB hw601_1), (My.up HB hw601_2), (My.up HB hw601_3), (My.up HB hw601_4)⟩ (fun hHeld => ?_)
     clear hK K
     refine My.nm 22 ?_
     refine My.pv_ 6 16 12 639 HT_.out ?_
     refine My.pv_ 7 23 12 767 HT_.out ?_
     refine My.pv_ 8 24 12 1023 HT_.out ?_
     exact norm_ (by simp only [putAll, Act.put, List.setIfInBounds_toArray, List.set_cons_zero, List.set_cons_succ]) (hCont (v603, v606, gb609) _ ⟨hHeld, (My.dV HO604.out), (My.dV HO607.out), (My.dr HO_5.out), (My.dV (Kd.V_mono HO_601000.out (fun _ hk => ⟨hk.1.1, ⟨hk.1.2.1, ⟨hk.1.2.2.1, ⟨hk.1.2.2.2, hk.2⟩⟩⟩⟩))), (My.dV (Kd.V_mono HO_601001.out (fun _ hk => ⟨hk.1.1, ⟨hk.1.2.1, ⟨hk.1.2.2.1, ⟨hk.1.2.2.2, hk.2⟩⟩⟩⟩))), (My.at_ BK599), (My.at_ BK600), (My.at_ BK609), GW609.out, GE609.out, NB599_609.out, NB609_599.out, NB600_609.out, NB609_600.out, (My.bl_ HB)⟩)
    rintro ⟨v603, v606, gb609⟩ w50 ⟨hS_, h0_, h1_, h2_, h3_, h4_, h5_, h6_, h7_, h8_, h9_, h10_, h11_, h12_, h13_, h14_⟩
    have n0_ : Aside0 (Kd.V k51 51 w50 w.heap.size (fun k_ => (w.heap.size ≤ k_) ∧ some k_ ≠ (u5 : Value).ownBlock ∧ k_ ≠ gb599 ∧ k_ ≠ gb600 ∧ k_ ≠ gb609) v603 t602) := ⟨h0_⟩
    have n1_ : Aside0 (Kd.V k64 64 w50 w.heap.size (fun k_ => (w.heap.size ≤ k_) ∧ some k_ ≠ (u5 : Value).ownBlock ∧ k_ ≠ gb599 ∧ k_ ≠ gb600 ∧ k_ ≠ gb609) v606 t605) := ⟨h1_⟩
    have n2_ : Aside0 (Kd.R k51 51 w50 w.heap.size (fun k_ => (w.heap.size ≤ k_)) u5 x5_1) := ⟨h2_⟩
    have n3_ : Aside0 (Kd.V k51 51 w50 w.heap.size (fun k_ => (w.heap.size ≤ k_) ∧ some k_ ≠ (u5 : Value).ownBlock ∧ k_ ≠ gb599 ∧ k_ ≠ gb600 ∧ k_ ≠ gb609) (.slice Ao45 x601000_1.length co45) x601000_1) := ⟨h3_⟩
    have n4_ : Aside0 (Kd.V k64 64 w50 w.heap.size (fun k_ => (w.heap.size ≤ k_) ∧ some k_ ≠ (u5 : Value).ownBlock ∧ k_ ≠ gb599 ∧ k_ ≠ gb600 ∧ k_ ≠ gb609) (.slice Ao46 x601001_1.length co46) x601001_1) := ⟨h4_⟩
    have n5_ : Aside0 (w50.heap[gb599]? = some (.cells #[.slice none 0 0, .slice none 0 0] 25 (0, 0))) := ⟨h5_⟩
    have n6_ : Aside0 (w50.heap[gb600]? = some (.cells #[.slice Ao45 x601000_1.length co45, .slice Ao46 x601001_1.length co46] 25 (0, 0))) := ⟨h6_⟩
    have n7_ : Aside0 (w50.heap[gb609]? = some (.cells #[.slice none 0 0, .slice none 0 0] 25 (0, 0))) := ⟨h7_⟩
    have n8_ : Aside0 (w.heap.size ≤ gb609) := ⟨h8_⟩
    have n9_ : Aside0 (w.heap.size ≤ gb609) := ⟨h9_⟩
    have n10_ : Aside0 (gb599 ≠ gb609) := ⟨h10_⟩
    have n11_ : Aside0 (gb609 ≠ gb599) := ⟨h11_⟩
    have n12_ : Aside0 (gb600 ≠ gb609) := ⟨h12_⟩
    have n13_ : Aside0 (gb609 ≠ gb600) := ⟨h13_⟩
    have n14_ : Aside0 (Below w.heap.size w w50) := ⟨h14_⟩
    clear HO_5
    clear HO_601000
    clear HO_601001
    clear BK599
    clear BK600
    clear HB
    clear h0_ h1_ h2_ h3_ h4_ h5_ h6_ h7_ h8_ h9_ h10_ h11_ h12_ h13_ h14_
    have HO604 := n0_
    have HO607 := n1_
    have HO_5 := n2_
    have HO_601000 := n3_
    have HO_601001 := n4_
    have BK599 := n5_
    have BK600 := n6_
    have BK609 := n7_
    have GW609 := n8_
    have GE609 := n9_
    have NB599_609 := n10_
    have NB609_599 := n11_
    have NB600_609 := n12_
    have NB609_600 := n13_
    have HB := n14_
    clear n0_ n1_ n2_ n3_ n4_ n5_ n6_ n7_ n8_ n9_ n10_ n11_ n12_ n13_ n14_
    have hHeld : w50.cell? ⟨gb600, 0, none⟩ = some (.slice Ao45 x601000_1.length co45) ∧ w50.cell? ⟨gb600, 1, none⟩ = some (.slice Ao46 x601001_1.length co46) ∧ w50.cell? (ad601.add ((x6_1).toNat * 5)) = some (.int .i64 ((rd_T29 l0 x6_1).f0)) ∧ w50.cell? ⟨(ad601.add ((x6_1).toNat * 5)).block, (ad601.add ((x6_1).toNat * 5)).off + 1, none⟩ = some (.string ((rd_T29 l0 x6_1).f1)) ∧ w50.cell? ⟨(ad601.add ((x6_1).toNat * 5)).block, (ad601.add ((x6_1).toNat * 5)).off + 2, none⟩ = some (.int .i64 ((rd_T29 l0 x6_1).f2.f0)) ∧ w50.cell? ⟨(ad601.add ((x6_1).toNat * 5)).block, (ad601.add ((x6_1).toNat * 5)).off + 3, none⟩ = some (.string ((rd_T29 l0 x6_1).f2.f1)) ∧ w50.cell? ⟨(ad601.add ((x6_1).toNat * 5)).block, (ad601.add ((x6_1).toNat * 5)).off + 4, none⟩ = some (.int .i64 ((rd_T29 l0 x6_1).f2.f2)) := hS_
    obtain ⟨Ao51, co51, eo51⟩ := Kd.V_slice HO604.out
    (first | subst eo51 | (injection eo51 with f1_ f2_ f3_; have f4_ := f1_.symm; have f5_ := f3_.symm; clear f1_ f2_ f3_; subst f4_; subst f5_))
    obtain ⟨Ao53, co53, eo53⟩ := Kd.V_slice HO607.out
    (first | subst eo53 | (injection eo53 with f1_ f2_ f3_; have f4_ := f1_.symm; have f5_ := f3_.symm; clear f1_ f2_ f3_; subst f4_; subst f5_))
    refine norm_ (a' := ?_) ?_ ?_
    rotate_left
    ·simp only [putAll, Act.put, List.setIfInBounds_toArray, List.set_cons_zero, List.set_cons_succ]
     rfl
    refine one_ (i := 10) (N := none) (My.Mb 12 2047) rfl rfl (one_of HT_.out (by kernel_rfl)) (by decide) (fun K hK => ?_)
    have hs52 : w50.cell? ⟨gb609, 0, none⟩ = some (.slice none 0 0) := My.b_ BK609 0
    have hfs52 := blk_frozen BK609.out 0
    have hns52_0 := NB599_609.out
    have hns52_1 := NB600_609.out
    have hms52_0 := NB609_599.out
    have hms52_1 := NB609_600.out
    have hs54 : w50.cell? ⟨gb609, 1, none⟩ = some (.slice none 0 0) := My.b_ BK609 1
    have hfs54 := blk_frozen BK609.out 1
    have hns54_0 := NB599_609.out
    have hns54_1 := NB600_609.out
    have hms54_0 := NB609_599.out
    have hms54_1 := NB609_600.out
    refine skip_ (w1 := ?_) (by rfl) rfl ?_ ?_
    rotate_left
    ·go_simp
     rfl
    refine hK.out _ _ ⟨(My.c2 NB600_609.out hHeld.1), (My.c2 NB600_609.out hHeld.2.1), (My.c2 (My.nw hw601_0 GW609) hHeld.2.2.1), (My.c2 (My.nw hw601_1 GW609) hHeld.2.2.2.1), (My.c2 (My.nw hw601_2 GW609) hHeld.2.2.2.2.1), (My.c2 (My.nw hw601_3 GW609) hHeld.2.2.2.2.2.1), (My.c2 (My.nw hw601_4 GW609) hHeld.2.2.2.2.2.2)⟩ (fun hHeld => ?_)
    clear hK K
    refine My.pu_ 11 8 12 HT_.out ?_
    refine done_ (done_of HT_.out (by kernel_rfl)) ?_
    have hnb55 := NB609_599.out
    have hnc55 := NB599_609.out
    have hnb56 := NB609_600.out
    have hnc56 := NB600_609.out
    have hq57 := My.cz2 BK609
    have hnb58 := NB600_599.out
    have hnc58 := NB599_600.out
    have hq59 := My.cz2 BK600
    try go_wp2
    go_roundg k1
    case measure => have := HK1.out; omega
    case rel => exact ⟨(x5_1), (wrap64 (x6_1 + 1)), (t602), (t605), (.slice Ao51 t602.length co51), (.slice Ao53 t605.length co53), My.r1, H', ⟨by have := HK1.out; omega⟩, ⟨My.dR (Kd.R_mono (Kd.R_far (p := ⟨gb600, 1, none⟩) (Kd.R_far (p := ⟨gb600, 0, none⟩) (Kd.R_far (p := ⟨gb609, 1, none⟩) (Kd.R_far (p := ⟨gb609, 0, none⟩) (Kd.R_types (Kd.R_types HO_5.out BK609.out (by decide)) BK600.out (by decide)) (fun _ hk => hk.1.2) (.slice Ao51 t602.length co51)) (fun _ hk => hk.1.2) (.slice Ao53 t605.length co53)) (fun _ hk => hk.2) (.slice Ao51 t602.length co51)) (fun _ hk => hk.2) (.slice Ao53 t605.length co53)) (fun _ hk => hk.1.1))⟩, ⟨My.dV (Kd.V_mono (Kd.V_far (p := ⟨gb600, 1, none⟩) (Kd.V_far (p := ⟨gb600, 0, none⟩) (Kd.V_far (p := ⟨gb609, 1, none⟩) (Kd.V_far (p := ⟨gb609, 0, none⟩) (Kd.V_mono (Kd.V_mono HO604.out (fun k_ hk => (⟨hk, hk.2.2.2.2⟩ : _ ∧ k_ ≠ gb609))) (fun k_ hk => (⟨hk, hk.1.2.2.2.1⟩ : _ ∧ k_ ≠ gb600))) (fun _ hk => hk.1.2) (.slice Ao51 t602.length co51)) (fun _ hk => hk.1.2) (.slice Ao53 t605.length co53)) (fun _ hk => hk.2) (.slice Ao51 t602.length co51)) (fun _ hk => hk.2) (.slice Ao53 t605.length co53)) (fun _ hk => ⟨hk.1.1.1, ⟨hk.1.1.2.1, ⟨hk.1.1.2.2.1, hk.1.1.2.2.2.1⟩⟩⟩))⟩, ⟨My.dV (Kd.V_mono (Kd.V_far (p := ⟨gb600, 1, none⟩) (Kd.V_far (p := ⟨gb600, 0, none⟩) (Kd.V_far (p := ⟨gb609, 1, none⟩) (Kd.V_far (p := ⟨gb609, 0, none⟩) (Kd.V_mono (Kd.V_mono HO607.out (fun k_ hk => (⟨hk, hk.2.2.2.2⟩ : _ ∧ k_ ≠ gb609))) (fun k_ hk => (⟨hk, hk.1.2.2.2.1⟩ : _ ∧ k_ ≠ gb600))) (fun _ hk => hk.1.2) (.slice Ao51 t602.length co51)) (fun _ hk => hk.1.2) (.slice Ao53 t605.length co53)) (fun _ hk => hk.2) (.slice Ao51 t602.length co51)) (fun _ hk => hk.2) (.slice Ao53 t605.length co53)) (fun _ hk => ⟨hk.1.1.1, ⟨hk.1.1.2.1, ⟨hk.1.1.2.2.1, hk.1.1.2.2.2.1⟩⟩⟩))⟩, ⟨(My.sv_ BK599)⟩, ⟨(My.sv_ BK600)⟩, ⟨(My.bl_ HB)⟩⟩
   subst c9
   rw [if_pos rfl] at H
   by_cases c10 : ((rd_T29 l0 x6_1).f0) = 0
   rotate_left
   ·rw [if_neg c10] at H
    have c10b0 : (((rd_T29 l0 x6_1).f0) == 0) = false := beq_eq_false_iff_ne.mpr c10
    have c10b1 : (((rd_T29 l0 x6_1).f0) != 0) = true := bne_iff_ne.mpr c10
    have H' := My.am H
    clear H
    obtain ⟨Ao30, co30, eo30⟩ := Kd.V_slice HO_601000.out
    subst eo30
    obtain ⟨Ao31, co31, eo31⟩ := Kd.V_slice HO_601001.out
    subst eo31
    try go_wp2
    replace HO_5 := My.am (Kd.R_drew HO_5.out)
    replace HO_601000 := My.am (Kd.V_drew HO_601000.out)
    replace HO_601001 := My.am (Kd.V_drew HO_601001.out)
    replace BK599 := My.am (blk_drew BK599.out)
    replace BK600 := My.am (blk_drew BK600.out)
    replace HB := My.am (below_drew1 HB.out)
    have p601 : 0 ≤ (x6_1 : Int) := My.as_
    have q601 : x6_1 < (l0.length : Int) := My.as_
    obtain ⟨ad601, e601, hx601_0, hx601_1, hx601_2, hx601_3, hx601_4⟩ := at_T29 HR0.out x6_1 p601 q601
    have hw601_4 := hx601_4
    have hw601_3 := hx601_3
    have hw601_2 := hx601_2
    have hw601_1 := hx601_1
    have hw601_0 := hx601_0
    cases e601
    replace hx601_0 := My.up HB hx601_0
    replace hx601_1 := My.up HB hx601_1
    replace hx601_2 := My.up HB hx601_2
    replace hx601_3 := My.up HB hx601_3
    replace hx601_4 := My.up HB hx601_4
    replace p601 := eq_true p601
    replace q601 := eq_true q601
    refine start_ (n := 12) (S := fun w' => w'.cell? ⟨gb600, 0, none⟩ = some (.slice Ao30 x601000_1.length co30) ∧ w'.cell? ⟨gb600, 1, none⟩ = some (.slice Ao31 x601001_1.length co31) ∧ w'.cell? (ad601.add ((x6_1).toNat * 5)) = some (.int .i64 ((rd_T29 l0 x6_1).f0)) ∧ w'.cell? ⟨(ad601.add ((x6_1).toNat * 5)).block, (ad601.add ((x6_1).toNat * 5)).off + 1, none⟩ = some (.string ((rd_T29 l0 x6_1).f1)) ∧ w'.cell? ⟨(ad601.add ((x6_1).toNat * 5)).block, (ad601.add ((x6_1).toNat * 5)).off + 2, none⟩ = some (.int .i64 ((rd_T29 l0 x6_1).f2.f0)) ∧ w'.cell? ⟨(ad601.add ((x6_1).toNat * 5)).block, (ad601.add ((x6_1).toNat * 5)).off + 3, none⟩ = some (.string ((rd_T29 l0 x6_1).f2.f1)) ∧ w'.cell? ⟨(ad601.add ((x6_1).toNat * 5)).block, (ad601.add ((x6_1).toNat * 5)).off + 4, none⟩ = some (.int .i64 ((rd_T29 l0 x6_1).f2.f2))) (ds := []) #[false, false, false, false, false, false, false, false, false, false, false, false] (by kernel_rfl) rfl rfl ⟨My.b_ BK600 0, My.b_ BK600 1, (My.up HB hw601_0), (My.up HB hw601_1), (My.up HB hw601_2), (My.up HB hw601_3), (My.up HB hw601_4)⟩ (fun hHeld => ?_); refine with_tabW ententelaw07_opened.tab6 ententelaw07_opened.bits6 (fun HT_ HW_ => ?_)
    generalize wr.drew = w32 at HO_5 HO_601000 HO_601001 BK599 BK600 HB hx601_0 hx601_1 hx601_2 hx601_3 hx601_4 hHeld ⊢
    refine My.pv_ 1 18 12 2 HT_.out ?_
    refine My.pv_ 2 19 12 6 HT_.out ?_
    refine My.pv_ 3 20 12 14 HT_.out ?_
    refine My.tv_ 0 17 12 15 HT_.out HW_.out hHeld rfl rfl (by rintro w' ⟨s0, s1, s2, s3, s4, s5, s6⟩; go_simp; with_reducible rfl) ?_
    refine My.ta_ 4 21 12 HT_.out HW_.out hHeld rfl rfl (by rintro w' ⟨s0, s1, s2, s3, s4, s5, s6⟩; go_simp; with_reducible rfl) ?_
    refine join_ (σ := Value × Value × Nat) 2 (My.Mb 12 1023) (fun s_ => [(22, .tuple #[.agg #[s_.1, s_.2.1], .bool true]), (7, .pointer (some ⟨s_.2.2, 0, none⟩)), (16, .tuple #[.agg #[s_.1, s_.2.1], .bool true]), (23, .agg #[s_.1, s_.2.1]), (24, .bool true)]) (fun s_ w' => (w'.cell? ⟨gb600, 0, none⟩ = some (.slice Ao30 x601000_1.length co30) ∧ w'.cell? ⟨gb600, 1, none⟩ = some (.slice Ao31 x601001_1.length co31) ∧ w'.cell? (ad601.add ((x6_1).toNat * 5)) = some (.int .i64 ((rd_T29 l0 x6_1).f0)) ∧ w'.cell? ⟨(ad601.add ((x6_1).toNat * 5)).block, (ad601.add ((x6_1).toNat * 5)).off + 1, none⟩ = some (.string ((rd_T29 l0 x6_1).f1)) ∧ w'.cell? ⟨(ad601.add ((x6_1).toNat * 5)).block, (ad601.add ((x6_1).toNat * 5)).off + 2, none⟩ = some (.int .i64 ((rd_T29 l0 x6_1).f2.f0)) ∧ w'.cell? ⟨(ad601.add ((x6_1).toNat * 5)).block, (ad601.add ((x6_1).toNat * 5)).off + 3, none⟩ = some (.string ((rd_T29 l0 x6_1).f2.f1)) ∧ w'.cell? ⟨(ad601.add ((x6_1).toNat * 5)).block, (ad601.add ((x6_1).toNat * 5)).off + 4, none⟩ = some (.int .i64 ((rd_T29 l0 x6_1).f2.f2))) ∧ (Kd.V k51 51 w' w.heap.size (fun k_ => (w.heap.size ≤ k_) ∧ some k_ ≠ (u5 : Value).ownBlock ∧ k_ ≠ gb599 ∧ k_ ≠ gb600 ∧ k_ ≠ s_.2.2) s_.1 t602) ∧ (Kd.V k64 64 w' w.heap.size (fun k_ => (w.heap.size ≤ k_) ∧ some k_ ≠ (u5 : Value).ownBlock ∧ k_ ≠ gb599 ∧ k_ ≠ gb600 ∧ k_ ≠ s_.2.2) s_.2.1 t605) ∧ (Kd.R k51 51 w' w.heap.size (fun k_ => (w.heap.size ≤ k_)) u5 x5_1) ∧ (Kd.V k51 51 w' w.heap.size (fun k_ => (w.heap.size ≤ k_) ∧ some k_ ≠ (u5 : Value).ownBlock ∧ k_ ≠ gb599 ∧ k_ ≠ gb600 ∧ k_ ≠ s_.2.2) (.slice Ao30 x601000_1.length co30) x601000_1) ∧ (Kd.V k64 64 w' w.heap.size (fun k_ => (w.heap.size ≤ k_) ∧ some k_ ≠ (u5 : Value).ownBlock ∧ k_ ≠ gb599 ∧ k_ ≠ gb600 ∧ k_ ≠ s_.2.2) (.slice Ao31 x601001_1.length co31) x601001_1) ∧ (w'.heap[gb599]? = some (.cells #[.slice none 0 0, .slice none 0 0] 25 (0, 0))) ∧ (w'.heap[gb600]? = some (.cells #[.slice Ao30 x601000_1.length co30, .slice Ao31 x601001_1.length co31] 25 (0, 0))) ∧ (w'.heap[s_.2.2]? = some (.cells #[.slice none 0 0, .slice none 0 0] 25 (0, 0))) ∧ (w.heap.size ≤ s_.2.2) ∧ (w.heap.size ≤ s_.2.2) ∧ (gb599 ≠ s_.2.2) ∧ (s_.2.2 ≠ gb599) ∧ (gb600 ≠ s_.2.2) ∧ (s_.2.2 ≠ gb600) ∧ (Below w.heap.size w w')) ?_ ?_
    rotate_left
    ·intro hCont
     refine two_ (i := 5) (j := 9) (Ni := some 22) (Nj := some 7) (My.Mb 12 63) (My.Mb 12 543) rfl rfl rfl rfl (two_of HT_.out (by kernel_rfl)) (by decide) (by decide) (fun K hK => ?_) (fun K hK => ?_)
     ·skip
      refine goes_ Try.func19 (by kernel_rfl) rfl #[.agg #[.slice Ao30 x601000_1.length co30, .slice Ao31 x601001_1.length co31], .agg #[.int .i64 ((rd_T29 l0 x6_1).f0), .string ((rd_T29 l0 x6_1).f1), .int .i64 ((rd_T29 l0 x6_1).f2.f0), .string ((rd_T29 l0 x6_1).f2.f1), .int .i64 ((rd_T29 l0 x6_1).f2.f2)]] (by rfl) rfl rfl My.gx ?_
      with_reducible refine (ententelaw07_does.calls k1 (fun k_ => ((w.heap.size ≤ k_) ∧ (some k_ ≠ (u5 : Value).ownBlock ∧ (k_ ≠ gb599 ∧ k_ ≠ gb600)))) _ _ x601000_1 (fun k_ => ((w.heap.size ≤ k_) ∧ (some k_ ≠ (u5 : Value).ownBlock ∧ (k_ ≠ gb599 ∧ k_ ≠ gb600)))) _ _ x601001_1 ((rd_T29 l0 x6_1).f0) ((rd_T29 l0 x6_1).f1) ((rd_T29 l0 x6_1).f2.f0) ((rd_T29 l0 x6_1).f2.f1) ((rd_T29 l0 x6_1).f2.f2) t602 t605 true _ ?side1 ?side2 A8.out).mono ?_
      (case side1 => exact HO_601000.out)
      (case side2 => exact HO_601001.out)
      rintro e w33 ⟨v603, v606, rfl, ho0, ho1, hb⟩
      refine ⟨_, rfl, ?_⟩
      replace HO_601000 := My.am (Kd.V_below (My.dV HO_601000.out) hb)
      replace HO_601001 := My.am (Kd.V_below (My.dV HO_601001.out) hb)
      have HO604 := My.am (Kd.V_lower (Kd.V_mono (ok' := fun k_ => (w.heap.size ≤ k_) ∧ some k_ ≠ (u5 : Value).ownBlock ∧ k_ ≠ gb599 ∧ k_ ≠ gb600) ho0 (fun k_ hk_ => ⟨Or.elim hk_ (fun hs_ => Or.elim hs_ (fun hs_ => hs_.1) (fun hs_ => hs_.1)) (fun hn_ => (Nat.le_trans (below_size (My.bl_ HB)) hn_)), Or.elim hk_ (fun hs_ => Or.elim hs_ (fun hs_ => hs_.2.1) (fun hs_ => hs_.2.1)) (fun hn_ => (Kd.fresh' (Kd.R_lt (My.dr HO_5.out)) k_ hn_)), Or.elim hk_ (fun hs_ => Or.elim hs_ (fun hs_ => hs_.2.2.1) (fun hs_ => hs_.2.2.1)) (fun hn_ => (Kd.freshB (My.at_ BK599) k_ hn_)), Or.elim hk_ (fun hs_ => Or.elim hs_ (fun hs_ => hs_.2.2.2) (fun hs_ => hs_.2.2.2)) (fun hn_ => (Kd.freshB (My.at_ BK600) k_ hn_))⟩)) (below_size (My.bl_ HB)))
      have HO607 := My.am (Kd.V_lower (Kd.V_mono (ok' := fun k_ => (w.heap.size ≤ k_) ∧ some k_ ≠ (u5 : Value).ownBlock ∧ k_ ≠ gb599 ∧ k_ ≠ gb600) ho1 (fun k_ hk_ => ⟨Or.elim hk_ (fun hs_ => Or.elim hs_ (fun hs_ => hs_.1) (fun hs_ => hs_.1)) (fun hn_ => (Nat.le_trans (below_size (My.bl_ HB)) hn_)), Or.elim hk_ (fun hs_ => Or.elim hs_ (fun hs_ => hs_.2.1) (fun hs_ => hs_.2.1)) (fun hn_ => (Kd.fresh' (Kd.R_lt (My.dr HO_5.out)) k_ hn_)), Or.elim hk_ (fun hs_ => Or.elim hs_ (fun hs_ => hs_.2.2.1) (fun hs_ => hs_.2.2.1)) (fun hn_ => (Kd.freshB (My.at_ BK599) k_ hn_)), Or.elim hk_ (fun hs_ => Or.elim hs_ (fun hs_ => hs_.2.2.2) (fun hs_ => hs_.2.2.2)) (fun hn_ => (Kd.freshB (My.at_ BK600) k_ hn_))⟩)) (below_size (My.bl_ HB)))
      replace HO_5 := My.am (Kd.R_below (My.dr HO_5.out) hb)
      replace BK599 := My.ab BK599 hb
      replace BK600 := My.ab BK600 hb
      replace HB := My.st HB hb
      (try clear hb)
      (try clear hb2)
      (try clear hk)
      (try clear hi)
      (try clear ho0)
      (try clear ho1)
      refine hK.out _ _ ⟨My.b_ BK600 0, My.b_ BK600 1, (My.up HB hw601_0), (My.up HB hw601_1), (My.up HB hw601_2), (My.up HB hw601_3), (My.up HB hw601_4)⟩ (fun hHeld => ?_)
      clear hK K
      refine My.nm 22 ?_
      refine My.pu_ 6 16 12 HT_.out ?_
      refine My.pu_ 7 23 12 HT_.out ?_
      refine My.pu_ 8 24 12 HT_.out ?_
      refine one_ (i := 9) (N := some 7) (My.Mb 12 1023) rfl rfl (one_of HT_.out (by kernel_rfl)) (by decide) (fun K hK => ?_)
      refine box_step ?hg (N := 7) ?hd (cs := #[.slice none 0 0, .slice none 0 0]) (t := 25) ?hr ?_; (case hd => rfl); (case hg => rfl); (case hr => first | (go_simp; done) | (go_simp; rfl))
      intro gb609 hg w34 hbox hb
      replace HO_5 := My.am (Kd.R_below (My.dr HO_5.out) hb)
      replace HO_601000 := My.am (Kd.V_below (Kd.V_elderB (My.dV HO_601000.out) gb609 (Nat.le_of_eq hg.symm)) hb)
      replace HO_601001 := My.am (Kd.V_below (Kd.V_elderB (My.dV HO_601001.out) gb609 (Nat.le_of_eq hg.symm)) hb)
      replace HO604 := My.am (Kd.V_below (Kd.V_elderB (My.dV HO604.out) gb609 (Nat.le_of_eq hg.symm)) hb)
      replace HO607 := My.am (Kd.V_below (Kd.V_elderB (My.dV HO607.out) gb609 (Nat.le_of_eq hg.symm)) hb)
      have BK609 := My.am (hbox)
      have GW609 := My.nge hg (My.bl_ HB)
      have GE609 := My.nge hg (My.bl_ HB)
      replace HB := My.st HB hb
      obtain ⟨NB599_609, NB609_599, BK599⟩ := My.nb hg hb BK599
      obtain ⟨NB600_609, NB609_600, BK600⟩ := My.nb hg hb BK600
      clear hb hbox hg
      refine hK.out _ _ ⟨My.b_ BK600 0, My.b_ BK600 1, (My.up HB hw601_0), (My.up HB hw601_1), (My.up HB hw601_2), (My.up HB hw601_3), (My.up HB hw601_4)⟩ (fun hHeld => ?_)
      clear hK K
      refine My.nm 7 ?_
      exact norm_ (by simp only [putAll, Act.put, List.setIfInBounds_toArray, List.set_cons_zero, List.set_cons_succ]) (hCont (v603, v606, gb609) _ ⟨hHeld, (My.dV (Kd.V_mono HO604.out (fun _ hk => ⟨hk.1.1, ⟨hk.1.2.1, ⟨hk.1.2.2.1, ⟨hk.1.2.2.2, hk.2⟩⟩⟩⟩))), (My.dV (Kd.V_mono HO607.out (fun _ hk => ⟨hk.1.1, ⟨hk.1.2.1, ⟨hk.1.2.2.1, ⟨hk.1.2.2.2, hk.2⟩⟩⟩⟩))), (My.dr HO_5.out), (My.dV (Kd.V_mono HO_601000.out (fun _ hk => ⟨hk.1.1, ⟨hk.1.2.1, ⟨hk.1.2.2.1, ⟨hk.1.2.2.2, hk.2⟩⟩⟩⟩))), (My.dV (Kd.V_mono HO_601001.out (fun _ hk => ⟨hk.1.1, ⟨hk.1.2.1, ⟨hk.1.2.2.1, ⟨hk.1.2.2.2, hk.2⟩⟩⟩⟩))), (My.at_ BK599), (My.at_ BK600), (My.at_ BK609), GW609.out, GE609.out, NB599_609.out, NB609_599.out, NB600_609.out, NB609_600.out, (My.bl_ HB)⟩)
     skip
     refine box_step ?hg (N := 7) ?hd (cs := #[.slice none 0 0, .slice none 0 0]) (t := 25) ?hr ?_; (case hd => rfl); (case hg => rfl); (case hr => first | (go_simp; done) | (go_simp; rfl))
     intro gb609 hg w33 hbox hb
     replace HO_5 := My.am (Kd.R_below (My.dr HO_5.out) hb)
     replace HO_601000 := My.am (Kd.V_below (Kd.V_elderB (My.dV HO_601000.out) gb609 (Nat.le_of_eq hg.symm)) hb)
     replace HO_601001 := My.am (Kd.V_below (Kd.V_elderB (My.dV HO_601001.out) gb609 (Nat.le_of_eq hg.symm)) hb)
     have BK609 := My.am (hbox)
     have GW609 := My.nge hg (My.bl_ HB)
     have GE609 := My.nge hg (My.bl_ HB)
     replace HB := My.st HB hb
     obtain ⟨NB599_609, NB609_599, BK599⟩ := My.nb hg hb BK599
     obtain ⟨NB600_609, NB609_600, BK600⟩ := My.nb hg hb BK600
     clear hb hbox hg
     refine hK.out _ _ ⟨My.b_ BK600 0, My.b_ BK600 1, (My.up HB hw601_0), (My.up HB hw601_1), (My.up HB hw601_2), (My.up HB hw601_3), (My.up HB hw601_4)⟩ (fun hHeld => ?_)
     clear hK K
     refine My.nm 7 ?_
     refine one_ (i := 5) (N := some 22) (My.Mb 12 575) rfl rfl (one_of HT_.out (by kernel_rfl)) (by decide) (fun K hK => ?_)
     refine goes_ Try.func19 (by kernel_rfl) rfl #[.agg #[.slice Ao30 x601000_1.length co30, .slice Ao31 x601001_1.length co31], .agg #[.int .i64 ((rd_T29 l0 x6_1).f0), .string ((rd_T29 l0 x6_1).f1), .int .i64 ((rd_T29 l0 x6_1).f2.f0), .string ((rd_T29 l0 x6_1).f2.f1), .int .i64 ((rd_T29 l0 x6_1).f2.f2)]] (by rfl) rfl rfl My.gx ?_
     with_reducible refine (ententelaw07_does.calls k1 (fun k_ => (((w.heap.size ≤ k_) ∧ (some k_ ≠ (u5 : Value).ownBlock ∧ (k_ ≠ gb599 ∧ k_ ≠ gb600))) ∧ k_ ≠ gb609)) _ _ x601000_1 (fun k_ => (((w.heap.size ≤ k_) ∧ (some k_ ≠ (u5 : Value).ownBlock ∧ (k_ ≠ gb599 ∧ k_ ≠ gb600))) ∧ k_ ≠ gb609)) _ _ x601001_1 ((rd_T29 l0 x6_1).f0) ((rd_T29 l0 x6_1).f1) ((rd_T29 l0 x6_1).f2.f0) ((rd_T29 l0 x6_1).f2.f1) ((rd_T29 l0 x6_1).f2.f2) t602 t605 true _ ?side1 ?side2 A8.out).mono ?_
     (case side1 => exact HO_601000.out)
     (case side2 => exact HO_601001.out)
     rintro e w34 ⟨v603, v606, rfl, ho0, ho1, hb⟩
     refine ⟨_, rfl, ?_⟩
     replace HO_601000 := My.am (Kd.V_below (My.dV HO_601000.out) hb)
     replace HO_601001 := My.am (Kd.V_below (My.dV HO_601001.out) hb)
     have HO604 := My.am (Kd.V_lower (Kd.V_mono (ok' := fun k_ => (w.heap.size ≤ k_) ∧ some k_ ≠ (u5 : Value).ownBlock ∧ k_ ≠ gb599 ∧ k_ ≠ gb600 ∧ k_ ≠ gb609) ho0 (fun k_ hk_ => ⟨Or.elim hk_ (fun hs_ => Or.elim hs_ (fun hs_ => hs_.1.1) (fun hs_ => hs_.1.1)) (fun hn_ => (Nat.le_trans (below_size (My.bl_ HB)) hn_)), Or.elim hk_ (fun hs_ => Or.elim hs_ (fun hs_ => hs_.1.2.1) (fun hs_ => hs_.1.2.1)) (fun hn_ => (Kd.fresh' (Kd.R_lt (My.dr HO_5.out)) k_ hn_)), Or.elim hk_ (fun hs_ => Or.elim hs_ (fun hs_ => hs_.1.2.2.1) (fun hs_ => hs_.1.2.2.1)) (fun hn_ => (Kd.freshB (My.at_ BK599) k_ hn_)), Or.elim hk_ (fun hs_ => Or.elim hs_ (fun hs_ => hs_.1.2.2.2) (fun hs_ => hs_.1.2.2.2)) (fun hn_ => (Kd.freshB (My.at_ BK600) k_ hn_)), Or.elim hk_ (fun hs_ => Or.elim hs_ (fun hs_ => hs_.2) (fun hs_ => hs_.2)) (fun hn_ => (Kd.freshB (My.at_ BK609) k_ hn_))⟩)) (below_size (My.bl_ HB)))
     have HO607 := My.am (Kd.V_lower (Kd.V_mono (ok' := fun k_ => (w.heap.size ≤ k_) ∧ some k_ ≠ (u5 : Value).ownBlock ∧ k_ ≠ gb599 ∧ k_ ≠ gb600 ∧ k_ ≠ gb609) ho1 (fun k_ hk_ => ⟨Or.elim hk_ (fun hs_ => Or.elim hs_ (fun hs_ => hs_.1.1) (fun hs_ => hs_.1.1)) (fun hn_ => (Nat.le_trans (below_size (My.bl_ HB)) hn_)), Or.elim hk_ (fun hs_ => Or.elim hs_ (fun hs_ => hs_.1.2.1) (fun hs_ => hs_.1.2.1)) (fun hn_ => (Kd.fresh' (Kd.R_lt (My.dr HO_5.out)) k_ hn_)), Or.elim hk_ (fun hs_ => Or.elim hs_ (fun hs_ => hs_.1.2.2.1) (fun hs_ => hs_.1.2.2.1)) (fun hn_ => (Kd.freshB (My.at_ BK599) k_ hn_)), Or.elim hk_ (fun hs_ => Or.elim hs_ (fun hs_ => hs_.1.2.2.2) (fun hs_ => hs_.1.2.2.2)) (fun hn_ => (Kd.freshB (My.at_ BK600) k_ hn_)), Or.elim hk_ (fun hs_ => Or.elim hs_ (fun hs_ => hs_.2) (fun hs_ => hs_.2)) (fun hn_ => (Kd.freshB (My.at_ BK609) k_ hn_))⟩)) (below_size (My.bl_ HB)))
     replace HO_5 := My.am (Kd.R_below (My.dr HO_5.out) hb)
     replace BK599 := My.ab BK599 hb
     replace BK600 := My.ab BK600 hb
     replace BK609 := My.ab BK609 hb
     replace HB := My.st HB hb
     (try clear hb)
     (try clear hb2)
     (try clear hk)
     (try clear hi)
     (try clear ho0)
     (try clear ho1)
     refine hK.out _ _ ⟨My.b_ BK600 0, My.b_ BK600 1, (My.up HB hw601_0), (My.up HB hw601_1), (My.up HB hw601_2), (My.up HB hw601_3), (My.up HB hw601_4)⟩ (fun hHeld => ?_)
     clear hK K
     refine My.nm 22 ?_
     refine My.pv_ 6 16 12 639 HT_.out ?_
     refine My.pv_ 7 23 12 767 HT_.out ?_
     refine My.pv_ 8 24 12 1023 HT_.out ?_
     exact norm_ (by simp only [putAll, Act.put, List.setIfInBounds_toArray, List.set_cons_zero, List.set_cons_succ]) (hCont (v603, v606, gb609) _ ⟨hHeld, (My.dV HO604.out), (My.dV HO607.out), (My.dr HO_5.out), (My.dV (Kd.V_mono HO_601000.out (fun _ hk => ⟨hk.1.1, ⟨hk.1.2.1, ⟨hk.1.2.2.1, ⟨hk.1.2.2.2, hk.2⟩⟩⟩⟩))), (My.dV (Kd.V_mono HO_601001.out (fun _ hk => ⟨hk.1.1, ⟨hk.1.2.1, ⟨hk.1.2.2.1, ⟨hk.1.2.2.2, hk.2⟩⟩⟩⟩))), (My.at_ BK599), (My.at_ BK600), (My.at_ BK609), GW609.out, GE609.out, NB599_609.out, NB609_599.out, NB600_609.out, NB609_600.out, (My.bl_ HB)⟩)
    rintro ⟨v603, v606, gb609⟩ w35 ⟨hS_, h0_, h1_, h2_, h3_, h4_, h5_, h6_, h7_, h8_, h9_, h10_, h11_, h12_, h13_, h14_⟩
    have n0_ : Aside0 (Kd.V k51 51 w35 w.heap.size (fun k_ => (w.heap.size ≤ k_) ∧ some k_ ≠ (u5 : Value).ownBlock ∧ k_ ≠ gb599 ∧ k_ ≠ gb600 ∧ k_ ≠ gb609) v603 t602) := ⟨h0_⟩
    have n1_ : Aside0 (Kd.V k64 64 w35 w.heap.size (fun k_ => (w.heap.size ≤ k_) ∧ some k_ ≠ (u5 : Value).ownBlock ∧ k_ ≠ gb599 ∧ k_ ≠ gb600 ∧ k_ ≠ gb609) v606 t605) := ⟨h1_⟩
    have n2_ : Aside0 (Kd.R k51 51 w35 w.heap.size (fun k_ => (w.heap.size ≤ k_)) u5 x5_1) := ⟨h2_⟩
    have n3_ : Aside0 (Kd.V k51 51 w35 w.heap.size (fun k_ => (w.heap.size ≤ k_) ∧ some k_ ≠ (u5 : Value).ownBlock ∧ k_ ≠ gb599 ∧ k_ ≠ gb600 ∧ k_ ≠ gb609) (.slice Ao30 x601000_1.length co30) x601000_1) := ⟨h3_⟩
    have n4_ : Aside0 (Kd.V k64 64 w35 w.heap.size (fun k_ => (w.heap.size ≤ k_) ∧ some k_ ≠ (u5 : Value).ownBlock ∧ k_ ≠ gb599 ∧ k_ ≠ gb600 ∧ k_ ≠ gb609) (.slice Ao31 x601001_1.length co31) x601001_1) := ⟨h4_⟩
    have n5_ : Aside0 (w35.heap[gb599]? = some (.cells #[.slice none 0 0, .slice none 0 0] 25 (0, 0))) := ⟨h5_⟩
    have n6_ : Aside0 (w35.heap[gb600]? = some (.cells #[.slice Ao30 x601000_1.length co30, .slice Ao31 x601001_1.length co31] 25 (0, 0))) := ⟨h6_⟩
    have n7_ : Aside0 (w35.heap[gb609]? = some (.cells #[.slice none 0 0, .slice none 0 0] 25 (0, 0))) := ⟨h7_⟩
    have n8_ : Aside0 (w.heap.size ≤ gb609) := ⟨h8_⟩
    have n9_ : Aside0 (w.heap.size ≤ gb609) := ⟨h9_⟩
    have n10_ : Aside0 (gb599 ≠ gb609) := ⟨h10_⟩
    have n11_ : Aside0 (gb609 ≠ gb599) := ⟨h11_⟩
    have n12_ : Aside0 (gb600 ≠ gb609) := ⟨h12_⟩
    have n13_ : Aside0 (gb609 ≠ gb600) := ⟨h13_⟩
    have n14_ : Aside0 (Below w.heap.size w w35) := ⟨h14_⟩
    clear HO_5
    clear HO_601000
    clear HO_601001
    clear BK599
    clear BK600
    clear HB
    clear h0_ h1_ h2_ h3_ h4_ h5_ h6_ h7_ h8_ h9_ h10_ h11_ h12_ h13_ h14_
    have HO604 := n0_
    have HO607 := n1_
    have HO_5 := n2_
    have HO_601000 := n3_
    have HO_601001 := n4_
    have BK599 := n5_
    have BK600 := n6_
    have BK609 := n7_
    have GW609 := n8_
    have GE609 := n9_
    have NB599_609 := n10_
    have NB609_599 := n11_
    have NB600_609 := n12_
    have NB609_600 := n13_
    have HB := n14_
    clear n0_ n1_ n2_ n3_ n4_ n5_ n6_ n7_ n8_ n9_ n10_ n11_ n12_ n13_ n14_
    have hHeld : w35.cell? ⟨gb600, 0, none⟩ = some (.slice Ao30 x601000_1.length co30) ∧ w35.cell? ⟨gb600, 1, none⟩ = some (.slice Ao31 x601001_1.length co31) ∧ w35.cell? (ad601.add ((x6_1).toNat * 5)) = some (.int .i64 ((rd_T29 l0 x6_1).f0)) ∧ w35.cell? ⟨(ad601.add ((x6_1).toNat * 5)).block, (ad601.add ((x6_1).toNat * 5)).off + 1, none⟩ = some (.string ((rd_T29 l0 x6_1).f1)) ∧ w35.cell? ⟨(ad601.add ((x6_1).toNat * 5)).block, (ad601.add ((x6_1).toNat * 5)).off + 2, none⟩ = some (.int .i64 ((rd_T29 l0 x6_1).f2.f0)) ∧ w35.cell? ⟨(ad601.add ((x6_1).toNat * 5)).block, (ad601.add ((x6_1).toNat * 5)).off + 3, none⟩ = some (.string ((rd_T29 l0 x6_1).f2.f1)) ∧ w35.cell? ⟨(ad601.add ((x6_1).toNat * 5)).block, (ad601.add ((x6_1).toNat * 5)).off + 4, none⟩ = some (.int .i64 ((rd_T29 l0 x6_1).f2.f2)) := hS_
    obtain ⟨Ao36, co36, eo36⟩ := Kd.V_slice HO604.out
    (first | subst eo36 | (injection eo36 with f1_ f2_ f3_; have f4_ := f1_.symm; have f5_ := f3_.symm; clear f1_ f2_ f3_; subst f4_; subst f5_))
    obtain ⟨Ao38, co38, eo38⟩ := Kd.V_slice HO607.out
    (first | subst eo38 | (injection eo38 with f1_ f2_ f3_; have f4_ := f1_.symm; have f5_ := f3_.symm; clear f1_ f2_ f3_; subst f4_; subst f5_))
    refine norm_ (a' := ?_) ?_ ?_
    rotate_left
    ·simp only [putAll, Act.put, List.setIfInBounds_toArray, List.set_cons_zero, List.set_cons_succ]
     rfl
    refine one_ (i := 10) (N := none) (My.Mb 12 2047) rfl rfl (one_of HT_.out (by kernel_rfl)) (by decide) (fun K hK => ?_)
    have hs37 : w35.cell? ⟨gb609, 0, none⟩ = some (.slice none 0 0) := My.b_ BK609 0
    have hfs37 := blk_frozen BK609.out 0
    have hns37_0 := NB599_609.out
    have hns37_1 := NB600_609.out
    have hms37_0 := NB609_599.out
    have hms37_1 := NB609_600.out
    have hs39 : w35.cell? ⟨gb609, 1, none⟩ = some (.slice none 0 0) := My.b_ BK609 1
    have hfs39 := blk_frozen BK609.out 1
    have hns39_0 := NB599_609.out
    have hns39_1 := NB600_609.out
    have hms39_0 := NB609_599.out
    have hms39_1 := NB609_600.out
    refine skip_ (w1 := ?_) (by rfl) rfl ?_ ?_
    rotate_left
    ·go_simp
     rfl
    refine hK.out _ _ ⟨(My.c2 NB600_609.out hHeld.1), (My.c2 NB600_609.out hHeld.2.1), (My.c2 (My.nw hw601_0 GW609) hHeld.2.2.1), (My.c2 (My.nw hw601_1 GW609) hHeld.2.2.2.1), (My.c2 (My.nw hw601_2 GW609) hHeld.2.2.2.2.1), (My.c2 (My.nw hw601_3 GW609) hHeld.2.2.2.2.2.1), (My.c2 (My.nw hw601_4 GW609) hHeld.2.2.2.2.2.2)⟩ (fun hHeld => ?_)
    clear hK K
    refine My.pu_ 11 8 12 HT_.out ?_
    refine done_ (done_of HT_.out (by kernel_rfl)) ?_
    have p610 : 0 ≤ (x6_1 : Int) := My.as_
    have q610 : x6_1 < (l0.length : Int) := My.as_
    obtain ⟨ad610, e610, hx610_0, hx610_1, hx610_2, hx610_3, hx610_4⟩ := at_T29 HR0.out x6_1 p610 q610
    obtain rfl : ad601 = ad610 := (by injection e610)
    have hn610_0 : ad601.block ≠ gb609 := Nat.ne_of_lt (Nat.lt_of_lt_of_le (by have := World.block_lt_of_cell? _ _ hx610_0; first | rwa [add_block] at this | exact this) GW609.out)
    have hn610_1 : ad601.block ≠ gb609 := Nat.ne_of_lt (Nat.lt_of_lt_of_le (by have := World.block_lt_of_cell? _ _ hx610_0; first | rwa [add_block] at this | exact this) GW609.out)
    replace hx610_0 := My.up HB hx610_0
    replace hx610_1 := My.up HB hx610_1
    replace hx610_2 := My.up HB hx610_2
    replace hx610_3 := My.up HB hx610_3
    replace hx610_4 := My.up HB hx610_4
    replace hx610_0 := (cell_far (p := ⟨gb609, 0, none⟩) (by first | (rw [add_block]; exact hn610_0) | (show (Addr.add _ _).block ≠ _; rw [add_block]; exact hn610_0) | exact hn610_0) (.slice Ao36 t602.length co36)).trans hx610_0
    replace hx610_1 := (cell_far (p := ⟨gb609, 0, none⟩) (by first | (rw [add_block]; exact hn610_0) | (show (Addr.add _ _).block ≠ _; rw [add_block]; exact hn610_0) | exact hn610_0) (.slice Ao36 t602.length co36)).trans hx610_1
    replace hx610_2 := (cell_far (p := ⟨gb609, 0, none⟩) (by first | (rw [add_block]; exact hn610_0) | (show (Addr.add _ _).block ≠ _; rw [add_block]; exact hn610_0) | exact hn610_0) (.slice Ao36 t602.length co36)).trans hx610_2
    replace hx610_3 := (cell_far (p := ⟨gb609, 0, none⟩) (by first | (rw [add_block]; exact hn610_0) | (show (Addr.add _ _).block ≠ _; rw [add_block]; exact hn610_0) | exact hn610_0) (.slice Ao36 t602.length co36)).trans hx610_3
    replace hx610_4 := (cell_far (p := ⟨gb609, 0, none⟩) (by first | (rw [add_block]; exact hn610_0) | (show (Addr.add _ _).block ≠ _; rw [add_block]; exact hn610_0) | exact hn610_0) (.slice Ao36 t602.length co36)).trans hx610_4
    replace hx610_0 := (cell_far (p := ⟨gb609, 1, none⟩) (by first | (rw [add_block]; exact hn610_1) | (show (Addr.add _ _).block ≠ _; rw [add_block]; exact hn610_1) | exact hn610_1) (.slice Ao38 t605.length co38)).trans hx610_0
    replace hx610_1 := (cell_far (p := ⟨gb609, 1, none⟩) (by first | (rw [add_block]; exact hn610_1) | (show (Addr.add _ _).block ≠ _; rw [add_block]; exact hn610_1) | exact hn610_1) (.slice Ao38 t605.length co38)).trans hx610_1
    replace hx610_2 := (cell_far (p := ⟨gb609, 1, none⟩) (by first | (rw [add_block]; exact hn610_1) | (show (Addr.add _ _).block ≠ _; rw [add_block]; exact hn610_1) | exact hn610_1) (.slice Ao38 t605.length co38)).trans hx610_2
    replace hx610_3 := (cell_far (p := ⟨gb609, 1, none⟩) (by first | (rw [add_block]; exact hn610_1) | (show (Addr.add _ _).block ≠ _; rw [add_block]; exact hn610_1) | exact hn610_1) (.slice Ao38 t605.length co38)).trans hx610_3
    replace hx610_4 := (cell_far (p := ⟨gb609, 1, none⟩) (by first | (rw [add_block]; exact hn610_1) | (show (Addr.add _ _).block ≠ _; rw [add_block]; exact hn610_1) | exact hn610_1) (.slice Ao38 t605.length co38)).trans hx610_4
    clear hn610_0
    clear hn610_1
    replace p610 := eq_true p610
    replace q610 := eq_true q610
    have hnb40 := NB609_599.out
    have hnc40 := NB599_609.out
    have hnb41 := NB609_600.out
    have hnc41 := NB600_609.out
    have hq42 := My.cz2 BK609
    have hnb43 := NB600_599.out
    have hnc43 := NB599_600.out
    have hq44 := My.cz2 BK600
    try go_wp2
    go_roundg k1
    case measure => have := HK1.out; omega
    case rel => exact ⟨(x5_1), (wrap64 (x6_1 + 1)), (t602), (t605), (.slice Ao36 t602.length co36), (.slice Ao38 t605.length co38), My.r1, H', ⟨by have := HK1.out; omega⟩, ⟨My.dR (Kd.R_mono (Kd.R_far (p := ⟨gb600, 1, none⟩) (Kd.R_far (p := ⟨gb600, 0, none⟩) (Kd.R_far (p := ⟨gb609, 1, none⟩) (Kd.R_far (p := ⟨gb609, 0, none⟩) (Kd.R_types (Kd.R_types HO_5.out BK609.out (by decide)) BK600.out (by decide)) (fun _ hk => hk.1.2) (.slice Ao36 t602.length co36)) (fun _ hk => hk.1.2) (.slice Ao38 t605.length co38)) (fun _ hk => hk.2) (.slice Ao36 t602.length co36)) (fun _ hk => hk.2) (.slice Ao38 t605.length co38)) (fun _ hk => hk.1.1))⟩, ⟨My.dV (Kd.V_mono (Kd.V_far (p := ⟨gb600, 1, none⟩) (Kd.V_far (p := ⟨gb600, 0, none⟩) (Kd.V_far (p := ⟨gb609, 1, none⟩) (Kd.V_far (p := ⟨gb609, 0, none⟩) (Kd.V_mono (Kd.V_mono HO604.out (fun k_ hk => (⟨hk, hk.2.2.2.2⟩ : _ ∧ k_ ≠ gb609))) (fun k_ hk => (⟨hk, hk.1.2.2.2.1⟩ : _ ∧ k_ ≠ gb600))) (fun _ hk => hk.1.2) (.slice Ao36 t602.length co36)) (fun _ hk => hk.1.2) (.slice Ao38 t605.length co38)) (fun _ hk => hk.2) (.slice Ao36 t602.length co36)) (fun _ hk => hk.2) (.slice Ao38 t605.length co38)) (fun _ hk => ⟨hk.1.1.1, ⟨hk.1.1.2.1, ⟨hk.1.1.2.2.1, hk.1.1.2.2.2.1⟩⟩⟩))⟩, ⟨My.dV (Kd.V_mono (Kd.V_far (p := ⟨gb600, 1, none⟩) (Kd.V_far (p := ⟨gb600, 0, none⟩) (Kd.V_far (p := ⟨gb609, 1, none⟩) (Kd.V_far (p := ⟨gb609, 0, none⟩) (Kd.V_mono (Kd.V_mono HO607.out (fun k_ hk => (⟨hk, hk.2.2.2.2⟩ : _ ∧ k_ ≠ gb609))) (fun k_ hk => (⟨hk, hk.1.2.2.2.1⟩ : _ ∧ k_ ≠ gb600))) (fun _ hk => hk.1.2) (.slice Ao36 t602.length co36)) (fun _ hk => hk.1.2) (.slice Ao38 t605.length co38)) (fun _ hk => hk.2) (.slice Ao36 t602.length co36)) (fun _ hk => hk.2) (.slice Ao38 t605.length co38)) (fun _ hk => ⟨hk.1.1.1, ⟨hk.1.1.2.1, ⟨hk.1.1.2.2.1, hk.1.1.2.2.2.1⟩⟩⟩))⟩, ⟨(My.sv_ BK599)⟩, ⟨(My.sv_ BK600)⟩, ⟨(My.bl_ HB)⟩⟩
   rw [if_pos c10] at H
   have c10b0 : (((rd_T29 l0 x6_1).f0) == 0) = true := beq_iff_eq.mpr c10
   have c10b1 : (((rd_T29 l0 x6_1).f0) != 0) = false := bne_eq_false_iff_eq.mpr c10
   clear c10
   by_cases c11 : x5_1.length < 2199023255552
   rotate_left
   ·exact My.nn c11 H
   rw [if_pos c11] at H
   have LMc11 := My.am c11
   clear c11
   obtain ⟨y613, hy613⟩ : ∃ y_ : List (S51), y_ = (x5_1 ++ [(⟨(rd_T29 l0 x6_1).f2.f1, (⟨(rd_T29 l0 x6_1).f2.f2, 0, 0⟩ : S49), (⟨0, 0, 0⟩ : S49)⟩ : S51)]) := ⟨_, rfl⟩
   replace H : (ententelaw07_opened.l0 k1 l0 y613 (wrap64 (x6_1 + 1)) t602 t605) = some (r1, r2, r3) := by first | (rw [hy613]; with_reducible exact H) | (have H2_ := (Option.bind_some _ _).symm.trans H; rw [hy613]; with_reducible exact H2_) | (have H2_ := (Option.bind_some _ _).symm.trans H; with_reducible exact H2_) | with_reducible exact H | (rw [hy613]; exact H) | exact H
   have Ny613 := My.am hy613
   clear hy613
   have H' := My.am H
   clear H
   obtain ⟨Ao12, co12, eo12⟩ := Kd.V_slice HO_601000.out
   subst eo12
   obtain ⟨Ao13, co13, eo13⟩ := Kd.V_slice HO_601001.out
   subst eo13
   try go_wp2
   replace HO_5 := My.am (Kd.R_drew HO_5.out)
   replace HO_601000 := My.am (Kd.V_drew HO_601000.out)
   replace HO_601001 := My.am (Kd.V_drew HO_601001.out)
   replace BK599 := My.am (blk_drew BK599.out)
   replace BK600 := My.am (blk_drew BK600.out)
   replace HB := My.am (below_drew1 HB.out)
   have p601 : 0 ≤ (x6_1 : Int) := My.as_
   have q601 : x6_1 < (l0.length : Int) := My.as_
   obtain ⟨ad601, e601, hx601_0, hx601_1, hx601_2, hx601_3, hx601_4⟩ := at_T29 HR0.out x6_1 p601 q601
   have hw601_4 := hx601_4
   have hw601_3 := hx601_3
   have hw601_2 := hx601_2
   have hw601_1 := hx601_1
   have hw601_0 := hx601_0
   cases e601
   replace hx601_0 := My.up HB hx601_0
   replace hx601_1 := My.up HB hx601_1
   replace hx601_2 := My.up HB hx601_2
   replace hx601_3 := My.up HB hx601_3
   replace hx601_4 := My.up HB hx601_4
   replace p601 := eq_true p601
   replace q601 := eq_true q601
   refine start_ (n := 12) (S := fun w' => w'.cell? ⟨gb600, 0, none⟩ = some (.slice Ao12 x601000_1.length co12) ∧ w'.cell? ⟨gb600, 1, none⟩ = some (.slice Ao13 x601001_1.length co13) ∧ w'.cell? (ad601.add ((x6_1).toNat * 5)) = some (.int .i64 ((rd_T29 l0 x6_1).f0)) ∧ w'.cell? ⟨(ad601.add ((x6_1).toNat * 5)).block, (ad601.add ((x6_1).toNat * 5)).off + 1, none⟩ = some (.string ((rd_T29 l0 x6_1).f1)) ∧ w'.cell? ⟨(ad601.add ((x6_1).toNat * 5)).block, (ad601.add ((x6_1).toNat * 5)).off + 2, none⟩ = some (.int .i64 ((rd_T29 l0 x6_1).f2.f0)) ∧ w'.cell? ⟨(ad601.add ((x6_1).toNat * 5)).block, (ad601.add ((x6_1).toNat * 5)).off + 3, none⟩ = some (.string ((rd_T29 l0 x6_1).f2.f1)) ∧ w'.cell? ⟨(ad601.add ((x6_1).toNat * 5)).block, (ad601.add ((x6_1).toNat * 5)).off + 4, none⟩ = some (.int .i64 ((rd_T29 l0 x6_1).f2.f2))) (ds := []) #[false, false, false, false, false, false, false, false, false, false, false, false] (by kernel_rfl) rfl rfl ⟨My.b_ BK600 0, My.b_ BK600 1, (My.up HB hw601_0), (My.up HB hw601_1), (My.up HB hw601_2), (My.up HB hw601_3), (My.up HB hw601_4)⟩ (fun hHeld => ?_); refine with_tabW ententelaw07_opened.tab6 ententelaw07_opened.bits6 (fun HT_ HW_ => ?_)
   generalize wr.drew = w14 at HO_5 HO_601000 HO_601001 BK599 BK600 HB hx601_0 hx601_1 hx601_2 hx601_3 hx601_4 hHeld ⊢
   refine My.pv_ 1 18 12 2 HT_.out ?_
   refine My.pv_ 2 19 12 6 HT_.out ?_
   refine My.pv_ 3 20 12 14 HT_.out ?_
   refine My.tv_ 0 17 12 15 HT_.out HW_.out hHeld rfl rfl (by rintro w' ⟨s0, s1, s2, s3, s4, s5, s6⟩; go_simp; with_reducible rfl) ?_
   refine My.ta_ 4 21 12 HT_.out HW_.out hHeld rfl rfl (by rintro w' ⟨s0, s1, s2, s3, s4, s5, s6⟩; go_simp; with_reducible rfl) ?_
   refine join_ (σ := Value × Value × Nat) 2 (My.Mb 12 1023) (fun s_ => [(22, .tuple #[.agg #[s_.1, s_.2.1], .bool true]), (7, .pointer (some ⟨s_.2.2, 0, none⟩)), (16, .tuple #[.agg #[s_.1, s_.2.1], .bool true]), (23, .agg #[s_.1, s_.2.1]), (24, .bool true)]) (fun s_ w' => (w'.cell? ⟨gb600, 0, none⟩ = some (.slice Ao12 x601000_1.length co12) ∧ w'.cell? ⟨gb600, 1, none⟩ = some (.slice Ao13 x601001_1.length co13) ∧ w'.cell? (ad601.add ((x6_1).toNat * 5)) = some (.int .i64 ((rd_T29 l0 x6_1).f0)) ∧ w'.cell? ⟨(ad601.add ((x6_1).toNat * 5)).block, (ad601.add ((x6_1).toNat * 5)).off + 1, none⟩ = some (.string ((rd_T29 l0 x6_1).f1)) ∧ w'.cell? ⟨(ad601.add ((x6_1).toNat * 5)).block, (ad601.add ((x6_1).toNat * 5)).off + 2, none⟩ = some (.int .i64 ((rd_T29 l0 x6_1).f2.f0)) ∧ w'.cell? ⟨(ad601.add ((x6_1).toNat * 5)).block, (ad601.add ((x6_1).toNat * 5)).off + 3, none⟩ = some (.string ((rd_T29 l0 x6_1).f2.f1)) ∧ w'.cell? ⟨(ad601.add ((x6_1).toNat * 5)).block, (ad601.add ((x6_1).toNat * 5)).off + 4, none⟩ = some (.int .i64 ((rd_T29 l0 x6_1).f2.f2))) ∧ (Kd.V k51 51 w' w.heap.size (fun k_ => (w.heap.size ≤ k_) ∧ some k_ ≠ (u5 : Value).ownBlock ∧ k_ ≠ gb599 ∧ k_ ≠ gb600 ∧ k_ ≠ s_.2.2) s_.1 t602) ∧ (Kd.V k64 64 w' w.heap.size (fun k_ => (w.heap.size ≤ k_) ∧ some k_ ≠ (u5 : Value).ownBlock ∧ k_ ≠ gb599 ∧ k_ ≠ gb600 ∧ k_ ≠ s_.2.2) s_.2.1 t605) ∧ (Kd.R k51 51 w' w.heap.size (fun k_ => (w.heap.size ≤ k_)) u5 x5_1) ∧ (Kd.V k51 51 w' w.heap.size (fun k_ => (w.heap.size ≤ k_) ∧ some k_ ≠ (u5 : Value).ownBlock ∧ k_ ≠ gb599 ∧ k_ ≠ gb600 ∧ k_ ≠ s_.2.2) (.slice Ao12 x601000_1.length co12) x601000_1) ∧ (Kd.V k64 64 w' w.heap.size (fun k_ => (w.heap.size ≤ k_) ∧ some k_ ≠ (u5 : Value).ownBlock ∧ k_ ≠ gb599 ∧ k_ ≠ gb600 ∧ k_ ≠ s_.2.2) (.slice Ao13 x601001_1.length co13) x601001_1) ∧ (w'.heap[gb599]? = some (.cells #[.slice none 0 0, .slice none 0 0] 25 (0, 0))) ∧ (w'.heap[gb600]? = some (.cells #[.slice Ao12 x601000_1.length co12, .slice Ao13 x601001_1.length co13] 25 (0, 0))) ∧ (w'.heap[s_.2.2]? = some (.cells #[.slice none 0 0, .slice none 0 0] 25 (0, 0))) ∧ (w.heap.size ≤ s_.2.2) ∧ (w.heap.size ≤ s_.2.2) ∧ (gb599 ≠ s_.2.2) ∧ (s_.2.2 ≠ gb599) ∧ (gb600 ≠ s_.2.2) ∧ (s_.2.2 ≠ gb600) ∧ (Below w.heap.size w w')) ?_ ?_
   rotate_left
   ·intro hCont
    refine two_ (i := 5) (j := 9) (Ni := some 22) (Nj := some 7) (My.Mb 12 63) (My.Mb 12 543) rfl rfl rfl rfl (two_of HT_.out (by kernel_rfl)) (by decide) (by decide) (fun K hK => ?_) (fun K hK => ?_)
    ·skip
     refine goes_ Try.func19 (by kernel_rfl) rfl #[.agg #[.slice Ao12 x601000_1.length co12, .slice Ao13 x601001_1.length co13], .agg #[.int .i64 ((rd_T29 l0 x6_1).f0), .string ((rd_T29 l0 x6_1).f1), .int .i64 ((rd_T29 l0 x6_1).f2.f0), .string ((rd_T29 l0 x6_1).f2.f1), .int .i64 ((rd_T29 l0 x6_1).f2.f2)]] (by rfl) rfl rfl My.gx ?_
     with_reducible refine (ententelaw07_does.calls k1 (fun k_ => ((w.heap.size ≤ k_) ∧ (some k_ ≠ (u5 : Value).ownBlock ∧ (k_ ≠ gb599 ∧ k_ ≠ gb600)))) _ _ x601000_1 (fun k_ => ((w.heap.size ≤ k_) ∧ (some k_ ≠ (u5 : Value).ownBlock ∧ (k_ ≠ gb599 ∧ k_ ≠ gb600)))) _ _ x601001_1 ((rd_T29 l0 x6_1).f0) ((rd_T29 l0 x6_1).f1) ((rd_T29 l0 x6_1).f2.f0) ((rd_T29 l0 x6_1).f2.f1) ((rd_T29 l0 x6_1).f2.f2) t602 t605 true _ ?side1 ?side2 A8.out).mono ?_
     (case side1 => exact HO_601000.out)
     (case side2 => exact HO_601001.out)
     rintro e w15 ⟨v603, v606, rfl, ho0, ho1, hb⟩
     refine ⟨_, rfl, ?_⟩
     replace HO_601000 := My.am (Kd.V_below (My.dV HO_601000.out) hb)
     replace HO_601001 := My.am (Kd.V_below (My.dV HO_601001.out) hb)
     have HO604 := My.am (Kd.V_lower (Kd.V_mono (ok' := fun k_ => (w.heap.size ≤ k_) ∧ some k_ ≠ (u5 : Value).ownBlock ∧ k_ ≠ gb599 ∧ k_ ≠ gb600) ho0 (fun k_ hk_ => ⟨Or.elim hk_ (fun hs_ => Or.elim hs_ (fun hs_ => hs_.1) (fun hs_ => hs_.1)) (fun hn_ => (Nat.le_trans (below_size (My.bl_ HB)) hn_)), Or.elim hk_ (fun hs_ => Or.elim hs_ (fun hs_ => hs_.2.1) (fun hs_ => hs_.2.1)) (fun hn_ => (Kd.fresh' (Kd.R_lt (My.dr HO_5.out)) k_ hn_)), Or.elim hk_ (fun hs_ => Or.elim hs_ (fun hs_ => hs_.2.2.1) (fun hs_ => hs_.2.2.1)) (fun hn_ => (Kd.freshB (My.at_ BK599) k_ hn_)), Or.elim hk_ (fun hs_ => Or.elim hs_ (fun hs_ => hs_.2.2.2) (fun hs_ => hs_.2.2.2)) (fun hn_ => (Kd.freshB (My.at_ BK600) k_ hn_))⟩)) (below_size (My.bl_ HB)))
     have HO607 := My.am (Kd.V_lower (Kd.V_mono (ok' := fun k_ => (w.heap.size ≤ k_) ∧ some k_ ≠ (u5 : Value).ownBlock ∧ k_ ≠ gb599 ∧ k_ ≠ gb600) ho1 (fun k_ hk_ => ⟨Or.elim hk_ (fun hs_ => Or.elim hs_ (fun hs_ => hs_.1) (fun hs_ => hs_.1)) (fun hn_ => (Nat.le_trans (below_size (My.bl_ HB)) hn_)), Or.elim hk_ (fun hs_ => Or.elim hs_ (fun hs_ => hs_.2.1) (fun hs_ => hs_.2.1)) (fun hn_ => (Kd.fresh' (Kd.R_lt (My.dr HO_5.out)) k_ hn_)), Or.elim hk_ (fun hs_ => Or.elim hs_ (fun hs_ => hs_.2.2.1) (fun hs_ => hs_.2.2.1)) (fun hn_ => (Kd.freshB (My.at_ BK599) k_ hn_)), Or.elim hk_ (fun hs_ => Or.elim hs_ (fun hs_ => hs_.2.2.2) (fun hs_ => hs_.2.2.2)) (fun hn_ => (Kd.freshB (My.at_ BK600) k_ hn_))⟩)) (below_size (My.bl_ HB)))
     replace HO_5 := My.am (Kd.R_below (My.dr HO_5.out) hb)
     replace BK599 := My.ab BK599 hb
     replace BK600 := My.ab BK600 hb
     replace HB := My.st HB hb
     (try clear hb)
     (try clear hb2)
     (try clear hk)
     (try clear hi)
     (try clear ho0)
     (try clear ho1)
     refine hK.out _ _ ⟨My.b_ BK600 0, My.b_ BK600 1, (My.up HB hw601_0), (My.up HB hw601_1), (My.up HB hw601_2), (My.up HB hw601_3), (My.up HB hw601_4)⟩ (fun hHeld => ?_)
     clear hK K
     refine My.nm 22 ?_
     refine My.pu_ 6 16 12 HT_.out ?_
     refine My.pu_ 7 23 12 HT_.out ?_
     refine My.pu_ 8 24 12 HT_.out ?_
     refine one_ (i := 9) (N := some 7) (My.Mb 12 1023) rfl rfl (one_of HT_.out (by kernel_rfl)) (by decide) (fun K hK => ?_)
     refine box_step ?hg (N := 7) ?hd (cs := #[.slice none 0 0, .slice none 0 0]) (t := 25) ?hr ?_; (case hd => rfl); (case hg => rfl); (case hr => first | (go_simp; done) | (go_simp; rfl))
     intro gb609 hg w16 hbox hb
     replace HO_5 := My.am (Kd.R_below (My.dr HO_5.out) hb)
     replace HO_601000 := My.am (Kd.V_below (Kd.V_elderB (My.dV HO_601000.out) gb609 (Nat.le_of_eq hg.symm)) hb)
     replace HO_601001 := My.am (Kd.V_below (Kd.V_elderB (My.dV HO_601001.out) gb609 (Nat.le_of_eq hg.symm)) hb)
     replace HO604 := My.am (Kd.V_below (Kd.V_elderB (My.dV HO604.out) gb609 (Nat.le_of_eq hg.symm)) hb)
     replace HO607 := My.am (Kd.V_below (Kd.V_elderB (My.dV HO607.out) gb609 (Nat.le_of_eq hg.symm)) hb)
     have BK609 := My.am (hbox)
     have GW609 := My.nge hg (My.bl_ HB)
     have GE609 := My.nge hg (My.bl_ HB)
     replace HB := My.st HB hb
     obtain ⟨NB599_609, NB609_599, BK599⟩ := My.nb hg hb BK599
     obtain ⟨NB600_609, NB609_600, BK600⟩ := My.nb hg hb BK600
     clear hb hbox hg
     refine hK.out _ _ ⟨My.b_ BK600 0, My.b_ BK600 1, (My.up HB hw601_0), (My.up HB hw601_1), (My.up HB hw601_2), (My.up HB hw601_3), (My.up HB hw601_4)⟩ (fun hHeld => ?_)
     clear hK K
     refine My.nm 7 ?_
     exact norm_ (by simp only [putAll, Act.put, List.setIfInBounds_toArray, List.set_cons_zero, List.set_cons_succ]) (hCont (v603, v606, gb609) _ ⟨hHeld, (My.dV (Kd.V_mono HO604.out (fun _ hk => ⟨hk.1.1, ⟨hk.1.2.1, ⟨hk.1.2.2.1, ⟨hk.1.2.2.2, hk.2⟩⟩⟩⟩))), (My.dV (Kd.V_mono HO607.out (fun _ hk => ⟨hk.1.1, ⟨hk.1.2.1, ⟨hk.1.2.2.1, ⟨hk.1.2.2.2, hk.2⟩⟩⟩⟩))), (My.dr HO_5.out), (My.dV (Kd.V_mono HO_601000.out (fun _ hk => ⟨hk.1.1, ⟨hk.1.2.1, ⟨hk.1.2.2.1, ⟨hk.1.2.2.2, hk.2⟩⟩⟩⟩))), (My.dV (Kd.V_mono HO_601001.out (fun _ hk => ⟨hk.1.1, ⟨hk.1.2.1, ⟨hk.1.2.2.1, ⟨hk.1.2.2.2, hk.2⟩⟩⟩⟩))), (My.at_ BK599), (My.at_ BK600), (My.at_ BK609), GW609.out, GE609.out, NB599_609.out, NB609_599.out, NB600_609.out, NB609_600.out, (My.bl_ HB)⟩)
    skip
    refine box_step ?hg (N := 7) ?hd (cs := #[.slice none 0 0, .slice none 0 0]) (t := 25) ?hr ?_; (case hd => rfl); (case hg => rfl); (case hr => first | (go_simp; done) | (go_simp; rfl))
    intro gb609 hg w15 hbox hb
    replace HO_5 := My.am (Kd.R_below (My.dr HO_5.out) hb)
    replace HO_601000 := My.am (Kd.V_below (Kd.V_elderB (My.dV HO_601000.out) gb609 (Nat.le_of_eq hg.symm)) hb)
    replace HO_601001 := My.am (Kd.V_below (Kd.V_elderB (My.dV HO_601001.out) gb609 (Nat.le_of_eq hg.symm)) hb)
    have BK609 := My.am (hbox)
    have GW609 := My.nge hg (My.bl_ HB)
    have GE609 := My.nge hg (My.bl_ HB)
    replace HB := My.st HB hb
    obtain ⟨NB599_609, NB609_599, BK599⟩ := My.nb hg hb BK599
    obtain ⟨NB600_609, NB609_600, BK600⟩ := My.nb hg hb BK600
    clear hb hbox hg
    refine hK.out _ _ ⟨My.b_ BK600 0, My.b_ BK600 1, (My.up HB hw601_0), (My.up HB hw601_1), (My.up HB hw601_2), (My.up HB hw601_3), (My.up HB hw601_4)⟩ (fun hHeld => ?_)
    clear hK K
    refine My.nm 7 ?_
    refine one_ (i := 5) (N := some 22) (My.Mb 12 575) rfl rfl (one_of HT_.out (by kernel_rfl)) (by decide) (fun K hK => ?_)
    refine goes_ Try.func19 (by kernel_rfl) rfl #[.agg #[.slice Ao12 x601000_1.length co12, .slice Ao13 x601001_1.length co13], .agg #[.int .i64 ((rd_T29 l0 x6_1).f0), .string ((rd_T29 l0 x6_1).f1), .int .i64 ((rd_T29 l0 x6_1).f2.f0), .string ((rd_T29 l0 x6_1).f2.f1), .int .i64 ((rd_T29 l0 x6_1).f2.f2)]] (by rfl) rfl rfl My.gx ?_
    with_reducible refine (ententelaw07_does.calls k1 (fun k_ => (((w.heap.size ≤ k_) ∧ (some k_ ≠ (u5 : Value).ownBlock ∧ (k_ ≠ gb599 ∧ k_ ≠ gb600))) ∧ k_ ≠ gb609)) _ _ x601000_1 (fun k_ => (((w.heap.size ≤ k_) ∧ (some k_ ≠ (u5 : Value).ownBlock ∧ (k_ ≠ gb599 ∧ k_ ≠ gb600))) ∧ k_ ≠ gb609)) _ _ x601001_1 ((rd_T29 l0 x6_1).f0) ((rd_T29 l0 x6_1).f1) ((rd_T29 l0 x6_1).f2.f0) ((rd_T29 l0 x6_1).f2.f1) ((rd_T29 l0 x6_1).f2.f2) t602 t605 true _ ?side1 ?side2 A8.out).mono ?_
    (case side1 => exact HO_601000.out)
    (case side2 => exact HO_601001.out)
    rintro e w16 ⟨v603, v606, rfl, ho0, ho1, hb⟩
    refine ⟨_, rfl, ?_⟩
    replace HO_601000 := My.am (Kd.V_below (My.dV HO_601000.out) hb)
    replace HO_601001 := My.am (Kd.V_below (My.dV HO_601001.out) hb)
    have HO604 := My.am (Kd.V_lower (Kd.V_mono (ok' := fun k_ => (w.heap.size ≤ k_) ∧ some k_ ≠ (u5 : Value).ownBlock ∧ k_ ≠ gb599 ∧ k_ ≠ gb600 ∧ k_ ≠ gb609) ho0 (fun k_ hk_ => ⟨Or.elim hk_ (fun hs_ => Or.elim hs_ (fun hs_ => hs_.1.1) (fun hs_ => hs_.1.1)) (fun hn_ => (Nat.le_trans (below_size (My.bl_ HB)) hn_)), Or.elim hk_ (fun hs_ => Or.elim hs_ (fun hs_ => hs_.1.2.1) (fun hs_ => hs_.1.2.1)) (fun hn_ => (Kd.fresh' (Kd.R_lt (My.dr HO_5.out)) k_ hn_)), Or.elim hk_ (fun hs_ => Or.elim hs_ (fun hs_ => hs_.1.2.2.1) (fun hs_ => hs_.1.2.2.1)) (fun hn_ => (Kd.freshB (My.at_ BK599) k_ hn_)), Or.elim hk_ (fun hs_ => Or.elim hs_ (fun hs_ => hs_.1.2.2.2) (fun hs_ => hs_.1.2.2.2)) (fun hn_ => (Kd.freshB (My.at_ BK600) k_ hn_)), Or.elim hk_ (fun hs_ => Or.elim hs_ (fun hs_ => hs_.2) (fun hs_ => hs_.2)) (fun hn_ => (Kd.freshB (My.at_ BK609) k_ hn_))⟩)) (below_size (My.bl_ HB)))
    have HO607 := My.am (Kd.V_lower (Kd.V_mono (ok' := fun k_ => (w.heap.size ≤ k_) ∧ some k_ ≠ (u5 : Value).ownBlock ∧ k_ ≠ gb599 ∧ k_ ≠ gb600 ∧ k_ ≠ gb609) ho1 (fun k_ hk_ => ⟨Or.elim hk_ (fun hs_ => Or.elim hs_ (fun hs_ => hs_.1.1) (fun hs_ => hs_.1.1)) (fun hn_ => (Nat.le_trans (below_size (My.bl_ HB)) hn_)), Or.elim hk_ (fun hs_ => Or.elim hs_ (fun hs_ => hs_.1.2.1) (fun hs_ => hs_.1.2.1)) (fun hn_ => (Kd.fresh' (Kd.R_lt (My.dr HO_5.out)) k_ hn_)), Or.elim hk_ (fun hs_ => Or.elim hs_ (fun hs_ => hs_.1.2.2.1) (fun hs_ => hs_.1.2.2.1)) (fun hn_ => (Kd.freshB (My.at_ BK599) k_ hn_)), Or.elim hk_ (fun hs_ => Or.elim hs_ (fun hs_ => hs_.1.2.2.2) (fun hs_ => hs_.1.2.2.2)) (fun hn_ => (Kd.freshB (My.at_ BK600) k_ hn_)), Or.elim hk_ (fun hs_ => Or.elim hs_ (fun hs_ => hs_.2) (fun hs_ => hs_.2)) (fun hn_ => (Kd.freshB (My.at_ BK609) k_ hn_))⟩)) (below_size (My.bl_ HB)))
    replace HO_5 := My.am (Kd.R_below (My.dr HO_5.out) hb)
    replace BK599 := My.ab BK599 hb
    replace BK600 := My.ab BK600 hb
    replace BK609 := My.ab BK609 hb
    replace HB := My.st HB hb
    (try clear hb)
    (try clear hb2)
    (try clear hk)
    (try clear hi)
    (try clear ho0)
    (try clear ho1)
    refine hK.out _ _ ⟨My.b_ BK600 0, My.b_ BK600 1, (My.up HB hw601_0), (My.up HB hw601_1), (My.up HB hw601_2), (My.up HB hw601_3), (My.up HB hw601_4)⟩ (fun hHeld => ?_)
    clear hK K
    refine My.nm 22 ?_
    refine My.pv_ 6 16 12 639 HT_.out ?_
    refine My.pv_ 7 23 12 767 HT_.out ?_
    refine My.pv_ 8 24 12 1023 HT_.out ?_
    exact norm_ (by simp only [putAll, Act.put, List.setIfInBounds_toArray, List.set_cons_zero, List.set_cons_succ]) (hCont (v603, v606, gb609) _ ⟨hHeld, (My.dV HO604.out), (My.dV HO607.out), (My.dr HO_5.out), (My.dV (Kd.V_mono HO_601000.out (fun _ hk => ⟨hk.1.1, ⟨hk.1.2.1, ⟨hk.1.2.2.1, ⟨hk.1.2.2.2, hk.2⟩⟩⟩⟩))), (My.dV (Kd.V_mono HO_601001.out (fun _ hk => ⟨hk.1.1, ⟨hk.1.2.1, ⟨hk.1.2.2.1, ⟨hk.1.2.2.2, hk.2⟩⟩⟩⟩))), (My.at_ BK599), (My.at_ BK600), (My.at_ BK609), GW609.out, GE609.out, NB599_609.out, NB609_599.out, NB600_609.out, NB609_600.out, (My.bl_ HB)⟩)
   rintro ⟨v603, v606, gb609⟩ w17 ⟨hS_, h0_, h1_, h2_, h3_, h4_, h5_, h6_, h7_, h8_, h9_, h10_, h11_, h12_, h13_, h14_⟩
   have n0_ : Aside0 (Kd.V k51 51 w17 w.heap.size (fun k_ => (w.heap.size ≤ k_) ∧ some k_ ≠ (u5 : Value).ownBlock ∧ k_ ≠ gb599 ∧ k_ ≠ gb600 ∧ k_ ≠ gb609) v603 t602) := ⟨h0_⟩
   have n1_ : Aside0 (Kd.V k64 64 w17 w.heap.size (fun k_ => (w.heap.size ≤ k_) ∧ some k_ ≠ (u5 : Value).ownBlock ∧ k_ ≠ gb599 ∧ k_ ≠ gb600 ∧ k_ ≠ gb609) v606 t605) := ⟨h1_⟩
   have n2_ : Aside0 (Kd.R k51 51 w17 w.heap.size (fun k_ => (w.heap.size ≤ k_)) u5 x5_1) := ⟨h2_⟩
   have n3_ : Aside0 (Kd.V k51 51 w17 w.heap.size (fun k_ => (w.heap.size ≤ k_) ∧ some k_ ≠ (u5 : Value).ownBlock ∧ k_ ≠ gb599 ∧ k_ ≠ gb600 ∧ k_ ≠ gb609) (.slice Ao12 x601000_1.length co12) x601000_1) := ⟨h3_⟩
   have n4_ : Aside0 (Kd.V k64 64 w17 w.heap.size (fun k_ => (w.heap.size ≤ k_) ∧ some k_ ≠ (u5 : Value).ownBlock ∧ k_ ≠ gb599 ∧ k_ ≠ gb600 ∧ k_ ≠ gb609) (.slice Ao13 x601001_1.length co13) x601001_1) := ⟨h4_⟩
   have n5_ : Aside0 (w17.heap[gb599]? = some (.cells #[.slice none 0 0, .slice none 0 0] 25 (0, 0))) := ⟨h5_⟩
   have n6_ : Aside0 (w17.heap[gb600]? = some (.cells #[.slice Ao12 x601000_1.length co12, .slice Ao13 x601001_1.length co13] 25 (0, 0))) := ⟨h6_⟩
   have n7_ : Aside0 (w17.heap[gb609]? = some (.cells #[.slice none 0 0, .slice none 0 0] 25 (0, 0))) := ⟨h7_⟩
   have n8_ : Aside0 (w.heap.size ≤ gb609) := ⟨h8_⟩
   have n9_ : Aside0 (w.heap.size ≤ gb609) := ⟨h9_⟩
   have n10_ : Aside0 (gb599 ≠ gb609) := ⟨h10_⟩
   have n11_ : Aside0 (gb609 ≠ gb599) := ⟨h11_⟩
   have n12_ : Aside0 (gb600 ≠ gb609) := ⟨h12_⟩
   have n13_ : Aside0 (gb609 ≠ gb600) := ⟨h13_⟩
   have n14_ : Aside0 (Below w.heap.size w w17) := ⟨h14_⟩
   clear HO_5
   clear HO_601000
   clear HO_601001
   clear BK599
   clear BK600
   clear HB
   clear h0_ h1_ h2_ h3_ h4_ h5_ h6_ h7_ h8_ h9_ h10_ h11_ h12_ h13_ h14_
   have HO604 := n0_
   have HO607 := n1_
   have HO_5 := n2_
   have HO_601000 := n3_
   have HO_601001 := n4_
   have BK599 := n5_
   have BK600 := n6_
   have BK609 := n7_
   have GW609 := n8_
   have GE609 := n9_
   have NB599_609 := n10_
   have NB609_599 := n11_
   have NB600_609 := n12_
   have NB609_600 := n13_
   have HB := n14_
   clear n0_ n1_ n2_ n3_ n4_ n5_ n6_ n7_ n8_ n9_ n10_ n11_ n12_ n13_ n14_
   have hHeld : w17.cell? ⟨gb600, 0, none⟩ = some (.slice Ao12 x601000_1.length co12) ∧ w17.cell? ⟨gb600, 1, none⟩ = some (.slice Ao13 x601001_1.length co13) ∧ w17.cell? (ad601.add ((x6_1).toNat * 5)) = some (.int .i64 ((rd_T29 l0 x6_1).f0)) ∧ w17.cell? ⟨(ad601.add ((x6_1).toNat * 5)).block, (ad601.add ((x6_1).toNat * 5)).off + 1, none⟩ = some (.string ((rd_T29 l0 x6_1).f1)) ∧ w17.cell? ⟨(ad601.add ((x6_1).toNat * 5)).block, (ad601.add ((x6_1).toNat * 5)).off + 2, none⟩ = some (.int .i64 ((rd_T29 l0 x6_1).f2.f0)) ∧ w17.cell? ⟨(ad601.add ((x6_1).toNat * 5)).block, (ad601.add ((x6_1).toNat * 5)).off + 3, none⟩ = some (.string ((rd_T29 l0 x6_1).f2.f1)) ∧ w17.cell? ⟨(ad601.add ((x6_1).toNat * 5)).block, (ad601.add ((x6_1).toNat * 5)).off + 4, none⟩ = some (.int .i64 ((rd_T29 l0 x6_1).f2.f2)) := hS_
   obtain ⟨Ao18, co18, eo18⟩ := Kd.V_slice HO604.out
   (first | subst eo18 | (injection eo18 with f1_ f2_ f3_; have f4_ := f1_.symm; have f5_ := f3_.symm; clear f1_ f2_ f3_; subst f4_; subst f5_))
   obtain ⟨Ao20, co20, eo20⟩ := Kd.V_slice HO607.out
   (first | subst eo20 | (injection eo20 with f1_ f2_ f3_; have f4_ := f1_.symm; have f5_ := f3_.symm; clear f1_ f2_ f3_; subst f4_; subst f5_))
   refine norm_ (a' := ?_) ?_ ?_
   rotate_left
   ·simp only [putAll, Act.put, List.setIfInBounds_toArray, List.set_cons_zero, List.set_cons_succ]
    rfl
   refine one_ (i := 10) (N := none) (My.Mb 12 2047) rfl rfl (one_of HT_.out (by kernel_rfl)) (by decide) (fun K hK => ?_)
   have hs19 : w17.cell? ⟨gb609, 0, none⟩ = some (.slice none 0 0) := My.b_ BK609 0
   have hfs19 := blk_frozen BK609.out 0
   have hns19_0 := NB599_609.out
   have hns19_1 := NB600_609.out
   have hms19_0 := NB609_599.out
   have hms19_1 := NB609_600.out
   have hs21 : w17.cell? ⟨gb609, 1, none⟩ = some (.slice none 0 0) := My.b_ BK609 1
   have hfs21 := blk_frozen BK609.out 1
   have hns21_0 := NB599_609.out
   have hns21_1 := NB600_609.out
   have hms21_0 := NB609_599.out
   have hms21_1 := NB609_600.out
   refine skip_ (w1 := ?_) (by rfl) rfl ?_ ?_
   rotate_left
   ·go_simp
    rfl
   refine hK.out _ _ ⟨(My.c2 NB600_609.out hHeld.1), (My.c2 NB600_609.out hHeld.2.1), (My.c2 (My.nw hw601_0 GW609) hHeld.2.2.1), (My.c2 (My.nw hw601_1 GW609) hHeld.2.2.2.1), (My.c2 (My.nw hw601_2 GW609) hHeld.2.2.2.2.1), (My.c2 (My.nw hw601_3 GW609) hHeld.2.2.2.2.2.1), (My.c2 (My.nw hw601_4 GW609) hHeld.2.2.2.2.2.2)⟩ (fun hHeld => ?_)
   clear hK K
   refine My.pu_ 11 8 12 HT_.out ?_
   refine done_ (done_of HT_.out (by kernel_rfl)) ?_
   have p610 : 0 ≤ (x6_1 : Int) := My.as_
   have q610 : x6_1 < (l0.length : Int) := My.as_
   obtain ⟨ad610, e610, hx610_0, hx610_1, hx610_2, hx610_3, hx610_4⟩ := at_T29 HR0.out x6_1 p610 q610
   obtain rfl : ad601 = ad610 := (by injection e610)
   have hn610_0 : ad601.block ≠ gb609 := Nat.ne_of_lt (Nat.lt_of_lt_of_le (by have := World.block_lt_of_cell? _ _ hx610_0; first | rwa [add_block] at this | exact this) GW609.out)
   have hn610_1 : ad601.block ≠ gb609 := Nat.ne_of_lt (Nat.lt_of_lt_of_le (by have := World.block_lt_of_cell? _ _ hx610_0; first | rwa [add_block] at this | exact this) GW609.out)
   replace hx610_0 := My.up HB hx610_0
   replace hx610_1 := My.up HB hx610_1
   replace hx610_2 := My.up HB hx610_2
   replace hx610_3 := My.up HB hx610_3
   replace hx610_4 := My.up HB hx610_4
   replace hx610_0 := (cell_far (p := ⟨gb609, 0, none⟩) (by first | (rw [add_block]; exact hn610_0) | (show (Addr.add _ _).block ≠ _; rw [add_block]; exact hn610_0) | exact hn610_0) (.slice Ao18 t602.length co18)).trans hx610_0
   replace hx610_1 := (cell_far (p := ⟨gb609, 0, none⟩) (by first | (rw [add_block]; exact hn610_0) | (show (Addr.add _ _).block ≠ _; rw [add_block]; exact hn610_0) | exact hn610_0) (.slice Ao18 t602.length co18)).trans hx610_1
   replace hx610_2 := (cell_far (p := ⟨gb609, 0, none⟩) (by first | (rw [add_block]; exact hn610_0) | (show (Addr.add _ _).block ≠ _; rw [add_block]; exact hn610_0) | exact hn610_0) (.slice Ao18 t602.length co18)).trans hx610_2
   replace hx610_3 := (cell_far (p := ⟨gb609, 0, none⟩) (by first | (rw [add_block]; exact hn610_0) | (show (Addr.add _ _).block ≠ _; rw [add_block]; exact hn610_0) | exact hn610_0) (.slice Ao18 t602.length co18)).trans hx610_3
   replace hx610_4 := (cell_far (p := ⟨gb609, 0, none⟩) (by first | (rw [add_block]; exact hn610_0) | (show (Addr.add _ _).block ≠ _; rw [add_block]; exact hn610_0) | exact hn610_0) (.slice Ao18 t602.length co18)).trans hx610_4
   replace hx610_0 := (cell_far (p := ⟨gb609, 1, none⟩) (by first | (rw [add_block]; exact hn610_1) | (show (Addr.add _ _).block ≠ _; rw [add_block]; exact hn610_1) | exact hn610_1) (.slice Ao20 t605.length co20)).trans hx610_0
   replace hx610_1 := (cell_far (p := ⟨gb609, 1, none⟩) (by first | (rw [add_block]; exact hn610_1) | (show (Addr.add _ _).block ≠ _; rw [add_block]; exact hn610_1) | exact hn610_1) (.slice Ao20 t605.length co20)).trans hx610_1
   replace hx610_2 := (cell_far (p := ⟨gb609, 1, none⟩) (by first | (rw [add_block]; exact hn610_1) | (show (Addr.add _ _).block ≠ _; rw [add_block]; exact hn610_1) | exact hn610_1) (.slice Ao20 t605.length co20)).trans hx610_2
   replace hx610_3 := (cell_far (p := ⟨gb609, 1, none⟩) (by first | (rw [add_block]; exact hn610_1) | (show (Addr.add _ _).block ≠ _; rw [add_block]; exact hn610_1) | exact hn610_1) (.slice Ao20 t605.length co20)).trans hx610_3
   replace hx610_4 := (cell_far (p := ⟨gb609, 1, none⟩) (by first | (rw [add_block]; exact hn610_1) | (show (Addr.add _ _).block ≠ _; rw [add_block]; exact hn610_1) | exact hn610_1) (.slice Ao20 t605.length co20)).trans hx610_4
   clear hn610_0
   clear hn610_1
   replace p610 := eq_true p610
   replace q610 := eq_true q610
   try go_wp2
   obtain ⟨w22, hz_⟩ : ∃ z_, z_ = ((w17.setCell ⟨gb609, 0, none⟩ (.slice Ao18 t602.length co18)).setCell ⟨gb609, 1, none⟩ (.slice Ao20 t605.length co20)) := ⟨_, rfl⟩
   replace HO_5 : Aside0 (Kd.R k51 51 w22 w.heap.size (fun k_ => (w.heap.size ≤ k_)) u5 x5_1) := ⟨by rw [hz_]; exact My.dR (Kd.R_mono (Kd.R_far (p := ⟨gb609, 1, none⟩) (Kd.R_far (p := ⟨gb609, 0, none⟩) (Kd.R_types HO_5.out BK609.out (by decide)) (fun _ hk => hk.2) (.slice Ao18 t602.length co18)) (fun _ hk => hk.2) (.slice Ao20 t605.length co20)) (fun _ hk => hk.1))⟩
   replace HO_601000 : Aside0 (Kd.V k51 51 w22 w.heap.size (fun k_ => (w.heap.size ≤ k_) ∧ some k_ ≠ (u5 : Value).ownBlock ∧ k_ ≠ gb599 ∧ k_ ≠ gb600 ∧ k_ ≠ gb609) (.slice Ao12 x601000_1.length co12) x601000_1) := ⟨by rw [hz_]; exact My.dV (Kd.V_mono (Kd.V_far (p := ⟨gb609, 1, none⟩) (Kd.V_far (p := ⟨gb609, 0, none⟩) (Kd.V_mono HO_601000.out (fun k_ hk => (⟨hk, hk.2.2.2.2⟩ : _ ∧ k_ ≠ gb609))) (fun _ hk => hk.2) (.slice Ao18 t602.length co18)) (fun _ hk => hk.2) (.slice Ao20 t605.length co20)) (fun _ hk => ⟨hk.1.1, ⟨hk.1.2.1, ⟨hk.1.2.2.1, ⟨hk.1.2.2.2.1, hk.1.2.2.2.2⟩⟩⟩⟩))⟩
   replace HO_601001 : Aside0 (Kd.V k64 64 w22 w.heap.size (fun k_ => (w.heap.size ≤ k_) ∧ some k_ ≠ (u5 : Value).ownBlock ∧ k_ ≠ gb599 ∧ k_ ≠ gb600 ∧ k_ ≠ gb609) (.slice Ao13 x601001_1.length co13) x601001_1) := ⟨by rw [hz_]; exact My.dV (Kd.V_mono (Kd.V_far (p := ⟨gb609, 1, none⟩) (Kd.V_far (p := ⟨gb609, 0, none⟩) (Kd.V_mono HO_601001.out (fun k_ hk => (⟨hk, hk.2.2.2.2⟩ : _ ∧ k_ ≠ gb609))) (fun _ hk => hk.2) (.slice Ao18 t602.length co18)) (fun _ hk => hk.2) (.slice Ao20 t605.length co20)) (fun _ hk => ⟨hk.1.1, ⟨hk.1.2.1, ⟨hk.1.2.2.1, ⟨hk.1.2.2.2.1, hk.1.2.2.2.2⟩⟩⟩⟩))⟩
   replace HO604 : Aside0 (Kd.V k51 51 w22 w.heap.size (fun k_ => (w.heap.size ≤ k_) ∧ some k_ ≠ (u5 : Value).ownBlock ∧ k_ ≠ gb599 ∧ k_ ≠ gb600 ∧ k_ ≠ gb609) (.slice Ao18 t602.length co18) t602) := ⟨by rw [hz_]; exact My.dV (Kd.V_mono (Kd.V_far (p := ⟨gb609, 1, none⟩) (Kd.V_far (p := ⟨gb609, 0, none⟩) (Kd.V_mono HO604.out (fun k_ hk => (⟨hk, hk.2.2.2.2⟩ : _ ∧ k_ ≠ gb609))) (fun _ hk => hk.2) (.slice Ao18 t602.length co18)) (fun _ hk => hk.2) (.slice Ao20 t605.length co20)) (fun _ hk => ⟨hk.1.1, ⟨hk.1.2.1, ⟨hk.1.2.2.1, ⟨hk.1.2.2.2.1, hk.1.2.2.2.2⟩⟩⟩⟩))⟩
   replace HO607 : Aside0 (Kd.V k64 64 w22 w.heap.size (fun k_ => (w.heap.size ≤ k_) ∧ some k_ ≠ (u5 : Value).ownBlock ∧ k_ ≠ gb599 ∧ k_ ≠ gb600 ∧ k_ ≠ gb609) (.slice Ao20 t605.length co20) t605) := ⟨by rw [hz_]; exact My.dV (Kd.V_mono (Kd.V_far (p := ⟨gb609, 1, none⟩) (Kd.V_far (p := ⟨gb609, 0, none⟩) (Kd.V_mono HO607.out (fun k_ hk => (⟨hk, hk.2.2.2.2⟩ : _ ∧ k_ ≠ gb609))) (fun _ hk => hk.2) (.slice Ao18 t602.length co18)) (fun _ hk => hk.2) (.slice Ao20 t605.length co20)) (fun _ hk => ⟨hk.1.1, ⟨hk.1.2.1, ⟨hk.1.2.2.1, ⟨hk.1.2.2.2.1, hk.1.2.2.2.2⟩⟩⟩⟩))⟩
   replace BK599 : Aside0 (w22.heap[gb599]? = some (.cells #[.slice none 0 0, .slice none 0 0] 25 (0, 0))) := ⟨by rw [hz_]; exact (My.sv_ BK599)⟩
   replace BK600 : Aside0 (w22.heap[gb600]? = some (.cells #[.slice Ao12 x601000_1.length co12, .slice Ao13 x601001_1.length co13] 25 (0, 0))) := ⟨by rw [hz_]; exact (My.sv_ BK600)⟩
   replace BK609 : Aside0 (w22.heap[gb609]? = some (.cells #[.slice Ao18 t602.length co18, .slice Ao20 t605.length co20] 25 (0, 0))) := ⟨by rw [hz_]; exact (My.sv_ BK609)⟩
   replace HB : Aside0 (Below w.heap.size w w22) := ⟨by rw [hz_]; repeat (first | (with_reducible first | exact HB.out | apply below_alloc | apply pw_below_drewN | apply below_drew1 | refine below_set ?_ GE599.out | refine below_set ?_ GE600.out | refine below_set ?_ GE609.out) | exact HB.out)⟩
   rw [← hz_]
   clear hz_
   replace HO_5 := My.am (Kd.R_drew HO_5.out)
   replace HO_601000 := My.am (Kd.V_drew HO_601000.out)
   replace HO_601001 := My.am (Kd.V_drew HO_601001.out)
   replace HO604 := My.am (Kd.V_drew HO604.out)
   replace HO607 := My.am (Kd.V_drew HO607.out)
   replace BK599 := My.am (blk_drew BK599.out)
   replace BK600 := My.am (blk_drew BK600.out)
   replace BK609 := My.am (blk_drew BK609.out)
   replace HB := My.am (below_drew1 HB.out)
   have p611 : 0 ≤ (x6_1 : Int) := My.as_
   have q611 : x6_1 < (l0.length : Int) := My.as_
   obtain ⟨ad611, e611, hx611_0, hx611_1, hx611_2, hx611_3, hx611_4⟩ := at_T29 HR0.out x6_1 p611 q611
   have hw611_4 := hx611_4
   have hw611_3 := hx611_3
   have hw611_2 := hx611_2
   have hw611_1 := hx611_1
   have hw611_0 := hx611_0
   obtain rfl : ad601 = ad611 := (by injection e611)
   replace hx611_0 := My.up HB hx611_0
   replace hx611_1 := My.up HB hx611_1
   replace hx611_2 := My.up HB hx611_2
   replace hx611_3 := My.up HB hx611_3
   replace hx611_4 := My.up HB hx611_4
   replace p611 := eq_true p611
   replace q611 := eq_true q611
   have p612 : 0 ≤ (x6_1 : Int) := My.as_
   have q612 : x6_1 < (l0.length : Int) := My.as_
   obtain ⟨ad612, e612, hx612_0, hx612_1, hx612_2, hx612_3, hx612_4⟩ := at_T29 HR0.out x6_1 p612 q612
   have hw612_4 := hx612_4
   have hw612_3 := hx612_3
   have hw612_2 := hx612_2
   have hw612_1 := hx612_1
   have hw612_0 := hx612_0
   obtain rfl : ad601 = ad612 := (by injection e612)
   replace hx612_0 := My.up HB hx612_0
   replace hx612_1 := My.up HB hx612_1
   replace hx612_2 := My.up HB hx612_2
   replace hx612_3 := My.up HB hx612_3
   replace hx612_4 := My.up HB hx612_4
   replace p612 := eq_true p612
   replace q612 := eq_true q612
   refine start_ (n := 18) (S := fun w' => w'.cell? (ad601.add ((x6_1).toNat * 5)) = some (.int .i64 ((rd_T29 l0 x6_1).f0)) ∧ w'.cell? ⟨(ad601.add ((x6_1).toNat * 5)).block, (ad601.add ((x6_1).toNat * 5)).off + 1, none⟩ = some (.string ((rd_T29 l0 x6_1).f1)) ∧ w'.cell? ⟨(ad601.add ((x6_1).toNat * 5)).block, (ad601.add ((x6_1).toNat * 5)).off + 2, none⟩ = some (.int .i64 ((rd_T29 l0 x6_1).f2.f0)) ∧ w'.cell? ⟨(ad601.add ((x6_1).toNat * 5)).block, (ad601.add ((x6_1).toNat * 5)).off + 3, none⟩ = some (.string ((rd_T29 l0 x6_1).f2.f1)) ∧ w'.cell? ⟨(ad601.add ((x6_1).toNat * 5)).block, (ad601.add ((x6_1).toNat * 5)).off + 4, none⟩ = some (.int .i64 ((rd_T29 l0 x6_1).f2.f2)) ∧ w'.cell? (ad601.add ((x6_1).toNat * 5)) = some (.int .i64 ((rd_T29 l0 x6_1).f0)) ∧ w'.cell? ⟨(ad601.add ((x6_1).toNat * 5)).block, (ad601.add ((x6_1).toNat * 5)).off + 1, none⟩ = some (.string ((rd_T29 l0 x6_1).f1)) ∧ w'.cell? ⟨(ad601.add ((x6_1).toNat * 5)).block, (ad601.add ((x6_1).toNat * 5)).off + 2, none⟩ = some (.int .i64 ((rd_T29 l0 x6_1).f2.f0)) ∧ w'.cell? ⟨(ad601.add ((x6_1).toNat * 5)).block, (ad601.add ((x6_1).toNat * 5)).off + 3, none⟩ = some (.string ((rd_T29 l0 x6_1).f2.f1)) ∧ w'.cell? ⟨(ad601.add ((x6_1).toNat * 5)).block, (ad601.add ((x6_1).toNat * 5)).off + 4, none⟩ = some (.int .i64 ((rd_T29 l0 x6_1).f2.f2))) (ds := []) #[false, false, false, false, false, false, false, false, false, false, false, false, false, false, false, false, false, false] (by kernel_rfl) rfl rfl ⟨(My.up HB hw611_0), (My.up HB hw611_1), (My.up HB hw611_2), (My.up HB hw611_3), (My.up HB hw611_4), (My.up HB hw612_0), (My.up HB hw612_1), (My.up HB hw612_2), (My.up HB hw612_3), (My.up HB hw612_4)⟩ (fun hHeld => ?_); refine with_tabW ententelaw07_opened.tab8 ententelaw07_opened.bits8 (fun HT_ HW_ => ?_)
   generalize w22.drew = w23 at HO_5 HO_601000 HO_601001 HO604 HO607 BK599 BK600 BK609 HB hx611_0 hx611_1 hx611_2 hx611_3 hx611_4 hx612_0 hx612_1 hx612_2 hx612_3 hx612_4 hHeld ⊢
   refine My.pu_ 0 34 18 HT_.out ?_
   refine My.pu_ 1 35 18 HT_.out ?_
   refine My.pu_ 2 36 18 HT_.out ?_
   refine My.pu_ 3 37 18 HT_.out ?_
   refine My.pu_ 4 38 18 HT_.out ?_
   refine My.pu_ 5 39 18 HT_.out ?_
   refine My.pv_ 7 41 18 191 HT_.out ?_
   refine My.pv_ 8 42 18 447 HT_.out ?_
   refine My.pv_ 9 43 18 959 HT_.out ?_
   refine My.pv_ 10 44 18 1983 HT_.out ?_
   refine My.pv_ 11 45 18 4031 HT_.out ?_
   refine My.tv_ 6 40 18 4095 HT_.out HW_.out hHeld rfl rfl (by rintro w' ⟨s0, s1, s2, s3, s4, s5, s6, s7, s8, s9⟩; go_simp; with_reducible rfl) ?_
   refine My.ta_ 12 46 18 HT_.out HW_.out hHeld rfl rfl (by rintro w' ⟨s0, s1, s2, s3, s4, s5, s6, s7, s8, s9⟩; go_simp; with_reducible rfl) ?_
   refine My.pu_ 13 47 18 HT_.out ?_
   refine My.pu_ 14 48 18 HT_.out ?_
   refine one_ (i := 15) (N := some 49) (My.Mb 18 65535) rfl rfl (one_of HT_.out (by kernel_rfl)) (by decide) (fun K hK => ?_)
   refine value_ (w1 := ?_) (v := ?_) (by rfl) rfl ?_ ?_
   rotate_left 2
   ·go_simp
    constructor
    ·rfl
    rfl
   refine hK.out _ _ ⟨(World.cell?_alloc_lt _ _ _ (World.block_lt_of_cell? _ _ ((My.up HB hw611_0)))).trans ((My.up HB hw611_0)), (World.cell?_alloc_lt _ _ _ (World.block_lt_of_cell? _ _ ((My.up HB hw611_1)))).trans ((My.up HB hw611_1)), (World.cell?_alloc_lt _ _ _ (World.block_lt_of_cell? _ _ ((My.up HB hw611_2)))).trans ((My.up HB hw611_2)), (World.cell?_alloc_lt _ _ _ (World.block_lt_of_cell? _ _ ((My.up HB hw611_3)))).trans ((My.up HB hw611_3)), (World.cell?_alloc_lt _ _ _ (World.block_lt_of_cell? _ _ ((My.up HB hw611_4)))).trans ((My.up HB hw611_4)), (World.cell?_alloc_lt _ _ _ (World.block_lt_of_cell? _ _ ((My.up HB hw612_0)))).trans ((My.up HB hw612_0)), (World.cell?_alloc_lt _ _ _ (World.block_lt_of_cell? _ _ ((My.up HB hw612_1)))).trans ((My.up HB hw612_1)), (World.cell?_alloc_lt _ _ _ (World.block_lt_of_cell? _ _ ((My.up HB hw612_2)))).trans ((My.up HB hw612_2)), (World.cell?_alloc_lt _ _ _ (World.block_lt_of_cell? _ _ ((My.up HB hw612_3)))).trans ((My.up HB hw612_3)), (World.cell?_alloc_lt _ _ _ (World.block_lt_of_cell? _ _ ((My.up HB hw612_4)))).trans ((My.up HB hw612_4))⟩ (fun hHeld => ?_)
   clear hK K
   refine My.nm 49 ?_
   refine one_ (i := 16) (N := some 50) (My.Mb 18 131071) rfl rfl (one_of HT_.out (by kernel_rfl)) (by decide) (fun K hK => ?_)
   refine Kd.R_append_step k51 (w0 := w) w.heap.size (by rfl) (.tmp 34) (.tmp 49) 22 51 (.agg #[(.string ⟨#[]⟩), (.int .i64 0), (.int .i64 0), (.int .i64 0), (.int .i64 0), (.int .i64 0), (.int .i64 0)]) 64 rfl Try.underlying22 info51 rfl (by decide) (by omega) u5 x5_1 (⟨(rd_T29 l0 x6_1).f2.f1, (⟨(rd_T29 l0 x6_1).f2.f2, 0, 0⟩ : S49), (⟨0, 0, 0⟩ : S49)⟩ : S51) [.string ((rd_T29 l0 x6_1).f2.f1), .int .i64 ((rd_T29 l0 x6_1).f2.f2), .int .i64 0, .int .i64 0, .int .i64 0, .int .i64 0, .int .i64 0] (fun k_ => (w.heap.size ≤ k_)) (fun _ => False) rfl rfl ?aP (fun _ hk => hk.elim) ?aF ?aO ?aB ?aS ?aL ?_
   (case aP => exact k51_mkM _ _ _ (⟨(rd_T29 l0 x6_1).f2.f1, (⟨(rd_T29 l0 x6_1).f2.f2, 0, 0⟩ : S49), (⟨0, 0, 0⟩ : S49)⟩ : S51))
   (case aB => exact (My.bl_ HB))
   (case aF => exact (fun k_ hk => (Nat.le_trans (below_size (My.bl_ HB)) hk)))
   (case aO => exact (My.dr HO_5.out))
   (case aS => exact (below_size (My.bl_ HB)))
   (case aL => have := LMc11.out; omega)
   intro v614 w24 ho hb hg hat
   rw [← Ny613.out] at ho
   replace HO_601000 := My.am (Kd.V_afterv (ok := (fun k_ => (w.heap.size ≤ k_) ∧ k_ ≠ gb599 ∧ k_ ≠ gb600 ∧ k_ ≠ gb609)) (My.dV (Kd.V_mono HO_601000.out (fun _ hk => ⟨⟨hk.1, ⟨hk.2.2.1, ⟨hk.2.2.2.1, hk.2.2.2.2⟩⟩⟩, hk.2.1⟩))) hg hat)
   replace HO_601001 := My.am (Kd.V_afterv (ok := (fun k_ => (w.heap.size ≤ k_) ∧ k_ ≠ gb599 ∧ k_ ≠ gb600 ∧ k_ ≠ gb609)) (My.dV (Kd.V_mono HO_601001.out (fun _ hk => ⟨⟨hk.1, ⟨hk.2.2.1, ⟨hk.2.2.2.1, hk.2.2.2.2⟩⟩⟩, hk.2.1⟩))) hg hat)
   replace BK599 := My.am (blk_grown (My.at_ BK599) hg (Kd.R_ne HO_5.out BK599.out (by decide)))
   replace BK600 := My.am (blk_grown (My.at_ BK600) hg (Kd.R_ne HO_5.out BK600.out (by decide)))
   replace HO604 := My.am (Kd.V_afterv (ok := (fun k_ => (w.heap.size ≤ k_) ∧ k_ ≠ gb599 ∧ k_ ≠ gb600 ∧ k_ ≠ gb609)) (My.dV (Kd.V_mono HO604.out (fun _ hk => ⟨⟨hk.1, ⟨hk.2.2.1, ⟨hk.2.2.2.1, hk.2.2.2.2⟩⟩⟩, hk.2.1⟩))) hg hat)
   replace HO607 := My.am (Kd.V_afterv (ok := (fun k_ => (w.heap.size ≤ k_) ∧ k_ ≠ gb599 ∧ k_ ≠ gb600 ∧ k_ ≠ gb609)) (My.dV (Kd.V_mono HO607.out (fun _ hk => ⟨⟨hk.1, ⟨hk.2.2.1, ⟨hk.2.2.2.1, hk.2.2.2.2⟩⟩⟩, hk.2.1⟩))) hg hat)
   replace BK609 := My.am (blk_grown (My.at_ BK609) hg (Kd.R_ne HO_5.out BK609.out (by decide)))
   replace HB := My.am (hb)
   have HO615 := My.am (ho)
   (try clear HO_5)
   clear ho hb hg hat
   refine hK.out _ _ ⟨(My.up HB hw611_0), (My.up HB hw611_1), (My.up HB hw611_2), (My.up HB hw611_3), (My.up HB hw611_4), (My.up HB hw612_0), (My.up HB hw612_1), (My.up HB hw612_2), (My.up HB hw612_3), (My.up HB hw612_4)⟩ (fun hHeld => ?_)
   clear hK K
   refine My.nm 50 ?_
   refine My.pu_ 17 5 18 HT_.out ?_
   refine done_ (done_of HT_.out (by kernel_rfl)) ?_
   have hnb25 := NB609_599.out
   have hnc25 := NB599_609.out
   have hnb26 := NB609_600.out
   have hnc26 := NB600_609.out
   have hq27 := My.cz2 BK609
   have hnb28 := NB600_599.out
   have hnc28 := NB599_600.out
   have hq29 := My.cz2 BK600
   try go_wp2
   go_roundg k1
   case measure => have := HK1.out; omega
   case rel => exact ⟨(y613), (wrap64 (x6_1 + 1)), (t602), (t605), (.slice Ao18 t602.length co18), (.slice Ao20 t605.length co20), My.r1, H', ⟨by have := HK1.out; omega⟩, ⟨My.dR (Kd.R_mono (Kd.R_far (p := ⟨gb600, 1, none⟩) (Kd.R_far (p := ⟨gb600, 0, none⟩) (Kd.R_types HO615.out BK600.out (by decide)) (fun _ hk => hk.2) (.slice Ao18 t602.length co18)) (fun _ hk => hk.2) (.slice Ao20 t605.length co20)) (fun _ hk => hk.1))⟩, ⟨My.dV (Kd.V_mono (Kd.V_far (p := ⟨gb600, 1, none⟩) (Kd.V_far (p := ⟨gb600, 0, none⟩) (Kd.V_mono HO604.out (fun k_ hk => (⟨hk, hk.1.2.2.1⟩ : _ ∧ k_ ≠ gb600))) (fun _ hk => hk.2) (.slice Ao18 t602.length co18)) (fun _ hk => hk.2) (.slice Ao20 t605.length co20)) (fun _ hk => ⟨hk.1.1.1, ⟨hk.1.2, ⟨hk.1.1.2.1, hk.1.1.2.2.1⟩⟩⟩))⟩, ⟨My.dV (Kd.V_mono (Kd.V_far (p := ⟨gb600, 1, none⟩) (Kd.V_far (p := ⟨gb600, 0, none⟩) (Kd.V_mono HO607.out (fun k_ hk => (⟨hk, hk.1.2.2.1⟩ : _ ∧ k_ ≠ gb600))) (fun _ hk => hk.2) (.slice Ao18 t602.length co18)) (fun _ hk => hk.2) (.slice Ao20 t605.length co20)) (fun _ hk => ⟨hk.1.1.1, ⟨hk.1.2, ⟨hk.1.1.2.1, hk.1.1.2.2.1⟩⟩⟩))⟩, ⟨(My.sv_ BK599)⟩, ⟨(My.sv_ BK600)⟩, ⟨(My.bl_ HB)⟩⟩
end Go.Proofs.Ytikanbdhpafbiaa.PO
