-- Written by a program of this session (wip/tools/mp.py over the kit's printer); Lean checks it.
import Derived.Test.YtcgmoeiknkdljaaPAx0
import Derived.Test.YtcgmoeiknkdljaaPAx1
import Derived.Test.YtcgmoeiknkdljaaPAx7
import Derived.Test.YtcgmoeiknkdljaaPAx8
import Derived.Test.YtcgmoeiknkdljaaPAx9
import Derived.Test.YtcgmoeiknkdljaaPAx15
import Derived.Test.YtcgmoeiknkdljaaPAx16
import Derived.Test.YtcgmoeiknkdljaaPAx17
namespace Go.Proofs.Ytcgmoeiknkdljaa.PA
open Go.RowKit Go.Proofs.YtcgmoeiknkdljaaW.PrintWords Go.Proofs.YtcgmoeiknkdljaaW.PrintLast Go.Proofs.YtcgmoeiknkdljaaW.PrintMore
attribute [local go_sem] max2_int min2_int max_two min_two max_three min_three max_four min_four   -- for this text's walks alone
set_option linter.unusedVariables false
set_option maxHeartbeats 8000000
set_option maxRecDepth 100000
set_option linter.unusedSimpArgs false

/-! ### ententelaw19_OutboxPushes: function 3 -/
def ententelaw19_OutboxPushes.l0 : Nat → List (S46) → List (S37) → List (S46) → Int → List (S46) → Int → Int → Option (Bool)
 | 0, _, _, _, _, _, _, _ => none
 | k + 1, x0, x2, x7, x8, x9, x10, x11 => if x11 < (x2.length : Int) then (if 0 ≤ x11 then ((outbox_Has.f k x0 ((rd_T37 x2 x11).f0) ((rd_T37 x2 x11).f1.f0) ((rd_T37 x2 x11).f1.f1) ((rd_T37 x2 x11).f1.f2) ((rd_T37 x2 x11).f2) ((rd_T37 x2 x11).f3)).bind fun t341 => ((ententeref19_Has.f k x0 ((rd_T37 x2 x11).f0) ((rd_T37 x2 x11).f1.f0) ((rd_T37 x2 x11).f1.f1) ((rd_T37 x2 x11).f1.f2) ((rd_T37 x2 x11).f2) ((rd_T37 x2 x11).f3)).bind fun t343 => (if (t341 != t343) = true then (some false) else (ententelaw19_OutboxPushes.l0 k x0 x2 x7 x8 x9 x10 (wrap64 (x11 + 1)))))) else (none)) else ((outbox_May.f k x0).bind fun t344 => ((ententeref19_May.f k x0).bind fun t345 => (if t344 = t345 then ((ententeref19_Same.f k x7 x9).bind fun t346 => (if t346 = true then (if x8 = x10 then ((ententelaw19_awake.f k).bind fun t347 => (some t347)) else (some false)) else (some false))) else (some false))))
def ententelaw19_OutboxPushes.f (k : Nat) (l0 : List (S46)) (a1_0 : Int) (a1_1 : Int) (l2 : List (S37)) : Option (Bool) := (ententelaw19_few.f k l0 l2).bind fun t330 => (if t330 = true then ((outbox_Push.f k l0 a1_0 a1_1 l2).bind fun bt332 => ((ententeref19_Push.f k l0 a1_0 a1_1 l2).bind fun bt336 => (ententelaw19_OutboxPushes.l0 k l0 l2 bt332.1 bt332.2 bt336.1 bt336.2 0))) else ((ententelaw19_awake.f k).bind fun t331 => (some t331)))
theorem ententelaw19_OutboxPushes.mono_l : ∀ k, (∀ y0 y1 y2 y3 y4 y5 y6, LeO (ententelaw19_OutboxPushes.l0 k y0 y1 y2 y3 y4 y5 y6) (ententelaw19_OutboxPushes.l0 (k + 1) y0 y1 y2 y3 y4 y5 y6))
 | 0 => fun _ _ _ _ _ _ _ r h => by simp [ententelaw19_OutboxPushes.l0] at h
 | k + 1 => by
  have ih0 := ententelaw19_OutboxPushes.mono_l k
  intro y0 y1 y2 y3 y4 y5 y6
  unfold ententelaw19_OutboxPushes.l0
  repeat' (with_reducible first | exact ih0 _ _ _ _ _ _ _ | exact ententelaw19_awake.mono _ | exact ententelaw19_few.mono _ _ _ | exact ententeref19_Has.mono _ _ _ _ _ _ _ _ | exact ententeref19_May.mono _ _ | exact ententeref19_Push.mono _ _ _ _ _ | exact ententeref19_Same.mono _ _ _ | exact outbox_Has.mono _ _ _ _ _ _ _ _ | exact outbox_May.mono _ _ | exact outbox_Push.mono _ _ _ _ _ | exact LeO.refl _ | exact LeO.none _ | apply LeO.ite | refine LeO.bind ?_ (fun _ => ?_))
theorem ententelaw19_OutboxPushes.mono : ∀ a0 a1 a2 a3 k, LeO (ententelaw19_OutboxPushes.f k a0 a1 a2 a3) (ententelaw19_OutboxPushes.f (k + 1) a0 a1 a2 a3) := by
 intro a0 a1 a2 a3 k
 have ih0 := ententelaw19_OutboxPushes.mono_l k
 unfold ententelaw19_OutboxPushes.f
 repeat' (with_reducible first | exact ih0 _ _ _ _ _ _ _ | exact ententelaw19_awake.mono _ | exact ententelaw19_few.mono _ _ _ | exact ententeref19_Has.mono _ _ _ _ _ _ _ _ | exact ententeref19_May.mono _ _ | exact ententeref19_Push.mono _ _ _ _ _ | exact ententeref19_Same.mono _ _ _ | exact outbox_Has.mono _ _ _ _ _ _ _ _ | exact outbox_May.mono _ _ | exact outbox_Push.mono _ _ _ _ _ | exact LeO.refl _ | exact LeO.none _ | apply LeO.ite | refine LeO.bind ?_ (fun _ => ?_))
def ententelaw19_OutboxPushes.T8 : Bool × List (List Nat × List Nat) := (true, [([], []), ([], []), ([], []), ([1, 2], [1, 2]), ([3], [3]), ([0, 4], [0, 4]), ([], []), ([], []), ([], []), ([7, 8], [7, 8]), ([9], [9]), ([6, 10, 5], [6, 10]), ([5, 11], [5, 11])])
def ententelaw19_OutboxPushes.B8 : List Nat := [0, 0, 0, 6, 14, 31, 0, 0, 0, 384, 896, 2047, 4095]
theorem ententelaw19_OutboxPushes.tab8 : rtab .any (opsOf Try.f3 8) = ententelaw19_OutboxPushes.T8 := by kernel_rfl
theorem ententelaw19_OutboxPushes.bits8 : waitsOk ententelaw19_OutboxPushes.T8.2 ententelaw19_OutboxPushes.B8 = true := by kernel_rfl
theorem ententelaw19_OutboxPushes.calls (k : Nat) (A0 : Option Addr) (c0 : Nat) (l0 : List (S46)) (a1_0 : Int) (a1_1 : Int) (A2 : Option Addr) (c2 : Nat) (l2 : List (S37)) (r : Bool) (w : World) (hr0 : Kd.C k46 w A0 l0.length l0) (hc0 : l0.length ≤ c0) (hr2 : Kd.C k37 w A2 l2.length l2) (hc2 : l2.length ≤ c2) (ht : r = true) (h : ententelaw19_OutboxPushes.f k l0 a1_0 a1_1 l2 = some r) :
  Calls Try.prog 3 #[.slice A0 l0.length c0, .agg #[.int .i64 a1_0, .int .i64 a1_1], .slice A2 l2.length c2] w fun e w' => e = .returned (.bool r) ∧ Below w.heap.size w w' := by
 have hu23 := Try.underlying23
 have hu37 := Try.underlying37
 have HR0 := My.am hr0
 have HC0 := My.am hc0
 clear hr0 hc0
 have HR2 := My.am hr2
 have HC2 := My.am hc2
 clear hr2 hc2
 have HB := My.am (Below.refl w.heap.size w)
 have HT := My.am ht
 clear ht
 unfold ententelaw19_OutboxPushes.f at h
 have H := h
 clear h
 replace H := Option.bind_eq_some_iff.mp H
 obtain ⟨t330, A40, H⟩ := H
 try dsimp only at H
 have A4 := My.am A40
 clear A40
 by_cases c5 : t330 = true
 ·subst c5
  rw [if_pos rfl] at H
  replace H := Option.bind_eq_some_iff.mp H
  obtain ⟨⟨t332, t333⟩, A60, H⟩ := H
  try dsimp only at H
  have A6 := My.am A60
  clear A60
  replace H := Option.bind_eq_some_iff.mp H
  obtain ⟨⟨t336, t339⟩, A70, H⟩ := H
  try dsimp only at H
  have A7 := My.am A70
  clear A70
  have H' := My.am H
  clear H
  go_enter Try.func3, Try.ntmps3
  go_wp2_with (first | ((with_reducible refine gate_dst (N := 4) rfl ?_); refine My.bx 4 #[.int .i64 a1_0, .int .i64 a1_1] 23 ?_; intro gb329 hg w8 hbox hb; have BK329 := My.am (hbox); have GW329 := My.nge hg (My.bl_ HB); have GE329 := GW329; replace HB := My.st HB hb; clear hb hbox hg) | ((with_reducible refine gate_callee (f := 7) rfl ?_); refine goesL_ (some 14) rfl rfl Try.func7 (by kernel_rfl) rfl #[.slice A0 l0.length c0, .slice A2 l2.length c2] rfl My.gx ?_; (with_reducible refine (ententelaw19_few.calls k _ _ l0 _ _ l2 true _ ?side1 ?side2 ?side3 ?side4 A4.out).mono ?_); (case side1 => exact My.sd_ HR0 HB); (case side2 => exact HC0.out); (case side3 => exact My.sd_ HR2 HB); (case side4 => exact HC2.out); rintro e w' ⟨rfl, ⟨nd, rfl⟩⟩; refine ⟨_, rfl, ?_⟩; have hq9 := My.cz2 BK329) | ((with_reducible refine gate_callee (f := 9) rfl ?_); refine goesL_ (some 24) rfl rfl Try.func9 (by kernel_rfl) rfl #[.slice A0 l0.length c0, .int .i64 a1_0, .int .i64 a1_1, .slice A2 l2.length c2] rfl My.gx ?_; (with_reducible refine (outbox_Push.calls k _ _ l0 a1_0 a1_1 _ _ l2 t332 t333 _ ?side1 ?side2 ?side3 ?side4 A6.out).mono ?_); (case side1 => repeat (first | exact (Kd.C_below HR0.out (My.bl_ HB)) | (with_reducible refine Kd.C_alloc ?_ _) | (with_reducible refine Kd.C_drewN ?_ _) | (with_reducible refine Kd.C_drew ?_))); (case side2 => exact HC0.out); (case side3 => repeat (first | exact (Kd.C_below HR2.out (My.bl_ HB)) | (with_reducible refine Kd.C_alloc ?_ _) | (with_reducible refine Kd.C_drewN ?_ _) | (with_reducible refine Kd.C_drew ?_))); (case side4 => exact HC2.out); rintro e w10 ⟨v334, rfl, ho0, hb⟩; refine ⟨_, rfl, ?_⟩; have HO335 := My.am (Kd.N_lower (Kd.N_mono (ok' := fun k_ => k_ ≠ gb329) (Kd.R_N (Kd.R_bound ho0)) (fun k_ hk_ => (Kd.freshB (My.at_ BK329) k_ hk_.2.1))) (below_size (My.bl_ HB))); replace BK329 := My.ab BK329 hb; replace HB := My.st HB hb; (try clear hb); (try clear ho0); have hq11 := My.cz2 BK329) | ((with_reducible refine gate_callee (f := 10) rfl ?_); refine goesL_ (some 34) rfl rfl Try.func10 (by kernel_rfl) rfl #[.slice A0 l0.length c0, .int .i64 a1_0, .int .i64 a1_1, .slice A2 l2.length c2] rfl My.gx ?_; (with_reducible refine (ententeref19_Push.calls k (fun k_ => k_ < w.heap.size) _ _ l0 a1_0 a1_1 (fun k_ => k_ < w.heap.size) _ _ l2 t336 t339 _ ?side1 ?side2 A7.out).mono ?_); (case side1 => exact Kd.V_mk HC0.out (Kd.F_below (Kd.C_F k46_heap HR0.out) (My.bl_ HB))); (case side2 => exact Kd.V_mk HC2.out (Kd.F_below (Kd.C_F k37_heap HR2.out) (My.bl_ HB))); rintro e w12 ⟨v337, rfl, ho0, hb⟩; refine ⟨_, rfl, ?_⟩; have HO338 := My.am (Kd.N_lower (Kd.N_mono (ok' := fun k_ => some k_ ≠ (v334 : Value).ownBlock ∧ k_ ≠ gb329) ho0 (fun k_ hk_ => ⟨Or.elim hk_ (fun hs_ => Or.elim hs_ (fun hs_ => fun e_ => Nat.not_le.2 hs_ (Kd.N_base HO335.out k_ e_.symm)) (fun hs_ => fun e_ => Nat.not_le.2 hs_ (Kd.N_base HO335.out k_ e_.symm))) (fun hn_ => (Kd.fresh' (Kd.N_lt (by (with_reducible repeat (first | apply Kd.N_alloc | apply Kd.N_drewN | apply Kd.N_drew)); exact HO335.out)) k_ hn_)), Or.elim hk_ (fun hs_ => Or.elim hs_ (fun hs_ => fun e_ => Nat.not_le.2 hs_ (by rw [e_]; exact GW329.out)) (fun hs_ => fun e_ => Nat.not_le.2 hs_ (by rw [e_]; exact GW329.out))) (fun hn_ => (Kd.freshB (My.at_ BK329) k_ hn_))⟩)) (below_size (My.bl_ HB))); replace HO335 := My.am (Kd.N_elder' (by (with_reducible repeat (first | apply Kd.N_alloc | apply Kd.N_drewN | apply Kd.N_drew)); exact HO335.out) (Kd.N_base ho0) hb); replace BK329 := My.ab BK329 hb; replace HB := My.st HB hb; (try clear hb); (try clear ho0)))
  go_loopg [11] k (fun kq v11 w' => ∃ (x11_1 : Int), v11 = .int .i64 x11_1 ∧ Aside0 (ententelaw19_OutboxPushes.l0 kq l0 l2 t332 t333 t336 t339 x11_1 = some r) ∧ Aside0 (kq ≤ k) ∧ Aside0 (Kd.N k46 46 w' w.heap.size (fun k_ => some k_ ≠ (v337 : Value).ownBlock ∧ k_ ≠ gb329) v334 t332) ∧ Aside0 (Kd.N k46 46 w' w.heap.size (fun k_ => some k_ ≠ (v334 : Value).ownBlock ∧ k_ ≠ gb329) v337 t336) ∧ Aside0 (w'.heap[gb329]? = some (.cells #[.int .i64 a1_0, .int .i64 a1_1] 23 (0, 0))) ∧ Aside0 (Below w.heap.size w w'))
  case atStart => exact ⟨(0), My.r1, H', ⟨Nat.le_refl _⟩, ⟨by (with_reducible repeat (first | apply Kd.N_alloc | apply Kd.N_drewN | apply Kd.N_drew)); exact Kd.N_mono HO335.out (fun _ hk => ⟨hk.2, hk.1⟩)⟩, ⟨by (with_reducible repeat (first | apply Kd.N_alloc | apply Kd.N_drewN | apply Kd.N_drew)); exact HO338.out⟩, ⟨(My.at_ BK329)⟩, ⟨(My.bl_ HB)⟩⟩
  case round =>
   clear H'
   try clear c2
   try clear c5
   try clear hq11
   try clear hq9
   obtain ⟨x11_1, rfl, HA, HK1, HO_7, HO_9, BK329, HB⟩ := hrel
   cases gk with
   | zero => exact absurd HA.out (by simp [ententelaw19_OutboxPushes.l0])
   | succ k1 =>
    have H := HA.out
    clear HA
    simp only [ententelaw19_OutboxPushes.l0] at H
    by_cases c13 : x11_1 < (l2.length : Int)
    rotate_left
    ·rw [if_neg c13] at H
     have c13b0 := decide_eq_false c13
     clear c13
     replace H := Option.bind_eq_some_iff.mp H
     obtain ⟨t344, A210, H⟩ := H
     try dsimp only at H
     have A21 := My.am A210
     clear A210
     replace H := Option.bind_eq_some_iff.mp H
     obtain ⟨t345, A220, H⟩ := H
     try dsimp only at H
     have A22 := My.am A220
     clear A220
     by_cases c23 : t344 = t345
     rotate_left
     ·rw [if_neg c23] at H
      have c23b0 : (t344 == t345) = false := beq_eq_false_iff_ne.mpr c23
      have c23b1 : (t344 != t345) = true := bne_iff_ne.mpr c23
      exact absurd ((Option.some.inj H).trans HT.out) Bool.false_ne_true
     rw [if_pos c23] at H
     have c23b0 : (t344 == t345) = true := beq_iff_eq.mpr c23
     have c23b1 : (t344 != t345) = false := bne_eq_false_iff_eq.mpr c23
     clear c23
     replace H := Option.bind_eq_some_iff.mp H
     obtain ⟨t346, A240, H⟩ := H
     try dsimp only at H
     have A24 := My.am A240
     clear A240
     by_cases c25 : t346 = true
     ·subst c25
      rw [if_pos rfl] at H
      by_cases c26 : t333 = t339
      ·rw [if_pos c26] at H
       have c26b0 : (t333 == t339) = true := beq_iff_eq.mpr c26
       have c26b1 : (t333 != t339) = false := bne_eq_false_iff_eq.mpr c26
       clear c26
       replace H := Option.bind_eq_some_iff.mp H
       obtain ⟨t347, A270, H⟩ := H
       try dsimp only at H
       have A27 := My.am A270
       clear A270
       obtain rfl := Option.some.inj H
       go_wp2_with (first | ((with_reducible refine gate_callee (f := 13) rfl ?_); refine goesL_ (some 57) rfl rfl Try.func13 (by kernel_rfl) rfl #[.slice A0 l0.length c0] rfl My.gx ?_; (with_reducible refine (outbox_May.calls k1 _ _ l0 t344 _ ?side1 ?side2 A21.out).mono ?_); (case side1 => exact My.sd_ HR0 HB); (case side2 => exact HC0.out); rintro e w28 ⟨rfl, hb⟩; refine ⟨_, rfl, ?_⟩; replace HO_7 := My.am (Kd.N_below (by (with_reducible repeat (first | apply Kd.N_alloc | apply Kd.N_drewN | apply Kd.N_drew)); exact HO_7.out) hb); replace HO_9 := My.am (Kd.N_below (by (with_reducible repeat (first | apply Kd.N_alloc | apply Kd.N_drewN | apply Kd.N_drew)); exact HO_9.out) hb); replace HB := My.st HB hb; (try clear hb)) | ((with_reducible refine gate_callee (f := 14) rfl ?_); refine goesL_ (some 59) rfl rfl Try.func14 (by kernel_rfl) rfl #[.slice A0 l0.length c0] rfl My.gx ?_; (with_reducible refine (ententeref19_May.calls k1 _ _ l0 t345 _ ?side1 ?side2 A22.out).mono ?_); (case side1 => exact My.sd_ HR0 HB); (case side2 => exact HC0.out); rintro e w29 ⟨rfl, hb⟩; refine ⟨_, rfl, ?_⟩; replace HO_7 := My.am (Kd.N_below (by (with_reducible repeat (first | apply Kd.N_alloc | apply Kd.N_drewN | apply Kd.N_drew)); exact HO_7.out) hb); replace HO_9 := My.am (Kd.N_below (by (with_reducible repeat (first | apply Kd.N_alloc | apply Kd.N_drewN | apply Kd.N_drew)); exact HO_9.out) hb); replace HB := My.st HB hb; (try clear hb); obtain ⟨Ao30, co30, eo30⟩ := Kd.N_slice HO_7.out; subst eo30; obtain ⟨Ao31, co31, eo31⟩ := Kd.N_slice HO_9.out; subst eo31) | (go_at_call 15; (with_reducible refine (ententeref19_Same.calls k1 _ _ t332 _ _ t336 true _ ?side1 ?side2 ?side3 ?side4 A24.out).mono ?_); (case side1 => repeat (first | exact (Kd.N_reads' HO_7.out).2.2 | (with_reducible refine Kd.C_alloc ?_ _) | (with_reducible refine Kd.C_drewN ?_ _) | (with_reducible refine Kd.C_drew ?_))); (case side2 => exact (Kd.N_reads' HO_7.out).2.1); (case side3 => repeat (first | exact (Kd.N_reads' HO_9.out).2.2 | (with_reducible refine Kd.C_alloc ?_ _) | (with_reducible refine Kd.C_drewN ?_ _) | (with_reducible refine Kd.C_drew ?_))); (case side4 => exact (Kd.N_reads' HO_9.out).2.1); rintro e w32 ⟨rfl, hb⟩; replace HB := My.st HB hb; (try clear hb)) | (go_at_call 8; (with_reducible refine (ententelaw19_awake.calls k1  t347 _ A27.out).mono ?_); rintro e w33 ⟨rfl, hb⟩; replace HB := My.st HB hb; (try clear hb)))
       go_ret
       exact ⟨My.r2, (My.bl_ HB)⟩
      rw [if_neg c26] at H
      have c26b0 : (t333 == t339) = false := beq_eq_false_iff_ne.mpr c26
      have c26b1 : (t333 != t339) = true := bne_iff_ne.mpr c26
      exact absurd ((Option.some.inj H).trans HT.out) Bool.false_ne_true
     replace c25 := Bool.eq_false_iff.mpr c25
     subst c25
     rw [if_neg (show ¬ (false = true) by decide)] at H
     exact absurd ((Option.some.inj H).trans HT.out) Bool.false_ne_true
    rw [if_pos c13] at H
    have c13b0 := decide_eq_true c13
    clear c13
    replace H := My.ds H
    obtain ⟨c14b0, H⟩ := H
    replace H := Option.bind_eq_some_iff.mp H
    obtain ⟨t341, A150, H⟩ := H
    try dsimp only at H
    have A15 := My.am A150
    clear A150
    replace H := Option.bind_eq_some_iff.mp H
    obtain ⟨t343, A160, H⟩ := H
    try dsimp only at H
    have A16 := My.am A160
    clear A160
    by_cases c17 : (t341 != t343) = true
    ·rw [if_pos c17] at H
     have c17b0 : (t341 != t343) = true := c17
     (try (have c17b1 : decide (t341 = t343) = false := by simpa using c17))
     (try (have c17b2 : (t341 == t343) = false := by simpa using c17))
     (try (have c17b3 : ¬ (t341 = t343) := by simpa using c17))
     clear c17
     exact absurd ((Option.some.inj H).trans HT.out) Bool.false_ne_true
    rw [if_neg c17] at H
    have c17b0 : (t341 != t343) = false := by simpa using c17
    (try (have c17b1 : decide (t341 = t343) = true := by simpa using c17))
    (try (have c17b2 : (t341 == t343) = true := by simpa using c17))
    clear c17
    have H' := My.am H
    clear H
    try go_wp2
    replace HO_7 := My.am (Kd.N_drew HO_7.out)
    replace HO_9 := My.am (Kd.N_drew HO_9.out)
    replace BK329 := My.am (blk_drew BK329.out)
    replace HB := My.am (below_drew1 HB.out)
    have p340 : 0 ≤ (x11_1 : Int) := My.as_
    have q340 : x11_1 < (l2.length : Int) := My.as_
    obtain ⟨ad340, A340_3, c340_3, e340, hx340_0, hx340_1, hx340_2, hx340_3, hx340_4, hx340_5, hl340_3, hi340_3⟩ := at_T37 HR2.out x11_1 p340 q340
    have hw340_5 := hx340_5
    have hw340_4 := hx340_4
    have hw340_3 := hx340_3
    have hw340_2 := hx340_2
    have hw340_1 := hx340_1
    have hw340_0 := hx340_0
    cases e340
    replace hx340_0 := My.up HB hx340_0
    replace hx340_1 := My.up HB hx340_1
    replace hx340_2 := My.up HB hx340_2
    replace hx340_3 := My.up HB hx340_3
    replace hx340_4 := My.up HB hx340_4
    replace hx340_5 := My.up HB hx340_5
    have HR340_3 := My.am hi340_3
    have HC340_3 := My.am hl340_3
    clear hi340_3 hl340_3
    replace p340 := eq_true p340
    replace q340 := eq_true q340
    have p342 : 0 ≤ (x11_1 : Int) := My.as_
    have q342 : x11_1 < (l2.length : Int) := My.as_
    obtain ⟨ad342, A342_3, c342_3, e342, hx342_0, hx342_1, hx342_2, hx342_3, hx342_4, hx342_5, hl342_3, hi342_3⟩ := at_T37 HR2.out x11_1 p342 q342
    have hw342_5 := hx342_5
    have hw342_4 := hx342_4
    have hw342_3 := hx342_3
    have hw342_2 := hx342_2
    have hw342_1 := hx342_1
    have hw342_0 := hx342_0
    obtain rfl : ad340 = ad342 := (by injection e342)
    replace hx342_0 := My.up HB hx342_0
    replace hx342_1 := My.up HB hx342_1
    replace hx342_2 := My.up HB hx342_2
    replace hx342_3 := My.up HB hx342_3
    replace hx342_4 := My.up HB hx342_4
    replace hx342_5 := My.up HB hx342_5
    have HR342_3 := My.am hi342_3
    have HC342_3 := My.am hl342_3
    clear hi342_3 hl342_3
    replace p342 := eq_true p342
    replace q342 := eq_true q342
    have ea_ := Option.some.inj (hx340_3.symm.trans hx342_3)
    injection ea_ with ea_ en_ ec_
    subst ea_
    subst ec_
    clear en_
    refine start_ (n := 13) (S := fun w' => w'.cell? (ad340.add ((x11_1).toNat * 6)) = some (.int .i64 ((rd_T37 l2 x11_1).f0)) ∧ w'.cell? ⟨(ad340.add ((x11_1).toNat * 6)).block, (ad340.add ((x11_1).toNat * 6)).off + 1, none⟩ = some (.int .i64 ((rd_T37 l2 x11_1).f1.f0)) ∧ w'.cell? ⟨(ad340.add ((x11_1).toNat * 6)).block, (ad340.add ((x11_1).toNat * 6)).off + 2, none⟩ = some (.int .i64 ((rd_T37 l2 x11_1).f1.f1)) ∧ w'.cell? ⟨(ad340.add ((x11_1).toNat * 6)).block, (ad340.add ((x11_1).toNat * 6)).off + 3, none⟩ = some (.slice A340_3 ((rd_T37 l2 x11_1).f1.f2).length c340_3) ∧ w'.cell? ⟨(ad340.add ((x11_1).toNat * 6)).block, (ad340.add ((x11_1).toNat * 6)).off + 4, none⟩ = some (.string ((rd_T37 l2 x11_1).f2)) ∧ w'.cell? ⟨(ad340.add ((x11_1).toNat * 6)).block, (ad340.add ((x11_1).toNat * 6)).off + 5, none⟩ = some (.int .i64 ((rd_T37 l2 x11_1).f3)) ∧ w'.cell? (ad340.add ((x11_1).toNat * 6)) = some (.int .i64 ((rd_T37 l2 x11_1).f0)) ∧ w'.cell? ⟨(ad340.add ((x11_1).toNat * 6)).block, (ad340.add ((x11_1).toNat * 6)).off + 1, none⟩ = some (.int .i64 ((rd_T37 l2 x11_1).f1.f0)) ∧ w'.cell? ⟨(ad340.add ((x11_1).toNat * 6)).block, (ad340.add ((x11_1).toNat * 6)).off + 2, none⟩ = some (.int .i64 ((rd_T37 l2 x11_1).f1.f1)) ∧ w'.cell? ⟨(ad340.add ((x11_1).toNat * 6)).block, (ad340.add ((x11_1).toNat * 6)).off + 3, none⟩ = some (.slice A340_3 ((rd_T37 l2 x11_1).f1.f2).length c340_3) ∧ w'.cell? ⟨(ad340.add ((x11_1).toNat * 6)).block, (ad340.add ((x11_1).toNat * 6)).off + 4, none⟩ = some (.string ((rd_T37 l2 x11_1).f2)) ∧ w'.cell? ⟨(ad340.add ((x11_1).toNat * 6)).block, (ad340.add ((x11_1).toNat * 6)).off + 5, none⟩ = some (.int .i64 ((rd_T37 l2 x11_1).f3))) (ds := []) #[false, false, false, false, false, false, false, false, false, false, false, false, false] (by kernel_rfl) rfl rfl ⟨(My.up HB hw340_0), (My.up HB hw340_1), (My.up HB hw340_2), (My.up HB hw340_3), (My.up HB hw340_4), (My.up HB hw340_5), (My.up HB hw342_0), (My.up HB hw342_1), (My.up HB hw342_2), (My.up HB hw342_3), (My.up HB hw342_4), (My.up HB hw342_5)⟩ (fun hHeld => ?_); refine with_tabW ententelaw19_OutboxPushes.tab8 ententelaw19_OutboxPushes.bits8 (fun HT_ HW_ => ?_)
    generalize wr.drew = w18 at HO_7 HO_9 BK329 HB HR340_3 HR342_3 hx340_0 hx340_1 hx340_2 hx340_3 hx340_4 hx340_5 hx342_0 hx342_1 hx342_2 hx342_3 hx342_4 hx342_5 hHeld ⊢
    refine My.pu_ 0 43 13 HT_.out ?_
    refine My.pu_ 1 44 13 HT_.out ?_
    refine My.pu_ 2 45 13 HT_.out ?_
    refine My.pu_ 3 46 13 HT_.out ?_
    refine My.pv_ 6 49 13 79 HT_.out ?_
    refine My.pv_ 7 50 13 207 HT_.out ?_
    refine My.pv_ 8 51 13 463 HT_.out ?_
    refine My.pv_ 9 52 13 975 HT_.out ?_
    refine My.tv_ 4 47 13 991 HT_.out HW_.out hHeld rfl rfl (by rintro w' ⟨s0, s1, s2, s3, s4, s5, s6, s7, s8, s9, s10, s11⟩; go_simp; with_reducible rfl) ?_
    refine My.tv_ 10 53 13 2015 HT_.out HW_.out hHeld rfl rfl (by rintro w' ⟨s0, s1, s2, s3, s4, s5, s6, s7, s8, s9, s10, s11⟩; go_simp; with_reducible rfl) ?_
    refine one_ (i := 5) (N := some 48) (My.Mb 13 2047) rfl rfl (one_of HT_.out (by kernel_rfl)) (by decide) (fun K hK => ?_)
    refine goes_ Try.func11 (by kernel_rfl) rfl #[.slice A0 l0.length c0, .agg #[.int .i64 ((rd_T37 l2 x11_1).f0), .int .i64 ((rd_T37 l2 x11_1).f1.f0), .int .i64 ((rd_T37 l2 x11_1).f1.f1), .slice A340_3 ((rd_T37 l2 x11_1).f1.f2).length c340_3, .string ((rd_T37 l2 x11_1).f2), .int .i64 ((rd_T37 l2 x11_1).f3)]] (by rfl) rfl rfl My.gx ?_
    with_reducible refine (outbox_Has.calls k1 _ _ l0 ((rd_T37 l2 x11_1).f0) ((rd_T37 l2 x11_1).f1.f0) ((rd_T37 l2 x11_1).f1.f1) _ _ ((rd_T37 l2 x11_1).f1.f2) ((rd_T37 l2 x11_1).f2) ((rd_T37 l2 x11_1).f3) t341 _ ?side1 ?side2 ?side3 ?side4 A15.out).mono ?_
    (case side1 => exact My.sd_ HR0 HB)
    (case side2 => exact HC0.out)
    (case side3 => exact My.sd_ HR340_3 HB)
    (case side4 => exact HC340_3.out)
    rintro e w19 ⟨rfl, hb⟩
    refine ⟨_, rfl, ?_⟩
    replace HO_7 := My.am (Kd.N_below (by (with_reducible repeat (first | apply Kd.N_alloc | apply Kd.N_drewN | apply Kd.N_drew)); exact HO_7.out) hb)
    replace HO_9 := My.am (Kd.N_below (by (with_reducible repeat (first | apply Kd.N_alloc | apply Kd.N_drewN | apply Kd.N_drew)); exact HO_9.out) hb)
    replace BK329 := My.ab BK329 hb
    replace HB := My.st HB hb
    (try clear hb)
    (try clear hb2)
    (try clear hk)
    (try clear hi)
    refine hK.out _ _ ⟨(My.up HB hw340_0), (My.up HB hw340_1), (My.up HB hw340_2), (My.up HB hw340_3), (My.up HB hw340_4), (My.up HB hw340_5), (My.up HB hw342_0), (My.up HB hw342_1), (My.up HB hw342_2), (My.up HB hw342_3), (My.up HB hw342_4), (My.up HB hw342_5)⟩ (fun hHeld => ?_)
    clear hK K
    refine My.nm 48 ?_
    refine one_ (i := 11) (N := some 54) (My.Mb 13 4095) rfl rfl (one_of HT_.out (by kernel_rfl)) (by decide) (fun K hK => ?_)
    refine goes_ Try.func12 (by kernel_rfl) rfl #[.slice A0 l0.length c0, .agg #[.int .i64 ((rd_T37 l2 x11_1).f0), .int .i64 ((rd_T37 l2 x11_1).f1.f0), .int .i64 ((rd_T37 l2 x11_1).f1.f1), .slice A340_3 ((rd_T37 l2 x11_1).f1.f2).length c340_3, .string ((rd_T37 l2 x11_1).f2), .int .i64 ((rd_T37 l2 x11_1).f3)]] (by rfl) rfl rfl My.gx ?_
    with_reducible refine (ententeref19_Has.calls k1 _ _ l0 ((rd_T37 l2 x11_1).f0) ((rd_T37 l2 x11_1).f1.f0) ((rd_T37 l2 x11_1).f1.f1) _ _ ((rd_T37 l2 x11_1).f1.f2) ((rd_T37 l2 x11_1).f2) ((rd_T37 l2 x11_1).f3) t343 _ ?side1 ?side2 ?side3 ?side4 A16.out).mono ?_
    (case side1 => exact My.sd_ HR0 HB)
    (case side2 => exact HC0.out)
    (case side3 => exact My.sd_ HR342_3 HB)
    (case side4 => exact HC342_3.out)
    rintro e w20 ⟨rfl, hb⟩
    refine ⟨_, rfl, ?_⟩
    replace HO_7 := My.am (Kd.N_below (by (with_reducible repeat (first | apply Kd.N_alloc | apply Kd.N_drewN | apply Kd.N_drew)); exact HO_7.out) hb)
    replace HO_9 := My.am (Kd.N_below (by (with_reducible repeat (first | apply Kd.N_alloc | apply Kd.N_drewN | apply Kd.N_drew)); exact HO_9.out) hb)
    replace BK329 := My.ab BK329 hb
    replace HB := My.st HB hb
    (try clear hb)
    (try clear hb2)
    (try clear hk)
    (try clear hi)
    refine hK.out _ _ ⟨(My.up HB hw340_0), (My.up HB hw340_1), (My.up HB hw340_2), (My.up HB hw340_3), (My.up HB hw340_4), (My.up HB hw340_5), (My.up HB hw342_0), (My.up HB hw342_1), (My.up HB hw342_2), (My.up HB hw342_3), (My.up HB hw342_4), (My.up HB hw342_5)⟩ (fun hHeld => ?_)
    clear hK K
    refine My.nm 54 ?_
    refine My.pu_ 12 55 13 HT_.out ?_
    refine done_ (done_of HT_.out (by kernel_rfl)) ?_
    try go_wp2
    go_roundg k1
    case measure => have := HK1.out; omega
    case rel => exact ⟨(wrap64 (x11_1 + 1)), My.r1, H', ⟨by have := HK1.out; omega⟩, ⟨by (with_reducible repeat (first | apply Kd.N_alloc | apply Kd.N_drewN | apply Kd.N_drew)); exact HO_7.out⟩, ⟨by (with_reducible repeat (first | apply Kd.N_alloc | apply Kd.N_drewN | apply Kd.N_drew)); exact HO_9.out⟩, ⟨(My.at_ BK329)⟩, ⟨(My.bl_ HB)⟩⟩
 ·replace c5 := Bool.eq_false_iff.mpr c5
  subst c5
  rw [if_neg (show ¬ (false = true) by decide)] at H
  replace H := Option.bind_eq_some_iff.mp H
  obtain ⟨t331, A340, H⟩ := H
  try dsimp only at H
  have A34 := My.am A340
  clear A340
  obtain rfl := Option.some.inj H
  go_enter Try.func3, Try.ntmps3
  go_wp2_with (first | ((with_reducible refine gate_dst (N := 4) rfl ?_); refine My.bx 4 #[.int .i64 a1_0, .int .i64 a1_1] 23 ?_; intro gb329 hg w35 hbox hb; have GE329 := My.nge hg (My.bl_ HB); replace HB := My.st HB hb; clear hb hbox hg) | ((with_reducible refine gate_callee (f := 7) rfl ?_); refine goesL_ (some 14) rfl rfl Try.func7 (by kernel_rfl) rfl #[.slice A0 l0.length c0, .slice A2 l2.length c2] rfl My.gx ?_; (with_reducible refine (ententelaw19_few.calls k _ _ l0 _ _ l2 false _ ?side1 ?side2 ?side3 ?side4 A4.out).mono ?_); (case side1 => exact My.sd_ HR0 HB); (case side2 => exact HC0.out); (case side3 => exact My.sd_ HR2 HB); (case side4 => exact HC2.out); rintro e w' ⟨rfl, ⟨nd, rfl⟩⟩; refine ⟨_, rfl, ?_⟩) | ((with_reducible refine gate_callee (f := 8) rfl ?_); refine goesL_ (some 16) rfl rfl Try.func8 (by kernel_rfl) rfl #[] rfl My.gx ?_; (with_reducible refine (ententelaw19_awake.calls k  t331 _ A34.out).mono ?_); rintro e w36 ⟨rfl, hb⟩; refine ⟨_, rfl, ?_⟩; replace HB := My.st HB hb; (try clear hb)))
  go_ret
  exact ⟨My.r2, (My.bl_ HB)⟩

/-- What is known of an element that came in. -/
def Q62 (x : S62) : Prop := (Lit.int .i64 x.f0).wf = true ∧ (Lit.int .i64 x.f1).wf = true
/-- What is known of an element that came in. -/
def Q35 (x : S35) : Prop := (Lit.int .i64 x.f0).wf = true ∧ (Lit.int .i64 x.f1).wf = true ∧ (x.f2.length ≤ 9223372036854775807 ∧ x.f2.length * 16 ≤ 140737488351232 ∧ ∀ y_ ∈ x.f2, Q62 y_)
/-- What is known of an element that came in. -/
def Q37 (x : S37) : Prop := (Lit.int .i64 x.f0).wf = true ∧ Q35 x.f1 ∧ x.f2.size ≤ 140737488351232 ∧ (Lit.int .i64 x.f3).wf = true
/-- What is known of an element that came in. -/
def Q46 (x : S46) : Prop := (Lit.int .i64 x.f0).wf = true ∧ (Lit.int .i64 x.f1).wf = true ∧ (Lit.int .i64 x.f2).wf = true ∧ Q37 x.f3
/-- THE ONE PURE STATEMENT of ententelaw19_OutboxPushes. -/
def ententelaw19_OutboxPushes.Pure : Prop := ∀ (l0 : List S46) (a1_0 : Int) (a1_1 : Int) (l2 : List S37), (l0.length ≤ 9223372036854775807 ∧ l0.length * 96 ≤ 140737488351232 ∧ ∀ y_ ∈ l0, Q46 y_) → (Lit.int .i64 a1_0).wf = true → (Lit.int .i64 a1_1).wf = true → (l2.length ≤ 9223372036854775807 ∧ l2.length * 72 ≤ 140737488351232 ∧ ∀ y_ ∈ l2, Q37 y_) → ∃ k, ententelaw19_OutboxPushes.f k l0 a1_0 a1_1 l2 = some true

/-! ### ententeref11_Delay: function 33 -/
def ententeref11_Delay.f (a0 : Int) : Option (Int) := if a0 < 1 then (some 1) else (if a0 = 1 then (some 2) else (if a0 = 2 then (some 4) else (some 8)))
theorem ententeref11_Delay.calls (a0 : Int) (r : Int) (w : World) (h : ententeref11_Delay.f a0 = some r) :
  Calls Try.prog 33 #[.int .i64 a0] w fun e w' => e = .returned (.int .i64 r) ∧ Drawn0 w w' := by
 unfold ententeref11_Delay.f at h
 have H := h
 clear h
 by_cases c2 : a0 < 1
 ·rw [if_pos c2] at H
  have c2b0 := decide_eq_true c2
  clear c2
  obtain rfl := Option.some.inj H
  go_enter Try.func33, Try.ntmps33
  go_wp2
  go_ret
  exact ⟨by first | rfl | (simp; done) | (simp [*]; done), by repeat (first | exact Drawn0.refl _ | apply Drawn0.step)⟩
 ·rw [if_neg c2] at H
  have c2b0 := decide_eq_false c2
  clear c2
  by_cases c3 : a0 = 1
  ·rw [if_pos c3] at H
   have c3b0 : (a0 == 1) = true := beq_iff_eq.mpr c3
   have c3b1 : (a0 != 1) = false := bne_eq_false_iff_eq.mpr c3
   clear c3
   obtain rfl := Option.some.inj H
   go_enter Try.func33, Try.ntmps33
   go_wp2
   go_ret
   exact ⟨by first | rfl | (simp; done) | (simp [*]; done), by repeat (first | exact Drawn0.refl _ | apply Drawn0.step)⟩
  rw [if_neg c3] at H
  have c3b0 : (a0 == 1) = false := beq_eq_false_iff_ne.mpr c3
  have c3b1 : (a0 != 1) = true := bne_iff_ne.mpr c3
  by_cases c4 : a0 = 2
  ·rw [if_pos c4] at H
   have c4b0 : (a0 == 2) = true := beq_iff_eq.mpr c4
   have c4b1 : (a0 != 2) = false := bne_eq_false_iff_eq.mpr c4
   clear c4
   obtain rfl := Option.some.inj H
   go_enter Try.func33, Try.ntmps33
   go_wp2
   go_ret
   exact ⟨by first | rfl | (simp; done) | (simp [*]; done), by repeat (first | exact Drawn0.refl _ | apply Drawn0.step)⟩
  rw [if_neg c4] at H
  have c4b0 : (a0 == 2) = false := beq_eq_false_iff_ne.mpr c4
  have c4b1 : (a0 != 2) = true := bne_iff_ne.mpr c4
  obtain rfl := Option.some.inj H
  go_enter Try.func33, Try.ntmps33
  go_wp2
  go_ret
  exact ⟨by first | rfl | (simp; done) | (simp [*]; done), by repeat (first | exact Drawn0.refl _ | apply Drawn0.step)⟩

/-! ### ententeref19_Due: function 18 -/
mutual
def ententeref19_Due.j0 : Nat → List (S46) → Int → Bool → Option ((List (S46)) × (List (S46)))
 | 0, _, _, _ => none
 | k + 1, x0, x1, x17 => if x17 = true then (some (([] : List (S46)), ([] : List (S46)))) else (ententeref19_Due.l0 k x0 x1 ([] : List (S46)) ([] : List (S46)) 0)
def ententeref19_Due.l0 : Nat → List (S46) → Int → List (S46) → List (S46) → Int → Option ((List (S46)) × (List (S46)))
 | 0, _, _, _, _, _ => none
 | k + 1, x0, x1, x6, x7, x8 => if x8 < (x0.length : Int) then (if 0 ≤ x8 then (if ((rd_T46 x0 x8).f1) ≤ x1 then (if ((rd_T46 x0 x8).f2) < 1000000 then ((ententeref11_Delay.f (wrap64 (((rd_T46 x0 x8).f2) + 1))).bind fun t352 => (if x7.length < 1466015503701 then (if x6.length < 1466015503701 then (ententeref19_Due.l0 k x0 x1 (x6 ++ [(⟨(rd_T46 x0 x8).f0, wrap64 (x1 + t352), wrap64 (((rd_T46 x0 x8).f2) + 1), (⟨(rd_T46 x0 x8).f3.f0, (⟨(rd_T46 x0 x8).f3.f1.f0, (rd_T46 x0 x8).f3.f1.f1, (rd_T46 x0 x8).f3.f1.f2⟩ : S35), (rd_T46 x0 x8).f3.f2, (rd_T46 x0 x8).f3.f3⟩ : S37)⟩ : S46)]) (x7 ++ [(⟨(rd_T46 x0 x8).f0, wrap64 (x1 + t352), wrap64 (((rd_T46 x0 x8).f2) + 1), (⟨(rd_T46 x0 x8).f3.f0, (⟨(rd_T46 x0 x8).f3.f1.f0, (rd_T46 x0 x8).f3.f1.f1, (rd_T46 x0 x8).f3.f1.f2⟩ : S35), (rd_T46 x0 x8).f3.f2, (rd_T46 x0 x8).f3.f3⟩ : S37)⟩ : S46)]) (wrap64 (x8 + 1))) else (none)) else (none))) else ((ententeref11_Delay.f ((rd_T46 x0 x8).f2)).bind fun t359 => (if x7.length < 1466015503701 then (if x6.length < 1466015503701 then (ententeref19_Due.l0 k x0 x1 (x6 ++ [(⟨(rd_T46 x0 x8).f0, wrap64 (x1 + t359), (rd_T46 x0 x8).f2, (⟨(rd_T46 x0 x8).f3.f0, (⟨(rd_T46 x0 x8).f3.f1.f0, (rd_T46 x0 x8).f3.f1.f1, (rd_T46 x0 x8).f3.f1.f2⟩ : S35), (rd_T46 x0 x8).f3.f2, (rd_T46 x0 x8).f3.f3⟩ : S37)⟩ : S46)]) (x7 ++ [(⟨(rd_T46 x0 x8).f0, wrap64 (x1 + t359), (rd_T46 x0 x8).f2, (⟨(rd_T46 x0 x8).f3.f0, (⟨(rd_T46 x0 x8).f3.f1.f0, (rd_T46 x0 x8).f3.f1.f1, (rd_T46 x0 x8).f3.f1.f2⟩ : S35), (rd_T46 x0 x8).f3.f2, (rd_T46 x0 x8).f3.f3⟩ : S37)⟩ : S46)]) (wrap64 (x8 + 1))) else (none)) else (none)))) else (if x6.length < 1466015503701 then (ententeref19_Due.l0 k x0 x1 (x6 ++ [(⟨(rd_T46 x0 x8).f0, (rd_T46 x0 x8).f1, (rd_T46 x0 x8).f2, (⟨(rd_T46 x0 x8).f3.f0, (⟨(rd_T46 x0 x8).f3.f1.f0, (rd_T46 x0 x8).f3.f1.f1, (rd_T46 x0 x8).f3.f1.f2⟩ : S35), (rd_T46 x0 x8).f3.f2, (rd_T46 x0 x8).f3.f3⟩ : S37)⟩ : S46)]) x7 (wrap64 (x8 + 1))) else (none))) else (none)) else (some (x6, x7))
end
def ententeref19_Due.f (k : Nat) (l0 : List (S46)) (a1 : Int) : Option ((List (S46)) × (List (S46))) := (ententeref19_May.f k l0).bind fun t348 => (if t348 = 0 then ((ententeref19_time.f a1).bind fun t349 => (ententeref19_Due.j0 k l0 a1 (!t349))) else (ententeref19_Due.j0 k l0 a1 true))
theorem ententeref19_Due.mono_l : ∀ k, (∀ y0 y1 y2, LeO (ententeref19_Due.j0 k y0 y1 y2) (ententeref19_Due.j0 (k + 1) y0 y1 y2)) ∧ (∀ y0 y1 y2 y3 y4, LeO (ententeref19_Due.l0 k y0 y1 y2 y3 y4) (ententeref19_Due.l0 (k + 1) y0 y1 y2 y3 y4))
 | 0 => ⟨fun _ _ _ r h => by simp [ententeref19_Due.j0] at h, fun _ _ _ _ _ r h => by simp [ententeref19_Due.l0] at h⟩
 | k + 1 => by
  obtain ⟨ih0, ih1⟩ := ententeref19_Due.mono_l k
  refine ⟨?_, ?_⟩
  ·intro y0 y1 y2
   unfold ententeref19_Due.j0
   repeat' (with_reducible first | exact ih0 _ _ _ | exact ih1 _ _ _ _ _ | exact ententeref19_May.mono _ _ | exact LeO.refl _ | exact LeO.none _ | apply LeO.ite | refine LeO.bind ?_ (fun _ => ?_))
  intro y0 y1 y2 y3 y4
  unfold ententeref19_Due.l0
  repeat' (with_reducible first | exact ih0 _ _ _ | exact ih1 _ _ _ _ _ | exact ententeref19_May.mono _ _ | exact LeO.refl _ | exact LeO.none _ | apply LeO.ite | refine LeO.bind ?_ (fun _ => ?_))
theorem ententeref19_Due.mono : ∀ a0 a1 k, LeO (ententeref19_Due.f k a0 a1) (ententeref19_Due.f (k + 1) a0 a1) := by
 intro a0 a1 k
 obtain ⟨ih0, ih1⟩ := ententeref19_Due.mono_l k
 unfold ententeref19_Due.f
 repeat' (with_reducible first | exact ih0 _ _ _ | exact ih1 _ _ _ _ _ | exact ententeref19_May.mono _ _ | exact LeO.refl _ | exact LeO.none _ | apply LeO.ite | refine LeO.bind ?_ (fun _ => ?_))
theorem ententeref19_Due.calls (k : Nat) (P0_ : Nat → Prop) (A0 : Option Addr) (c0 : Nat) (l0 : List (S46)) (a1 : Int) (r1 : List (S46)) (r2 : List (S46)) (w : World) (hs0 : Kd.V k46 46 w w.heap.size (fun k_ => P0_ k_) (.slice A0 l0.length c0) l0) (h : ententeref19_Due.f k l0 a1 = some (r1, r2)) :
  Calls Try.prog 18 #[.slice A0 l0.length c0, .int .i64 a1] w fun e w' => ∃ v0_ v1_ : Value, e = .returned (.tuple #[v0_, v1_]) ∧ Kd.N k46 46 w' w.heap.size (fun k_ => (P0_ k_ ∨ w.heap.size ≤ k_) ∧ some k_ ≠ (v1_ : Value).ownBlock) v0_ r1 ∧ Kd.N k46 46 w' w.heap.size (fun k_ => (P0_ k_ ∨ w.heap.size ≤ k_) ∧ some k_ ≠ (v0_ : Value).ownBlock) v1_ r2 ∧ Below w.heap.size w w' := by
 have hu46 := Try.underlying46
 have HO0 := My.am (show Kd.V k46 46 w w.heap.size (fun k_ => (P0_ k_ ∨ w.heap.size ≤ k_)) (.slice A0 l0.length c0) l0 from Kd.V_mono hs0 (fun k_ hk => .inl hk))
 have HB := My.am (Below.refl w.heap.size w)
 unfold ententeref19_Due.f at h
 have H := h
 clear h
 have HC3 := My.am H
 clear H
 go_enter Try.func18, Try.ntmps18
 go_upto_region 1 with (fail)
 go_cut [17] (fun v17 wc => ∃ (kq : Nat) (x17_2 : Bool), v17 = .bool x17_2 ∧ Aside0 (ententeref19_Due.j0 kq l0 a1 x17_2 = some (r1, r2)) ∧ Aside0 (kq ≤ k) ∧ Aside0 (Kd.V k46 46 wc w.heap.size (fun k_ => (P0_ k_ ∨ w.heap.size ≤ k_)) (.slice A0 l0.length c0) l0) ∧ Aside0 (Below w.heap.size w wc))
 case first =>
  have H := HC3.out
  clear HC3
  replace H := Option.bind_eq_some_iff.mp H
  obtain ⟨t348, A40, H⟩ := H
  try dsimp only at H
  have A4 := My.am A40
  clear A40
  by_cases c5 : t348 = 0
  ·rw [if_pos c5] at H
   have c5b0 : (t348 == 0) = true := beq_iff_eq.mpr c5
   have c5b1 : (t348 != 0) = false := bne_eq_false_iff_eq.mpr c5
   clear c5
   (first | rw [c5b0] | (simp only [i64_w, i32_w]; rw [c5b0]) | skip)
   replace H := Option.bind_eq_some_iff.mp H
   obtain ⟨t349, A60, H⟩ := H
   try dsimp only at H
   have A6 := My.am A60
   clear A60
   have H' := My.am H
   clear H
   go_wp2_with (first | ((with_reducible refine gate_callee (f := 14) rfl ?_); refine goesL_ (some 11) rfl rfl Try.func14 (by kernel_rfl) rfl #[.slice A0 l0.length c0] rfl My.gx ?_; (with_reducible refine (ententeref19_May.calls k _ _ l0 t348 _ ?side1 ?side2 A4.out).mono ?_); (case side1 => repeat (first | exact (Kd.V_reads' HO0.out).2.2 | (with_reducible refine Kd.C_alloc ?_ _) | (with_reducible refine Kd.C_drewN ?_ _) | (with_reducible refine Kd.C_drew ?_))); (case side2 => exact (Kd.V_reads' HO0.out).2.1); rintro e w7 ⟨rfl, hb⟩; refine ⟨_, rfl, ?_⟩; replace HO0 := My.am (Kd.V_below (My.dV HO0.out) hb); replace HB := My.st HB hb; (try clear hb)) | (go_at_call 28; (with_reducible refine (ententeref19_time.calls a1 t349 _ A6.out).mono ?_); rintro e w' ⟨rfl, ⟨nd, rfl⟩⟩))
   go_meet
   case rel => exact ⟨_, (!t349), My.r1, H', ⟨My.r4⟩, ⟨My.dV HO0.out⟩, ⟨(My.bl_ HB)⟩⟩
  ·rw [if_neg c5] at H
   have c5b0 : (t348 == 0) = false := beq_eq_false_iff_ne.mpr c5
   have c5b1 : (t348 != 0) = true := bne_iff_ne.mpr c5
   (first | rw [c5b0] | (simp only [i64_w, i32_w]; rw [c5b0]) | skip)
   have H' := My.am H
   clear H
   go_wp2_with (first | ((with_reducible refine gate_callee (f := 14) rfl ?_); refine goesL_ (some 11) rfl rfl Try.func14 (by kernel_rfl) rfl #[.slice A0 l0.length c0] rfl My.gx ?_; (with_reducible refine (ententeref19_May.calls k _ _ l0 t348 _ ?side1 ?side2 A4.out).mono ?_); (case side1 => repeat (first | exact (Kd.V_reads' HO0.out).2.2 | (with_reducible refine Kd.C_alloc ?_ _) | (with_reducible refine Kd.C_drewN ?_ _) | (with_reducible refine Kd.C_drew ?_))); (case side2 => exact (Kd.V_reads' HO0.out).2.1); rintro e w8 ⟨rfl, hb⟩; refine ⟨_, rfl, ?_⟩; replace HO0 := My.am (Kd.V_below (My.dV HO0.out) hb); replace HB := My.st HB hb; (try clear hb)))
   go_meet
   case rel => exact ⟨_, (true), My.r1, H', ⟨My.r4⟩, ⟨My.dV HO0.out⟩, ⟨(My.bl_ HB)⟩⟩
 case rest =>
  clear HC3
  obtain ⟨kq, x17_2, rfl, HA, HJ2, HO_0, HB⟩ := hcut
  cases kq with
  | zero => exact absurd HA.out (by simp [ententeref19_Due.j0])
  | succ kj2 =>
   have H := HA.out
   clear HA
   simp only [ententeref19_Due.j0] at H
   by_cases c9 : x17_2 = true
   ·subst c9
    rw [if_pos rfl] at H
    simp only [Option.some.injEq, Prod.mk.injEq] at H
    obtain ⟨rfl, rfl⟩ := H
    go_wp2
    go_ret2
    exact ⟨_, _, My.r2, by first | exact Kd.S_nil _ _ _ _ _ | exact Kd.N_nil _ _ _ _ _ | exact Kd.V_nil _ _ _ _ _ | exact Kd.Q_nil _ _ _ _ _ | exact Kd.R_nil _ _ _ _ _, by first | exact Kd.S_nil _ _ _ _ _ | exact Kd.N_nil _ _ _ _ _ | exact Kd.V_nil _ _ _ _ _ | exact Kd.Q_nil _ _ _ _ _ | exact Kd.R_nil _ _ _ _ _, (My.bl_ HB)⟩
   replace c9 := Bool.eq_false_iff.mpr c9
   subst c9
   rw [if_neg (show ¬ (false = true) by decide)] at H
   have H' := My.am H
   clear H
   go_wp2
   go_loopg [6, 7, 8] kj2 (fun kq v6 v7 v8 w' => ∃ (x6_2 : List (S46)) (x7_2 : List (S46)) (x8_2 : Int), v8 = .int .i64 x8_2 ∧ Aside0 (ententeref19_Due.l0 kq l0 a1 x6_2 x7_2 x8_2 = some (r1, r2)) ∧ Aside0 (kq ≤ kj2) ∧ Aside0 (Kd.V k46 46 w' w.heap.size (fun k_ => (P0_ k_ ∨ w.heap.size ≤ k_) ∧ some k_ ≠ (v6 : Value).ownBlock ∧ some k_ ≠ (v7 : Value).ownBlock) (.slice A0 l0.length c0) l0) ∧ Aside0 (Kd.N k46 46 w' w.heap.size (fun k_ => (P0_ k_ ∨ w.heap.size ≤ k_) ∧ some k_ ≠ (v7 : Value).ownBlock) v6 x6_2) ∧ Aside0 (Kd.N k46 46 w' w.heap.size (fun k_ => (P0_ k_ ∨ w.heap.size ≤ k_) ∧ some k_ ≠ (v6 : Value).ownBlock) v7 x7_2) ∧ Aside0 (Below w.heap.size w w'))
   case atStart => exact ⟨(([] : List (S46))), (([] : List (S46))), (0), My.r1, H', ⟨Nat.le_refl _⟩, ⟨My.dV (Kd.V_mono HO_0.out (fun _ hk => ⟨hk, ⟨(by simp [Value.ownBlock]), (by simp [Value.ownBlock])⟩⟩))⟩, ⟨by first | exact Kd.S_nil _ _ _ _ _ | exact Kd.N_nil _ _ _ _ _ | exact Kd.V_nil _ _ _ _ _ | exact Kd.Q_nil _ _ _ _ _ | exact Kd.R_nil _ _ _ _ _⟩, ⟨by first | exact Kd.S_nil _ _ _ _ _ | exact Kd.N_nil _ _ _ _ _ | exact Kd.V_nil _ _ _ _ _ | exact Kd.Q_nil _ _ _ _ _ | exact Kd.R_nil _ _ _ _ _⟩, ⟨(My.bl_ HB)⟩⟩
   case round =>
    clear H'
    try clear c9
    obtain ⟨x6_2, x7_2, x8_2, rfl, HA, HK2, HO_0, HO_6, HO_7, HB⟩ := hrel
    cases gk with
    | zero => exact absurd HA.out (by simp [ententeref19_Due.l0])
    | succ k2 =>
     have H := HA.out
     clear HA
     simp only [ententeref19_Due.l0] at H
     by_cases c10 : x8_2 < (l0.length : Int)
     rotate_left
     ·rw [if_neg c10] at H
      have c10b0 := decide_eq_false c10
      clear c10
      simp only [Option.some.injEq, Prod.mk.injEq] at H
      obtain ⟨rfl, rfl⟩ := H
      go_wp2
      go_ret2
      exact ⟨_, _, My.r2, by (with_reducible repeat (first | apply Kd.N_alloc | apply Kd.N_drewN | apply Kd.N_drew)); exact HO_6.out, by (with_reducible repeat (first | apply Kd.N_alloc | apply Kd.N_drewN | apply Kd.N_drew)); exact HO_7.out, (My.bl_ HB)⟩

     rw [if_pos c10] at H
     have c10b0 := decide_eq_true c10
     clear c10
     replace H := My.ds H
     obtain ⟨c11b0, H⟩ := H
     by_cases c12 : ((rd_T46 l0 x8_2).f1) ≤ a1
     rotate_left
     ·rw [if_neg c12] at H
      have c12b0 := decide_eq_false c12
      clear c12
      by_cases c40 : x6_2.length < 1466015503701
      rotate_left
      ·exact My.nn c40 H
      rw [if_pos c40] at H
      have LMc40 := My.am c40
      clear c40
      obtain ⟨y366, hy366⟩ : ∃ y_ : List (S46), y_ = (x6_2 ++ [(⟨(rd_T46 l0 x8_2).f0, (rd_T46 l0 x8_2).f1, (rd_T46 l0 x8_2).f2, (⟨(rd_T46 l0 x8_2).f3.f0, (⟨(rd_T46 l0 x8_2).f3.f1.f0, (rd_T46 l0 x8_2).f3.f1.f1, (rd_T46 l0 x8_2).f3.f1.f2⟩ : S35), (rd_T46 l0 x8_2).f3.f2, (rd_T46 l0 x8_2).f3.f3⟩ : S37)⟩ : S46)]) := ⟨_, rfl⟩
      replace H : (ententeref19_Due.l0 k2 l0 a1 y366 x7_2 (wrap64 (x8_2 + 1))) = some (r1, r2) := by first | (rw [hy366]; with_reducible exact H) | (have H2_ := (Option.bind_some _ _).symm.trans H; rw [hy366]; with_reducible exact H2_) | (have H2_ := (Option.bind_some _ _).symm.trans H; with_reducible exact H2_) | with_reducible exact H | (rw [hy366]; exact H) | exact H
      have Ny366 := My.am hy366
      clear hy366
      have H' := My.am H
      clear H
      have p350 : 0 ≤ (x8_2 : Int) := My.as_
      have q350 : x8_2 < (l0.length : Int) := My.as_
      obtain ⟨ad350, A350_6, c350_6, e350, hx350_0, hx350_1, hx350_2, hx350_3, hx350_4, hx350_5, hx350_6, hx350_7, hx350_8, hl350_6, hi350_6⟩ := at_T46 (Kd.V_reads' HO_0.out).2.2 x8_2 p350 q350
      cases e350
      obtain ⟨ce350, hce350, hMe350, hcc350⟩ := Kd.V_get HO_0.out z46 x8_2 p350 (by first | exact q350 | exact My.as_ | (have e_ := (Kd.V_reads' HO_0.out).1; omega))
      obtain ⟨ua350_6, uc350_6, rfl, ul350_6, ge350_6⟩ := k46_openF hMe350
      have hv350_6 := hcc350 6 _ rfl
      rw [add_field _ _ 6 (by omega)] at hv350_6
      replace hv350_6 := Option.some.inj (hv350_6.symm.trans hx350_6)
      injection hv350_6 with hva_ hvn_ hvc_
      rw [hva_] at ge350_6
      rw [hvc_] at ul350_6
      have HL350_6 := My.am (show Kd.V k62 62 _ w.heap.size _ _ ((rd_T46 l0 x8_2).f3.f1.f2) from Kd.V_mk ul350_6 ge350_6)
      clear hva_ hvn_ hvc_ ge350_6 ul350_6
      clear hcc350 hce350
      have HR350_6 := My.am hi350_6
      have HC350_6 := My.am hl350_6
      clear hi350_6 hl350_6
      replace p350 := eq_true p350
      replace q350 := eq_true q350
      go_wp2_with (first | ((with_reducible refine gate_dst (N := 9) rfl ?_); refine My.bx 9 #[.int .i64 0, .int .i64 0, .int .i64 0, .int .i64 0, .int .i64 0, .int .i64 0, .slice none 0 0, .string (⟨#[]⟩ : ByteArray), .int .i64 0] 46 ?_; intro gb351 hg w41 hbox hb; replace HO_0 := My.am (Kd.V_below (Kd.V_elderB (My.dV HO_0.out) gb351 (Nat.le_of_eq hg.symm)) hb); replace HO_6 := My.am (Kd.N_below (Kd.N_elderB (by (with_reducible repeat (first | apply Kd.N_alloc | apply Kd.N_drewN | apply Kd.N_drew)); exact HO_6.out) gb351 (Nat.le_of_eq hg.symm)) hb); replace HO_7 := My.am (Kd.N_below (Kd.N_elderB (by (with_reducible repeat (first | apply Kd.N_alloc | apply Kd.N_drewN | apply Kd.N_drew)); exact HO_7.out) gb351 (Nat.le_of_eq hg.symm)) hb); replace HL350_6 := My.am (Kd.V_below (Kd.V_elderB (My.dV HL350_6.out) gb351 (Nat.le_of_eq hg.symm)) hb); replace HR350_6 := My.am (Kd.C_below (by repeat (first | (with_reducible exact HR350_6.out) | (with_reducible refine Kd.C_alloc ?_ _) | (with_reducible refine Kd.C_drewN ?_ _) | (with_reducible refine Kd.C_drew ?_) | exact HR350_6.out | exact (Kd.V_reads' (My.dV HL350_6.out)).2.2)) hb); have BK351 := My.am (hbox); have GE351 := My.nge hg (My.bl_ HB); replace HB := My.st HB hb; clear hb hbox hg; have hcz42_0 : w41.cell? ⟨gb351, 0, none⟩ = some (.int .i64 0) := My.b_ BK351 0; have hcz42_1 : w41.cell? ⟨gb351, 1, none⟩ = some (.int .i64 0) := My.b_ BK351 1; have hcz42_2 : w41.cell? ⟨gb351, 2, none⟩ = some (.int .i64 0) := My.b_ BK351 2; have hcz42_3 : w41.cell? ⟨gb351, 3, none⟩ = some (.int .i64 0) := My.b_ BK351 3; have hcz42_4 : w41.cell? ⟨gb351, 4, none⟩ = some (.int .i64 0) := My.b_ BK351 4; have hcz42_5 : w41.cell? ⟨gb351, 5, none⟩ = some (.int .i64 0) := My.b_ BK351 5; have hcz42_6 : w41.cell? ⟨gb351, 6, none⟩ = some (.slice none 0 0) := My.b_ BK351 6; have hcz42_7 : w41.cell? ⟨gb351, 7, none⟩ = some (.string (⟨#[]⟩ : ByteArray)) := My.b_ BK351 7; have hcz42_8 : w41.cell? ⟨gb351, 8, none⟩ = some (.int .i64 0) := My.b_ BK351 8; have hfz42_0 := blk_frozen BK351.out 0; have hfz42_1 := blk_frozen BK351.out 1; have hfz42_2 := blk_frozen BK351.out 2; have hfz42_3 := blk_frozen BK351.out 3; have hfz42_4 := blk_frozen BK351.out 4; have hfz42_5 := blk_frozen BK351.out 5; have hfz42_6 := blk_frozen BK351.out 6; have hfz42_7 := blk_frozen BK351.out 7; have hfz42_8 := blk_frozen BK351.out 8) | ((with_reducible refine gate_store (t := 46) (p := 9) rfl ?_); refine store_event (t := 46) (p := 9) (v := ?vo_w43) (w1 := (((((((((w41.setCell ⟨gb351, 0, none⟩ (.int .i64 ((rd_T46 l0 x8_2).f0))).setCell ⟨gb351, 1, none⟩ (.int .i64 ((rd_T46 l0 x8_2).f1))).setCell ⟨gb351, 2, none⟩ (.int .i64 ((rd_T46 l0 x8_2).f2))).setCell ⟨gb351, 3, none⟩ (.int .i64 ((rd_T46 l0 x8_2).f3.f0))).setCell ⟨gb351, 4, none⟩ (.int .i64 ((rd_T46 l0 x8_2).f3.f1.f0))).setCell ⟨gb351, 5, none⟩ (.int .i64 ((rd_T46 l0 x8_2).f3.f1.f1))).setCell ⟨gb351, 6, none⟩ (.slice A350_6 ((rd_T46 l0 x8_2).f3.f1.f2).length c350_6)).setCell ⟨gb351, 7, none⟩ (.string ((rd_T46 l0 x8_2).f3.f2))).setCell ⟨gb351, 8, none⟩ (.int .i64 ((rd_T46 l0 x8_2).f3.f3)))) ?hg ?ho ?hn ?hr ?_; (case ho => rfl); (case hg => rfl); (case hn => rfl); (case hr => first | (go_simp; done) | (go_simp; rfl)); intro w43 hw; replace HO_0 : Aside0 (Kd.V k46 46 w43 w.heap.size (fun k_ => (P0_ k_ ∨ w.heap.size ≤ k_) ∧ some k_ ≠ (u6 : Value).ownBlock ∧ some k_ ≠ (u7 : Value).ownBlock ∧ k_ ≠ gb351) (.slice (some ad350) l0.length c0) l0) := ⟨(by rw [hw]; exact (My.dV (Kd.V_mono (Kd.V_far (p := ⟨gb351, 8, none⟩) (Kd.V_far (p := ⟨gb351, 7, none⟩) (Kd.V_far (p := ⟨gb351, 6, none⟩) (Kd.V_far (p := ⟨gb351, 5, none⟩) (Kd.V_far (p := ⟨gb351, 4, none⟩) (Kd.V_far (p := ⟨gb351, 3, none⟩) (Kd.V_far (p := ⟨gb351, 2, none⟩) (Kd.V_far (p := ⟨gb351, 1, none⟩) (Kd.V_far (p := ⟨gb351, 0, none⟩) (Kd.V_mono HO_0.out (fun k_ hk => (⟨hk, hk.2⟩ : _ ∧ k_ ≠ gb351))) (fun _ hk => hk.2) (.int .i64 ((rd_T46 l0 x8_2).f0))) (fun _ hk => hk.2) (.int .i64 ((rd_T46 l0 x8_2).f1))) (fun _ hk => hk.2) (.int .i64 ((rd_T46 l0 x8_2).f2))) (fun _ hk => hk.2) (.int .i64 ((rd_T46 l0 x8_2).f3.f0))) (fun _ hk => hk.2) (.int .i64 ((rd_T46 l0 x8_2).f3.f1.f0))) (fun _ hk => hk.2) (.int .i64 ((rd_T46 l0 x8_2).f3.f1.f1))) (fun _ hk => hk.2) (.slice A350_6 ((rd_T46 l0 x8_2).f3.f1.f2).length c350_6)) (fun _ hk => hk.2) (.string ((rd_T46 l0 x8_2).f3.f2))) (fun _ hk => hk.2) (.int .i64 ((rd_T46 l0 x8_2).f3.f3))) (fun _ hk => ⟨hk.1.1.1, ⟨hk.1.1.2.1, ⟨hk.1.1.2.2, hk.1.2⟩⟩⟩))))⟩; replace HO_6 : Aside0 (Kd.N k46 46 w43 w.heap.size (fun k_ => (P0_ k_ ∨ w.heap.size ≤ k_) ∧ some k_ ≠ (u7 : Value).ownBlock ∧ k_ ≠ gb351) u6 x6_2) := ⟨(by rw [hw]; exact (by (with_reducible repeat (first | apply Kd.N_alloc | apply Kd.N_drewN | apply Kd.N_drew)); exact Kd.N_mono (Kd.N_far (p := ⟨gb351, 8, none⟩) (Kd.N_far (p := ⟨gb351, 7, none⟩) (Kd.N_far (p := ⟨gb351, 6, none⟩) (Kd.N_far (p := ⟨gb351, 5, none⟩) (Kd.N_far (p := ⟨gb351, 4, none⟩) (Kd.N_far (p := ⟨gb351, 3, none⟩) (Kd.N_far (p := ⟨gb351, 2, none⟩) (Kd.N_far (p := ⟨gb351, 1, none⟩) (Kd.N_far (p := ⟨gb351, 0, none⟩) (Kd.N_mono HO_6.out (fun k_ hk => (⟨hk, hk.2⟩ : _ ∧ k_ ≠ gb351))) (fun _ hk => hk.2) (.int .i64 ((rd_T46 l0 x8_2).f0))) (fun _ hk => hk.2) (.int .i64 ((rd_T46 l0 x8_2).f1))) (fun _ hk => hk.2) (.int .i64 ((rd_T46 l0 x8_2).f2))) (fun _ hk => hk.2) (.int .i64 ((rd_T46 l0 x8_2).f3.f0))) (fun _ hk => hk.2) (.int .i64 ((rd_T46 l0 x8_2).f3.f1.f0))) (fun _ hk => hk.2) (.int .i64 ((rd_T46 l0 x8_2).f3.f1.f1))) (fun _ hk => hk.2) (.slice A350_6 ((rd_T46 l0 x8_2).f3.f1.f2).length c350_6)) (fun _ hk => hk.2) (.string ((rd_T46 l0 x8_2).f3.f2))) (fun _ hk => hk.2) (.int .i64 ((rd_T46 l0 x8_2).f3.f3))) (fun _ hk => ⟨hk.1.1.1, ⟨hk.1.1.2, hk.1.2⟩⟩)))⟩; replace HO_7 : Aside0 (Kd.N k46 46 w43 w.heap.size (fun k_ => (P0_ k_ ∨ w.heap.size ≤ k_) ∧ some k_ ≠ (u6 : Value).ownBlock ∧ k_ ≠ gb351) u7 x7_2) := ⟨(by rw [hw]; exact (by (with_reducible repeat (first | apply Kd.N_alloc | apply Kd.N_drewN | apply Kd.N_drew)); exact Kd.N_mono (Kd.N_far (p := ⟨gb351, 8, none⟩) (Kd.N_far (p := ⟨gb351, 7, none⟩) (Kd.N_far (p := ⟨gb351, 6, none⟩) (Kd.N_far (p := ⟨gb351, 5, none⟩) (Kd.N_far (p := ⟨gb351, 4, none⟩) (Kd.N_far (p := ⟨gb351, 3, none⟩) (Kd.N_far (p := ⟨gb351, 2, none⟩) (Kd.N_far (p := ⟨gb351, 1, none⟩) (Kd.N_far (p := ⟨gb351, 0, none⟩) (Kd.N_mono HO_7.out (fun k_ hk => (⟨hk, hk.2⟩ : _ ∧ k_ ≠ gb351))) (fun _ hk => hk.2) (.int .i64 ((rd_T46 l0 x8_2).f0))) (fun _ hk => hk.2) (.int .i64 ((rd_T46 l0 x8_2).f1))) (fun _ hk => hk.2) (.int .i64 ((rd_T46 l0 x8_2).f2))) (fun _ hk => hk.2) (.int .i64 ((rd_T46 l0 x8_2).f3.f0))) (fun _ hk => hk.2) (.int .i64 ((rd_T46 l0 x8_2).f3.f1.f0))) (fun _ hk => hk.2) (.int .i64 ((rd_T46 l0 x8_2).f3.f1.f1))) (fun _ hk => hk.2) (.slice A350_6 ((rd_T46 l0 x8_2).f3.f1.f2).length c350_6)) (fun _ hk => hk.2) (.string ((rd_T46 l0 x8_2).f3.f2))) (fun _ hk => hk.2) (.int .i64 ((rd_T46 l0 x8_2).f3.f3))) (fun _ hk => ⟨hk.1.1.1, ⟨hk.1.1.2, hk.1.2⟩⟩)))⟩; replace HL350_6 : Aside0 (Kd.V k62 62 w43 w.heap.size (fun k_ => (P0_ k_ ∨ w.heap.size ≤ k_) ∧ some k_ ≠ (u6 : Value).ownBlock ∧ some k_ ≠ (u7 : Value).ownBlock ∧ k_ ≠ gb351) (.slice A350_6 ((rd_T46 l0 x8_2).f3.f1.f2).length c350_6) ((rd_T46 l0 x8_2).f3.f1.f2)) := ⟨(by rw [hw]; exact (My.dV (Kd.V_mono (Kd.V_far (p := ⟨gb351, 8, none⟩) (Kd.V_far (p := ⟨gb351, 7, none⟩) (Kd.V_far (p := ⟨gb351, 6, none⟩) (Kd.V_far (p := ⟨gb351, 5, none⟩) (Kd.V_far (p := ⟨gb351, 4, none⟩) (Kd.V_far (p := ⟨gb351, 3, none⟩) (Kd.V_far (p := ⟨gb351, 2, none⟩) (Kd.V_far (p := ⟨gb351, 1, none⟩) (Kd.V_far (p := ⟨gb351, 0, none⟩) (Kd.V_mono HL350_6.out (fun k_ hk => (⟨hk, hk.2⟩ : _ ∧ k_ ≠ gb351))) (fun _ hk => hk.2) (.int .i64 ((rd_T46 l0 x8_2).f0))) (fun _ hk => hk.2) (.int .i64 ((rd_T46 l0 x8_2).f1))) (fun _ hk => hk.2) (.int .i64 ((rd_T46 l0 x8_2).f2))) (fun _ hk => hk.2) (.int .i64 ((rd_T46 l0 x8_2).f3.f0))) (fun _ hk => hk.2) (.int .i64 ((rd_T46 l0 x8_2).f3.f1.f0))) (fun _ hk => hk.2) (.int .i64 ((rd_T46 l0 x8_2).f3.f1.f1))) (fun _ hk => hk.2) (.slice A350_6 ((rd_T46 l0 x8_2).f3.f1.f2).length c350_6)) (fun _ hk => hk.2) (.string ((rd_T46 l0 x8_2).f3.f2))) (fun _ hk => hk.2) (.int .i64 ((rd_T46 l0 x8_2).f3.f3))) (fun _ hk => ⟨hk.1.1.1, ⟨hk.1.1.2.1, ⟨hk.1.1.2.2, hk.1.2⟩⟩⟩))))⟩; replace BK351 : Aside0 (w43.heap[gb351]? = some (.cells #[.int .i64 ((rd_T46 l0 x8_2).f0), .int .i64 ((rd_T46 l0 x8_2).f1), .int .i64 ((rd_T46 l0 x8_2).f2), .int .i64 ((rd_T46 l0 x8_2).f3.f0), .int .i64 ((rd_T46 l0 x8_2).f3.f1.f0), .int .i64 ((rd_T46 l0 x8_2).f3.f1.f1), .slice A350_6 ((rd_T46 l0 x8_2).f3.f1.f2).length c350_6, .string ((rd_T46 l0 x8_2).f3.f2), .int .i64 ((rd_T46 l0 x8_2).f3.f3)] 46 (0, 0))) := ⟨(by rw [hw]; exact ((My.sv_ BK351)))⟩; replace HB : Aside0 (Below w.heap.size w w43) := ⟨(by rw [hw]; exact (My.bl_ HB))⟩; (try clear hw); have hcz44_0 : w43.cell? ⟨gb351, 0, none⟩ = some (.int .i64 ((rd_T46 l0 x8_2).f0)) := My.b_ BK351 0; have hcz44_1 : w43.cell? ⟨gb351, 1, none⟩ = some (.int .i64 ((rd_T46 l0 x8_2).f1)) := My.b_ BK351 1; have hcz44_2 : w43.cell? ⟨gb351, 2, none⟩ = some (.int .i64 ((rd_T46 l0 x8_2).f2)) := My.b_ BK351 2; have hcz44_3 : w43.cell? ⟨gb351, 3, none⟩ = some (.int .i64 ((rd_T46 l0 x8_2).f3.f0)) := My.b_ BK351 3; have hcz44_4 : w43.cell? ⟨gb351, 4, none⟩ = some (.int .i64 ((rd_T46 l0 x8_2).f3.f1.f0)) := My.b_ BK351 4; have hcz44_5 : w43.cell? ⟨gb351, 5, none⟩ = some (.int .i64 ((rd_T46 l0 x8_2).f3.f1.f1)) := My.b_ BK351 5; have hcz44_6 : w43.cell? ⟨gb351, 6, none⟩ = some (.slice A350_6 ((rd_T46 l0 x8_2).f3.f1.f2).length c350_6) := My.b_ BK351 6; have hcz44_7 : w43.cell? ⟨gb351, 7, none⟩ = some (.string ((rd_T46 l0 x8_2).f3.f2)) := My.b_ BK351 7; have hcz44_8 : w43.cell? ⟨gb351, 8, none⟩ = some (.int .i64 ((rd_T46 l0 x8_2).f3.f3)) := My.b_ BK351 8; have hfz44_0 := blk_frozen BK351.out 0; have hfz44_1 := blk_frozen BK351.out 1; have hfz44_2 := blk_frozen BK351.out 2; have hfz44_3 := blk_frozen BK351.out 3; have hfz44_4 := blk_frozen BK351.out 4; have hfz44_5 := blk_frozen BK351.out 5; have hfz44_6 := blk_frozen BK351.out 6; have hfz44_7 := blk_frozen BK351.out 7; have hfz44_8 := blk_frozen BK351.out 8) | ((with_reducible refine gate_builtin (b := .append) (xs := #[.tmp 49, .tmp 51]) rfl ?_); at_builtin; refine Kd.N_append k46 (w0 := w) w.heap.size rfl (.tmp 49) (.tmp 51) 22 46 (.agg #[(.int .i64 0), (.int .i64 0), (.int .i64 0), (.int .i64 0), (.int .i64 0), (.int .i64 0), (.slice none 0 0), (.string ⟨#[]⟩), (.int .i64 0)]) 96 rfl Try.underlying22 info46 rfl (by decide) (by omega) u6 x6_2 (⟨(rd_T46 l0 x8_2).f0, (rd_T46 l0 x8_2).f1, (rd_T46 l0 x8_2).f2, (⟨(rd_T46 l0 x8_2).f3.f0, (⟨(rd_T46 l0 x8_2).f3.f1.f0, (rd_T46 l0 x8_2).f3.f1.f1, (rd_T46 l0 x8_2).f3.f1.f2⟩ : S35), (rd_T46 l0 x8_2).f3.f2, (rd_T46 l0 x8_2).f3.f3⟩ : S37)⟩ : S46) [.int .i64 ((rd_T46 l0 x8_2).f0), .int .i64 ((rd_T46 l0 x8_2).f1), .int .i64 ((rd_T46 l0 x8_2).f2), .int .i64 ((rd_T46 l0 x8_2).f3.f0), .int .i64 ((rd_T46 l0 x8_2).f3.f1.f0), .int .i64 ((rd_T46 l0 x8_2).f3.f1.f1), .slice A350_6 ((rd_T46 l0 x8_2).f3.f1.f2).length c350_6, .string ((rd_T46 l0 x8_2).f3.f2), .int .i64 ((rd_T46 l0 x8_2).f3.f3)] (fun k_ => (P0_ k_ ∨ w.heap.size ≤ k_) ∧ some k_ ≠ (u7 : Value).ownBlock ∧ k_ ≠ gb351) (fun k_ => ((fun k_ => (P0_ k_ ∨ w.heap.size ≤ k_) ∧ some k_ ≠ (u7 : Value).ownBlock ∧ k_ ≠ gb351)) k_ ∧ some k_ ≠ (u6 : Value).ownBlock) rfl rfl ?aP (fun _ hk => hk) ?aF ?aO ?aB ?aS ?aL ?_; (case aP => exact (k46_mkF _ _ (⟨(rd_T46 l0 x8_2).f0, (rd_T46 l0 x8_2).f1, (rd_T46 l0 x8_2).f2, (⟨(rd_T46 l0 x8_2).f3.f0, (⟨(rd_T46 l0 x8_2).f3.f1.f0, (rd_T46 l0 x8_2).f3.f1.f1, (rd_T46 l0 x8_2).f3.f1.f2⟩ : S35), (rd_T46 l0 x8_2).f3.f2, (rd_T46 l0 x8_2).f3.f3⟩ : S37)⟩ : S46) (Kd.V_reads' (Kd.V_mono (ok' := (fun k_ => ((fun k_ => (P0_ k_ ∨ w.heap.size ≤ k_) ∧ some k_ ≠ (u7 : Value).ownBlock ∧ k_ ≠ gb351)) k_ ∧ some k_ ≠ (u6 : Value).ownBlock)) (HL350_6.out) (fun k_ hk => ⟨⟨hk.1, ⟨hk.2.2.1, hk.2.2.2⟩⟩, hk.2.1⟩))).2.1 (Kd.V_F (Kd.V_mono (ok' := (fun k_ => ((fun k_ => (P0_ k_ ∨ w.heap.size ≤ k_) ∧ some k_ ≠ (u7 : Value).ownBlock ∧ k_ ≠ gb351)) k_ ∧ some k_ ≠ (u6 : Value).ownBlock)) (HL350_6.out) (fun k_ hk => ⟨⟨hk.1, ⟨hk.2.2.1, hk.2.2.2⟩⟩, hk.2.1⟩))))); (case aB => exact (My.bl_ HB)); (case aF => exact (fun k_ hk => ⟨(.inr (Nat.le_trans (below_size (My.bl_ HB)) hk)), Kd.fresh' (Kd.N_lt (by (with_reducible repeat (first | apply Kd.N_alloc | apply Kd.N_drewN | apply Kd.N_drew)); exact HO_7.out)) k_ hk, Kd.freshB (My.at_ BK351) k_ hk⟩)); (case aO => exact (by (with_reducible repeat (first | apply Kd.N_alloc | apply Kd.N_drewN | apply Kd.N_drew)); exact HO_6.out)); (case aS => exact (below_size (My.bl_ HB))); (case aL => have := LMc40.out; omega); intro v367 w45 ho hb hg hat; rw [← Ny366.out] at ho; replace HO_0 := My.am (Kd.V_afterv (ok := (fun k_ => (P0_ k_ ∨ w.heap.size ≤ k_) ∧ some k_ ≠ (u7 : Value).ownBlock ∧ k_ ≠ gb351)) (My.dV (Kd.V_mono HO_0.out (fun _ hk => ⟨⟨hk.1, ⟨hk.2.2.1, hk.2.2.2⟩⟩, hk.2.1⟩))) hg hat); replace HO_7 := My.am (Kd.N_afterv (ok := (fun k_ => (P0_ k_ ∨ w.heap.size ≤ k_) ∧ k_ ≠ gb351)) (by (with_reducible repeat (first | apply Kd.N_alloc | apply Kd.N_drewN | apply Kd.N_drew)); exact Kd.N_mono HO_7.out (fun _ hk => ⟨⟨hk.1, hk.2.2⟩, hk.2.1⟩)) hg hat); replace HL350_6 := My.am (Kd.V_afterv (ok := (fun k_ => (P0_ k_ ∨ w.heap.size ≤ k_) ∧ some k_ ≠ (u7 : Value).ownBlock ∧ k_ ≠ gb351)) (My.dV (Kd.V_mono HL350_6.out (fun _ hk => ⟨⟨hk.1, ⟨hk.2.2.1, hk.2.2.2⟩⟩, hk.2.1⟩))) hg hat); replace HB := My.am (hb); have HO368 := My.am (ho); (try clear HO_6); clear ho hb hg hat))
      go_roundg k2
      case measure => have := HJ2.out; have := HK2.out; omega
      case rel => exact ⟨(y366), (x7_2), (wrap64 (x8_2 + 1)), My.r1, H', ⟨by have := HJ2.out; have := HK2.out; omega⟩, ⟨My.dV (Kd.V_mono HO_0.out (fun _ hk => ⟨hk.1.1, ⟨hk.2, hk.1.2.1⟩⟩))⟩, ⟨by (with_reducible repeat (first | apply Kd.N_alloc | apply Kd.N_drewN | apply Kd.N_drew)); exact Kd.N_mono HO368.out (fun _ hk => ⟨hk.1, hk.2.1⟩)⟩, ⟨by (with_reducible repeat (first | apply Kd.N_alloc | apply Kd.N_drewN | apply Kd.N_drew)); exact Kd.N_mono HO_7.out (fun _ hk => ⟨hk.1.1, hk.2⟩)⟩, ⟨(My.bl_ HB)⟩⟩
     rw [if_pos c12] at H
     have c12b0 := decide_eq_true c12
     clear c12
     by_cases c13 : ((rd_T46 l0 x8_2).f2) < 1000000
     ·rw [if_pos c13] at H
      have c13b0 := decide_eq_true c13
      clear c13
      replace H := Option.bind_eq_some_iff.mp H
      obtain ⟨t352, A140, H⟩ := H
      try dsimp only at H
      have A14 := My.am A140
      clear A140
      by_cases c15 : x7_2.length < 1466015503701
      rotate_left
      ·exact My.nn c15 H
      rw [if_pos c15] at H
      have LMc15 := My.am c15
      clear c15
      obtain ⟨y353, hy353⟩ : ∃ y_ : List (S46), y_ = (x7_2 ++ [(⟨(rd_T46 l0 x8_2).f0, wrap64 (a1 + t352), wrap64 (((rd_T46 l0 x8_2).f2) + 1), (⟨(rd_T46 l0 x8_2).f3.f0, (⟨(rd_T46 l0 x8_2).f3.f1.f0, (rd_T46 l0 x8_2).f3.f1.f1, (rd_T46 l0 x8_2).f3.f1.f2⟩ : S35), (rd_T46 l0 x8_2).f3.f2, (rd_T46 l0 x8_2).f3.f3⟩ : S37)⟩ : S46)]) := ⟨_, rfl⟩
      replace H : (if x6_2.length < 1466015503701 then (ententeref19_Due.l0 k2 l0 a1 (x6_2 ++ [(⟨(rd_T46 l0 x8_2).f0, wrap64 (a1 + t352), wrap64 (((rd_T46 l0 x8_2).f2) + 1), (⟨(rd_T46 l0 x8_2).f3.f0, (⟨(rd_T46 l0 x8_2).f3.f1.f0, (rd_T46 l0 x8_2).f3.f1.f1, (rd_T46 l0 x8_2).f3.f1.f2⟩ : S35), (rd_T46 l0 x8_2).f3.f2, (rd_T46 l0 x8_2).f3.f3⟩ : S37)⟩ : S46)]) y353 (wrap64 (x8_2 + 1))) else (none)) = some (r1, r2) := by first | (rw [hy353]; with_reducible exact H) | (have H2_ := (Option.bind_some _ _).symm.trans H; rw [hy353]; with_reducible exact H2_) | (have H2_ := (Option.bind_some _ _).symm.trans H; with_reducible exact H2_) | with_reducible exact H | (rw [hy353]; exact H) | exact H
      have Ny353 := My.am hy353
      clear hy353
      by_cases c16 : x6_2.length < 1466015503701
      rotate_left
      ·exact My.nn c16 H
      rw [if_pos c16] at H
      have LMc16 := My.am c16
      clear c16
      obtain ⟨y356, hy356⟩ : ∃ y_ : List (S46), y_ = (x6_2 ++ [(⟨(rd_T46 l0 x8_2).f0, wrap64 (a1 + t352), wrap64 (((rd_T46 l0 x8_2).f2) + 1), (⟨(rd_T46 l0 x8_2).f3.f0, (⟨(rd_T46 l0 x8_2).f3.f1.f0, (rd_T46 l0 x8_2).f3.f1.f1, (rd_T46 l0 x8_2).f3.f1.f2⟩ : S35), (rd_T46 l0 x8_2).f3.f2, (rd_T46 l0 x8_2).f3.f3⟩ : S37)⟩ : S46)]) := ⟨_, rfl⟩
      replace H : (ententeref19_Due.l0 k2 l0 a1 y356 y353 (wrap64 (x8_2 + 1))) = some (r1, r2) := by first | (rw [hy356]; with_reducible exact H) | (have H2_ := (Option.bind_some _ _).symm.trans H; rw [hy356]; with_reducible exact H2_) | (have H2_ := (Option.bind_some _ _).symm.trans H; with_reducible exact H2_) | with_reducible exact H | (rw [hy356]; exact H) | exact H
      have Ny356 := My.am hy356
      clear hy356
      have H' := My.am H
      clear H
      have p350 : 0 ≤ (x8_2 : Int) := My.as_
      have q350 : x8_2 < (l0.length : Int) := My.as_
      obtain ⟨ad350, A350_6, c350_6, e350, hx350_0, hx350_1, hx350_2, hx350_3, hx350_4, hx350_5, hx350_6, hx350_7, hx350_8, hl350_6, hi350_6⟩ := at_T46 (Kd.V_reads' HO_0.out).2.2 x8_2 p350 q350
      cases e350
      obtain ⟨ce350, hce350, hMe350, hcc350⟩ := Kd.V_get HO_0.out z46 x8_2 p350 (by first | exact q350 | exact My.as_ | (have e_ := (Kd.V_reads' HO_0.out).1; omega))
      obtain ⟨ua350_6, uc350_6, rfl, ul350_6, ge350_6⟩ := k46_openF hMe350
      have hv350_6 := hcc350 6 _ rfl
      rw [add_field _ _ 6 (by omega)] at hv350_6
      replace hv350_6 := Option.some.inj (hv350_6.symm.trans hx350_6)
      injection hv350_6 with hva_ hvn_ hvc_
      rw [hva_] at ge350_6
      rw [hvc_] at ul350_6
      have HL350_6 := My.am (show Kd.V k62 62 _ w.heap.size _ _ ((rd_T46 l0 x8_2).f3.f1.f2) from Kd.V_mk ul350_6 ge350_6)
      clear hva_ hvn_ hvc_ ge350_6 ul350_6
      clear hcc350 hce350
      have HR350_6 := My.am hi350_6
      have HC350_6 := My.am hl350_6
      clear hi350_6 hl350_6
      replace p350 := eq_true p350
      replace q350 := eq_true q350
      go_wp2_with (first | ((with_reducible refine gate_dst (N := 9) rfl ?_); refine My.bx 9 #[.int .i64 0, .int .i64 0, .int .i64 0, .int .i64 0, .int .i64 0, .int .i64 0, .slice none 0 0, .string (⟨#[]⟩ : ByteArray), .int .i64 0] 46 ?_; intro gb351 hg w17 hbox hb; replace HO_0 := My.am (Kd.V_below (Kd.V_elderB (My.dV HO_0.out) gb351 (Nat.le_of_eq hg.symm)) hb); replace HO_6 := My.am (Kd.N_below (Kd.N_elderB (by (with_reducible repeat (first | apply Kd.N_alloc | apply Kd.N_drewN | apply Kd.N_drew)); exact HO_6.out) gb351 (Nat.le_of_eq hg.symm)) hb); replace HO_7 := My.am (Kd.N_below (Kd.N_elderB (by (with_reducible repeat (first | apply Kd.N_alloc | apply Kd.N_drewN | apply Kd.N_drew)); exact HO_7.out) gb351 (Nat.le_of_eq hg.symm)) hb); replace HL350_6 := My.am (Kd.V_below (Kd.V_elderB (My.dV HL350_6.out) gb351 (Nat.le_of_eq hg.symm)) hb); replace HR350_6 := My.am (Kd.C_below (by repeat (first | (with_reducible exact HR350_6.out) | (with_reducible refine Kd.C_alloc ?_ _) | (with_reducible refine Kd.C_drewN ?_ _) | (with_reducible refine Kd.C_drew ?_) | exact HR350_6.out | exact (Kd.V_reads' (My.dV HL350_6.out)).2.2)) hb); have BK351 := My.am (hbox); have GE351 := My.nge hg (My.bl_ HB); replace HB := My.st HB hb; clear hb hbox hg; have hcz18_0 : w17.cell? ⟨gb351, 0, none⟩ = some (.int .i64 0) := My.b_ BK351 0; have hcz18_1 : w17.cell? ⟨gb351, 1, none⟩ = some (.int .i64 0) := My.b_ BK351 1; have hcz18_2 : w17.cell? ⟨gb351, 2, none⟩ = some (.int .i64 0) := My.b_ BK351 2; have hcz18_3 : w17.cell? ⟨gb351, 3, none⟩ = some (.int .i64 0) := My.b_ BK351 3; have hcz18_4 : w17.cell? ⟨gb351, 4, none⟩ = some (.int .i64 0) := My.b_ BK351 4; have hcz18_5 : w17.cell? ⟨gb351, 5, none⟩ = some (.int .i64 0) := My.b_ BK351 5; have hcz18_6 : w17.cell? ⟨gb351, 6, none⟩ = some (.slice none 0 0) := My.b_ BK351 6; have hcz18_7 : w17.cell? ⟨gb351, 7, none⟩ = some (.string (⟨#[]⟩ : ByteArray)) := My.b_ BK351 7; have hcz18_8 : w17.cell? ⟨gb351, 8, none⟩ = some (.int .i64 0) := My.b_ BK351 8; have hfz18_0 := blk_frozen BK351.out 0; have hfz18_1 := blk_frozen BK351.out 1; have hfz18_2 := blk_frozen BK351.out 2; have hfz18_3 := blk_frozen BK351.out 3; have hfz18_4 := blk_frozen BK351.out 4; have hfz18_5 := blk_frozen BK351.out 5; have hfz18_6 := blk_frozen BK351.out 6; have hfz18_7 := blk_frozen BK351.out 7; have hfz18_8 := blk_frozen BK351.out 8) | ((with_reducible refine gate_store (t := 46) (p := 9) rfl ?_); refine store_event (t := 46) (p := 9) (v := ?vo_w19) (w1 := (((((((((w17.setCell ⟨gb351, 0, none⟩ (.int .i64 ((rd_T46 l0 x8_2).f0))).setCell ⟨gb351, 1, none⟩ (.int .i64 ((rd_T46 l0 x8_2).f1))).setCell ⟨gb351, 2, none⟩ (.int .i64 ((rd_T46 l0 x8_2).f2))).setCell ⟨gb351, 3, none⟩ (.int .i64 ((rd_T46 l0 x8_2).f3.f0))).setCell ⟨gb351, 4, none⟩ (.int .i64 ((rd_T46 l0 x8_2).f3.f1.f0))).setCell ⟨gb351, 5, none⟩ (.int .i64 ((rd_T46 l0 x8_2).f3.f1.f1))).setCell ⟨gb351, 6, none⟩ (.slice A350_6 ((rd_T46 l0 x8_2).f3.f1.f2).length c350_6)).setCell ⟨gb351, 7, none⟩ (.string ((rd_T46 l0 x8_2).f3.f2))).setCell ⟨gb351, 8, none⟩ (.int .i64 ((rd_T46 l0 x8_2).f3.f3)))) ?hg ?ho ?hn ?hr ?_; (case ho => rfl); (case hg => rfl); (case hn => rfl); (case hr => first | (go_simp; done) | (go_simp; rfl)); intro w19 hw; replace HO_0 : Aside0 (Kd.V k46 46 w19 w.heap.size (fun k_ => (P0_ k_ ∨ w.heap.size ≤ k_) ∧ some k_ ≠ (u6 : Value).ownBlock ∧ some k_ ≠ (u7 : Value).ownBlock ∧ k_ ≠ gb351) (.slice (some ad350) l0.length c0) l0) := ⟨(by rw [hw]; exact (My.dV (Kd.V_mono (Kd.V_far (p := ⟨gb351, 8, none⟩) (Kd.V_far (p := ⟨gb351, 7, none⟩) (Kd.V_far (p := ⟨gb351, 6, none⟩) (Kd.V_far (p := ⟨gb351, 5, none⟩) (Kd.V_far (p := ⟨gb351, 4, none⟩) (Kd.V_far (p := ⟨gb351, 3, none⟩) (Kd.V_far (p := ⟨gb351, 2, none⟩) (Kd.V_far (p := ⟨gb351, 1, none⟩) (Kd.V_far (p := ⟨gb351, 0, none⟩) (Kd.V_mono HO_0.out (fun k_ hk => (⟨hk, hk.2⟩ : _ ∧ k_ ≠ gb351))) (fun _ hk => hk.2) (.int .i64 ((rd_T46 l0 x8_2).f0))) (fun _ hk => hk.2) (.int .i64 ((rd_T46 l0 x8_2).f1))) (fun _ hk => hk.2) (.int .i64 ((rd_T46 l0 x8_2).f2))) (fun _ hk => hk.2) (.int .i64 ((rd_T46 l0 x8_2).f3.f0))) (fun _ hk => hk.2) (.int .i64 ((rd_T46 l0 x8_2).f3.f1.f0))) (fun _ hk => hk.2) (.int .i64 ((rd_T46 l0 x8_2).f3.f1.f1))) (fun _ hk => hk.2) (.slice A350_6 ((rd_T46 l0 x8_2).f3.f1.f2).length c350_6)) (fun _ hk => hk.2) (.string ((rd_T46 l0 x8_2).f3.f2))) (fun _ hk => hk.2) (.int .i64 ((rd_T46 l0 x8_2).f3.f3))) (fun _ hk => ⟨hk.1.1.1, ⟨hk.1.1.2.1, ⟨hk.1.1.2.2, hk.1.2⟩⟩⟩))))⟩; replace HO_6 : Aside0 (Kd.N k46 46 w19 w.heap.size (fun k_ => (P0_ k_ ∨ w.heap.size ≤ k_) ∧ some k_ ≠ (u7 : Value).ownBlock ∧ k_ ≠ gb351) u6 x6_2) := ⟨(by rw [hw]; exact (by (with_reducible repeat (first | apply Kd.N_alloc | apply Kd.N_drewN | apply Kd.N_drew)); exact Kd.N_mono (Kd.N_far (p := ⟨gb351, 8, none⟩) (Kd.N_far (p := ⟨gb351, 7, none⟩) (Kd.N_far (p := ⟨gb351, 6, none⟩) (Kd.N_far (p := ⟨gb351, 5, none⟩) (Kd.N_far (p := ⟨gb351, 4, none⟩) (Kd.N_far (p := ⟨gb351, 3, none⟩) (Kd.N_far (p := ⟨gb351, 2, none⟩) (Kd.N_far (p := ⟨gb351, 1, none⟩) (Kd.N_far (p := ⟨gb351, 0, none⟩) (Kd.N_mono HO_6.out (fun k_ hk => (⟨hk, hk.2⟩ : _ ∧ k_ ≠ gb351))) (fun _ hk => hk.2) (.int .i64 ((rd_T46 l0 x8_2).f0))) (fun _ hk => hk.2) (.int .i64 ((rd_T46 l0 x8_2).f1))) (fun _ hk => hk.2) (.int .i64 ((rd_T46 l0 x8_2).f2))) (fun _ hk => hk.2) (.int .i64 ((rd_T46 l0 x8_2).f3.f0))) (fun _ hk => hk.2) (.int .i64 ((rd_T46 l0 x8_2).f3.f1.f0))) (fun _ hk => hk.2) (.int .i64 ((rd_T46 l0 x8_2).f3.f1.f1))) (fun _ hk => hk.2) (.slice A350_6 ((rd_T46 l0 x8_2).f3.f1.f2).length c350_6)) (fun _ hk => hk.2) (.string ((rd_T46 l0 x8_2).f3.f2))) (fun _ hk => hk.2) (.int .i64 ((rd_T46 l0 x8_2).f3.f3))) (fun _ hk => ⟨hk.1.1.1, ⟨hk.1.1.2, hk.1.2⟩⟩)))⟩; replace HO_7 : Aside0 (Kd.N k46 46 w19 w.heap.size (fun k_ => (P0_ k_ ∨ w.heap.size ≤ k_) ∧ some k_ ≠ (u6 : Value).ownBlock ∧ k_ ≠ gb351) u7 x7_2) := ⟨(by rw [hw]; exact (by (with_reducible repeat (first | apply Kd.N_alloc | apply Kd.N_drewN | apply Kd.N_drew)); exact Kd.N_mono (Kd.N_far (p := ⟨gb351, 8, none⟩) (Kd.N_far (p := ⟨gb351, 7, none⟩) (Kd.N_far (p := ⟨gb351, 6, none⟩) (Kd.N_far (p := ⟨gb351, 5, none⟩) (Kd.N_far (p := ⟨gb351, 4, none⟩) (Kd.N_far (p := ⟨gb351, 3, none⟩) (Kd.N_far (p := ⟨gb351, 2, none⟩) (Kd.N_far (p := ⟨gb351, 1, none⟩) (Kd.N_far (p := ⟨gb351, 0, none⟩) (Kd.N_mono HO_7.out (fun k_ hk => (⟨hk, hk.2⟩ : _ ∧ k_ ≠ gb351))) (fun _ hk => hk.2) (.int .i64 ((rd_T46 l0 x8_2).f0))) (fun _ hk => hk.2) (.int .i64 ((rd_T46 l0 x8_2).f1))) (fun _ hk => hk.2) (.int .i64 ((rd_T46 l0 x8_2).f2))) (fun _ hk => hk.2) (.int .i64 ((rd_T46 l0 x8_2).f3.f0))) (fun _ hk => hk.2) (.int .i64 ((rd_T46 l0 x8_2).f3.f1.f0))) (fun _ hk => hk.2) (.int .i64 ((rd_T46 l0 x8_2).f3.f1.f1))) (fun _ hk => hk.2) (.slice A350_6 ((rd_T46 l0 x8_2).f3.f1.f2).length c350_6)) (fun _ hk => hk.2) (.string ((rd_T46 l0 x8_2).f3.f2))) (fun _ hk => hk.2) (.int .i64 ((rd_T46 l0 x8_2).f3.f3))) (fun _ hk => ⟨hk.1.1.1, ⟨hk.1.1.2, hk.1.2⟩⟩)))⟩; replace HL350_6 : Aside0 (Kd.V k62 62 w19 w.heap.size (fun k_ => (P0_ k_ ∨ w.heap.size ≤ k_) ∧ some k_ ≠ (u6 : Value).ownBlock ∧ some k_ ≠ (u7 : Value).ownBlock ∧ k_ ≠ gb351) (.slice A350_6 ((rd_T46 l0 x8_2).f3.f1.f2).length c350_6) ((rd_T46 l0 x8_2).f3.f1.f2)) := ⟨(by rw [hw]; exact (My.dV (Kd.V_mono (Kd.V_far (p := ⟨gb351, 8, none⟩) (Kd.V_far (p := ⟨gb351, 7, none⟩) (Kd.V_far (p := ⟨gb351, 6, none⟩) (Kd.V_far (p := ⟨gb351, 5, none⟩) (Kd.V_far (p := ⟨gb351, 4, none⟩) (Kd.V_far (p := ⟨gb351, 3, none⟩) (Kd.V_far (p := ⟨gb351, 2, none⟩) (Kd.V_far (p := ⟨gb351, 1, none⟩) (Kd.V_far (p := ⟨gb351, 0, none⟩) (Kd.V_mono HL350_6.out (fun k_ hk => (⟨hk, hk.2⟩ : _ ∧ k_ ≠ gb351))) (fun _ hk => hk.2) (.int .i64 ((rd_T46 l0 x8_2).f0))) (fun _ hk => hk.2) (.int .i64 ((rd_T46 l0 x8_2).f1))) (fun _ hk => hk.2) (.int .i64 ((rd_T46 l0 x8_2).f2))) (fun _ hk => hk.2) (.int .i64 ((rd_T46 l0 x8_2).f3.f0))) (fun _ hk => hk.2) (.int .i64 ((rd_T46 l0 x8_2).f3.f1.f0))) (fun _ hk => hk.2) (.int .i64 ((rd_T46 l0 x8_2).f3.f1.f1))) (fun _ hk => hk.2) (.slice A350_6 ((rd_T46 l0 x8_2).f3.f1.f2).length c350_6)) (fun _ hk => hk.2) (.string ((rd_T46 l0 x8_2).f3.f2))) (fun _ hk => hk.2) (.int .i64 ((rd_T46 l0 x8_2).f3.f3))) (fun _ hk => ⟨hk.1.1.1, ⟨hk.1.1.2.1, ⟨hk.1.1.2.2, hk.1.2⟩⟩⟩))))⟩; replace BK351 : Aside0 (w19.heap[gb351]? = some (.cells #[.int .i64 ((rd_T46 l0 x8_2).f0), .int .i64 ((rd_T46 l0 x8_2).f1), .int .i64 ((rd_T46 l0 x8_2).f2), .int .i64 ((rd_T46 l0 x8_2).f3.f0), .int .i64 ((rd_T46 l0 x8_2).f3.f1.f0), .int .i64 ((rd_T46 l0 x8_2).f3.f1.f1), .slice A350_6 ((rd_T46 l0 x8_2).f3.f1.f2).length c350_6, .string ((rd_T46 l0 x8_2).f3.f2), .int .i64 ((rd_T46 l0 x8_2).f3.f3)] 46 (0, 0))) := ⟨(by rw [hw]; exact ((My.sv_ BK351)))⟩; replace HB : Aside0 (Below w.heap.size w w19) := ⟨(by rw [hw]; exact (My.bl_ HB))⟩; (try clear hw); have hcz20_0 : w19.cell? ⟨gb351, 0, none⟩ = some (.int .i64 ((rd_T46 l0 x8_2).f0)) := My.b_ BK351 0; have hcz20_1 : w19.cell? ⟨gb351, 1, none⟩ = some (.int .i64 ((rd_T46 l0 x8_2).f1)) := My.b_ BK351 1; have hcz20_2 : w19.cell? ⟨gb351, 2, none⟩ = some (.int .i64 ((rd_T46 l0 x8_2).f2)) := My.b_ BK351 2; have hcz20_3 : w19.cell? ⟨gb351, 3, none⟩ = some (.int .i64 ((rd_T46 l0 x8_2).f3.f0)) := My.b_ BK351 3; have hcz20_4 : w19.cell? ⟨gb351, 4, none⟩ = some (.int .i64 ((rd_T46 l0 x8_2).f3.f1.f0)) := My.b_ BK351 4; have hcz20_5 : w19.cell? ⟨gb351, 5, none⟩ = some (.int .i64 ((rd_T46 l0 x8_2).f3.f1.f1)) := My.b_ BK351 5; have hcz20_6 : w19.cell? ⟨gb351, 6, none⟩ = some (.slice A350_6 ((rd_T46 l0 x8_2).f3.f1.f2).length c350_6) := My.b_ BK351 6; have hcz20_7 : w19.cell? ⟨gb351, 7, none⟩ = some (.string ((rd_T46 l0 x8_2).f3.f2)) := My.b_ BK351 7; have hcz20_8 : w19.cell? ⟨gb351, 8, none⟩ = some (.int .i64 ((rd_T46 l0 x8_2).f3.f3)) := My.b_ BK351 8; have hfz20_0 := blk_frozen BK351.out 0; have hfz20_1 := blk_frozen BK351.out 1; have hfz20_2 := blk_frozen BK351.out 2; have hfz20_3 := blk_frozen BK351.out 3; have hfz20_4 := blk_frozen BK351.out 4; have hfz20_5 := blk_frozen BK351.out 5; have hfz20_6 := blk_frozen BK351.out 6; have hfz20_7 := blk_frozen BK351.out 7; have hfz20_8 := blk_frozen BK351.out 8) | ((with_reducible refine gate_store (t := 3) (p := 38) rfl ?_); refine store_event (t := 3) (p := 38) (v := ?vo_w21) (w1 := (w19.setCell ⟨gb351, 2, none⟩ (.int .i64 (wrap64 (((rd_T46 l0 x8_2).f2) + 1))))) ?hg ?ho ?hn ?hr ?_; (case ho => rfl); (case hg => rfl); (case hn => rfl); (case hr => first | (go_simp; done) | (go_simp; rfl)); intro w21 hw; replace HO_0 : Aside0 (Kd.V k46 46 w21 w.heap.size (fun k_ => (P0_ k_ ∨ w.heap.size ≤ k_) ∧ some k_ ≠ (u6 : Value).ownBlock ∧ some k_ ≠ (u7 : Value).ownBlock ∧ k_ ≠ gb351) (.slice (some ad350) l0.length c0) l0) := ⟨(by rw [hw]; exact (My.dV (Kd.V_mono (Kd.V_far (p := ⟨gb351, 2, none⟩) (Kd.V_mono HO_0.out (fun k_ hk => (⟨hk, hk.2.2.2⟩ : _ ∧ k_ ≠ gb351))) (fun _ hk => hk.2) (.int .i64 (wrap64 (((rd_T46 l0 x8_2).f2) + 1)))) (fun _ hk => ⟨hk.1.1, ⟨hk.1.2.1, ⟨hk.1.2.2.1, hk.1.2.2.2⟩⟩⟩))))⟩; replace HO_6 : Aside0 (Kd.N k46 46 w21 w.heap.size (fun k_ => (P0_ k_ ∨ w.heap.size ≤ k_) ∧ some k_ ≠ (u7 : Value).ownBlock ∧ k_ ≠ gb351) u6 x6_2) := ⟨(by rw [hw]; exact (by (with_reducible repeat (first | apply Kd.N_alloc | apply Kd.N_drewN | apply Kd.N_drew)); exact Kd.N_mono (Kd.N_far (p := ⟨gb351, 2, none⟩) (Kd.N_mono HO_6.out (fun k_ hk => (⟨hk, hk.2.2⟩ : _ ∧ k_ ≠ gb351))) (fun _ hk => hk.2) (.int .i64 (wrap64 (((rd_T46 l0 x8_2).f2) + 1)))) (fun _ hk => ⟨hk.1.1, ⟨hk.1.2.1, hk.1.2.2⟩⟩)))⟩; replace HO_7 : Aside0 (Kd.N k46 46 w21 w.heap.size (fun k_ => (P0_ k_ ∨ w.heap.size ≤ k_) ∧ some k_ ≠ (u6 : Value).ownBlock ∧ k_ ≠ gb351) u7 x7_2) := ⟨(by rw [hw]; exact (by (with_reducible repeat (first | apply Kd.N_alloc | apply Kd.N_drewN | apply Kd.N_drew)); exact Kd.N_mono (Kd.N_far (p := ⟨gb351, 2, none⟩) (Kd.N_mono HO_7.out (fun k_ hk => (⟨hk, hk.2.2⟩ : _ ∧ k_ ≠ gb351))) (fun _ hk => hk.2) (.int .i64 (wrap64 (((rd_T46 l0 x8_2).f2) + 1)))) (fun _ hk => ⟨hk.1.1, ⟨hk.1.2.1, hk.1.2.2⟩⟩)))⟩; replace HL350_6 : Aside0 (Kd.V k62 62 w21 w.heap.size (fun k_ => (P0_ k_ ∨ w.heap.size ≤ k_) ∧ some k_ ≠ (u6 : Value).ownBlock ∧ some k_ ≠ (u7 : Value).ownBlock ∧ k_ ≠ gb351) (.slice A350_6 ((rd_T46 l0 x8_2).f3.f1.f2).length c350_6) ((rd_T46 l0 x8_2).f3.f1.f2)) := ⟨(by rw [hw]; exact (My.dV (Kd.V_mono (Kd.V_far (p := ⟨gb351, 2, none⟩) (Kd.V_mono HL350_6.out (fun k_ hk => (⟨hk, hk.2.2.2⟩ : _ ∧ k_ ≠ gb351))) (fun _ hk => hk.2) (.int .i64 (wrap64 (((rd_T46 l0 x8_2).f2) + 1)))) (fun _ hk => ⟨hk.1.1, ⟨hk.1.2.1, ⟨hk.1.2.2.1, hk.1.2.2.2⟩⟩⟩))))⟩; replace BK351 : Aside0 (w21.heap[gb351]? = some (.cells #[.int .i64 ((rd_T46 l0 x8_2).f0), .int .i64 ((rd_T46 l0 x8_2).f1), .int .i64 (wrap64 (((rd_T46 l0 x8_2).f2) + 1)), .int .i64 ((rd_T46 l0 x8_2).f3.f0), .int .i64 ((rd_T46 l0 x8_2).f3.f1.f0), .int .i64 ((rd_T46 l0 x8_2).f3.f1.f1), .slice A350_6 ((rd_T46 l0 x8_2).f3.f1.f2).length c350_6, .string ((rd_T46 l0 x8_2).f3.f2), .int .i64 ((rd_T46 l0 x8_2).f3.f3)] 46 (0, 0))) := ⟨(by rw [hw]; exact ((My.sv_ BK351)))⟩; replace HB : Aside0 (Below w.heap.size w w21) := ⟨(by rw [hw]; exact (My.bl_ HB))⟩; (try clear hw); have hcz22_0 : w21.cell? ⟨gb351, 0, none⟩ = some (.int .i64 ((rd_T46 l0 x8_2).f0)) := My.b_ BK351 0; have hcz22_1 : w21.cell? ⟨gb351, 1, none⟩ = some (.int .i64 ((rd_T46 l0 x8_2).f1)) := My.b_ BK351 1; have hcz22_2 : w21.cell? ⟨gb351, 2, none⟩ = some (.int .i64 (wrap64 (((rd_T46 l0 x8_2).f2) + 1))) := My.b_ BK351 2; have hcz22_3 : w21.cell? ⟨gb351, 3, none⟩ = some (.int .i64 ((rd_T46 l0 x8_2).f3.f0)) := My.b_ BK351 3; have hcz22_4 : w21.cell? ⟨gb351, 4, none⟩ = some (.int .i64 ((rd_T46 l0 x8_2).f3.f1.f0)) := My.b_ BK351 4; have hcz22_5 : w21.cell? ⟨gb351, 5, none⟩ = some (.int .i64 ((rd_T46 l0 x8_2).f3.f1.f1)) := My.b_ BK351 5; have hcz22_6 : w21.cell? ⟨gb351, 6, none⟩ = some (.slice A350_6 ((rd_T46 l0 x8_2).f3.f1.f2).length c350_6) := My.b_ BK351 6; have hcz22_7 : w21.cell? ⟨gb351, 7, none⟩ = some (.string ((rd_T46 l0 x8_2).f3.f2)) := My.b_ BK351 7; have hcz22_8 : w21.cell? ⟨gb351, 8, none⟩ = some (.int .i64 ((rd_T46 l0 x8_2).f3.f3)) := My.b_ BK351 8; have hfz22_0 := blk_frozen BK351.out 0; have hfz22_1 := blk_frozen BK351.out 1; have hfz22_2 := blk_frozen BK351.out 2; have hfz22_3 := blk_frozen BK351.out 3; have hfz22_4 := blk_frozen BK351.out 4; have hfz22_5 := blk_frozen BK351.out 5; have hfz22_6 := blk_frozen BK351.out 6; have hfz22_7 := blk_frozen BK351.out 7; have hfz22_8 := blk_frozen BK351.out 8) | ((with_reducible refine gate_callee (f := 33) rfl ?_); refine goesL_ (some 42) rfl rfl Try.func33 (by kernel_rfl) rfl #[.int .i64 (wrap64 (((rd_T46 l0 x8_2).f2) + 1))] rfl My.gx ?_; (with_reducible refine (ententeref11_Delay.calls (wrap64 (((rd_T46 l0 x8_2).f2) + 1)) t352 _ A14.out).mono ?_); rintro e w' ⟨rfl, ⟨nd, rfl⟩⟩; refine ⟨_, rfl, ?_⟩; (try (rw [drewN_self w21]; generalize hq_ : World.drewN w21 _ = w21; have n0_ : Aside0 (Kd.V k62 62 w21 w.heap.size (fun k_ => (P0_ k_ ∨ w.heap.size ≤ k_) ∧ some k_ ≠ (u6 : Value).ownBlock ∧ some k_ ≠ (u7 : Value).ownBlock ∧ k_ ≠ gb351) (.slice A350_6 ((rd_T46 l0 x8_2).f3.f1.f2).length c350_6) ((rd_T46 l0 x8_2).f3.f1.f2)) := ⟨by rw [← hq_]; exact (My.dV HL350_6.out)⟩; have n1_ : Aside0 (Kd.V k46 46 w21 w.heap.size (fun k_ => (P0_ k_ ∨ w.heap.size ≤ k_) ∧ some k_ ≠ (u6 : Value).ownBlock ∧ some k_ ≠ (u7 : Value).ownBlock ∧ k_ ≠ gb351) (.slice (some ad350) l0.length c0) l0) := ⟨by rw [← hq_]; exact (My.dV HO_0.out)⟩; have n2_ : Aside0 (Kd.N k46 46 w21 w.heap.size (fun k_ => (P0_ k_ ∨ w.heap.size ≤ k_) ∧ some k_ ≠ (u7 : Value).ownBlock ∧ k_ ≠ gb351) u6 x6_2) := ⟨by rw [← hq_]; exact (by (with_reducible repeat (first | apply Kd.N_alloc | apply Kd.N_drewN | apply Kd.N_drew)); exact HO_6.out)⟩; have n3_ : Aside0 (Kd.N k46 46 w21 w.heap.size (fun k_ => (P0_ k_ ∨ w.heap.size ≤ k_) ∧ some k_ ≠ (u6 : Value).ownBlock ∧ k_ ≠ gb351) u7 x7_2) := ⟨by rw [← hq_]; exact (by (with_reducible repeat (first | apply Kd.N_alloc | apply Kd.N_drewN | apply Kd.N_drew)); exact HO_7.out)⟩; have n4_ : Aside0 (w21.heap[gb351]? = some (.cells #[.int .i64 ((rd_T46 l0 x8_2).f0), .int .i64 ((rd_T46 l0 x8_2).f1), .int .i64 (wrap64 (((rd_T46 l0 x8_2).f2) + 1)), .int .i64 ((rd_T46 l0 x8_2).f3.f0), .int .i64 ((rd_T46 l0 x8_2).f3.f1.f0), .int .i64 ((rd_T46 l0 x8_2).f3.f1.f1), .slice A350_6 ((rd_T46 l0 x8_2).f3.f1.f2).length c350_6, .string ((rd_T46 l0 x8_2).f3.f2), .int .i64 ((rd_T46 l0 x8_2).f3.f3)] 46 (0, 0))) := ⟨by rw [← hq_]; exact (My.at_ BK351)⟩; have n5_ : Aside0 (Below w.heap.size w w21) := ⟨by rw [← hq_]; exact (My.bl_ HB)⟩; have n6_ : Aside0 (Kd.C k62 w21 A350_6 ((rd_T46 l0 x8_2).f3.f1.f2).length ((rd_T46 l0 x8_2).f3.f1.f2)) := ⟨by rw [← hq_]; exact (by repeat (first | (with_reducible exact HR350_6.out) | (with_reducible refine Kd.C_alloc ?_ _) | (with_reducible refine Kd.C_drewN ?_ _) | (with_reducible refine Kd.C_drew ?_) | exact HR350_6.out | exact (Kd.V_reads' (My.dV HL350_6.out)).2.2))⟩; clear HL350_6 HO_0 HO_6 HO_7 BK351 HB HR350_6 hq_; have HL350_6 := n0_; have HO_0 := n1_; have HO_6 := n2_; have HO_7 := n3_; have BK351 := n4_; have HB := n5_; have HR350_6 := n6_; clear n0_ n1_ n2_ n3_ n4_ n5_ n6_; have hz0_ := My.b_ BK351 0; have hz1_ := My.b_ BK351 1; have hz2_ := My.b_ BK351 2; have hz3_ := My.b_ BK351 3; have hz4_ := My.b_ BK351 4; have hz5_ := My.b_ BK351 5; have hz6_ := My.b_ BK351 6; have hz7_ := My.b_ BK351 7; have hz8_ := My.b_ BK351 8; have hzf_ := blk_frozen BK351.out))) | ((with_reducible refine gate_store (t := 3) (p := 44) rfl ?_); refine store_event (t := 3) (p := 44) (v := ?vo_w23) (w1 := (w21.setCell ⟨gb351, 1, none⟩ (.int .i64 (wrap64 (a1 + t352))))) ?hg ?ho ?hn ?hr ?_; (case ho => rfl); (case hg => rfl); (case hn => rfl); (case hr => first | (go_simp; done) | (go_simp; rfl)); intro w23 hw; replace HO_0 : Aside0 (Kd.V k46 46 w23 w.heap.size (fun k_ => (P0_ k_ ∨ w.heap.size ≤ k_) ∧ some k_ ≠ (u6 : Value).ownBlock ∧ some k_ ≠ (u7 : Value).ownBlock ∧ k_ ≠ gb351) (.slice (some ad350) l0.length c0) l0) := ⟨(by rw [hw]; exact (My.dV (Kd.V_mono (Kd.V_far (p := ⟨gb351, 1, none⟩) (Kd.V_mono HO_0.out (fun k_ hk => (⟨hk, hk.2.2.2⟩ : _ ∧ k_ ≠ gb351))) (fun _ hk => hk.2) (.int .i64 (wrap64 (a1 + t352)))) (fun _ hk => ⟨hk.1.1, ⟨hk.1.2.1, ⟨hk.1.2.2.1, hk.1.2.2.2⟩⟩⟩))))⟩; replace HO_6 : Aside0 (Kd.N k46 46 w23 w.heap.size (fun k_ => (P0_ k_ ∨ w.heap.size ≤ k_) ∧ some k_ ≠ (u7 : Value).ownBlock ∧ k_ ≠ gb351) u6 x6_2) := ⟨(by rw [hw]; exact (by (with_reducible repeat (first | apply Kd.N_alloc | apply Kd.N_drewN | apply Kd.N_drew)); exact Kd.N_mono (Kd.N_far (p := ⟨gb351, 1, none⟩) (Kd.N_mono HO_6.out (fun k_ hk => (⟨hk, hk.2.2⟩ : _ ∧ k_ ≠ gb351))) (fun _ hk => hk.2) (.int .i64 (wrap64 (a1 + t352)))) (fun _ hk => ⟨hk.1.1, ⟨hk.1.2.1, hk.1.2.2⟩⟩)))⟩; replace HO_7 : Aside0 (Kd.N k46 46 w23 w.heap.size (fun k_ => (P0_ k_ ∨ w.heap.size ≤ k_) ∧ some k_ ≠ (u6 : Value).ownBlock ∧ k_ ≠ gb351) u7 x7_2) := ⟨(by rw [hw]; exact (by (with_reducible repeat (first | apply Kd.N_alloc | apply Kd.N_drewN | apply Kd.N_drew)); exact Kd.N_mono (Kd.N_far (p := ⟨gb351, 1, none⟩) (Kd.N_mono HO_7.out (fun k_ hk => (⟨hk, hk.2.2⟩ : _ ∧ k_ ≠ gb351))) (fun _ hk => hk.2) (.int .i64 (wrap64 (a1 + t352)))) (fun _ hk => ⟨hk.1.1, ⟨hk.1.2.1, hk.1.2.2⟩⟩)))⟩; replace HL350_6 : Aside0 (Kd.V k62 62 w23 w.heap.size (fun k_ => (P0_ k_ ∨ w.heap.size ≤ k_) ∧ some k_ ≠ (u6 : Value).ownBlock ∧ some k_ ≠ (u7 : Value).ownBlock ∧ k_ ≠ gb351) (.slice A350_6 ((rd_T46 l0 x8_2).f3.f1.f2).length c350_6) ((rd_T46 l0 x8_2).f3.f1.f2)) := ⟨(by rw [hw]; exact (My.dV (Kd.V_mono (Kd.V_far (p := ⟨gb351, 1, none⟩) (Kd.V_mono HL350_6.out (fun k_ hk => (⟨hk, hk.2.2.2⟩ : _ ∧ k_ ≠ gb351))) (fun _ hk => hk.2) (.int .i64 (wrap64 (a1 + t352)))) (fun _ hk => ⟨hk.1.1, ⟨hk.1.2.1, ⟨hk.1.2.2.1, hk.1.2.2.2⟩⟩⟩))))⟩; replace BK351 : Aside0 (w23.heap[gb351]? = some (.cells #[.int .i64 ((rd_T46 l0 x8_2).f0), .int .i64 (wrap64 (a1 + t352)), .int .i64 (wrap64 (((rd_T46 l0 x8_2).f2) + 1)), .int .i64 ((rd_T46 l0 x8_2).f3.f0), .int .i64 ((rd_T46 l0 x8_2).f3.f1.f0), .int .i64 ((rd_T46 l0 x8_2).f3.f1.f1), .slice A350_6 ((rd_T46 l0 x8_2).f3.f1.f2).length c350_6, .string ((rd_T46 l0 x8_2).f3.f2), .int .i64 ((rd_T46 l0 x8_2).f3.f3)] 46 (0, 0))) := ⟨(by rw [hw]; exact ((My.sv_ BK351)))⟩; replace HB : Aside0 (Below w.heap.size w w23) := ⟨(by rw [hw]; exact (My.bl_ HB))⟩; (try clear hw); have hcz24_0 : w23.cell? ⟨gb351, 0, none⟩ = some (.int .i64 ((rd_T46 l0 x8_2).f0)) := My.b_ BK351 0; have hcz24_1 : w23.cell? ⟨gb351, 1, none⟩ = some (.int .i64 (wrap64 (a1 + t352))) := My.b_ BK351 1; have hcz24_2 : w23.cell? ⟨gb351, 2, none⟩ = some (.int .i64 (wrap64 (((rd_T46 l0 x8_2).f2) + 1))) := My.b_ BK351 2; have hcz24_3 : w23.cell? ⟨gb351, 3, none⟩ = some (.int .i64 ((rd_T46 l0 x8_2).f3.f0)) := My.b_ BK351 3; have hcz24_4 : w23.cell? ⟨gb351, 4, none⟩ = some (.int .i64 ((rd_T46 l0 x8_2).f3.f1.f0)) := My.b_ BK351 4; have hcz24_5 : w23.cell? ⟨gb351, 5, none⟩ = some (.int .i64 ((rd_T46 l0 x8_2).f3.f1.f1)) := My.b_ BK351 5; have hcz24_6 : w23.cell? ⟨gb351, 6, none⟩ = some (.slice A350_6 ((rd_T46 l0 x8_2).f3.f1.f2).length c350_6) := My.b_ BK351 6; have hcz24_7 : w23.cell? ⟨gb351, 7, none⟩ = some (.string ((rd_T46 l0 x8_2).f3.f2)) := My.b_ BK351 7; have hcz24_8 : w23.cell? ⟨gb351, 8, none⟩ = some (.int .i64 ((rd_T46 l0 x8_2).f3.f3)) := My.b_ BK351 8; have hfz24_0 := blk_frozen BK351.out 0; have hfz24_1 := blk_frozen BK351.out 1; have hfz24_2 := blk_frozen BK351.out 2; have hfz24_3 := blk_frozen BK351.out 3; have hfz24_4 := blk_frozen BK351.out 4; have hfz24_5 := blk_frozen BK351.out 5; have hfz24_6 := blk_frozen BK351.out 6; have hfz24_7 := blk_frozen BK351.out 7; have hfz24_8 := blk_frozen BK351.out 8) | ((with_reducible refine gate_builtin (b := .append) (xs := #[.tmp 45, .tmp 47]) rfl ?_); at_builtin; refine Kd.N_append k46 (w0 := w) w.heap.size rfl (.tmp 45) (.tmp 47) 22 46 (.agg #[(.int .i64 0), (.int .i64 0), (.int .i64 0), (.int .i64 0), (.int .i64 0), (.int .i64 0), (.slice none 0 0), (.string ⟨#[]⟩), (.int .i64 0)]) 96 rfl Try.underlying22 info46 rfl (by decide) (by omega) u7 x7_2 (⟨(rd_T46 l0 x8_2).f0, wrap64 (a1 + t352), wrap64 (((rd_T46 l0 x8_2).f2) + 1), (⟨(rd_T46 l0 x8_2).f3.f0, (⟨(rd_T46 l0 x8_2).f3.f1.f0, (rd_T46 l0 x8_2).f3.f1.f1, (rd_T46 l0 x8_2).f3.f1.f2⟩ : S35), (rd_T46 l0 x8_2).f3.f2, (rd_T46 l0 x8_2).f3.f3⟩ : S37)⟩ : S46) [.int .i64 ((rd_T46 l0 x8_2).f0), .int .i64 (wrap64 (a1 + t352)), .int .i64 (wrap64 (((rd_T46 l0 x8_2).f2) + 1)), .int .i64 ((rd_T46 l0 x8_2).f3.f0), .int .i64 ((rd_T46 l0 x8_2).f3.f1.f0), .int .i64 ((rd_T46 l0 x8_2).f3.f1.f1), .slice A350_6 ((rd_T46 l0 x8_2).f3.f1.f2).length c350_6, .string ((rd_T46 l0 x8_2).f3.f2), .int .i64 ((rd_T46 l0 x8_2).f3.f3)] (fun k_ => (P0_ k_ ∨ w.heap.size ≤ k_) ∧ some k_ ≠ (u6 : Value).ownBlock ∧ k_ ≠ gb351) (fun k_ => ((fun k_ => (P0_ k_ ∨ w.heap.size ≤ k_) ∧ some k_ ≠ (u6 : Value).ownBlock ∧ k_ ≠ gb351)) k_ ∧ some k_ ≠ (u7 : Value).ownBlock) rfl rfl ?aP (fun _ hk => hk) ?aF ?aO ?aB ?aS ?aL ?_; (case aP => exact (k46_mkF _ _ (⟨(rd_T46 l0 x8_2).f0, wrap64 (a1 + t352), wrap64 (((rd_T46 l0 x8_2).f2) + 1), (⟨(rd_T46 l0 x8_2).f3.f0, (⟨(rd_T46 l0 x8_2).f3.f1.f0, (rd_T46 l0 x8_2).f3.f1.f1, (rd_T46 l0 x8_2).f3.f1.f2⟩ : S35), (rd_T46 l0 x8_2).f3.f2, (rd_T46 l0 x8_2).f3.f3⟩ : S37)⟩ : S46) (Kd.V_reads' (Kd.V_mono (ok' := (fun k_ => ((fun k_ => (P0_ k_ ∨ w.heap.size ≤ k_) ∧ some k_ ≠ (u6 : Value).ownBlock ∧ k_ ≠ gb351)) k_ ∧ some k_ ≠ (u7 : Value).ownBlock)) (HL350_6.out) (fun k_ hk => ⟨⟨hk.1, ⟨hk.2.1, hk.2.2.2⟩⟩, hk.2.2.1⟩))).2.1 (Kd.V_F (Kd.V_mono (ok' := (fun k_ => ((fun k_ => (P0_ k_ ∨ w.heap.size ≤ k_) ∧ some k_ ≠ (u6 : Value).ownBlock ∧ k_ ≠ gb351)) k_ ∧ some k_ ≠ (u7 : Value).ownBlock)) (HL350_6.out) (fun k_ hk => ⟨⟨hk.1, ⟨hk.2.1, hk.2.2.2⟩⟩, hk.2.2.1⟩))))); (case aB => exact (My.bl_ HB)); (case aF => exact (fun k_ hk => ⟨(.inr (Nat.le_trans (below_size (My.bl_ HB)) hk)), Kd.fresh' (Kd.N_lt (by (with_reducible repeat (first | apply Kd.N_alloc | apply Kd.N_drewN | apply Kd.N_drew)); exact HO_6.out)) k_ hk, Kd.freshB (My.at_ BK351) k_ hk⟩)); (case aO => exact (by (with_reducible repeat (first | apply Kd.N_alloc | apply Kd.N_drewN | apply Kd.N_drew)); exact HO_7.out)); (case aS => exact (below_size (My.bl_ HB))); (case aL => have := LMc15.out; omega); intro v354 w25 ho hb hg hat; rw [← Ny353.out] at ho; replace HO_0 := My.am (Kd.V_afterv (ok := (fun k_ => (P0_ k_ ∨ w.heap.size ≤ k_) ∧ some k_ ≠ (u6 : Value).ownBlock ∧ k_ ≠ gb351)) (My.dV (Kd.V_mono HO_0.out (fun _ hk => ⟨⟨hk.1, ⟨hk.2.1, hk.2.2.2⟩⟩, hk.2.2.1⟩))) hg hat); replace HO_6 := My.am (Kd.N_afterv (ok := (fun k_ => (P0_ k_ ∨ w.heap.size ≤ k_) ∧ k_ ≠ gb351)) (by (with_reducible repeat (first | apply Kd.N_alloc | apply Kd.N_drewN | apply Kd.N_drew)); exact Kd.N_mono HO_6.out (fun _ hk => ⟨⟨hk.1, hk.2.2⟩, hk.2.1⟩)) hg hat); replace HL350_6 := My.am (Kd.V_afterv (ok := (fun k_ => (P0_ k_ ∨ w.heap.size ≤ k_) ∧ some k_ ≠ (u6 : Value).ownBlock ∧ k_ ≠ gb351)) (My.dV (Kd.V_mono HL350_6.out (fun _ hk => ⟨⟨hk.1, ⟨hk.2.1, hk.2.2.2⟩⟩, hk.2.2.1⟩))) hg hat); replace BK351 := My.am (blk_grown (My.at_ BK351) hg (Kd.N_away HO_7.out (fun _ hk => hk.2.2))); replace HB := My.am (hb); have HO355 := My.am (ho); (try clear HO_7); clear ho hb hg hat; have hcz26_0 : w25.cell? ⟨gb351, 0, none⟩ = some (.int .i64 ((rd_T46 l0 x8_2).f0)) := My.b_ BK351 0; have hcz26_1 : w25.cell? ⟨gb351, 1, none⟩ = some (.int .i64 (wrap64 (a1 + t352))) := My.b_ BK351 1; have hcz26_2 : w25.cell? ⟨gb351, 2, none⟩ = some (.int .i64 (wrap64 (((rd_T46 l0 x8_2).f2) + 1))) := My.b_ BK351 2; have hcz26_3 : w25.cell? ⟨gb351, 3, none⟩ = some (.int .i64 ((rd_T46 l0 x8_2).f3.f0)) := My.b_ BK351 3; have hcz26_4 : w25.cell? ⟨gb351, 4, none⟩ = some (.int .i64 ((rd_T46 l0 x8_2).f3.f1.f0)) := My.b_ BK351 4; have hcz26_5 : w25.cell? ⟨gb351, 5, none⟩ = some (.int .i64 ((rd_T46 l0 x8_2).f3.f1.f1)) := My.b_ BK351 5; have hcz26_6 : w25.cell? ⟨gb351, 6, none⟩ = some (.slice A350_6 ((rd_T46 l0 x8_2).f3.f1.f2).length c350_6) := My.b_ BK351 6; have hcz26_7 : w25.cell? ⟨gb351, 7, none⟩ = some (.string ((rd_T46 l0 x8_2).f3.f2)) := My.b_ BK351 7; have hcz26_8 : w25.cell? ⟨gb351, 8, none⟩ = some (.int .i64 ((rd_T46 l0 x8_2).f3.f3)) := My.b_ BK351 8; have hfz26_0 := blk_frozen BK351.out 0; have hfz26_1 := blk_frozen BK351.out 1; have hfz26_2 := blk_frozen BK351.out 2; have hfz26_3 := blk_frozen BK351.out 3; have hfz26_4 := blk_frozen BK351.out 4; have hfz26_5 := blk_frozen BK351.out 5; have hfz26_6 := blk_frozen BK351.out 6; have hfz26_7 := blk_frozen BK351.out 7; have hfz26_8 := blk_frozen BK351.out 8) | ((with_reducible refine gate_builtin (b := .append) (xs := #[.tmp 49, .tmp 51]) rfl ?_); at_builtin; refine Kd.N_append k46 (w0 := w) w.heap.size rfl (.tmp 49) (.tmp 51) 22 46 (.agg #[(.int .i64 0), (.int .i64 0), (.int .i64 0), (.int .i64 0), (.int .i64 0), (.int .i64 0), (.slice none 0 0), (.string ⟨#[]⟩), (.int .i64 0)]) 96 rfl Try.underlying22 info46 rfl (by decide) (by omega) u6 x6_2 (⟨(rd_T46 l0 x8_2).f0, wrap64 (a1 + t352), wrap64 (((rd_T46 l0 x8_2).f2) + 1), (⟨(rd_T46 l0 x8_2).f3.f0, (⟨(rd_T46 l0 x8_2).f3.f1.f0, (rd_T46 l0 x8_2).f3.f1.f1, (rd_T46 l0 x8_2).f3.f1.f2⟩ : S35), (rd_T46 l0 x8_2).f3.f2, (rd_T46 l0 x8_2).f3.f3⟩ : S37)⟩ : S46) [.int .i64 ((rd_T46 l0 x8_2).f0), .int .i64 (wrap64 (a1 + t352)), .int .i64 (wrap64 (((rd_T46 l0 x8_2).f2) + 1)), .int .i64 ((rd_T46 l0 x8_2).f3.f0), .int .i64 ((rd_T46 l0 x8_2).f3.f1.f0), .int .i64 ((rd_T46 l0 x8_2).f3.f1.f1), .slice A350_6 ((rd_T46 l0 x8_2).f3.f1.f2).length c350_6, .string ((rd_T46 l0 x8_2).f3.f2), .int .i64 ((rd_T46 l0 x8_2).f3.f3)] (fun k_ => (P0_ k_ ∨ w.heap.size ≤ k_) ∧ some k_ ≠ (v354 : Value).ownBlock ∧ k_ ≠ gb351) (fun k_ => ((fun k_ => (P0_ k_ ∨ w.heap.size ≤ k_) ∧ some k_ ≠ (v354 : Value).ownBlock ∧ k_ ≠ gb351)) k_ ∧ some k_ ≠ (u6 : Value).ownBlock) rfl rfl ?aP (fun _ hk => hk) ?aF ?aO ?aB ?aS ?aL ?_; (case aP => exact (k46_mkF _ _ (⟨(rd_T46 l0 x8_2).f0, wrap64 (a1 + t352), wrap64 (((rd_T46 l0 x8_2).f2) + 1), (⟨(rd_T46 l0 x8_2).f3.f0, (⟨(rd_T46 l0 x8_2).f3.f1.f0, (rd_T46 l0 x8_2).f3.f1.f1, (rd_T46 l0 x8_2).f3.f1.f2⟩ : S35), (rd_T46 l0 x8_2).f3.f2, (rd_T46 l0 x8_2).f3.f3⟩ : S37)⟩ : S46) (Kd.V_reads' (Kd.V_mono (ok' := (fun k_ => ((fun k_ => (P0_ k_ ∨ w.heap.size ≤ k_) ∧ some k_ ≠ (v354 : Value).ownBlock ∧ k_ ≠ gb351)) k_ ∧ some k_ ≠ (u6 : Value).ownBlock)) (HL350_6.out) (fun k_ hk => ⟨⟨hk.1.1, ⟨hk.2, hk.1.2.2⟩⟩, hk.1.2.1⟩))).2.1 (Kd.V_F (Kd.V_mono (ok' := (fun k_ => ((fun k_ => (P0_ k_ ∨ w.heap.size ≤ k_) ∧ some k_ ≠ (v354 : Value).ownBlock ∧ k_ ≠ gb351)) k_ ∧ some k_ ≠ (u6 : Value).ownBlock)) (HL350_6.out) (fun k_ hk => ⟨⟨hk.1.1, ⟨hk.2, hk.1.2.2⟩⟩, hk.1.2.1⟩))))); (case aB => exact (My.bl_ HB)); (case aF => exact (fun k_ hk => ⟨(.inr (Nat.le_trans (below_size (My.bl_ HB)) hk)), Kd.fresh' (Kd.N_lt (by (with_reducible repeat (first | apply Kd.N_alloc | apply Kd.N_drewN | apply Kd.N_drew)); exact HO355.out)) k_ hk, Kd.freshB (My.at_ BK351) k_ hk⟩)); (case aO => exact (by (with_reducible repeat (first | apply Kd.N_alloc | apply Kd.N_drewN | apply Kd.N_drew)); exact Kd.N_mono HO_6.out (fun _ hk => ⟨hk.1.1, ⟨hk.2, hk.1.2⟩⟩))); (case aS => exact (below_size (My.bl_ HB))); (case aL => have := LMc16.out; omega); intro v357 w27 ho hb hg hat; rw [← Ny356.out] at ho; replace HO_0 := My.am (Kd.V_afterv (ok := (fun k_ => (P0_ k_ ∨ w.heap.size ≤ k_) ∧ some k_ ≠ (v354 : Value).ownBlock ∧ k_ ≠ gb351)) (My.dV (Kd.V_mono HO_0.out (fun _ hk => ⟨⟨hk.1.1, ⟨hk.2, hk.1.2.2⟩⟩, hk.1.2.1⟩))) hg hat); replace HL350_6 := My.am (Kd.V_afterv (ok := (fun k_ => (P0_ k_ ∨ w.heap.size ≤ k_) ∧ some k_ ≠ (v354 : Value).ownBlock ∧ k_ ≠ gb351)) (My.dV (Kd.V_mono HL350_6.out (fun _ hk => ⟨⟨hk.1.1, ⟨hk.2, hk.1.2.2⟩⟩, hk.1.2.1⟩))) hg hat); replace BK351 := My.am (blk_grown (My.at_ BK351) hg (Kd.N_away HO_6.out (fun _ hk => hk.1.2))); replace HO355 := My.am (Kd.N_afterv (ok := (fun k_ => (P0_ k_ ∨ w.heap.size ≤ k_) ∧ k_ ≠ gb351)) (by (with_reducible repeat (first | apply Kd.N_alloc | apply Kd.N_drewN | apply Kd.N_drew)); exact Kd.N_mono HO355.out (fun _ hk => ⟨⟨hk.1, hk.2.2⟩, hk.2.1⟩)) hg hat); replace HB := My.am (hb); have HO358 := My.am (ho); (try clear HO_6); clear ho hb hg hat))
      go_roundg k2
      case measure => have := HJ2.out; have := HK2.out; omega
      case rel => exact ⟨(y356), (y353), (wrap64 (x8_2 + 1)), My.r1, H', ⟨by have := HJ2.out; have := HK2.out; omega⟩, ⟨My.dV (Kd.V_mono HO_0.out (fun _ hk => ⟨hk.1.1, ⟨hk.2, hk.1.2.1⟩⟩))⟩, ⟨by (with_reducible repeat (first | apply Kd.N_alloc | apply Kd.N_drewN | apply Kd.N_drew)); exact Kd.N_mono HO358.out (fun _ hk => ⟨hk.1, hk.2.1⟩)⟩, ⟨by (with_reducible repeat (first | apply Kd.N_alloc | apply Kd.N_drewN | apply Kd.N_drew)); exact Kd.N_mono HO355.out (fun _ hk => ⟨hk.1.1, hk.2⟩)⟩, ⟨(My.bl_ HB)⟩⟩
     rw [if_neg c13] at H
     have c13b0 := decide_eq_false c13
     clear c13
     replace H := Option.bind_eq_some_iff.mp H
     obtain ⟨t359, A280, H⟩ := H
     try dsimp only at H
     have A28 := My.am A280
     clear A280
     by_cases c29 : x7_2.length < 1466015503701
     rotate_left
     ·exact My.nn c29 H
     rw [if_pos c29] at H
     have LMc29 := My.am c29
     clear c29
     obtain ⟨y360, hy360⟩ : ∃ y_ : List (S46), y_ = (x7_2 ++ [(⟨(rd_T46 l0 x8_2).f0, wrap64 (a1 + t359), (rd_T46 l0 x8_2).f2, (⟨(rd_T46 l0 x8_2).f3.f0, (⟨(rd_T46 l0 x8_2).f3.f1.f0, (rd_T46 l0 x8_2).f3.f1.f1, (rd_T46 l0 x8_2).f3.f1.f2⟩ : S35), (rd_T46 l0 x8_2).f3.f2, (rd_T46 l0 x8_2).f3.f3⟩ : S37)⟩ : S46)]) := ⟨_, rfl⟩
     replace H : (if x6_2.length < 1466015503701 then (ententeref19_Due.l0 k2 l0 a1 (x6_2 ++ [(⟨(rd_T46 l0 x8_2).f0, wrap64 (a1 + t359), (rd_T46 l0 x8_2).f2, (⟨(rd_T46 l0 x8_2).f3.f0, (⟨(rd_T46 l0 x8_2).f3.f1.f0, (rd_T46 l0 x8_2).f3.f1.f1, (rd_T46 l0 x8_2).f3.f1.f2⟩ : S35), (rd_T46 l0 x8_2).f3.f2, (rd_T46 l0 x8_2).f3.f3⟩ : S37)⟩ : S46)]) y360 (wrap64 (x8_2 + 1))) else (none)) = some (r1, r2) := by first | (rw [hy360]; with_reducible exact H) | (have H2_ := (Option.bind_some _ _).symm.trans H; rw [hy360]; with_reducible exact H2_) | (have H2_ := (Option.bind_some _ _).symm.trans H; with_reducible exact H2_) | with_reducible exact H | (rw [hy360]; exact H) | exact H
     have Ny360 := My.am hy360
     clear hy360
     by_cases c30 : x6_2.length < 1466015503701
     rotate_left
     ·exact My.nn c30 H
     rw [if_pos c30] at H
     have LMc30 := My.am c30
     clear c30
     obtain ⟨y363, hy363⟩ : ∃ y_ : List (S46), y_ = (x6_2 ++ [(⟨(rd_T46 l0 x8_2).f0, wrap64 (a1 + t359), (rd_T46 l0 x8_2).f2, (⟨(rd_T46 l0 x8_2).f3.f0, (⟨(rd_T46 l0 x8_2).f3.f1.f0, (rd_T46 l0 x8_2).f3.f1.f1, (rd_T46 l0 x8_2).f3.f1.f2⟩ : S35), (rd_T46 l0 x8_2).f3.f2, (rd_T46 l0 x8_2).f3.f3⟩ : S37)⟩ : S46)]) := ⟨_, rfl⟩
     replace H : (ententeref19_Due.l0 k2 l0 a1 y363 y360 (wrap64 (x8_2 + 1))) = some (r1, r2) := by first | (rw [hy363]; with_reducible exact H) | (have H2_ := (Option.bind_some _ _).symm.trans H; rw [hy363]; with_reducible exact H2_) | (have H2_ := (Option.bind_some _ _).symm.trans H; with_reducible exact H2_) | with_reducible exact H | (rw [hy363]; exact H) | exact H
     have Ny363 := My.am hy363
     clear hy363
     have H' := My.am H
     clear H
     have p350 : 0 ≤ (x8_2 : Int) := My.as_
     have q350 : x8_2 < (l0.length : Int) := My.as_
     obtain ⟨ad350, A350_6, c350_6, e350, hx350_0, hx350_1, hx350_2, hx350_3, hx350_4, hx350_5, hx350_6, hx350_7, hx350_8, hl350_6, hi350_6⟩ := at_T46 (Kd.V_reads' HO_0.out).2.2 x8_2 p350 q350
     cases e350
     obtain ⟨ce350, hce350, hMe350, hcc350⟩ := Kd.V_get HO_0.out z46 x8_2 p350 (by first | exact q350 | exact My.as_ | (have e_ := (Kd.V_reads' HO_0.out).1; omega))
     obtain ⟨ua350_6, uc350_6, rfl, ul350_6, ge350_6⟩ := k46_openF hMe350
     have hv350_6 := hcc350 6 _ rfl
     rw [add_field _ _ 6 (by omega)] at hv350_6
     replace hv350_6 := Option.some.inj (hv350_6.symm.trans hx350_6)
     injection hv350_6 with hva_ hvn_ hvc_
     rw [hva_] at ge350_6
     rw [hvc_] at ul350_6
     have HL350_6 := My.am (show Kd.V k62 62 _ w.heap.size _ _ ((rd_T46 l0 x8_2).f3.f1.f2) from Kd.V_mk ul350_6 ge350_6)
     clear hva_ hvn_ hvc_ ge350_6 ul350_6
     clear hcc350 hce350
     have HR350_6 := My.am hi350_6
     have HC350_6 := My.am hl350_6
     clear hi350_6 hl350_6
     replace p350 := eq_true p350
     replace q350 := eq_true q350
     go_wp2_with (first | ((with_reducible refine gate_dst (N := 9) rfl ?_); refine My.bx 9 #[.int .i64 0, .int .i64 0, .int .i64 0, .int .i64 0, .int .i64 0, .int .i64 0, .slice none 0 0, .string (⟨#[]⟩ : ByteArray), .int .i64 0] 46 ?_; intro gb351 hg w31 hbox hb; replace HO_0 := My.am (Kd.V_below (Kd.V_elderB (My.dV HO_0.out) gb351 (Nat.le_of_eq hg.symm)) hb); replace HO_6 := My.am (Kd.N_below (Kd.N_elderB (by (with_reducible repeat (first | apply Kd.N_alloc | apply Kd.N_drewN | apply Kd.N_drew)); exact HO_6.out) gb351 (Nat.le_of_eq hg.symm)) hb); replace HO_7 := My.am (Kd.N_below (Kd.N_elderB (by (with_reducible repeat (first | apply Kd.N_alloc | apply Kd.N_drewN | apply Kd.N_drew)); exact HO_7.out) gb351 (Nat.le_of_eq hg.symm)) hb); replace HL350_6 := My.am (Kd.V_below (Kd.V_elderB (My.dV HL350_6.out) gb351 (Nat.le_of_eq hg.symm)) hb); replace HR350_6 := My.am (Kd.C_below (by repeat (first | (with_reducible exact HR350_6.out) | (with_reducible refine Kd.C_alloc ?_ _) | (with_reducible refine Kd.C_drewN ?_ _) | (with_reducible refine Kd.C_drew ?_) | exact HR350_6.out | exact (Kd.V_reads' (My.dV HL350_6.out)).2.2)) hb); have BK351 := My.am (hbox); have GE351 := My.nge hg (My.bl_ HB); replace HB := My.st HB hb; clear hb hbox hg; have hcz32_0 : w31.cell? ⟨gb351, 0, none⟩ = some (.int .i64 0) := My.b_ BK351 0; have hcz32_1 : w31.cell? ⟨gb351, 1, none⟩ = some (.int .i64 0) := My.b_ BK351 1; have hcz32_2 : w31.cell? ⟨gb351, 2, none⟩ = some (.int .i64 0) := My.b_ BK351 2; have hcz32_3 : w31.cell? ⟨gb351, 3, none⟩ = some (.int .i64 0) := My.b_ BK351 3; have hcz32_4 : w31.cell? ⟨gb351, 4, none⟩ = some (.int .i64 0) := My.b_ BK351 4; have hcz32_5 : w31.cell? ⟨gb351, 5, none⟩ = some (.int .i64 0) := My.b_ BK351 5; have hcz32_6 : w31.cell? ⟨gb351, 6, none⟩ = some (.slice none 0 0) := My.b_ BK351 6; have hcz32_7 : w31.cell? ⟨gb351, 7, none⟩ = some (.string (⟨#[]⟩ : ByteArray)) := My.b_ BK351 7; have hcz32_8 : w31.cell? ⟨gb351, 8, none⟩ = some (.int .i64 0) := My.b_ BK351 8; have hfz32_0 := blk_frozen BK351.out 0; have hfz32_1 := blk_frozen BK351.out 1; have hfz32_2 := blk_frozen BK351.out 2; have hfz32_3 := blk_frozen BK351.out 3; have hfz32_4 := blk_frozen BK351.out 4; have hfz32_5 := blk_frozen BK351.out 5; have hfz32_6 := blk_frozen BK351.out 6; have hfz32_7 := blk_frozen BK351.out 7; have hfz32_8 := blk_frozen BK351.out 8) | ((with_reducible refine gate_store (t := 46) (p := 9) rfl ?_); refine store_event (t := 46) (p := 9) (v := ?vo_w33) (w1 := (((((((((w31.setCell ⟨gb351, 0, none⟩ (.int .i64 ((rd_T46 l0 x8_2).f0))).setCell ⟨gb351, 1, none⟩ (.int .i64 ((rd_T46 l0 x8_2).f1))).setCell ⟨gb351, 2, none⟩ (.int .i64 ((rd_T46 l0 x8_2).f2))).setCell ⟨gb351, 3, none⟩ (.int .i64 ((rd_T46 l0 x8_2).f3.f0))).setCell ⟨gb351, 4, none⟩ (.int .i64 ((rd_T46 l0 x8_2).f3.f1.f0))).setCell ⟨gb351, 5, none⟩ (.int .i64 ((rd_T46 l0 x8_2).f3.f1.f1))).setCell ⟨gb351, 6, none⟩ (.slice A350_6 ((rd_T46 l0 x8_2).f3.f1.f2).length c350_6)).setCell ⟨gb351, 7, none⟩ (.string ((rd_T46 l0 x8_2).f3.f2))).setCell ⟨gb351, 8, none⟩ (.int .i64 ((rd_T46 l0 x8_2).f3.f3)))) ?hg ?ho ?hn ?hr ?_; (case ho => rfl); (case hg => rfl); (case hn => rfl); (case hr => first | (go_simp; done) | (go_simp; rfl)); intro w33 hw; replace HO_0 : Aside0 (Kd.V k46 46 w33 w.heap.size (fun k_ => (P0_ k_ ∨ w.heap.size ≤ k_) ∧ some k_ ≠ (u6 : Value).ownBlock ∧ some k_ ≠ (u7 : Value).ownBlock ∧ k_ ≠ gb351) (.slice (some ad350) l0.length c0) l0) := ⟨(by rw [hw]; exact (My.dV (Kd.V_mono (Kd.V_far (p := ⟨gb351, 8, none⟩) (Kd.V_far (p := ⟨gb351, 7, none⟩) (Kd.V_far (p := ⟨gb351, 6, none⟩) (Kd.V_far (p := ⟨gb351, 5, none⟩) (Kd.V_far (p := ⟨gb351, 4, none⟩) (Kd.V_far (p := ⟨gb351, 3, none⟩) (Kd.V_far (p := ⟨gb351, 2, none⟩) (Kd.V_far (p := ⟨gb351, 1, none⟩) (Kd.V_far (p := ⟨gb351, 0, none⟩) (Kd.V_mono HO_0.out (fun k_ hk => (⟨hk, hk.2⟩ : _ ∧ k_ ≠ gb351))) (fun _ hk => hk.2) (.int .i64 ((rd_T46 l0 x8_2).f0))) (fun _ hk => hk.2) (.int .i64 ((rd_T46 l0 x8_2).f1))) (fun _ hk => hk.2) (.int .i64 ((rd_T46 l0 x8_2).f2))) (fun _ hk => hk.2) (.int .i64 ((rd_T46 l0 x8_2).f3.f0))) (fun _ hk => hk.2) (.int .i64 ((rd_T46 l0 x8_2).f3.f1.f0))) (fun _ hk => hk.2) (.int .i64 ((rd_T46 l0 x8_2).f3.f1.f1))) (fun _ hk => hk.2) (.slice A350_6 ((rd_T46 l0 x8_2).f3.f1.f2).length c350_6)) (fun _ hk => hk.2) (.string ((rd_T46 l0 x8_2).f3.f2))) (fun _ hk => hk.2) (.int .i64 ((rd_T46 l0 x8_2).f3.f3))) (fun _ hk => ⟨hk.1.1.1, ⟨hk.1.1.2.1, ⟨hk.1.1.2.2, hk.1.2⟩⟩⟩))))⟩; replace HO_6 : Aside0 (Kd.N k46 46 w33 w.heap.size (fun k_ => (P0_ k_ ∨ w.heap.size ≤ k_) ∧ some k_ ≠ (u7 : Value).ownBlock ∧ k_ ≠ gb351) u6 x6_2) := ⟨(by rw [hw]; exact (by (with_reducible repeat (first | apply Kd.N_alloc | apply Kd.N_drewN | apply Kd.N_drew)); exact Kd.N_mono (Kd.N_far (p := ⟨gb351, 8, none⟩) (Kd.N_far (p := ⟨gb351, 7, none⟩) (Kd.N_far (p := ⟨gb351, 6, none⟩) (Kd.N_far (p := ⟨gb351, 5, none⟩) (Kd.N_far (p := ⟨gb351, 4, none⟩) (Kd.N_far (p := ⟨gb351, 3, none⟩) (Kd.N_far (p := ⟨gb351, 2, none⟩) (Kd.N_far (p := ⟨gb351, 1, none⟩) (Kd.N_far (p := ⟨gb351, 0, none⟩) (Kd.N_mono HO_6.out (fun k_ hk => (⟨hk, hk.2⟩ : _ ∧ k_ ≠ gb351))) (fun _ hk => hk.2) (.int .i64 ((rd_T46 l0 x8_2).f0))) (fun _ hk => hk.2) (.int .i64 ((rd_T46 l0 x8_2).f1))) (fun _ hk => hk.2) (.int .i64 ((rd_T46 l0 x8_2).f2))) (fun _ hk => hk.2) (.int .i64 ((rd_T46 l0 x8_2).f3.f0))) (fun _ hk => hk.2) (.int .i64 ((rd_T46 l0 x8_2).f3.f1.f0))) (fun _ hk => hk.2) (.int .i64 ((rd_T46 l0 x8_2).f3.f1.f1))) (fun _ hk => hk.2) (.slice A350_6 ((rd_T46 l0 x8_2).f3.f1.f2).length c350_6)) (fun _ hk => hk.2) (.string ((rd_T46 l0 x8_2).f3.f2))) (fun _ hk => hk.2) (.int .i64 ((rd_T46 l0 x8_2).f3.f3))) (fun _ hk => ⟨hk.1.1.1, ⟨hk.1.1.2, hk.1.2⟩⟩)))⟩; replace HO_7 : Aside0 (Kd.N k46 46 w33 w.heap.size (fun k_ => (P0_ k_ ∨ w.heap.size ≤ k_) ∧ some k_ ≠ (u6 : Value).ownBlock ∧ k_ ≠ gb351) u7 x7_2) := ⟨(by rw [hw]; exact (by (with_reducible repeat (first | apply Kd.N_alloc | apply Kd.N_drewN | apply Kd.N_drew)); exact Kd.N_mono (Kd.N_far (p := ⟨gb351, 8, none⟩) (Kd.N_far (p := ⟨gb351, 7, none⟩) (Kd.N_far (p := ⟨gb351, 6, none⟩) (Kd.N_far (p := ⟨gb351, 5, none⟩) (Kd.N_far (p := ⟨gb351, 4, none⟩) (Kd.N_far (p := ⟨gb351, 3, none⟩) (Kd.N_far (p := ⟨gb351, 2, none⟩) (Kd.N_far (p := ⟨gb351, 1, none⟩) (Kd.N_far (p := ⟨gb351, 0, none⟩) (Kd.N_mono HO_7.out (fun k_ hk => (⟨hk, hk.2⟩ : _ ∧ k_ ≠ gb351))) (fun _ hk => hk.2) (.int .i64 ((rd_T46 l0 x8_2).f0))) (fun _ hk => hk.2) (.int .i64 ((rd_T46 l0 x8_2).f1))) (fun _ hk => hk.2) (.int .i64 ((rd_T46 l0 x8_2).f2))) (fun _ hk => hk.2) (.int .i64 ((rd_T46 l0 x8_2).f3.f0))) (fun _ hk => hk.2) (.int .i64 ((rd_T46 l0 x8_2).f3.f1.f0))) (fun _ hk => hk.2) (.int .i64 ((rd_T46 l0 x8_2).f3.f1.f1))) (fun _ hk => hk.2) (.slice A350_6 ((rd_T46 l0 x8_2).f3.f1.f2).length c350_6)) (fun _ hk => hk.2) (.string ((rd_T46 l0 x8_2).f3.f2))) (fun _ hk => hk.2) (.int .i64 ((rd_T46 l0 x8_2).f3.f3))) (fun _ hk => ⟨hk.1.1.1, ⟨hk.1.1.2, hk.1.2⟩⟩)))⟩; replace HL350_6 : Aside0 (Kd.V k62 62 w33 w.heap.size (fun k_ => (P0_ k_ ∨ w.heap.size ≤ k_) ∧ some k_ ≠ (u6 : Value).ownBlock ∧ some k_ ≠ (u7 : Value).ownBlock ∧ k_ ≠ gb351) (.slice A350_6 ((rd_T46 l0 x8_2).f3.f1.f2).length c350_6) ((rd_T46 l0 x8_2).f3.f1.f2)) := ⟨(by rw [hw]; exact (My.dV (Kd.V_mono (Kd.V_far (p := ⟨gb351, 8, none⟩) (Kd.V_far (p := ⟨gb351, 7, none⟩) (Kd.V_far (p := ⟨gb351, 6, none⟩) (Kd.V_far (p := ⟨gb351, 5, none⟩) (Kd.V_far (p := ⟨gb351, 4, none⟩) (Kd.V_far (p := ⟨gb351, 3, none⟩) (Kd.V_far (p := ⟨gb351, 2, none⟩) (Kd.V_far (p := ⟨gb351, 1, none⟩) (Kd.V_far (p := ⟨gb351, 0, none⟩) (Kd.V_mono HL350_6.out (fun k_ hk => (⟨hk, hk.2⟩ : _ ∧ k_ ≠ gb351))) (fun _ hk => hk.2) (.int .i64 ((rd_T46 l0 x8_2).f0))) (fun _ hk => hk.2) (.int .i64 ((rd_T46 l0 x8_2).f1))) (fun _ hk => hk.2) (.int .i64 ((rd_T46 l0 x8_2).f2))) (fun _ hk => hk.2) (.int .i64 ((rd_T46 l0 x8_2).f3.f0))) (fun _ hk => hk.2) (.int .i64 ((rd_T46 l0 x8_2).f3.f1.f0))) (fun _ hk => hk.2) (.int .i64 ((rd_T46 l0 x8_2).f3.f1.f1))) (fun _ hk => hk.2) (.slice A350_6 ((rd_T46 l0 x8_2).f3.f1.f2).length c350_6)) (fun _ hk => hk.2) (.string ((rd_T46 l0 x8_2).f3.f2))) (fun _ hk => hk.2) (.int .i64 ((rd_T46 l0 x8_2).f3.f3))) (fun _ hk => ⟨hk.1.1.1, ⟨hk.1.1.2.1, ⟨hk.1.1.2.2, hk.1.2⟩⟩⟩))))⟩; replace BK351 : Aside0 (w33.heap[gb351]? = some (.cells #[.int .i64 ((rd_T46 l0 x8_2).f0), .int .i64 ((rd_T46 l0 x8_2).f1), .int .i64 ((rd_T46 l0 x8_2).f2), .int .i64 ((rd_T46 l0 x8_2).f3.f0), .int .i64 ((rd_T46 l0 x8_2).f3.f1.f0), .int .i64 ((rd_T46 l0 x8_2).f3.f1.f1), .slice A350_6 ((rd_T46 l0 x8_2).f3.f1.f2).length c350_6, .string ((rd_T46 l0 x8_2).f3.f2), .int .i64 ((rd_T46 l0 x8_2).f3.f3)] 46 (0, 0))) := ⟨(by rw [hw]; exact ((My.sv_ BK351)))⟩; replace HB : Aside0 (Below w.heap.size w w33) := ⟨(by rw [hw]; exact (My.bl_ HB))⟩; (try clear hw); have hcz34_0 : w33.cell? ⟨gb351, 0, none⟩ = some (.int .i64 ((rd_T46 l0 x8_2).f0)) := My.b_ BK351 0; have hcz34_1 : w33.cell? ⟨gb351, 1, none⟩ = some (.int .i64 ((rd_T46 l0 x8_2).f1)) := My.b_ BK351 1; have hcz34_2 : w33.cell? ⟨gb351, 2, none⟩ = some (.int .i64 ((rd_T46 l0 x8_2).f2)) := My.b_ BK351 2; have hcz34_3 : w33.cell? ⟨gb351, 3, none⟩ = some (.int .i64 ((rd_T46 l0 x8_2).f3.f0)) := My.b_ BK351 3; have hcz34_4 : w33.cell? ⟨gb351, 4, none⟩ = some (.int .i64 ((rd_T46 l0 x8_2).f3.f1.f0)) := My.b_ BK351 4; have hcz34_5 : w33.cell? ⟨gb351, 5, none⟩ = some (.int .i64 ((rd_T46 l0 x8_2).f3.f1.f1)) := My.b_ BK351 5; have hcz34_6 : w33.cell? ⟨gb351, 6, none⟩ = some (.slice A350_6 ((rd_T46 l0 x8_2).f3.f1.f2).length c350_6) := My.b_ BK351 6; have hcz34_7 : w33.cell? ⟨gb351, 7, none⟩ = some (.string ((rd_T46 l0 x8_2).f3.f2)) := My.b_ BK351 7; have hcz34_8 : w33.cell? ⟨gb351, 8, none⟩ = some (.int .i64 ((rd_T46 l0 x8_2).f3.f3)) := My.b_ BK351 8; have hfz34_0 := blk_frozen BK351.out 0; have hfz34_1 := blk_frozen BK351.out 1; have hfz34_2 := blk_frozen BK351.out 2; have hfz34_3 := blk_frozen BK351.out 3; have hfz34_4 := blk_frozen BK351.out 4; have hfz34_5 := blk_frozen BK351.out 5; have hfz34_6 := blk_frozen BK351.out 6; have hfz34_7 := blk_frozen BK351.out 7; have hfz34_8 := blk_frozen BK351.out 8) | ((with_reducible refine gate_callee (f := 33) rfl ?_); refine goesL_ (some 42) rfl rfl Try.func33 (by kernel_rfl) rfl #[.int .i64 ((rd_T46 l0 x8_2).f2)] rfl My.gx ?_; (with_reducible refine (ententeref11_Delay.calls ((rd_T46 l0 x8_2).f2) t359 _ A28.out).mono ?_); rintro e w' ⟨rfl, ⟨nd, rfl⟩⟩; refine ⟨_, rfl, ?_⟩; (try (rw [drewN_self w33]; generalize hq_ : World.drewN w33 _ = w33; have n0_ : Aside0 (Kd.V k62 62 w33 w.heap.size (fun k_ => (P0_ k_ ∨ w.heap.size ≤ k_) ∧ some k_ ≠ (u6 : Value).ownBlock ∧ some k_ ≠ (u7 : Value).ownBlock ∧ k_ ≠ gb351) (.slice A350_6 ((rd_T46 l0 x8_2).f3.f1.f2).length c350_6) ((rd_T46 l0 x8_2).f3.f1.f2)) := ⟨by rw [← hq_]; exact (My.dV HL350_6.out)⟩; have n1_ : Aside0 (Kd.V k46 46 w33 w.heap.size (fun k_ => (P0_ k_ ∨ w.heap.size ≤ k_) ∧ some k_ ≠ (u6 : Value).ownBlock ∧ some k_ ≠ (u7 : Value).ownBlock ∧ k_ ≠ gb351) (.slice (some ad350) l0.length c0) l0) := ⟨by rw [← hq_]; exact (My.dV HO_0.out)⟩; have n2_ : Aside0 (Kd.N k46 46 w33 w.heap.size (fun k_ => (P0_ k_ ∨ w.heap.size ≤ k_) ∧ some k_ ≠ (u7 : Value).ownBlock ∧ k_ ≠ gb351) u6 x6_2) := ⟨by rw [← hq_]; exact (by (with_reducible repeat (first | apply Kd.N_alloc | apply Kd.N_drewN | apply Kd.N_drew)); exact HO_6.out)⟩; have n3_ : Aside0 (Kd.N k46 46 w33 w.heap.size (fun k_ => (P0_ k_ ∨ w.heap.size ≤ k_) ∧ some k_ ≠ (u6 : Value).ownBlock ∧ k_ ≠ gb351) u7 x7_2) := ⟨by rw [← hq_]; exact (by (with_reducible repeat (first | apply Kd.N_alloc | apply Kd.N_drewN | apply Kd.N_drew)); exact HO_7.out)⟩; have n4_ : Aside0 (w33.heap[gb351]? = some (.cells #[.int .i64 ((rd_T46 l0 x8_2).f0), .int .i64 ((rd_T46 l0 x8_2).f1), .int .i64 ((rd_T46 l0 x8_2).f2), .int .i64 ((rd_T46 l0 x8_2).f3.f0), .int .i64 ((rd_T46 l0 x8_2).f3.f1.f0), .int .i64 ((rd_T46 l0 x8_2).f3.f1.f1), .slice A350_6 ((rd_T46 l0 x8_2).f3.f1.f2).length c350_6, .string ((rd_T46 l0 x8_2).f3.f2), .int .i64 ((rd_T46 l0 x8_2).f3.f3)] 46 (0, 0))) := ⟨by rw [← hq_]; exact (My.at_ BK351)⟩; have n5_ : Aside0 (Below w.heap.size w w33) := ⟨by rw [← hq_]; exact (My.bl_ HB)⟩; have n6_ : Aside0 (Kd.C k62 w33 A350_6 ((rd_T46 l0 x8_2).f3.f1.f2).length ((rd_T46 l0 x8_2).f3.f1.f2)) := ⟨by rw [← hq_]; exact (by repeat (first | (with_reducible exact HR350_6.out) | (with_reducible refine Kd.C_alloc ?_ _) | (with_reducible refine Kd.C_drewN ?_ _) | (with_reducible refine Kd.C_drew ?_) | exact HR350_6.out | exact (Kd.V_reads' (My.dV HL350_6.out)).2.2))⟩; clear HL350_6 HO_0 HO_6 HO_7 BK351 HB HR350_6 hq_; have HL350_6 := n0_; have HO_0 := n1_; have HO_6 := n2_; have HO_7 := n3_; have BK351 := n4_; have HB := n5_; have HR350_6 := n6_; clear n0_ n1_ n2_ n3_ n4_ n5_ n6_; have hz0_ := My.b_ BK351 0; have hz1_ := My.b_ BK351 1; have hz2_ := My.b_ BK351 2; have hz3_ := My.b_ BK351 3; have hz4_ := My.b_ BK351 4; have hz5_ := My.b_ BK351 5; have hz6_ := My.b_ BK351 6; have hz7_ := My.b_ BK351 7; have hz8_ := My.b_ BK351 8; have hzf_ := blk_frozen BK351.out))) | ((with_reducible refine gate_store (t := 3) (p := 44) rfl ?_); refine store_event (t := 3) (p := 44) (v := ?vo_w35) (w1 := (w33.setCell ⟨gb351, 1, none⟩ (.int .i64 (wrap64 (a1 + t359))))) ?hg ?ho ?hn ?hr ?_; (case ho => rfl); (case hg => rfl); (case hn => rfl); (case hr => first | (go_simp; done) | (go_simp; rfl)); intro w35 hw; replace HO_0 : Aside0 (Kd.V k46 46 w35 w.heap.size (fun k_ => (P0_ k_ ∨ w.heap.size ≤ k_) ∧ some k_ ≠ (u6 : Value).ownBlock ∧ some k_ ≠ (u7 : Value).ownBlock ∧ k_ ≠ gb351) (.slice (some ad350) l0.length c0) l0) := ⟨(by rw [hw]; exact (My.dV (Kd.V_mono (Kd.V_far (p := ⟨gb351, 1, none⟩) (Kd.V_mono HO_0.out (fun k_ hk => (⟨hk, hk.2.2.2⟩ : _ ∧ k_ ≠ gb351))) (fun _ hk => hk.2) (.int .i64 (wrap64 (a1 + t359)))) (fun _ hk => ⟨hk.1.1, ⟨hk.1.2.1, ⟨hk.1.2.2.1, hk.1.2.2.2⟩⟩⟩))))⟩; replace HO_6 : Aside0 (Kd.N k46 46 w35 w.heap.size (fun k_ => (P0_ k_ ∨ w.heap.size ≤ k_) ∧ some k_ ≠ (u7 : Value).ownBlock ∧ k_ ≠ gb351) u6 x6_2) := ⟨(by rw [hw]; exact (by (with_reducible repeat (first | apply Kd.N_alloc | apply Kd.N_drewN | apply Kd.N_drew)); exact Kd.N_mono (Kd.N_far (p := ⟨gb351, 1, none⟩) (Kd.N_mono HO_6.out (fun k_ hk => (⟨hk, hk.2.2⟩ : _ ∧ k_ ≠ gb351))) (fun _ hk => hk.2) (.int .i64 (wrap64 (a1 + t359)))) (fun _ hk => ⟨hk.1.1, ⟨hk.1.2.1, hk.1.2.2⟩⟩)))⟩; replace HO_7 : Aside0 (Kd.N k46 46 w35 w.heap.size (fun k_ => (P0_ k_ ∨ w.heap.size ≤ k_) ∧ some k_ ≠ (u6 : Value).ownBlock ∧ k_ ≠ gb351) u7 x7_2) := ⟨(by rw [hw]; exact (by (with_reducible repeat (first | apply Kd.N_alloc | apply Kd.N_drewN | apply Kd.N_drew)); exact Kd.N_mono (Kd.N_far (p := ⟨gb351, 1, none⟩) (Kd.N_mono HO_7.out (fun k_ hk => (⟨hk, hk.2.2⟩ : _ ∧ k_ ≠ gb351))) (fun _ hk => hk.2) (.int .i64 (wrap64 (a1 + t359)))) (fun _ hk => ⟨hk.1.1, ⟨hk.1.2.1, hk.1.2.2⟩⟩)))⟩; replace HL350_6 : Aside0 (Kd.V k62 62 w35 w.heap.size (fun k_ => (P0_ k_ ∨ w.heap.size ≤ k_) ∧ some k_ ≠ (u6 : Value).ownBlock ∧ some k_ ≠ (u7 : Value).ownBlock ∧ k_ ≠ gb351) (.slice A350_6 ((rd_T46 l0 x8_2).f3.f1.f2).length c350_6) ((rd_T46 l0 x8_2).f3.f1.f2)) := ⟨(by rw [hw]; exact (My.dV (Kd.V_mono (Kd.V_far (p := ⟨gb351, 1, none⟩) (Kd.V_mono HL350_6.out (fun k_ hk => (⟨hk, hk.2.2.2⟩ : _ ∧ k_ ≠ gb351))) (fun _ hk => hk.2) (.int .i64 (wrap64 (a1 + t359)))) (fun _ hk => ⟨hk.1.1, ⟨hk.1.2.1, ⟨hk.1.2.2.1, hk.1.2.2.2⟩⟩⟩))))⟩; replace BK351 : Aside0 (w35.heap[gb351]? = some (.cells #[.int .i64 ((rd_T46 l0 x8_2).f0), .int .i64 (wrap64 (a1 + t359)), .int .i64 ((rd_T46 l0 x8_2).f2), .int .i64 ((rd_T46 l0 x8_2).f3.f0), .int .i64 ((rd_T46 l0 x8_2).f3.f1.f0), .int .i64 ((rd_T46 l0 x8_2).f3.f1.f1), .slice A350_6 ((rd_T46 l0 x8_2).f3.f1.f2).length c350_6, .string ((rd_T46 l0 x8_2).f3.f2), .int .i64 ((rd_T46 l0 x8_2).f3.f3)] 46 (0, 0))) := ⟨(by rw [hw]; exact ((My.sv_ BK351)))⟩; replace HB : Aside0 (Below w.heap.size w w35) := ⟨(by rw [hw]; exact (My.bl_ HB))⟩; (try clear hw); have hcz36_0 : w35.cell? ⟨gb351, 0, none⟩ = some (.int .i64 ((rd_T46 l0 x8_2).f0)) := My.b_ BK351 0; have hcz36_1 : w35.cell? ⟨gb351, 1, none⟩ = some (.int .i64 (wrap64 (a1 + t359))) := My.b_ BK351 1; have hcz36_2 : w35.cell? ⟨gb351, 2, none⟩ = some (.int .i64 ((rd_T46 l0 x8_2).f2)) := My.b_ BK351 2; have hcz36_3 : w35.cell? ⟨gb351, 3, none⟩ = some (.int .i64 ((rd_T46 l0 x8_2).f3.f0)) := My.b_ BK351 3; have hcz36_4 : w35.cell? ⟨gb351, 4, none⟩ = some (.int .i64 ((rd_T46 l0 x8_2).f3.f1.f0)) := My.b_ BK351 4; have hcz36_5 : w35.cell? ⟨gb351, 5, none⟩ = some (.int .i64 ((rd_T46 l0 x8_2).f3.f1.f1)) := My.b_ BK351 5; have hcz36_6 : w35.cell? ⟨gb351, 6, none⟩ = some (.slice A350_6 ((rd_T46 l0 x8_2).f3.f1.f2).length c350_6) := My.b_ BK351 6; have hcz36_7 : w35.cell? ⟨gb351, 7, none⟩ = some (.string ((rd_T46 l0 x8_2).f3.f2)) := My.b_ BK351 7; have hcz36_8 : w35.cell? ⟨gb351, 8, none⟩ = some (.int .i64 ((rd_T46 l0 x8_2).f3.f3)) := My.b_ BK351 8; have hfz36_0 := blk_frozen BK351.out 0; have hfz36_1 := blk_frozen BK351.out 1; have hfz36_2 := blk_frozen BK351.out 2; have hfz36_3 := blk_frozen BK351.out 3; have hfz36_4 := blk_frozen BK351.out 4; have hfz36_5 := blk_frozen BK351.out 5; have hfz36_6 := blk_frozen BK351.out 6; have hfz36_7 := blk_frozen BK351.out 7; have hfz36_8 := blk_frozen BK351.out 8) | ((with_reducible refine gate_builtin (b := .append) (xs := #[.tmp 45, .tmp 47]) rfl ?_); at_builtin; refine Kd.N_append k46 (w0 := w) w.heap.size rfl (.tmp 45) (.tmp 47) 22 46 (.agg #[(.int .i64 0), (.int .i64 0), (.int .i64 0), (.int .i64 0), (.int .i64 0), (.int .i64 0), (.slice none 0 0), (.string ⟨#[]⟩), (.int .i64 0)]) 96 rfl Try.underlying22 info46 rfl (by decide) (by omega) u7 x7_2 (⟨(rd_T46 l0 x8_2).f0, wrap64 (a1 + t359), (rd_T46 l0 x8_2).f2, (⟨(rd_T46 l0 x8_2).f3.f0, (⟨(rd_T46 l0 x8_2).f3.f1.f0, (rd_T46 l0 x8_2).f3.f1.f1, (rd_T46 l0 x8_2).f3.f1.f2⟩ : S35), (rd_T46 l0 x8_2).f3.f2, (rd_T46 l0 x8_2).f3.f3⟩ : S37)⟩ : S46) [.int .i64 ((rd_T46 l0 x8_2).f0), .int .i64 (wrap64 (a1 + t359)), .int .i64 ((rd_T46 l0 x8_2).f2), .int .i64 ((rd_T46 l0 x8_2).f3.f0), .int .i64 ((rd_T46 l0 x8_2).f3.f1.f0), .int .i64 ((rd_T46 l0 x8_2).f3.f1.f1), .slice A350_6 ((rd_T46 l0 x8_2).f3.f1.f2).length c350_6, .string ((rd_T46 l0 x8_2).f3.f2), .int .i64 ((rd_T46 l0 x8_2).f3.f3)] (fun k_ => (P0_ k_ ∨ w.heap.size ≤ k_) ∧ some k_ ≠ (u6 : Value).ownBlock ∧ k_ ≠ gb351) (fun k_ => ((fun k_ => (P0_ k_ ∨ w.heap.size ≤ k_) ∧ some k_ ≠ (u6 : Value).ownBlock ∧ k_ ≠ gb351)) k_ ∧ some k_ ≠ (u7 : Value).ownBlock) rfl rfl ?aP (fun _ hk => hk) ?aF ?aO ?aB ?aS ?aL ?_; (case aP => exact (k46_mkF _ _ (⟨(rd_T46 l0 x8_2).f0, wrap64 (a1 + t359), (rd_T46 l0 x8_2).f2, (⟨(rd_T46 l0 x8_2).f3.f0, (⟨(rd_T46 l0 x8_2).f3.f1.f0, (rd_T46 l0 x8_2).f3.f1.f1, (rd_T46 l0 x8_2).f3.f1.f2⟩ : S35), (rd_T46 l0 x8_2).f3.f2, (rd_T46 l0 x8_2).f3.f3⟩ : S37)⟩ : S46) (Kd.V_reads' (Kd.V_mono (ok' := (fun k_ => ((fun k_ => (P0_ k_ ∨ w.heap.size ≤ k_) ∧ some k_ ≠ (u6 : Value).ownBlock ∧ k_ ≠ gb351)) k_ ∧ some k_ ≠ (u7 : Value).ownBlock)) (HL350_6.out) (fun k_ hk => ⟨⟨hk.1, ⟨hk.2.1, hk.2.2.2⟩⟩, hk.2.2.1⟩))).2.1 (Kd.V_F (Kd.V_mono (ok' := (fun k_ => ((fun k_ => (P0_ k_ ∨ w.heap.size ≤ k_) ∧ some k_ ≠ (u6 : Value).ownBlock ∧ k_ ≠ gb351)) k_ ∧ some k_ ≠ (u7 : Value).ownBlock)) (HL350_6.out) (fun k_ hk => ⟨⟨hk.1, ⟨hk.2.1, hk.2.2.2⟩⟩, hk.2.2.1⟩))))); (case aB => exact (My.bl_ HB)); (case aF => exact (fun k_ hk => ⟨(.inr (Nat.le_trans (below_size (My.bl_ HB)) hk)), Kd.fresh' (Kd.N_lt (by (with_reducible repeat (first | apply Kd.N_alloc | apply Kd.N_drewN | apply Kd.N_drew)); exact HO_6.out)) k_ hk, Kd.freshB (My.at_ BK351) k_ hk⟩)); (case aO => exact (by (with_reducible repeat (first | apply Kd.N_alloc | apply Kd.N_drewN | apply Kd.N_drew)); exact HO_7.out)); (case aS => exact (below_size (My.bl_ HB))); (case aL => have := LMc29.out; omega); intro v361 w37 ho hb hg hat; rw [← Ny360.out] at ho; replace HO_0 := My.am (Kd.V_afterv (ok := (fun k_ => (P0_ k_ ∨ w.heap.size ≤ k_) ∧ some k_ ≠ (u6 : Value).ownBlock ∧ k_ ≠ gb351)) (My.dV (Kd.V_mono HO_0.out (fun _ hk => ⟨⟨hk.1, ⟨hk.2.1, hk.2.2.2⟩⟩, hk.2.2.1⟩))) hg hat); replace HO_6 := My.am (Kd.N_afterv (ok := (fun k_ => (P0_ k_ ∨ w.heap.size ≤ k_) ∧ k_ ≠ gb351)) (by (with_reducible repeat (first | apply Kd.N_alloc | apply Kd.N_drewN | apply Kd.N_drew)); exact Kd.N_mono HO_6.out (fun _ hk => ⟨⟨hk.1, hk.2.2⟩, hk.2.1⟩)) hg hat); replace HL350_6 := My.am (Kd.V_afterv (ok := (fun k_ => (P0_ k_ ∨ w.heap.size ≤ k_) ∧ some k_ ≠ (u6 : Value).ownBlock ∧ k_ ≠ gb351)) (My.dV (Kd.V_mono HL350_6.out (fun _ hk => ⟨⟨hk.1, ⟨hk.2.1, hk.2.2.2⟩⟩, hk.2.2.1⟩))) hg hat); replace BK351 := My.am (blk_grown (My.at_ BK351) hg (Kd.N_away HO_7.out (fun _ hk => hk.2.2))); replace HB := My.am (hb); have HO362 := My.am (ho); (try clear HO_7); clear ho hb hg hat; have hcz38_0 : w37.cell? ⟨gb351, 0, none⟩ = some (.int .i64 ((rd_T46 l0 x8_2).f0)) := My.b_ BK351 0; have hcz38_1 : w37.cell? ⟨gb351, 1, none⟩ = some (.int .i64 (wrap64 (a1 + t359))) := My.b_ BK351 1; have hcz38_2 : w37.cell? ⟨gb351, 2, none⟩ = some (.int .i64 ((rd_T46 l0 x8_2).f2)) := My.b_ BK351 2; have hcz38_3 : w37.cell? ⟨gb351, 3, none⟩ = some (.int .i64 ((rd_T46 l0 x8_2).f3.f0)) := My.b_ BK351 3; have hcz38_4 : w37.cell? ⟨gb351, 4, none⟩ = some (.int .i64 ((rd_T46 l0 x8_2).f3.f1.f0)) := My.b_ BK351 4; have hcz38_5 : w37.cell? ⟨gb351, 5, none⟩ = some (.int .i64 ((rd_T46 l0 x8_2).f3.f1.f1)) := My.b_ BK351 5; have hcz38_6 : w37.cell? ⟨gb351, 6, none⟩ = some (.slice A350_6 ((rd_T46 l0 x8_2).f3.f1.f2).length c350_6) := My.b_ BK351 6; have hcz38_7 : w37.cell? ⟨gb351, 7, none⟩ = some (.string ((rd_T46 l0 x8_2).f3.f2)) := My.b_ BK351 7; have hcz38_8 : w37.cell? ⟨gb351, 8, none⟩ = some (.int .i64 ((rd_T46 l0 x8_2).f3.f3)) := My.b_ BK351 8; have hfz38_0 := blk_frozen BK351.out 0; have hfz38_1 := blk_frozen BK351.out 1; have hfz38_2 := blk_frozen BK351.out 2; have hfz38_3 := blk_frozen BK351.out 3; have hfz38_4 := blk_frozen BK351.out 4; have hfz38_5 := blk_frozen BK351.out 5; have hfz38_6 := blk_frozen BK351.out 6; have hfz38_7 := blk_frozen BK351.out 7; have hfz38_8 := blk_frozen BK351.out 8) | ((with_reducible refine gate_builtin (b := .append) (xs := #[.tmp 49, .tmp 51]) rfl ?_); at_builtin; refine Kd.N_append k46 (w0 := w) w.heap.size rfl (.tmp 49) (.tmp 51) 22 46 (.agg #[(.int .i64 0), (.int .i64 0), (.int .i64 0), (.int .i64 0), (.int .i64 0), (.int .i64 0), (.slice none 0 0), (.string ⟨#[]⟩), (.int .i64 0)]) 96 rfl Try.underlying22 info46 rfl (by decide) (by omega) u6 x6_2 (⟨(rd_T46 l0 x8_2).f0, wrap64 (a1 + t359), (rd_T46 l0 x8_2).f2, (⟨(rd_T46 l0 x8_2).f3.f0, (⟨(rd_T46 l0 x8_2).f3.f1.f0, (rd_T46 l0 x8_2).f3.f1.f1, (rd_T46 l0 x8_2).f3.f1.f2⟩ : S35), (rd_T46 l0 x8_2).f3.f2, (rd_T46 l0 x8_2).f3.f3⟩ : S37)⟩ : S46) [.int .i64 ((rd_T46 l0 x8_2).f0), .int .i64 (wrap64 (a1 + t359)), .int .i64 ((rd_T46 l0 x8_2).f2), .int .i64 ((rd_T46 l0 x8_2).f3.f0), .int .i64 ((rd_T46 l0 x8_2).f3.f1.f0), .int .i64 ((rd_T46 l0 x8_2).f3.f1.f1), .slice A350_6 ((rd_T46 l0 x8_2).f3.f1.f2).length c350_6, .string ((rd_T46 l0 x8_2).f3.f2), .int .i64 ((rd_T46 l0 x8_2).f3.f3)] (fun k_ => (P0_ k_ ∨ w.heap.size ≤ k_) ∧ some k_ ≠ (v361 : Value).ownBlock ∧ k_ ≠ gb351) (fun k_ => ((fun k_ => (P0_ k_ ∨ w.heap.size ≤ k_) ∧ some k_ ≠ (v361 : Value).ownBlock ∧ k_ ≠ gb351)) k_ ∧ some k_ ≠ (u6 : Value).ownBlock) rfl rfl ?aP (fun _ hk => hk) ?aF ?aO ?aB ?aS ?aL ?_; (case aP => exact (k46_mkF _ _ (⟨(rd_T46 l0 x8_2).f0, wrap64 (a1 + t359), (rd_T46 l0 x8_2).f2, (⟨(rd_T46 l0 x8_2).f3.f0, (⟨(rd_T46 l0 x8_2).f3.f1.f0, (rd_T46 l0 x8_2).f3.f1.f1, (rd_T46 l0 x8_2).f3.f1.f2⟩ : S35), (rd_T46 l0 x8_2).f3.f2, (rd_T46 l0 x8_2).f3.f3⟩ : S37)⟩ : S46) (Kd.V_reads' (Kd.V_mono (ok' := (fun k_ => ((fun k_ => (P0_ k_ ∨ w.heap.size ≤ k_) ∧ some k_ ≠ (v361 : Value).ownBlock ∧ k_ ≠ gb351)) k_ ∧ some k_ ≠ (u6 : Value).ownBlock)) (HL350_6.out) (fun k_ hk => ⟨⟨hk.1.1, ⟨hk.2, hk.1.2.2⟩⟩, hk.1.2.1⟩))).2.1 (Kd.V_F (Kd.V_mono (ok' := (fun k_ => ((fun k_ => (P0_ k_ ∨ w.heap.size ≤ k_) ∧ some k_ ≠ (v361 : Value).ownBlock ∧ k_ ≠ gb351)) k_ ∧ some k_ ≠ (u6 : Value).ownBlock)) (HL350_6.out) (fun k_ hk => ⟨⟨hk.1.1, ⟨hk.2, hk.1.2.2⟩⟩, hk.1.2.1⟩))))); (case aB => exact (My.bl_ HB)); (case aF => exact (fun k_ hk => ⟨(.inr (Nat.le_trans (below_size (My.bl_ HB)) hk)), Kd.fresh' (Kd.N_lt (by (with_reducible repeat (first | apply Kd.N_alloc | apply Kd.N_drewN | apply Kd.N_drew)); exact HO362.out)) k_ hk, Kd.freshB (My.at_ BK351) k_ hk⟩)); (case aO => exact (by (with_reducible repeat (first | apply Kd.N_alloc | apply Kd.N_drewN | apply Kd.N_drew)); exact Kd.N_mono HO_6.out (fun _ hk => ⟨hk.1.1, ⟨hk.2, hk.1.2⟩⟩))); (case aS => exact (below_size (My.bl_ HB))); (case aL => have := LMc30.out; omega); intro v364 w39 ho hb hg hat; rw [← Ny363.out] at ho; replace HO_0 := My.am (Kd.V_afterv (ok := (fun k_ => (P0_ k_ ∨ w.heap.size ≤ k_) ∧ some k_ ≠ (v361 : Value).ownBlock ∧ k_ ≠ gb351)) (My.dV (Kd.V_mono HO_0.out (fun _ hk => ⟨⟨hk.1.1, ⟨hk.2, hk.1.2.2⟩⟩, hk.1.2.1⟩))) hg hat); replace HL350_6 := My.am (Kd.V_afterv (ok := (fun k_ => (P0_ k_ ∨ w.heap.size ≤ k_) ∧ some k_ ≠ (v361 : Value).ownBlock ∧ k_ ≠ gb351)) (My.dV (Kd.V_mono HL350_6.out (fun _ hk => ⟨⟨hk.1.1, ⟨hk.2, hk.1.2.2⟩⟩, hk.1.2.1⟩))) hg hat); replace BK351 := My.am (blk_grown (My.at_ BK351) hg (Kd.N_away HO_6.out (fun _ hk => hk.1.2))); replace HO362 := My.am (Kd.N_afterv (ok := (fun k_ => (P0_ k_ ∨ w.heap.size ≤ k_) ∧ k_ ≠ gb351)) (by (with_reducible repeat (first | apply Kd.N_alloc | apply Kd.N_drewN | apply Kd.N_drew)); exact Kd.N_mono HO362.out (fun _ hk => ⟨⟨hk.1, hk.2.2⟩, hk.2.1⟩)) hg hat); replace HB := My.am (hb); have HO365 := My.am (ho); (try clear HO_6); clear ho hb hg hat))
     go_roundg k2
     case measure => have := HJ2.out; have := HK2.out; omega
     case rel => exact ⟨(y363), (y360), (wrap64 (x8_2 + 1)), My.r1, H', ⟨by have := HJ2.out; have := HK2.out; omega⟩, ⟨My.dV (Kd.V_mono HO_0.out (fun _ hk => ⟨hk.1.1, ⟨hk.2, hk.1.2.1⟩⟩))⟩, ⟨by (with_reducible repeat (first | apply Kd.N_alloc | apply Kd.N_drewN | apply Kd.N_drew)); exact Kd.N_mono HO365.out (fun _ hk => ⟨hk.1, hk.2.1⟩)⟩, ⟨by (with_reducible repeat (first | apply Kd.N_alloc | apply Kd.N_drewN | apply Kd.N_drew)); exact Kd.N_mono HO362.out (fun _ hk => ⟨hk.1.1, hk.2⟩)⟩, ⟨(My.bl_ HB)⟩⟩
end Go.Proofs.Ytcgmoeiknkdljaa.PA
