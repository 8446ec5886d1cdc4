-- Written by a program of this session (wip/tools/mp.py over the kit's printer); Lean checks it.
import Derived.Test.YtcgmoeiknkdljaaPAx0
import Derived.Test.YtcgmoeiknkdljaaPAx1
import Derived.Test.YtcgmoeiknkdljaaPAx7
import Derived.Test.YtcgmoeiknkdljaaPAx8
import Derived.Test.YtcgmoeiknkdljaaPAx9
import Derived.Test.YtcgmoeiknkdljaaPAx17
import Derived.Test.YtcgmoeiknkdljaaPAx18
import Derived.Test.YtcgmoeiknkdljaaPAx19
namespace Go.Proofs.Ytcgmoeiknkdljaa.PA
open Go.RowKit Go.Proofs.YtcgmoeiknkdljaaW.PrintWords Go.Proofs.YtcgmoeiknkdljaaW.PrintLast Go.Proofs.YtcgmoeiknkdljaaW.PrintMore
attribute [local go_sem] max2_int min2_int max_two min_two max_three min_three max_four min_four   -- for this text's walks alone
set_option linter.unusedVariables false
set_option maxHeartbeats 8000000
set_option maxRecDepth 100000
set_option linter.unusedSimpArgs false

/-! ### ententelaw19_OutboxAnswered: function 6 -/
mutual
def ententelaw19_OutboxAnswered.j0 : Nat → List (S46) → Int → Bool → Option (Bool)
 | 0, _, _, _ => none
 | k + 1, x0, x1, x17 => if x17 = true then ((ententelaw19_awake.f k).bind fun t424 => (some t424)) else ((outbox_Answered.f k x0 x1).bind fun t425 => (ententelaw19_OutboxAnswered.l0 k x0 x1 t425 0 0))
def ententelaw19_OutboxAnswered.l0 : Nat → List (S46) → Int → List (S46) → Int → Int → Option (Bool)
 | 0, _, _, _, _, _ => none
 | k + 1, x0, x1, x5, x6, x7 => if x7 < (x0.length : Int) then (if 0 ≤ x7 then (if ((rd_T46 x0 x7).f0) > x1 then (if x6 ≥ (x5.length : Int) then (ententelaw19_OutboxAnswered.j2 k x0 x1 x5 x6 x7 true) else (if x7 ≤ (wrap64 (x7 + 1)) then (if (wrap64 (x7 + 1)) ≤ (x0.length : Int) then (if 0 ≤ x6 then (if x6 ≤ (wrap64 (x6 + 1)) then (if (wrap64 (x6 + 1)) ≤ (x5.length : Int) then ((ententeref19_Same.f k ((x0.take ((wrap64 (x7 + 1)) : Int).toNat).drop (x7 : Int).toNat) ((x5.take ((wrap64 (x6 + 1)) : Int).toNat).drop (x6 : Int).toNat)).bind fun t437 => (ententelaw19_OutboxAnswered.j2 k x0 x1 x5 x6 x7 (!t437))) else (none)) else (none)) else (none)) else (none)) else (none))) else ((outbox_Has.f k x5 ((rd_T46 x0 x7).f3.f0) ((rd_T46 x0 x7).f3.f1.f0) ((rd_T46 x0 x7).f3.f1.f1) ((rd_T46 x0 x7).f3.f1.f2) ((rd_T46 x0 x7).f3.f2) ((rd_T46 x0 x7).f3.f3)).bind fun t439 => (if t439 = true then (some false) else (ententelaw19_OutboxAnswered.l0 k x0 x1 x5 x6 (wrap64 (x7 + 1)))))) else (none)) else ((outbox_Anew.f k x5 7).bind fun t440 => (ententelaw19_OutboxAnswered.l1 k x0 x5 x6 t440 0))
def ententelaw19_OutboxAnswered.j2 : Nat → List (S46) → Int → List (S46) → Int → Int → Bool → Option (Bool)
 | 0, _, _, _, _, _, _ => none
 | k + 1, x0, x1, x5, x6, x7, x52 => if x52 = true then (some false) else (ententelaw19_OutboxAnswered.l0 k x0 x1 x5 (wrap64 (x6 + 1)) (wrap64 (x7 + 1)))
def ententelaw19_OutboxAnswered.l1 : Nat → List (S46) → List (S46) → Int → List (S46) → Int → Option (Bool)
 | 0, _, _, _, _, _ => none
 | k + 1, x0, x5, x6, x8, x9 => if x9 < (x8.length : Int) then (if 0 ≤ x9 then (if ((rd_T46 x8 x9).f0) = (wrap64 (x9 + 1)) then (if ((rd_T46 x8 x9).f1) = 7 then (if ((rd_T46 x8 x9).f2) = 0 then ((outbox_Has.f k x0 ((rd_T46 x8 x9).f3.f0) ((rd_T46 x8 x9).f3.f1.f0) ((rd_T46 x8 x9).f3.f1.f1) ((rd_T46 x8 x9).f3.f1.f2) ((rd_T46 x8 x9).f3.f2) ((rd_T46 x8 x9).f3.f3)).bind fun t447 => (if t447 = true then (ententelaw19_OutboxAnswered.l1 k x0 x5 x6 x8 (wrap64 (x9 + 1))) else (some false))) else (some false)) else (some false)) else (some false)) else (none)) else (if x6 = (x5.length : Int) then (if (x8.length : Int) = x6 then ((outbox_May.f k x5).bind fun t448 => (if t448 = 0 then ((outbox_May.f k x8).bind fun t449 => (if t449 = 0 then ((ententelaw19_awake.f k).bind fun t450 => (some t450)) else (some false))) else (some false))) else (some false)) else (some false))
end
def ententelaw19_OutboxAnswered.f (k : Nat) (l0 : List (S46)) (a1 : Int) : Option (Bool) := (ententelaw19_few.f k l0 ([] : List (S37))).bind fun t422 => (if t422 = true then ((outbox_May.f k l0).bind fun t423 => (ententelaw19_OutboxAnswered.j0 k l0 a1 (t423 != 0))) else (ententelaw19_OutboxAnswered.j0 k l0 a1 true))
theorem ententelaw19_OutboxAnswered.mono_l : ∀ k, (∀ y0 y1 y2, LeO (ententelaw19_OutboxAnswered.j0 k y0 y1 y2) (ententelaw19_OutboxAnswered.j0 (k + 1) y0 y1 y2)) ∧ (∀ y0 y1 y2 y3 y4, LeO (ententelaw19_OutboxAnswered.l0 k y0 y1 y2 y3 y4) (ententelaw19_OutboxAnswered.l0 (k + 1) y0 y1 y2 y3 y4)) ∧ (∀ y0 y1 y2 y3 y4 y5, LeO (ententelaw19_OutboxAnswered.j2 k y0 y1 y2 y3 y4 y5) (ententelaw19_OutboxAnswered.j2 (k + 1) y0 y1 y2 y3 y4 y5)) ∧ (∀ y0 y1 y2 y3 y4, LeO (ententelaw19_OutboxAnswered.l1 k y0 y1 y2 y3 y4) (ententelaw19_OutboxAnswered.l1 (k + 1) y0 y1 y2 y3 y4))
 | 0 => ⟨fun _ _ _ r h => by simp [ententelaw19_OutboxAnswered.j0] at h, fun _ _ _ _ _ r h => by simp [ententelaw19_OutboxAnswered.l0] at h, fun _ _ _ _ _ _ r h => by simp [ententelaw19_OutboxAnswered.j2] at h, fun _ _ _ _ _ r h => by simp [ententelaw19_OutboxAnswered.l1] at h⟩
 | k + 1 => by
  obtain ⟨ih0, ih1, ih2, ih3⟩ := ententelaw19_OutboxAnswered.mono_l k
  refine ⟨?_, ?_, ?_, ?_⟩
  ·intro y0 y1 y2
   unfold ententelaw19_OutboxAnswered.j0
   repeat' (with_reducible first | exact ih0 _ _ _ | exact ih1 _ _ _ _ _ | exact ih2 _ _ _ _ _ _ | exact ih3 _ _ _ _ _ | exact ententelaw19_awake.mono _ | exact ententelaw19_few.mono _ _ _ | exact ententeref19_Same.mono _ _ _ | exact outbox_Anew.mono _ _ _ | exact outbox_Answered.mono _ _ _ | exact outbox_Has.mono _ _ _ _ _ _ _ _ | exact outbox_May.mono _ _ | exact LeO.refl _ | exact LeO.none _ | apply LeO.ite | refine LeO.bind ?_ (fun _ => ?_))
  ·intro y0 y1 y2 y3 y4
   unfold ententelaw19_OutboxAnswered.l0
   repeat' (with_reducible first | exact ih0 _ _ _ | exact ih1 _ _ _ _ _ | exact ih2 _ _ _ _ _ _ | exact ih3 _ _ _ _ _ | exact ententelaw19_awake.mono _ | exact ententelaw19_few.mono _ _ _ | exact ententeref19_Same.mono _ _ _ | exact outbox_Anew.mono _ _ _ | exact outbox_Answered.mono _ _ _ | exact outbox_Has.mono _ _ _ _ _ _ _ _ | exact outbox_May.mono _ _ | exact LeO.refl _ | exact LeO.none _ | apply LeO.ite | refine LeO.bind ?_ (fun _ => ?_))
  ·intro y0 y1 y2 y3 y4 y5
   unfold ententelaw19_OutboxAnswered.j2
   repeat' (with_reducible first | exact ih0 _ _ _ | exact ih1 _ _ _ _ _ | exact ih2 _ _ _ _ _ _ | exact ih3 _ _ _ _ _ | exact ententelaw19_awake.mono _ | exact ententelaw19_few.mono _ _ _ | exact ententeref19_Same.mono _ _ _ | exact outbox_Anew.mono _ _ _ | exact outbox_Answered.mono _ _ _ | exact outbox_Has.mono _ _ _ _ _ _ _ _ | exact outbox_May.mono _ _ | exact LeO.refl _ | exact LeO.none _ | apply LeO.ite | refine LeO.bind ?_ (fun _ => ?_))
  intro y0 y1 y2 y3 y4
  unfold ententelaw19_OutboxAnswered.l1
  repeat' (with_reducible first | exact ih0 _ _ _ | exact ih1 _ _ _ _ _ | exact ih2 _ _ _ _ _ _ | exact ih3 _ _ _ _ _ | exact ententelaw19_awake.mono _ | exact ententelaw19_few.mono _ _ _ | exact ententeref19_Same.mono _ _ _ | exact outbox_Anew.mono _ _ _ | exact outbox_Answered.mono _ _ _ | exact outbox_Has.mono _ _ _ _ _ _ _ _ | exact outbox_May.mono _ _ | exact LeO.refl _ | exact LeO.none _ | apply LeO.ite | refine LeO.bind ?_ (fun _ => ?_))
theorem ententelaw19_OutboxAnswered.mono : ∀ a0 a1 k, LeO (ententelaw19_OutboxAnswered.f k a0 a1) (ententelaw19_OutboxAnswered.f (k + 1) a0 a1) := by
 intro a0 a1 k
 obtain ⟨ih0, ih1, ih2, ih3⟩ := ententelaw19_OutboxAnswered.mono_l k
 unfold ententelaw19_OutboxAnswered.f
 repeat' (with_reducible first | exact ih0 _ _ _ | exact ih1 _ _ _ _ _ | exact ih2 _ _ _ _ _ _ | exact ih3 _ _ _ _ _ | exact ententelaw19_awake.mono _ | exact ententelaw19_few.mono _ _ _ | exact ententeref19_Same.mono _ _ _ | exact outbox_Anew.mono _ _ _ | exact outbox_Answered.mono _ _ _ | exact outbox_Has.mono _ _ _ _ _ _ _ _ | exact outbox_May.mono _ _ | exact LeO.refl _ | exact LeO.none _ | apply LeO.ite | refine LeO.bind ?_ (fun _ => ?_))
def ententelaw19_OutboxAnswered.T9 : Bool × List (List Nat × List Nat) := (true, [([], []), ([], []), ([1], [1]), ([0, 2], [0, 2]), ([3], [3]), ([4], [4]), ([4], [4]), ([4], [4]), ([7, 4], [4, 7]), ([5, 6, 8, 4], [4, 5, 6, 8]), ([4], [4]), ([4], [4]), ([4], [4]), ([12, 4], [4, 12]), ([10, 11, 13, 4], [4, 10, 11, 13]), ([9, 14, 4, 4], [4, 9, 14]), ([15, 4], [4, 15]), ([4, 16], [4, 16])])
def ententelaw19_OutboxAnswered.B9 : List Nat := [0, 0, 2, 7, 15, 31, 31, 31, 159, 511, 31, 31, 31, 4127, 15391, 32767, 65535, 131071]
theorem ententelaw19_OutboxAnswered.tab9 : rtab .any (opsOf Try.f6 9) = ententelaw19_OutboxAnswered.T9 := by kernel_rfl
theorem ententelaw19_OutboxAnswered.bits9 : waitsOk ententelaw19_OutboxAnswered.T9.2 ententelaw19_OutboxAnswered.B9 = true := by kernel_rfl
theorem ententelaw19_OutboxAnswered.calls (k : Nat) (A0 : Option Addr) (c0 : Nat) (l0 : List (S46)) (a1 : Int) (r : Bool) (w : World) (hr0 : Kd.C k46 w A0 l0.length l0) (hc0 : l0.length ≤ c0) (ht : r = true) (h : ententelaw19_OutboxAnswered.f k l0 a1 = some r) :
  Calls Try.prog 6 #[.slice A0 l0.length c0, .int .i64 a1] w fun e w' => e = .returned (.bool r) ∧ Below w.heap.size w w' := by
 have hu37 := Try.underlying37
 have HR0 := My.am hr0
 have HC0 := My.am hc0
 clear hr0 hc0
 have HB := My.am (Below.refl w.heap.size w)
 have HT := My.am ht
 clear ht
 unfold ententelaw19_OutboxAnswered.f at h
 have H := h
 clear h
 have HC3 := My.am H
 clear H
 go_enter Try.func6, Try.ntmps6
 go_upto_region 1 with (fail)
 go_cut [17] (fun v17 wc => ∃ (kq : Nat) (x17_2 : Bool), v17 = .bool x17_2 ∧ Aside0 (ententelaw19_OutboxAnswered.j0 kq l0 a1 x17_2 = some r) ∧ Aside0 (kq ≤ k) ∧ Aside0 (Below w.heap.size w wc))
 case first =>
  have H := HC3.out
  clear HC3
  replace H := Option.bind_eq_some_iff.mp H
  obtain ⟨t422, A40, H⟩ := H
  try dsimp only at H
  have A4 := My.am A40
  clear A40
  by_cases c5 : t422 = true
  ·subst c5
   rw [if_pos rfl] at H
   replace H := Option.bind_eq_some_iff.mp H
   obtain ⟨t423, A60, H⟩ := H
   try dsimp only at H
   have A6 := My.am A60
   clear A60
   have H' := My.am H
   clear H
   go_wp2_with (first | ((with_reducible refine gate_callee (f := 7) rfl ?_); refine goesL_ (some 11) rfl rfl Try.func7 (by kernel_rfl) rfl #[.slice A0 l0.length c0, .slice none 0 0] rfl My.gx ?_; (refine (ententelaw19_few.calls k _ _ l0 _ _ ([] : List (S37)) true _ ?side1 ?side2 ?side3 ?side4 A4.out).mono ?_); (case side1 => exact My.sd_ HR0 HB); (case side2 => exact HC0.out); (case side3 => exact Kd.C_nil _ _); (case side4 => exact Nat.le_refl _); rintro e w' ⟨rfl, ⟨nd, rfl⟩⟩; refine ⟨_, rfl, ?_⟩) | (go_at_call 13; (with_reducible refine (outbox_May.calls k _ _ l0 t423 _ ?side1 ?side2 A6.out).mono ?_); (case side1 => repeat (first | exact (Kd.C_below HR0.out (My.bl_ HB)) | (with_reducible refine Kd.C_alloc ?_ _) | (with_reducible refine Kd.C_drewN ?_ _) | (with_reducible refine Kd.C_drew ?_))); (case side2 => exact HC0.out); rintro e w7 ⟨rfl, hb⟩; replace HB := My.st HB hb; (try clear hb)))
   go_meet
   case rel => exact ⟨_, ((t423 != 0)), My.r1, H', ⟨My.r4⟩, ⟨(My.bl_ HB)⟩⟩
  ·replace c5 := Bool.eq_false_iff.mpr c5
   subst c5
   rw [if_neg (show ¬ (false = true) by decide)] at H
   have H' := My.am H
   clear H
   go_wp2_with (first | ((with_reducible refine gate_callee (f := 7) rfl ?_); refine goesL_ (some 11) rfl rfl Try.func7 (by kernel_rfl) rfl #[.slice A0 l0.length c0, .slice none 0 0] rfl My.gx ?_; (refine (ententelaw19_few.calls k _ _ l0 _ _ ([] : List (S37)) false _ ?side1 ?side2 ?side3 ?side4 A4.out).mono ?_); (case side1 => exact My.sd_ HR0 HB); (case side2 => exact HC0.out); (case side3 => exact Kd.C_nil _ _); (case side4 => exact Nat.le_refl _); rintro e w' ⟨rfl, ⟨nd, rfl⟩⟩; refine ⟨_, rfl, ?_⟩))
   go_meet
   case rel => exact ⟨_, (true), My.r1, H', ⟨My.r4⟩, ⟨(My.bl_ HB)⟩⟩
 case rest =>
  clear HC3
  obtain ⟨kq, x17_2, rfl, HA, HJ2, HB⟩ := hcut
  cases kq with
  | zero => exact absurd HA.out (by simp [ententelaw19_OutboxAnswered.j0])
  | succ kj2 =>
   have H := HA.out
   clear HA
   simp only [ententelaw19_OutboxAnswered.j0] at H
   by_cases c8 : x17_2 = true
   ·subst c8
    rw [if_pos rfl] at H
    replace H := Option.bind_eq_some_iff.mp H
    obtain ⟨t424, A90, H⟩ := H
    try dsimp only at H
    have A9 := My.am A90
    clear A90
    obtain rfl := Option.some.inj H
    go_wp2_with (first | ((with_reducible refine gate_callee (f := 8) rfl ?_); refine goesL_ (some 18) rfl rfl Try.func8 (by kernel_rfl) rfl #[] rfl My.gx ?_; (with_reducible refine (ententelaw19_awake.calls kj2  t424 _ A9.out).mono ?_); rintro e w10 ⟨rfl, hb⟩; refine ⟨_, rfl, ?_⟩; replace HB := My.st HB hb; (try clear hb)))
    go_ret
    exact ⟨My.r2, (My.bl_ HB)⟩
   replace c8 := Bool.eq_false_iff.mpr c8
   subst c8
   rw [if_neg (show ¬ (false = true) by decide)] at H
   replace H := Option.bind_eq_some_iff.mp H
   obtain ⟨t425, A110, H⟩ := H
   try dsimp only at H
   have A11 := My.am A110
   clear A110
   have H' := My.am H
   clear H
   go_wp2_with (first | ((with_reducible refine gate_callee (f := 19) rfl ?_); refine goesL_ (some 21) rfl rfl Try.func19 (by kernel_rfl) rfl #[.slice A0 l0.length c0, .int .i64 a1] rfl My.gx ?_; (with_reducible refine (outbox_Answered.calls kj2 _ _ l0 a1 t425 _ ?side1 ?side2 A11.out).mono ?_); (case side1 => exact My.sd_ HR0 HB); (case side2 => exact HC0.out); rintro e w12 ⟨v426, rfl, ho0, hb⟩; refine ⟨_, rfl, ?_⟩; have HO427 := My.am (Kd.R_lower ho0 (below_size (My.bl_ HB))); replace HB := My.st HB hb; (try clear hb); (try clear ho0)))
   go_loopg [6, 7] kj2 (fun kq v6 v7 w' => ∃ (x6_2 : Int) (x7_2 : Int), v6 = .int .i64 x6_2 ∧ v7 = .int .i64 x7_2 ∧ Aside0 (ententelaw19_OutboxAnswered.l0 kq l0 a1 t425 x6_2 x7_2 = some r) ∧ Aside0 (kq ≤ kj2) ∧ Aside0 (Kd.R k46 46 w' w.heap.size (fun _ => True) v426 t425) ∧ Aside0 (Below w.heap.size w w'))
   case atStart => exact ⟨(0), (0), My.r1, My.r1, H', ⟨Nat.le_refl _⟩, ⟨by (with_reducible repeat (first | apply Kd.R_alloc | apply Kd.R_drewN | apply Kd.R_drew)); exact HO427.out⟩, ⟨(My.bl_ HB)⟩⟩
   case round =>
    clear H'
    try clear c8
    obtain ⟨x6_2, x7_2, rfl, rfl, HA, HK2, HO_5, HB⟩ := hrel
    cases gk with
    | zero => exact absurd HA.out (by simp [ententelaw19_OutboxAnswered.l0])
    | succ k2 =>
     have H := HA.out
     clear HA
     simp only [ententelaw19_OutboxAnswered.l0] at H
     by_cases c13 : x7_2 < (l0.length : Int)
     rotate_left
     ·rw [if_neg c13] at H
      have c13b0 := decide_eq_false c13
      clear c13
      replace H := Option.bind_eq_some_iff.mp H
      obtain ⟨t440, A370, H⟩ := H
      try dsimp only at H
      have A37 := My.am A370
      clear A370
      have H' := My.am H
      clear H
      obtain ⟨Ao38, co38, eo38⟩ := Kd.R_slice HO_5.out
      subst eo38
      go_wp2_with (first | ((with_reducible refine gate_callee (f := 21) rfl ?_); refine goesL_ (some 63) rfl rfl Try.func21 (by kernel_rfl) rfl #[.slice Ao38 t425.length co38, .int .i64 7] rfl My.gx ?_; (with_reducible refine (outbox_Anew.calls k2 _ _ t425 7 t440 _ ?side1 ?side2 A37.out).mono ?_); (case side1 => repeat (first | exact (Kd.R_reads' HO_5.out).2.2 | (with_reducible refine Kd.C_alloc ?_ _) | (with_reducible refine Kd.C_drewN ?_ _) | (with_reducible refine Kd.C_drew ?_))); (case side2 => exact (Kd.R_reads' HO_5.out).2.1); rintro e w39 ⟨v441, rfl, ho0, hb⟩; refine ⟨_, rfl, ?_⟩; have HO442 := My.am (Kd.R_lower (Kd.R_new' (Kd.S_R ho0) (Kd.R_lt (by (with_reducible repeat (first | apply Kd.R_alloc | apply Kd.R_drewN | apply Kd.R_drew)); exact HO_5.out))) (below_size (My.bl_ HB))); replace HO_5 := My.am (Kd.R_elder' (by (with_reducible repeat (first | apply Kd.R_alloc | apply Kd.R_drewN | apply Kd.R_drew)); exact HO_5.out) (Kd.S_base ho0) hb); replace HB := My.st HB hb; (try clear hb); (try clear ho0)))
      go_loopg [9] k2 (fun kq v9 w' => ∃ (x9_3 : Int), v9 = .int .i64 x9_3 ∧ Aside0 (ententelaw19_OutboxAnswered.l1 kq l0 t425 x6_2 t440 x9_3 = some r) ∧ Aside0 (kq ≤ k2) ∧ Aside0 (Kd.R k46 46 w' w.heap.size (fun k_ => some k_ ≠ (v441 : Value).ownBlock) (.slice Ao38 t425.length co38) t425) ∧ Aside0 (Kd.R k46 46 w' w.heap.size (fun k_ => some k_ ≠ ((.slice Ao38 t425.length co38) : Value).ownBlock) v441 t440) ∧ Aside0 (Below w.heap.size w w'))
      case atStart => exact ⟨(0), My.r1, H', ⟨Nat.le_refl _⟩, ⟨by (with_reducible repeat (first | apply Kd.R_alloc | apply Kd.R_drewN | apply Kd.R_drew)); exact Kd.R_mono HO_5.out (fun _ hk => hk.2)⟩, ⟨by (with_reducible repeat (first | apply Kd.R_alloc | apply Kd.R_drewN | apply Kd.R_drew)); exact Kd.R_mono HO442.out (fun _ hk => hk.2)⟩, ⟨(My.bl_ HB)⟩⟩
      case round =>
       clear H'
       try clear c8
       try clear c13
       try clear c13b0
       obtain ⟨x9_3, rfl, HA, HK3, HO_5, HO_8, HB⟩ := hrel
       cases gk with
       | zero => exact absurd HA.out (by simp [ententelaw19_OutboxAnswered.l1])
       | succ k3 =>
        have H := HA.out
        clear HA
        simp only [ententelaw19_OutboxAnswered.l1] at H
        by_cases c40 : x9_3 < (t440.length : Int)
        rotate_left
        ·rw [if_neg c40] at H
         have c40b0 := decide_eq_false c40
         clear c40
         by_cases c49 : x6_2 = (t425.length : Int)
         rotate_left
         ·rw [if_neg c49] at H
          have c49b0 : (x6_2 == (t425.length : Int)) = false := beq_eq_false_iff_ne.mpr c49
          have c49b1 : (x6_2 != (t425.length : Int)) = true := bne_iff_ne.mpr c49
          exact absurd ((Option.some.inj H).trans HT.out) Bool.false_ne_true

         rw [if_pos c49] at H
         have c49b0 : (x6_2 == (t425.length : Int)) = true := beq_iff_eq.mpr c49
         have c49b1 : (x6_2 != (t425.length : Int)) = false := bne_eq_false_iff_eq.mpr c49
         clear c49
         by_cases c50 : (t440.length : Int) = x6_2
         rotate_left
         ·rw [if_neg c50] at H
          have c50b0 : ((t440.length : Int) == x6_2) = false := beq_eq_false_iff_ne.mpr c50
          have c50b1 : ((t440.length : Int) != x6_2) = true := bne_iff_ne.mpr c50
          exact absurd ((Option.some.inj H).trans HT.out) Bool.false_ne_true
         rw [if_pos c50] at H
         have c50b0 : ((t440.length : Int) == x6_2) = true := beq_iff_eq.mpr c50
         have c50b1 : ((t440.length : Int) != x6_2) = false := bne_eq_false_iff_eq.mpr c50
         clear c50
         replace H := Option.bind_eq_some_iff.mp H
         obtain ⟨t448, A510, H⟩ := H
         try dsimp only at H
         have A51 := My.am A510
         clear A510
         by_cases c52 : t448 = 0
         rotate_left
         ·rw [if_neg c52] at H
          have c52b0 : (t448 == 0) = false := beq_eq_false_iff_ne.mpr c52
          have c52b1 : (t448 != 0) = true := bne_iff_ne.mpr c52
          exact absurd ((Option.some.inj H).trans HT.out) Bool.false_ne_true
         rw [if_pos c52] at H
         have c52b0 : (t448 == 0) = true := beq_iff_eq.mpr c52
         have c52b1 : (t448 != 0) = false := bne_eq_false_iff_eq.mpr c52
         clear c52
         replace H := Option.bind_eq_some_iff.mp H
         obtain ⟨t449, A530, H⟩ := H
         try dsimp only at H
         have A53 := My.am A530
         clear A530
         by_cases c54 : t449 = 0
         ·rw [if_pos c54] at H
          have c54b0 : (t449 == 0) = true := beq_iff_eq.mpr c54
          have c54b1 : (t449 != 0) = false := bne_eq_false_iff_eq.mpr c54
          clear c54
          replace H := Option.bind_eq_some_iff.mp H
          obtain ⟨t450, A550, H⟩ := H
          try dsimp only at H
          have A55 := My.am A550
          clear A550
          obtain rfl := Option.some.inj H
          obtain ⟨Ao56, co56, eo56⟩ := Kd.R_slice HO_8.out
          subst eo56
          go_wp2_with (first | (go_at_call 13; (with_reducible refine (outbox_May.calls k3 _ _ t425 t448 _ ?side1 ?side2 A51.out).mono ?_); (case side1 => repeat (first | exact (Kd.R_reads' HO_5.out).2.2 | (with_reducible refine Kd.C_alloc ?_ _) | (with_reducible refine Kd.C_drewN ?_ _) | (with_reducible refine Kd.C_drew ?_))); (case side2 => exact (Kd.R_reads' HO_5.out).2.1); rintro e w57 ⟨rfl, hb⟩; replace HO_8 := My.am (Kd.R_below (by (with_reducible repeat (first | apply Kd.R_alloc | apply Kd.R_drewN | apply Kd.R_drew)); exact HO_8.out) hb); replace HB := My.st HB hb; (try clear hb)) | (go_at_call 13; (with_reducible refine (outbox_May.calls k3 _ _ t440 t449 _ ?side1 ?side2 A53.out).mono ?_); (case side1 => repeat (first | exact (Kd.R_reads' HO_8.out).2.2 | (with_reducible refine Kd.C_alloc ?_ _) | (with_reducible refine Kd.C_drewN ?_ _) | (with_reducible refine Kd.C_drew ?_))); (case side2 => exact (Kd.R_reads' HO_8.out).2.1); rintro e w58 ⟨rfl, hb⟩; replace HB := My.st HB hb; (try clear hb)) | (go_at_call 8; (with_reducible refine (ententelaw19_awake.calls k3  t450 _ A55.out).mono ?_); rintro e w59 ⟨rfl, hb⟩; replace HB := My.st HB hb; (try clear hb)))
          go_ret
          exact ⟨My.r2, (My.bl_ HB)⟩
         rw [if_neg c54] at H
         have c54b0 : (t449 == 0) = false := beq_eq_false_iff_ne.mpr c54
         have c54b1 : (t449 != 0) = true := bne_iff_ne.mpr c54
         exact absurd ((Option.some.inj H).trans HT.out) Bool.false_ne_true
        rw [if_pos c40] at H
        have c40b0 := decide_eq_true c40
        clear c40
        replace H := My.ds H
        obtain ⟨c41b0, H⟩ := H
        by_cases c42 : ((rd_T46 t440 x9_3).f0) = (wrap64 (x9_3 + 1))
        rotate_left
        ·rw [if_neg c42] at H
         have c42b0 : (((rd_T46 t440 x9_3).f0) == (wrap64 (x9_3 + 1))) = false := beq_eq_false_iff_ne.mpr c42
         have c42b1 : (((rd_T46 t440 x9_3).f0) != (wrap64 (x9_3 + 1))) = true := bne_iff_ne.mpr c42
         exact absurd ((Option.some.inj H).trans HT.out) Bool.false_ne_true
        rw [if_pos c42] at H
        have c42b0 : (((rd_T46 t440 x9_3).f0) == (wrap64 (x9_3 + 1))) = true := beq_iff_eq.mpr c42
        have c42b1 : (((rd_T46 t440 x9_3).f0) != (wrap64 (x9_3 + 1))) = false := bne_eq_false_iff_eq.mpr c42
        clear c42
        by_cases c43 : ((rd_T46 t440 x9_3).f1) = 7
        rotate_left
        ·rw [if_neg c43] at H
         have c43b0 : (((rd_T46 t440 x9_3).f1) == 7) = false := beq_eq_false_iff_ne.mpr c43
         have c43b1 : (((rd_T46 t440 x9_3).f1) != 7) = true := bne_iff_ne.mpr c43
         exact absurd ((Option.some.inj H).trans HT.out) Bool.false_ne_true
        rw [if_pos c43] at H
        have c43b0 : (((rd_T46 t440 x9_3).f1) == 7) = true := beq_iff_eq.mpr c43
        have c43b1 : (((rd_T46 t440 x9_3).f1) != 7) = false := bne_eq_false_iff_eq.mpr c43
        clear c43
        by_cases c44 : ((rd_T46 t440 x9_3).f2) = 0
        rotate_left
        ·rw [if_neg c44] at H
         have c44b0 : (((rd_T46 t440 x9_3).f2) == 0) = false := beq_eq_false_iff_ne.mpr c44
         have c44b1 : (((rd_T46 t440 x9_3).f2) != 0) = true := bne_iff_ne.mpr c44
         exact absurd ((Option.some.inj H).trans HT.out) Bool.false_ne_true
        rw [if_pos c44] at H
        have c44b0 : (((rd_T46 t440 x9_3).f2) == 0) = true := beq_iff_eq.mpr c44
        have c44b1 : (((rd_T46 t440 x9_3).f2) != 0) = false := bne_eq_false_iff_eq.mpr c44
        clear c44
        replace H := Option.bind_eq_some_iff.mp H
        obtain ⟨t447, A450, H⟩ := H
        try dsimp only at H
        have A45 := My.am A450
        clear A450
        by_cases c46 : t447 = true
        rotate_left
        ·replace c46 := Bool.eq_false_iff.mpr c46
         subst c46
         rw [if_neg (show ¬ (false = true) by decide)] at H
         exact absurd ((Option.some.inj H).trans HT.out) Bool.false_ne_true
        subst c46
        rw [if_pos rfl] at H
        have H' := My.am H
        clear H
        obtain ⟨Ao47, co47, eo47⟩ := Kd.R_slice HO_8.out
        subst eo47
        have p443 : 0 ≤ (x9_3 : Int) := My.as_
        have q443 : x9_3 < (t440.length : Int) := My.as_
        obtain ⟨ad443, A443_6, c443_6, e443, hx443_0, hx443_1, hx443_2, hx443_3, hx443_4, hx443_5, hx443_6, hx443_7, hx443_8, hl443_6, hi443_6⟩ := at_T46 (Kd.R_reads' HO_8.out).2.2 x9_3 p443 q443
        cases e443
        obtain ⟨ce443, hce443, hMe443, hcc443⟩ := Kd.R_get HO_8.out z46 x9_3 p443 (by first | exact q443 | exact My.as_ | (have e_ := (Kd.R_reads' HO_8.out).1; omega))
        obtain ⟨ve443_6, rfl, ge443_6⟩ := k46_openM hMe443
        have hv443_6 := hcc443 6 _ rfl
        rw [add_field _ _ 6 (by omega)] at hv443_6
        replace hv443_6 := Option.some.inj (hv443_6.symm.trans hx443_6)
        rw [hv443_6] at ge443_6
        have HL443_6 := My.am (show Kd.R k62 62 _ _ _ _ ((rd_T46 t440 x9_3).f3.f1.f2) from ge443_6)
        clear hv443_6 ge443_6
        clear hcc443 hce443
        have HR443_6 := My.am hi443_6
        have HC443_6 := My.am hl443_6
        clear hi443_6 hl443_6
        replace p443 := eq_true p443
        replace q443 := eq_true q443
        have p444 : 0 ≤ (x9_3 : Int) := My.as_
        have q444 : x9_3 < (t440.length : Int) := My.as_
        obtain ⟨ad444, A444_6, c444_6, e444, hx444_0, hx444_1, hx444_2, hx444_3, hx444_4, hx444_5, hx444_6, hx444_7, hx444_8, hl444_6, hi444_6⟩ := at_T46 (Kd.R_reads' HO_8.out).2.2 x9_3 p444 q444
        obtain rfl : ad443 = ad444 := (by injection e444)
        obtain ⟨ce444, hce444, hMe444, hcc444⟩ := Kd.R_get HO_8.out z46 x9_3 p444 (by first | exact q444 | exact My.as_ | (have e_ := (Kd.R_reads' HO_8.out).1; omega))
        obtain ⟨ve444_6, rfl, ge444_6⟩ := k46_openM hMe444
        have hv444_6 := hcc444 6 _ rfl
        rw [add_field _ _ 6 (by omega)] at hv444_6
        replace hv444_6 := Option.some.inj (hv444_6.symm.trans hx444_6)
        rw [hv444_6] at ge444_6
        have HL444_6 := My.am (show Kd.R k62 62 _ _ _ _ ((rd_T46 t440 x9_3).f3.f1.f2) from ge444_6)
        clear hv444_6 ge444_6
        clear hcc444 hce444
        have HR444_6 := My.am hi444_6
        have HC444_6 := My.am hl444_6
        clear hi444_6 hl444_6
        replace p444 := eq_true p444
        replace q444 := eq_true q444
        have ea_ := Option.some.inj (hx443_6.symm.trans hx444_6)
        injection ea_ with ea_ en_ ec_
        subst ea_
        subst ec_
        clear en_
        have p445 : 0 ≤ (x9_3 : Int) := My.as_
        have q445 : x9_3 < (t440.length : Int) := My.as_
        obtain ⟨ad445, A445_6, c445_6, e445, hx445_0, hx445_1, hx445_2, hx445_3, hx445_4, hx445_5, hx445_6, hx445_7, hx445_8, hl445_6, hi445_6⟩ := at_T46 (Kd.R_reads' HO_8.out).2.2 x9_3 p445 q445
        obtain rfl : ad443 = ad445 := (by injection e445)
        obtain ⟨ce445, hce445, hMe445, hcc445⟩ := Kd.R_get HO_8.out z46 x9_3 p445 (by first | exact q445 | exact My.as_ | (have e_ := (Kd.R_reads' HO_8.out).1; omega))
        obtain ⟨ve445_6, rfl, ge445_6⟩ := k46_openM hMe445
        have hv445_6 := hcc445 6 _ rfl
        rw [add_field _ _ 6 (by omega)] at hv445_6
        replace hv445_6 := Option.some.inj (hv445_6.symm.trans hx445_6)
        rw [hv445_6] at ge445_6
        have HL445_6 := My.am (show Kd.R k62 62 _ _ _ _ ((rd_T46 t440 x9_3).f3.f1.f2) from ge445_6)
        clear hv445_6 ge445_6
        clear hcc445 hce445
        have HR445_6 := My.am hi445_6
        have HC445_6 := My.am hl445_6
        clear hi445_6 hl445_6
        replace p445 := eq_true p445
        replace q445 := eq_true q445
        have ea_ := Option.some.inj (hx443_6.symm.trans hx445_6)
        injection ea_ with ea_ en_ ec_
        subst ea_
        subst ec_
        clear en_
        have p446 : 0 ≤ (x9_3 : Int) := My.as_
        have q446 : x9_3 < (t440.length : Int) := My.as_
        obtain ⟨ad446, A446_6, c446_6, e446, hx446_0, hx446_1, hx446_2, hx446_3, hx446_4, hx446_5, hx446_6, hx446_7, hx446_8, hl446_6, hi446_6⟩ := at_T46 (Kd.R_reads' HO_8.out).2.2 x9_3 p446 q446
        obtain rfl : ad443 = ad446 := (by injection e446)
        obtain ⟨ce446, hce446, hMe446, hcc446⟩ := Kd.R_get HO_8.out z46 x9_3 p446 (by first | exact q446 | exact My.as_ | (have e_ := (Kd.R_reads' HO_8.out).1; omega))
        obtain ⟨ve446_6, rfl, ge446_6⟩ := k46_openM hMe446
        have hv446_6 := hcc446 6 _ rfl
        rw [add_field _ _ 6 (by omega)] at hv446_6
        replace hv446_6 := Option.some.inj (hv446_6.symm.trans hx446_6)
        rw [hv446_6] at ge446_6
        have HL446_6 := My.am (show Kd.R k62 62 _ _ _ _ ((rd_T46 t440 x9_3).f3.f1.f2) from ge446_6)
        clear hv446_6 ge446_6
        clear hcc446 hce446
        have HR446_6 := My.am hi446_6
        have HC446_6 := My.am hl446_6
        clear hi446_6 hl446_6
        replace p446 := eq_true p446
        replace q446 := eq_true q446
        have ea_ := Option.some.inj (hx443_6.symm.trans hx446_6)
        injection ea_ with ea_ en_ ec_
        subst ea_
        subst ec_
        clear en_
        go_wp2_with (first | (go_at_call 11; (with_reducible refine (outbox_Has.calls k3 _ _ l0 ((rd_T46 t440 x9_3).f3.f0) ((rd_T46 t440 x9_3).f3.f1.f0) ((rd_T46 t440 x9_3).f3.f1.f1) _ _ ((rd_T46 t440 x9_3).f3.f1.f2) ((rd_T46 t440 x9_3).f3.f2) ((rd_T46 t440 x9_3).f3.f3) true _ ?side1 ?side2 ?side3 ?side4 A45.out).mono ?_); (case side1 => exact My.sd_ HR0 HB); (case side2 => exact HC0.out); (case side3 => repeat (first | exact (by repeat (first | (with_reducible exact HR446_6.out) | (with_reducible refine Kd.C_alloc ?_ _) | (with_reducible refine Kd.C_drewN ?_ _) | (with_reducible refine Kd.C_drew ?_) | exact HR446_6.out)) | (with_reducible refine Kd.C_alloc ?_ _) | (with_reducible refine Kd.C_drewN ?_ _) | (with_reducible refine Kd.C_drew ?_))); (case side4 => exact HC446_6.out); rintro e w48 ⟨rfl, hb⟩; replace HO_5 := My.am (Kd.R_below (by (with_reducible repeat (first | apply Kd.R_alloc | apply Kd.R_drewN | apply Kd.R_drew)); exact HO_5.out) hb); replace HO_8 := My.am (Kd.R_below (by (with_reducible repeat (first | apply Kd.R_alloc | apply Kd.R_drewN | apply Kd.R_drew)); exact HO_8.out) hb); replace HL443_6 := My.am (Kd.R_below (My.dr HL443_6.out) hb); replace HL444_6 := My.am (Kd.R_below (My.dr HL444_6.out) hb); replace HL445_6 := My.am (Kd.R_below (My.dr HL445_6.out) hb); replace HL446_6 := My.am (Kd.R_below (My.dr HL446_6.out) hb); replace HR443_6 := My.am (Kd.C_below (by repeat (first | (with_reducible exact HR443_6.out) | (with_reducible refine Kd.C_alloc ?_ _) | (with_reducible refine Kd.C_drewN ?_ _) | (with_reducible refine Kd.C_drew ?_) | exact HR443_6.out)) hb); replace HR444_6 := My.am (Kd.C_below (by repeat (first | (with_reducible exact HR444_6.out) | (with_reducible refine Kd.C_alloc ?_ _) | (with_reducible refine Kd.C_drewN ?_ _) | (with_reducible refine Kd.C_drew ?_) | exact HR444_6.out)) hb); replace HR445_6 := My.am (Kd.C_below (by repeat (first | (with_reducible exact HR445_6.out) | (with_reducible refine Kd.C_alloc ?_ _) | (with_reducible refine Kd.C_drewN ?_ _) | (with_reducible refine Kd.C_drew ?_) | exact HR445_6.out)) hb); replace HR446_6 := My.am (Kd.C_below (by repeat (first | (with_reducible exact HR446_6.out) | (with_reducible refine Kd.C_alloc ?_ _) | (with_reducible refine Kd.C_drewN ?_ _) | (with_reducible refine Kd.C_drew ?_) | exact HR446_6.out)) hb); replace HB := My.st HB hb; (try clear hb)))
        go_roundg k3
        case measure => have := HJ2.out; have := HK2.out; have := HK3.out; omega
        case rel => exact ⟨(wrap64 (x9_3 + 1)), My.r1, H', ⟨by have := HJ2.out; have := HK2.out; have := HK3.out; omega⟩, ⟨by (with_reducible repeat (first | apply Kd.R_alloc | apply Kd.R_drewN | apply Kd.R_drew)); exact HO_5.out⟩, ⟨by (with_reducible repeat (first | apply Kd.R_alloc | apply Kd.R_drewN | apply Kd.R_drew)); exact HO_8.out⟩, ⟨(My.bl_ HB)⟩⟩
     rw [if_pos c13] at H
     have c13b0 := decide_eq_true c13
     clear c13
     replace H := My.ds H
     obtain ⟨c14b0, H⟩ := H
     by_cases c15 : ((rd_T46 l0 x7_2).f0) > a1
     rotate_left
     ·rw [if_neg c15] at H
      have c15b0 : decide (a1 < ((rd_T46 l0 x7_2).f0)) = false := decide_eq_false c15
      clear c15
      replace H := Option.bind_eq_some_iff.mp H
      obtain ⟨t439, A330, H⟩ := H
      try dsimp only at H
      have A33 := My.am A330
      clear A330
      by_cases c34 : t439 = true
      ·subst c34
       rw [if_pos rfl] at H
       exact absurd ((Option.some.inj H).trans HT.out) Bool.false_ne_true
      replace c34 := Bool.eq_false_iff.mpr c34
      subst c34
      rw [if_neg (show ¬ (false = true) by decide)] at H
      have H' := My.am H
      clear H
      have p428 : 0 ≤ (x7_2 : Int) := My.as_
      have q428 : x7_2 < (l0.length : Int) := My.as_
      obtain ⟨ad428, A428_6, c428_6, e428, hx428_0, hx428_1, hx428_2, hx428_3, hx428_4, hx428_5, hx428_6, hx428_7, hx428_8, hl428_6, hi428_6⟩ := at_T46 HR0.out x7_2 p428 q428
      cases e428
      replace hx428_0 := My.up HB hx428_0
      replace hx428_1 := My.up HB hx428_1
      replace hx428_2 := My.up HB hx428_2
      replace hx428_3 := My.up HB hx428_3
      replace hx428_4 := My.up HB hx428_4
      replace hx428_5 := My.up HB hx428_5
      replace hx428_6 := My.up HB hx428_6
      replace hx428_7 := My.up HB hx428_7
      replace hx428_8 := My.up HB hx428_8
      have HR428_6 := My.am hi428_6
      have HC428_6 := My.am hl428_6
      clear hi428_6 hl428_6
      replace p428 := eq_true p428
      replace q428 := eq_true q428
      have p438 : 0 ≤ (x7_2 : Int) := My.as_
      have q438 : x7_2 < (l0.length : Int) := My.as_
      obtain ⟨ad438, A438_6, c438_6, e438, hx438_0, hx438_1, hx438_2, hx438_3, hx438_4, hx438_5, hx438_6, hx438_7, hx438_8, hl438_6, hi438_6⟩ := at_T46 HR0.out x7_2 p438 q438
      obtain rfl : ad428 = ad438 := (by injection e438)
      replace hx438_0 := My.up HB hx438_0
      replace hx438_1 := My.up HB hx438_1
      replace hx438_2 := My.up HB hx438_2
      replace hx438_3 := My.up HB hx438_3
      replace hx438_4 := My.up HB hx438_4
      replace hx438_5 := My.up HB hx438_5
      replace hx438_6 := My.up HB hx438_6
      replace hx438_7 := My.up HB hx438_7
      replace hx438_8 := My.up HB hx438_8
      have HR438_6 := My.am hi438_6
      have HC438_6 := My.am hl438_6
      clear hi438_6 hl438_6
      replace p438 := eq_true p438
      replace q438 := eq_true q438
      have ea_ := Option.some.inj (hx428_6.symm.trans hx438_6)
      injection ea_ with ea_ en_ ec_
      subst ea_
      subst ec_
      clear en_
      obtain ⟨Ao35, co35, eo35⟩ := Kd.R_slice HO_5.out
      subst eo35
      go_wp2_with (first | ((with_reducible refine gate_callee (f := 11) rfl ?_); refine goesL_ (some 61) rfl rfl Try.func11 (by kernel_rfl) rfl #[.slice Ao35 t425.length co35, .agg #[.int .i64 ((rd_T46 l0 x7_2).f3.f0), .int .i64 ((rd_T46 l0 x7_2).f3.f1.f0), .int .i64 ((rd_T46 l0 x7_2).f3.f1.f1), .slice A428_6 ((rd_T46 l0 x7_2).f3.f1.f2).length c428_6, .string ((rd_T46 l0 x7_2).f3.f2), .int .i64 ((rd_T46 l0 x7_2).f3.f3)]] rfl My.gx ?_; (with_reducible refine (outbox_Has.calls k2 _ _ t425 ((rd_T46 l0 x7_2).f3.f0) ((rd_T46 l0 x7_2).f3.f1.f0) ((rd_T46 l0 x7_2).f3.f1.f1) _ _ ((rd_T46 l0 x7_2).f3.f1.f2) ((rd_T46 l0 x7_2).f3.f2) ((rd_T46 l0 x7_2).f3.f3) false _ ?side1 ?side2 ?side3 ?side4 A33.out).mono ?_); (case side1 => repeat (first | exact (Kd.R_reads' HO_5.out).2.2 | (with_reducible refine Kd.C_alloc ?_ _) | (with_reducible refine Kd.C_drewN ?_ _) | (with_reducible refine Kd.C_drew ?_))); (case side2 => exact (Kd.R_reads' HO_5.out).2.1); (case side3 => exact My.sd_ HR438_6 HB); (case side4 => exact HC438_6.out); rintro e w36 ⟨rfl, hb⟩; refine ⟨_, rfl, ?_⟩; replace HO_5 := My.am (Kd.R_below (by (with_reducible repeat (first | apply Kd.R_alloc | apply Kd.R_drewN | apply Kd.R_drew)); exact HO_5.out) hb); replace HB := My.st HB hb; (try clear hb)))
      go_roundg k2
      case measure => have := HJ2.out; have := HK2.out; omega
      case rel => exact ⟨(x6_2), (wrap64 (x7_2 + 1)), My.r1, My.r1, H', ⟨by have := HJ2.out; have := HK2.out; omega⟩, ⟨by (with_reducible repeat (first | apply Kd.R_alloc | apply Kd.R_drewN | apply Kd.R_drew)); exact HO_5.out⟩, ⟨(My.bl_ HB)⟩⟩
     rw [if_pos c15] at H
     have c15b0 : decide (a1 < ((rd_T46 l0 x7_2).f0)) = true := decide_eq_true c15
     clear c15
     have HC16 := My.am H
     clear H
     have p428 : 0 ≤ (x7_2 : Int) := My.as_
     have q428 : x7_2 < (l0.length : Int) := My.as_
     obtain ⟨ad428, A428_6, c428_6, e428, hx428_0, hx428_1, hx428_2, hx428_3, hx428_4, hx428_5, hx428_6, hx428_7, hx428_8, hl428_6, hi428_6⟩ := at_T46 HR0.out x7_2 p428 q428
     cases e428
     replace hx428_0 := My.up HB hx428_0
     replace hx428_1 := My.up HB hx428_1
     replace hx428_2 := My.up HB hx428_2
     replace hx428_3 := My.up HB hx428_3
     replace hx428_4 := My.up HB hx428_4
     replace hx428_5 := My.up HB hx428_5
     replace hx428_6 := My.up HB hx428_6
     replace hx428_7 := My.up HB hx428_7
     replace hx428_8 := My.up HB hx428_8
     have HR428_6 := My.am hi428_6
     have HC428_6 := My.am hl428_6
     clear hi428_6 hl428_6
     replace p428 := eq_true p428
     replace q428 := eq_true q428
     go_upto_region 9 with (fail)
     go_cut [52] (fun v52 wc => ∃ (kq : Nat) (x52_15 : Bool), v52 = .bool x52_15 ∧ Aside0 (ententelaw19_OutboxAnswered.j2 kq l0 a1 t425 x6_2 x7_2 x52_15 = some r) ∧ Aside0 (kq ≤ k2) ∧ Aside0 (Kd.R k46 46 wc w.heap.size (fun _ => True) v426 t425) ∧ Aside0 (Below w.heap.size w wc))
     case first =>
      have H := HC16.out
      clear HC16
      by_cases c17 : x6_2 ≥ (t425.length : Int)
      ·rw [if_pos c17] at H
       have c17b0 : decide ((t425.length : Int) ≤ x6_2) = true := decide_eq_true c17
       clear c17
       (first | rw [c17b0] | (simp only [i64_w, i32_w]; rw [c17b0]) | skip)
       have H' := My.am H
       clear H
       try go_wp2
       replace HO_5 := My.am (Kd.R_drew HO_5.out)
       replace HB := My.am (below_drew1 HB.out)
       obtain ⟨Ao19, co19, eo19⟩ := Kd.R_slice HO_5.out
       (first | subst eo19 | (injection eo19 with f1_ f2_ f3_; have f4_ := f1_.symm; have f5_ := f3_.symm; clear f1_ f2_ f3_; subst f4_; subst f5_))
       refine start_ (n := 18) (S := fun w' => True) (ds := []) #[false, false, false, false, false, false, false, false, false, false, false, false, false, false, false, false, false, false] (by kernel_rfl) rfl rfl trivial (fun hHeld => ?_); refine with_tabW ententelaw19_OutboxAnswered.tab9 ententelaw19_OutboxAnswered.bits9 (fun HT_ HW_ => ?_)
       generalize wr.drew = w18 at HO_5 HB hHeld ⊢
       refine My.pu_ 0 35 18 HT_.out ?_
       refine My.pu_ 1 36 18 HT_.out ?_
       refine My.pu_ 2 37 18 HT_.out ?_
       refine My.pu_ 3 38 18 HT_.out ?_
       refine My.pu_ 4 39 18 HT_.out ?_
       refine My.pn_ 5 40 18 HT_.out ?_
       refine My.pn_ 6 41 18 HT_.out ?_
       refine My.pn_ 7 42 18 HT_.out ?_
       refine My.pn_ 8 43 18 HT_.out ?_
       refine My.pn_ 9 44 18 HT_.out ?_
       refine My.pn_ 10 45 18 HT_.out ?_
       refine My.pn_ 11 46 18 HT_.out ?_
       refine My.pn_ 12 47 18 HT_.out ?_
       refine My.pn_ 13 48 18 HT_.out ?_
       refine My.pn_ 14 49 18 HT_.out ?_
       refine My.pn_ 15 50 18 HT_.out ?_
       refine My.pn_ 16 51 18 HT_.out ?_
       refine My.pu_ 17 52 18 HT_.out ?_
       refine done_ (done_of HT_.out (by kernel_rfl)) ?_
       try go_wp2
       go_meet
       case rel => exact ⟨_, (true), My.r1, H', ⟨by have := HJ2.out; have := HK2.out; first | omega | exact Nat.le_refl _⟩, ⟨by (with_reducible repeat (first | apply Kd.R_alloc | apply Kd.R_drewN | apply Kd.R_drew)); exact HO_5.out⟩, ⟨(My.bl_ HB)⟩⟩
      rw [if_neg c17] at H
      have c17b0 : decide ((t425.length : Int) ≤ x6_2) = false := decide_eq_false c17
      clear c17
      (first | rw [c17b0] | (simp only [i64_w, i32_w]; rw [c17b0]) | skip)
      have c20b0 := eq_true (My.as_ : 0 ≤ x7_2)
      by_cases c21 : x7_2 ≤ (wrap64 (x7_2 + 1))
      rotate_left
      ·exact My.nn c21 H
      rw [if_pos c21] at H
      have c21b0 := eq_true c21
      have c21b1 := decide_eq_true c21
      by_cases c22 : (wrap64 (x7_2 + 1)) ≤ (l0.length : Int)
      rotate_left
      ·exact My.nn c22 H
      rw [if_pos c22] at H
      have c22b0 := eq_true c22
      have c22b1 := decide_eq_true c22
      obtain ⟨y429, hy429⟩ : ∃ y_ : List (S46), y_ = ((l0.take ((wrap64 (x7_2 + 1)) : Int).toNat).drop (x7_2 : Int).toNat) := ⟨_, rfl⟩
      replace H : (if 0 ≤ x6_2 then (if x6_2 ≤ (wrap64 (x6_2 + 1)) then (if (wrap64 (x6_2 + 1)) ≤ (t425.length : Int) then ((ententeref19_Same.f k2 y429 ((t425.take ((wrap64 (x6_2 + 1)) : Int).toNat).drop (x6_2 : Int).toNat)).bind fun t437 => (ententelaw19_OutboxAnswered.j2 k2 l0 a1 t425 x6_2 x7_2 (!t437))) else (none)) else (none)) else (none)) = some r := by first | (rw [hy429]; with_reducible exact H) | (have H2_ := (Option.bind_some _ _).symm.trans H; rw [hy429]; with_reducible exact H2_) | (have H2_ := (Option.bind_some _ _).symm.trans H; with_reducible exact H2_) | with_reducible exact H | (rw [hy429]; exact H) | exact H
      have Ny429 := My.am hy429
      clear hy429
      by_cases c23 : 0 ≤ x6_2
      rotate_left
      ·exact My.nn c23 H
      rw [if_pos c23] at H
      have c23b0 := eq_true c23
      have c23b1 := decide_eq_true c23
      clear c23
      by_cases c24 : x6_2 ≤ (wrap64 (x6_2 + 1))
      rotate_left
      ·exact My.nn c24 H
      rw [if_pos c24] at H
      have c24b0 := eq_true c24
      have c24b1 := decide_eq_true c24
      by_cases c25 : (wrap64 (x6_2 + 1)) ≤ (t425.length : Int)
      rotate_left
      ·exact My.nn c25 H
      rw [if_pos c25] at H
      have c25b0 := eq_true c25
      have c25b1 := decide_eq_true c25
      obtain ⟨y433, hy433⟩ : ∃ y_ : List (S46), y_ = ((t425.take ((wrap64 (x6_2 + 1)) : Int).toNat).drop (x6_2 : Int).toNat) := ⟨_, rfl⟩
      replace H : ((ententeref19_Same.f k2 y429 y433).bind fun t437 => (ententelaw19_OutboxAnswered.j2 k2 l0 a1 t425 x6_2 x7_2 (!t437))) = some r := by first | (rw [hy433]; with_reducible exact H) | (have H2_ := (Option.bind_some _ _).symm.trans H; rw [hy433]; with_reducible exact H2_) | (have H2_ := (Option.bind_some _ _).symm.trans H; with_reducible exact H2_) | with_reducible exact H | (rw [hy433]; exact H) | exact H
      have Ny433 := My.am hy433
      clear hy433
      replace H := Option.bind_eq_some_iff.mp H
      obtain ⟨t437, A260, H⟩ := H
      try dsimp only at H
      have A26 := My.am A260
      clear A260
      have H' := My.am H
      clear H
      try go_wp2
      replace HO_5 := My.am (Kd.R_drew HO_5.out)
      replace HB := My.am (below_drew1 HB.out)
      obtain ⟨Ao28, co28, eo28⟩ := Kd.R_slice HO_5.out
      (first | subst eo28 | (injection eo28 with f1_ f2_ f3_; have f4_ := f1_.symm; have f5_ := f3_.symm; clear f1_ f2_ f3_; subst f4_; subst f5_))
      have q29 : ((wrap64 (x7_2 + 1)) : Int) ≤ ((l0.length : Int) : Int) := My.as_
      obtain ⟨i029, hi029, _, hsz29, _⟩ := info_parts info46
      have hroom29 : l0.length ≤ c0 := HC0.out
      have hC29 : Kd.C k46 _ (some ad428) l0.length l0 := HR0.out
      have ql29 : (x7_2 : Int) ≤ ((wrap64 (x7_2 + 1)) : Int) := My.as_
      have q029 : (0 : Int) ≤ (x7_2 : Int) := My.as_
      have hcut29 := cut_mid (P := Try.prog) 22 46 .i64 .i64 Try.underlying22 hi029 9 hsz29 (some ad428) l0.length c0 x7_2 (wrap64 (x7_2 + 1)) q029 ql29 q29 hroom29
      have hr29 := Kd.C_mid (lo := (x7_2 : Int).toNat) (hi := ((wrap64 (x7_2 + 1)) : Int).toNat) (c := c0) hC29 (by omega) (by omega) hroom29
      obtain ⟨A29, hA29⟩ : ∃ A1, A1 = (if c0 = (x7_2 : Int).toNat then (some ad428) else ((some ad428) : Option Addr).map (·.add ((x7_2 : Int).toNat * 9))) := ⟨_, rfl⟩
      obtain ⟨c29, hc29⟩ : ∃ c1, c1 = c0 - (x7_2 : Int).toNat := ⟨_, rfl⟩
      have hy29 : y429.length = ((wrap64 (x7_2 + 1)) : Int).toNat - (x7_2 : Int).toNat := (by rw [Ny429.out, List.length_drop, List.length_take] <;> omega)
      rw [show ((l0).take ((wrap64 (x7_2 + 1)) : Int).toNat).drop (x7_2 : Int).toNat = y429 from Ny429.out.symm] at hr29
      replace hr29 : Kd.C k46 _ A29 y429.length y429 := (by rw [hA29]; exact hr29)
      rw [← hy29, ← hA29, ← hc29] at hcut29
      have HR432 := My.am hr29
      have HC432 := My.am (show y429.length ≤ c29 from by rw [hy29, hc29]; exact Nat.sub_le_sub_right (Nat.le_trans (by omega) hroom29) _)
      clear hr29 hC29 hroom29 hi029 hsz29 hc29
      have KY29 := My.am hy29
      have KA29 := My.am hA29
      clear hy29 hA29
      replace q29 := eq_true q29
      have q30 : ((wrap64 (x6_2 + 1)) : Int) ≤ ((t425.length : Int) : Int) := My.as_
      obtain ⟨i030, hi030, _, hsz30, _⟩ := info_parts info46
      have hroom30 : t425.length ≤ co28 := (Kd.R_reads' HO_5.out).2.1
      have hC30 : Kd.C k46 _ Ao28 t425.length t425 := (Kd.R_reads' HO_5.out).2.2
      have ql30 : (x6_2 : Int) ≤ ((wrap64 (x6_2 + 1)) : Int) := My.as_
      have q030 : (0 : Int) ≤ (x6_2 : Int) := My.as_
      have hcut30 := cut_mid (P := Try.prog) 22 46 .i64 .i64 Try.underlying22 hi030 9 hsz30 Ao28 t425.length co28 x6_2 (wrap64 (x6_2 + 1)) q030 ql30 q30 hroom30
      have hr30 := Kd.C_mid (lo := (x6_2 : Int).toNat) (hi := ((wrap64 (x6_2 + 1)) : Int).toNat) (c := co28) hC30 (by omega) (by omega) hroom30
      obtain ⟨A30, hA30⟩ : ∃ A1, A1 = (if co28 = (x6_2 : Int).toNat then Ao28 else (Ao28 : Option Addr).map (·.add ((x6_2 : Int).toNat * 9))) := ⟨_, rfl⟩
      obtain ⟨c30, hc30⟩ : ∃ c1, c1 = co28 - (x6_2 : Int).toNat := ⟨_, rfl⟩
      have hy30 : y433.length = ((wrap64 (x6_2 + 1)) : Int).toNat - (x6_2 : Int).toNat := (by rw [Ny433.out, List.length_drop, List.length_take] <;> omega)
      rw [show ((t425).take ((wrap64 (x6_2 + 1)) : Int).toNat).drop (x6_2 : Int).toNat = y433 from Ny433.out.symm] at hr30
      replace hr30 : Kd.C k46 _ A30 y433.length y433 := (by rw [hA30]; exact hr30)
      rw [← hy30, ← hA30, ← hc30] at hcut30
      have HR436 := My.am hr30
      have HC436 := My.am (show y433.length ≤ c30 from by rw [hy30, hc30]; exact Nat.sub_le_sub_right (Nat.le_trans (by omega) hroom30) _)
      clear hr30 hC30 hroom30 hi030 hsz30 hc30
      have KY30 := My.am hy30
      have KA30 := My.am hA30
      clear hy30 hA30
      have KL30 := My.am (show ((wrap64 (x6_2 + 1)) : Int).toNat ≤ t425.length from by omega)
      have KM30 := My.am (show (x6_2 : Int).toNat ≤ ((wrap64 (x6_2 + 1)) : Int).toNat from by omega)
      replace q30 := eq_true q30
      refine start_ (n := 18) (S := fun w' => True) (ds := []) #[false, false, false, false, false, false, false, false, false, false, false, false, false, false, false, false, false, false] (by kernel_rfl) rfl rfl trivial (fun hHeld => ?_); refine with_tabW ententelaw19_OutboxAnswered.tab9 ententelaw19_OutboxAnswered.bits9 (fun HT_ HW_ => ?_)
      generalize wr.drew = w27 at HO_5 HB HR432 HR436 hHeld ⊢
      refine My.pu_ 0 35 18 HT_.out ?_
      refine My.pu_ 1 36 18 HT_.out ?_
      refine My.pu_ 2 37 18 HT_.out ?_
      refine My.pu_ 3 38 18 HT_.out ?_
      refine My.pu_ 4 39 18 HT_.out ?_
      refine My.pu_ 5 40 18 HT_.out ?_
      refine My.pu_ 6 41 18 HT_.out ?_
      refine My.pu_ 7 42 18 HT_.out ?_
      refine My.pu_ 8 43 18 HT_.out ?_
      refine My.pu_ 9 44 18 HT_.out ?_
      refine My.pu_ 10 45 18 HT_.out ?_
      refine My.pu_ 11 46 18 HT_.out ?_
      refine My.pu_ 12 47 18 HT_.out ?_
      refine My.pu_ 13 48 18 HT_.out ?_
      refine My.pu_ 14 49 18 HT_.out ?_
      refine one_ (i := 15) (N := some 50) (My.Mb 18 65535) rfl rfl (one_of HT_.out (by kernel_rfl)) (by decide) (fun K hK => ?_)
      refine goes_ Try.func15 (by kernel_rfl) rfl #[.slice A29 y429.length c29, .slice A30 y433.length c30] (by rfl) rfl rfl My.gx ?_
      with_reducible refine (ententeref19_Same.calls k2 _ _ y429 _ _ y433 t437 _ ?side1 ?side2 ?side3 ?side4 A26.out).mono ?_
      (case side1 => exact My.sd_ HR432 HB)
      (case side2 => exact HC432.out)
      (case side3 => repeat (first | exact (by repeat (first | (with_reducible exact HR436.out) | (with_reducible refine Kd.C_alloc ?_ _) | (with_reducible refine Kd.C_drewN ?_ _) | (with_reducible refine Kd.C_drew ?_) | exact HR436.out)) | (with_reducible refine Kd.C_alloc ?_ _) | (with_reducible refine Kd.C_drewN ?_ _) | (with_reducible refine Kd.C_drew ?_)))
      (case side4 => exact HC436.out)
      rintro e w31 ⟨rfl, hb⟩
      refine ⟨_, rfl, ?_⟩
      replace HO_5 := My.am (Kd.R_below (by (with_reducible repeat (first | apply Kd.R_alloc | apply Kd.R_drewN | apply Kd.R_drew)); exact HO_5.out) hb)
      replace HR436 := My.am (Kd.C_below (by repeat (first | (with_reducible exact HR436.out) | (with_reducible refine Kd.C_alloc ?_ _) | (with_reducible refine Kd.C_drewN ?_ _) | (with_reducible refine Kd.C_drew ?_) | exact HR436.out)) hb)
      replace HB := My.st HB hb
      (try clear hb)
      (try clear hb2)
      (try clear hk)
      (try clear hi)
      refine hK.out _ _ trivial (fun hHeld => ?_)
      clear hK K
      refine My.nm 50 ?_
      refine My.pu_ 16 51 18 HT_.out ?_
      refine My.pu_ 17 52 18 HT_.out ?_
      refine done_ (done_of HT_.out (by kernel_rfl)) ?_
      try go_wp2
      go_meet
      case rel => exact ⟨_, (!t437), My.r1, H', ⟨by have := HJ2.out; have := HK2.out; first | omega | exact Nat.le_refl _⟩, ⟨by (with_reducible repeat (first | apply Kd.R_alloc | apply Kd.R_drewN | apply Kd.R_drew)); exact HO_5.out⟩, ⟨(My.bl_ HB)⟩⟩
     case rest =>
      clear HC16
      try clear c8
      try clear c13
      try clear c13b0
      try clear c14b0
      try clear c15
      try clear c15b0
      try clear hx428_0
      try clear hx428_1
      try clear hx428_2
      try clear hx428_3
      try clear hx428_4
      try clear hx428_5
      try clear hx428_6
      try clear hx428_7
      try clear hx428_8
      try clear p428
      try clear q428
      obtain ⟨kq, x52_15, rfl, HA, HJ15, HO_5, HB⟩ := hcut
      cases kq with
      | zero => exact absurd HA.out (by simp [ententelaw19_OutboxAnswered.j2])
      | succ kj15 =>
       have H := HA.out
       clear HA
       simp only [ententelaw19_OutboxAnswered.j2] at H
       by_cases c32 : x52_15 = true
       ·subst c32
        rw [if_pos rfl] at H
        exact absurd ((Option.some.inj H).trans HT.out) Bool.false_ne_true
       replace c32 := Bool.eq_false_iff.mpr c32
       subst c32
       rw [if_neg (show ¬ (false = true) by decide)] at H
       have H' := My.am H
       clear H
       go_wp2
       go_roundg kj15
       case measure => have := HJ2.out; have := HK2.out; have := HJ15.out; omega
       case rel => exact ⟨(wrap64 (x6_2 + 1)), (wrap64 (x7_2 + 1)), My.r1, My.r1, H', ⟨by have := HJ2.out; have := HK2.out; have := HJ15.out; omega⟩, ⟨by (with_reducible repeat (first | apply Kd.R_alloc | apply Kd.R_drewN | apply Kd.R_drew)); exact HO_5.out⟩, ⟨(My.bl_ HB)⟩⟩
/-- THE ONE PURE STATEMENT of ententelaw19_OutboxAnswered. -/
def ententelaw19_OutboxAnswered.Pure : Prop := ∀ (l0 : List S46) (a1 : Int), (l0.length ≤ 9223372036854775807 ∧ l0.length * 96 ≤ 140737488351232 ∧ ∀ y_ ∈ l0, Q46 y_) → (Lit.int .i64 a1).wf = true → ∃ k, ententelaw19_OutboxAnswered.f k l0 a1 = some true

end Go.Proofs.Ytcgmoeiknkdljaa.PA
