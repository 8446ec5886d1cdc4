-- Written by a program of this session (wip/tools/mp.py over the kit's printer); Lean checks it.
import Derived.Test.YtfjlodknogiipaaPBx0
import Derived.Test.YtfjlodknogiipaaPBx2
import Derived.Test.YtfjlodknogiipaaPBx3
import Derived.Test.YtfjlodknogiipaaPBx4
namespace Go.Proofs.Ytfjlodknogiipaa.PB
open Go.RowKit Go.Proofs.YtfjlodknogiipaaW.PrintWords Go.Proofs.YtfjlodknogiipaaW.PrintLast Go.Proofs.YtfjlodknogiipaaW.PrintMore
attribute [local go_sem] max2_int min2_int max_two min_two max_three min_three max_four min_four   -- for this text's walks alone
set_option linter.unusedVariables false
set_option linter.unusedSimpArgs false

/-! ### ententelaw05_PotPending: function 5 -/
mutual
def ententelaw05_PotPending.j0 : Nat → Int → List (S39) → Bool → Option (Bool)
  | 0, _, _, _ => none
  | k + 1, x0, x1, x24 => if x24 = true then ((ententelaw05_awake.f k).bind fun t204 => (some t204)) else ((ententelaw05_played.f k x0 x1).bind fun bt205 => (if bt205.2.2.2.2.2 = true then ((pot_Check.f bt205.1 bt205.2.1 bt205.2.2.1).bind fun t214 => (ententelaw05_PotPending.j1 k bt205.2.2.2.1 (t214 != 0) bt205.1 bt205.2.1 bt205.2.2.1)) else (ententelaw05_PotPending.j1 k bt205.2.2.2.1 true bt205.1 bt205.2.1 bt205.2.2.1)))
def ententelaw05_PotPending.j1 : Nat → List (S39) → Bool → Int → Int → Int → Option (Bool)
  | 0, _, _, _, _, _ => none
  | k + 1, x6, x40, x214000, x214001, x214002 => if x40 = true then (some false) else (ententelaw05_PotPending.l0 k x6 0 x214000 x214001 x214002)
def ententelaw05_PotPending.l0 : Nat → List (S39) → Int → Int → Int → Int → Option (Bool)
  | 0, _, _, _, _, _ => none
  | k + 1, x6, x9, x214000, x214001, x214002 => if x9 < (x6.length : Int) then (if 0 ≤ x9 then ((pot_Undo.f k x214000 x214001 x214002 ((rd_T39 x6 x9).f1) ((rd_T39 x6 x9).f2)).bind fun bt218 => ((pot_Keep.f k x214000 x214001 x214002 ((rd_T39 x6 x9).f1) ((rd_T39 x6 x9).f2)).bind fun bt225 => (if bt218.2.2.2 = 0 then (if bt225.2.2.2 = 0 then (ententelaw05_PotPending.l0 k x6 (wrap64 (x9 + 1)) x214000 x214001 x214002) else (some false)) else (some false)))) else (none)) else ((ententelaw05_awake.f k).bind fun t215 => (some t215))
end
def ententelaw05_PotPending.f (k : Nat) (a0 : Int) (l1 : List (S39)) : Option (Bool) := if a0 < 0 then (ententelaw05_PotPending.j0 k a0 l1 true) else (if a0 > 1000000000000000 then (ententelaw05_PotPending.j0 k a0 l1 true) else (ententelaw05_PotPending.j0 k a0 l1 (decide ((l1.length : Int) > 300))))
theorem ententelaw05_PotPending.mono_l : ∀ k, (∀ y0 y1 y2, LeO (ententelaw05_PotPending.j0 k y0 y1 y2) (ententelaw05_PotPending.j0 (k + 1) y0 y1 y2)) ∧ (∀ y0 y1 y2 y3 y4, LeO (ententelaw05_PotPending.j1 k y0 y1 y2 y3 y4) (ententelaw05_PotPending.j1 (k + 1) y0 y1 y2 y3 y4)) ∧ (∀ y0 y1 y2 y3 y4, LeO (ententelaw05_PotPending.l0 k y0 y1 y2 y3 y4) (ententelaw05_PotPending.l0 (k + 1) y0 y1 y2 y3 y4))
  | 0 => ⟨fun _ _ _ r h => by simp [ententelaw05_PotPending.j0] at h, fun _ _ _ _ _ r h => by simp [ententelaw05_PotPending.j1] at h, fun _ _ _ _ _ r h => by simp [ententelaw05_PotPending.l0] at h⟩
  | k + 1 => by
    obtain ⟨ih0, ih1, ih2⟩ := ententelaw05_PotPending.mono_l k
    refine ⟨?_, ?_, ?_⟩
    · intro y0 y1 y2
      unfold ententelaw05_PotPending.j0
      repeat' first
      | (with_reducible exact ih0 _ _ _)
      | (with_reducible exact ih1 _ _ _ _ _)
      | (with_reducible exact ih2 _ _ _ _ _)
      | (with_reducible exact ententelaw05_awake.mono _)
      | (with_reducible exact ententelaw05_played.mono _ _ _)
      | (with_reducible exact pot_Keep.mono _ _ _ _ _ _)
      | (with_reducible exact pot_Undo.mono _ _ _ _ _ _)
      | (with_reducible exact LeO.refl _)
      | (with_reducible exact LeO.none _)
      | (with_reducible refine LeO.ite ?_ ?_)
      | (with_reducible refine LeO.bind ?_ (fun _ => ?_))
      | exact ih0 _ _ _
      | exact ih1 _ _ _ _ _
      | exact ih2 _ _ _ _ _
      | exact ententelaw05_awake.mono _
      | exact ententelaw05_played.mono _ _ _
      | exact pot_Keep.mono _ _ _ _ _ _
      | exact pot_Undo.mono _ _ _ _ _ _
      | exact LeO.none _
      | refine LeO.ite ?_ ?_
      | refine LeO.bind ?_ (fun _ => ?_)
    · intro y0 y1 y2 y3 y4
      unfold ententelaw05_PotPending.j1
      repeat' first
      | (with_reducible exact ih0 _ _ _)
      | (with_reducible exact ih1 _ _ _ _ _)
      | (with_reducible exact ih2 _ _ _ _ _)
      | (with_reducible exact ententelaw05_awake.mono _)
      | (with_reducible exact ententelaw05_played.mono _ _ _)
      | (with_reducible exact pot_Keep.mono _ _ _ _ _ _)
      | (with_reducible exact pot_Undo.mono _ _ _ _ _ _)
      | (with_reducible exact LeO.refl _)
      | (with_reducible exact LeO.none _)
      | (with_reducible refine LeO.ite ?_ ?_)
      | (with_reducible refine LeO.bind ?_ (fun _ => ?_))
      | exact ih0 _ _ _
      | exact ih1 _ _ _ _ _
      | exact ih2 _ _ _ _ _
      | exact ententelaw05_awake.mono _
      | exact ententelaw05_played.mono _ _ _
      | exact pot_Keep.mono _ _ _ _ _ _
      | exact pot_Undo.mono _ _ _ _ _ _
      | exact LeO.none _
      | refine LeO.ite ?_ ?_
      | refine LeO.bind ?_ (fun _ => ?_)
    · intro y0 y1 y2 y3 y4
      unfold ententelaw05_PotPending.l0
      repeat' first
      | (with_reducible exact ih0 _ _ _)
      | (with_reducible exact ih1 _ _ _ _ _)
      | (with_reducible exact ih2 _ _ _ _ _)
      | (with_reducible exact ententelaw05_awake.mono _)
      | (with_reducible exact ententelaw05_played.mono _ _ _)
      | (with_reducible exact pot_Keep.mono _ _ _ _ _ _)
      | (with_reducible exact pot_Undo.mono _ _ _ _ _ _)
      | (with_reducible exact LeO.refl _)
      | (with_reducible exact LeO.none _)
      | (with_reducible refine LeO.ite ?_ ?_)
      | (with_reducible refine LeO.bind ?_ (fun _ => ?_))
      | exact ih0 _ _ _
      | exact ih1 _ _ _ _ _
      | exact ih2 _ _ _ _ _
      | exact ententelaw05_awake.mono _
      | exact ententelaw05_played.mono _ _ _
      | exact pot_Keep.mono _ _ _ _ _ _
      | exact pot_Undo.mono _ _ _ _ _ _
      | exact LeO.none _
      | refine LeO.ite ?_ ?_
      | refine LeO.bind ?_ (fun _ => ?_)
theorem ententelaw05_PotPending.mono : ∀ a0 a1 k, LeO (ententelaw05_PotPending.f k a0 a1) (ententelaw05_PotPending.f (k + 1) a0 a1) := by
  intro a0 a1 k
  obtain ⟨ih0, ih1, ih2⟩ := ententelaw05_PotPending.mono_l k
  unfold ententelaw05_PotPending.f
  repeat' first
      | (with_reducible exact ih0 _ _ _)
      | (with_reducible exact ih1 _ _ _ _ _)
      | (with_reducible exact ih2 _ _ _ _ _)
      | (with_reducible exact ententelaw05_awake.mono _)
      | (with_reducible exact ententelaw05_played.mono _ _ _)
      | (with_reducible exact pot_Keep.mono _ _ _ _ _ _)
      | (with_reducible exact pot_Undo.mono _ _ _ _ _ _)
      | (with_reducible exact LeO.refl _)
      | (with_reducible exact LeO.none _)
      | (with_reducible refine LeO.ite ?_ ?_)
      | (with_reducible refine LeO.bind ?_ (fun _ => ?_))
      | exact ih0 _ _ _
      | exact ih1 _ _ _ _ _
      | exact ih2 _ _ _ _ _
      | exact ententelaw05_awake.mono _
      | exact ententelaw05_played.mono _ _ _
      | exact pot_Keep.mono _ _ _ _ _ _
      | exact pot_Undo.mono _ _ _ _ _ _
      | exact LeO.none _
      | refine LeO.ite ?_ ?_
      | refine LeO.bind ?_ (fun _ => ?_)
def ententelaw05_PotPending.T9 : Bool × List (List Nat × List Nat) := (true, [([], []), ([], []), ([], []), ([1, 2], [1, 2]), ([3], [3]), ([4], [4]), ([], []), ([], []), ([6, 7], [6, 7]), ([8], [8]), ([9], [9]), ([0, 5, 10], [0, 5, 10]), ([11], [11]), ([12], [12]), ([12], [12]), ([], []), ([15, 13, 11, 0, 1, 2, 3, 4, 5, 6, 7, 8, 9, 10, 11, 12, 13, 15], [13, 15]), ([14, 16, 0, 1, 2, 3, 4, 5, 6, 7, 8, 9, 10, 11, 12, 13, 14, 15, 16], [14])])
def ententelaw05_PotPending.B9 : List Nat := [0, 0, 0, 6, 14, 30, 0, 0, 192, 448, 960, 2047, 4095, 8191, 8191, 0, 49151, 131071]
theorem ententelaw05_PotPending.tab9 : rtab .any (opsOf Try.f5 9) = ententelaw05_PotPending.T9 := by kernel_rfl
theorem ententelaw05_PotPending.bits9 : waitsOk ententelaw05_PotPending.T9.2 ententelaw05_PotPending.B9 = true := by kernel_rfl
def ententelaw05_PotPending.T10 : Bool × List (List Nat × List Nat) := (true, [([], []), ([], []), ([], []), ([1, 2], [1, 2]), ([3], [3]), ([4], [4]), ([], []), ([], []), ([6, 7], [6, 7]), ([8], [8]), ([9], [9]), ([0, 5, 10], [0, 5, 10]), ([11], [11]), ([12], [12]), ([12], [12]), ([], []), ([15, 13, 11, 0, 1, 2, 3, 4, 5, 6, 7, 8, 9, 10, 11, 12, 13, 15], [13, 15]), ([14, 16, 0, 1, 2, 3, 4, 5, 6, 7, 8, 9, 10, 11, 12, 13, 14, 15, 16], [14])])
def ententelaw05_PotPending.B10 : List Nat := [0, 0, 0, 6, 14, 30, 0, 0, 192, 448, 960, 2047, 4095, 8191, 8191, 0, 49151, 131071]
theorem ententelaw05_PotPending.tab10 : rtab .any (opsOf Try.f5 10) = ententelaw05_PotPending.T10 := by kernel_rfl
theorem ententelaw05_PotPending.bits10 : waitsOk ententelaw05_PotPending.T10.2 ententelaw05_PotPending.B10 = true := by kernel_rfl
set_option maxHeartbeats 8000000 in
set_option maxRecDepth 100000 in
theorem ententelaw05_PotPending.calls (k : Nat) (a0 : Int) (A1 : Option Addr) (c1 : Nat) (l1 : List (S39)) (r : Bool) (w : World) (hr1 : Kd.C k39 w A1 l1.length l1) (hc1 : l1.length ≤ c1) (ht : r = true) (h : ententelaw05_PotPending.f k a0 l1 = some r) :
    Calls Try.prog 5 #[.int .i64 a0, .slice A1 l1.length c1] w fun e w' => e = .returned (.bool r) ∧ Below w.heap.size w w' := by
  have hu23 := Try.underlying23
  have HR1 := Aside0.mk hr1
  have HC1 := Aside0.mk hc1
  clear hr1 hc1
  have HB := Aside0.mk (Below.refl w.heap.size w)
  have HT := Aside0.mk ht
  clear ht
  have H : (if a0 < 0 then (ententelaw05_PotPending.j0 k a0 l1 true) else (if a0 > 1000000000000000 then (ententelaw05_PotPending.j0 k a0 l1 true) else (ententelaw05_PotPending.j0 k a0 l1 (decide ((l1.length : Int) > 300))))) = some r := h
  clear h
  have HC3 := Aside0.mk H
  clear H
  go_enter Try.func5, Try.ntmps5
  go_upto_region 1 with (fail)
  go_cut [24] (fun v24 wc => ∃ (kq : Nat) (x24_2 : Bool), v24 = .bool x24_2 ∧ Aside0 (ententelaw05_PotPending.j0 kq a0 l1 x24_2 = some r) ∧ Aside0 (kq ≤ k) ∧ Aside0 (Below w.heap.size w wc))
  case first =>
    have H := HC3.out
    clear HC3
    by_cases c4 : a0 < 0
    · rw [if_pos c4] at H
      have c4b0 : decide (a0 < 0) = true := decide_eq_true c4
      clear c4
      (first | rw [c4b0] | (simp only [i64_w, i32_w]; rw [c4b0]) | skip)
      have H' := Aside0.mk H
      clear H
      go_wp2
      go_meet
      case rel => exact ⟨_, (true), (by first | rfl | (simp; done) | (simp [*]; done)), H', ⟨by first | omega | exact Nat.le_refl _⟩, ⟨by repeat (first | (with_reducible first | exact HB.out | apply below_alloc | apply pw_below_drewN | apply below_drew1) | exact HB.out)⟩⟩
    · rw [if_neg c4] at H
      have c4b0 : decide (a0 < 0) = false := decide_eq_false c4
      clear c4
      (first | rw [c4b0] | (simp only [i64_w, i32_w]; rw [c4b0]) | skip)
      by_cases c5 : a0 > 1000000000000000
      · rw [if_pos c5] at H
        have c5b0 : decide (1000000000000000 < a0) = true := decide_eq_true c5
        clear c5
        have H' := Aside0.mk H
        clear H
        go_wp2
        go_meet
        case rel => exact ⟨_, (true), (by first | rfl | (simp; done) | (simp [*]; done)), H', ⟨by first | omega | exact Nat.le_refl _⟩, ⟨by repeat (first | (with_reducible first | exact HB.out | apply below_alloc | apply pw_below_drewN | apply below_drew1) | exact HB.out)⟩⟩
      · rw [if_neg c5] at H
        have c5b0 : decide (1000000000000000 < a0) = false := decide_eq_false c5
        clear c5
        have H' := Aside0.mk H
        clear H
        go_wp2
        go_meet
        case rel => exact ⟨_, (decide ((l1.length : Int) > 300)), (by first | rfl | (simp; done) | (simp [*]; done)), H', ⟨by first | omega | exact Nat.le_refl _⟩, ⟨by repeat (first | (with_reducible first | exact HB.out | apply below_alloc | apply pw_below_drewN | apply below_drew1) | exact HB.out)⟩⟩
  case rest =>
    clear HC3
    try clear c1
    try clear p2
    try clear c4
    try clear c4b0
    try clear c5
    try clear c5b0
    obtain ⟨kq, x24_2, rfl, HA, HJ2, HB⟩ := hcut
    cases kq with
    | zero => exact absurd HA.out (by simp [ententelaw05_PotPending.j0])
    | succ kj2 =>
      have H := HA.out
      clear HA
      simp only [ententelaw05_PotPending.j0] at H
      by_cases c6 : x24_2 = true
      · subst c6
        have H1 : ((ententelaw05_awake.f kj2).bind fun t204 => (some t204)) = some r := by rw [if_pos rfl] at H; exact H
        clear H
        have H := H1
        clear H1
        replace H := Option.bind_eq_some_iff.mp H
        obtain ⟨t204, A70, H⟩ := H
        replace H : (some t204) = some r := H
        have A7 := Aside0.mk A70
        clear A70
        obtain rfl := Option.some.inj H
        go_wp2_with (first | ((with_reducible refine gate_callee (f := 15) rfl ?_); refine goesL_ (some 25) rfl rfl Try.func15 (by kernel_rfl) rfl #[] rfl (by (try simp only [List.map_toArray, List.map_cons, List.map_nil]); first | done | rfl | (simp only [List.length_drop, List.length_take]; rfl)) ?_; (with_reducible refine (ententelaw05_awake.calls kj2  t204 _ A7.out).mono ?_); rintro e w8 ⟨rfl, hb⟩; refine ⟨_, rfl, ?_⟩; have n0_ := Aside0.mk (below_step (by repeat (first | (with_reducible first | exact HB.out | apply below_alloc | apply pw_below_drewN | apply below_drew1) | exact HB.out)) hb); clear HB; have HB := n0_; clear n0_; (try clear hb); (try clear hb2); (try clear hk); (try clear hi)))
        go_ret
        exact ⟨by first | rfl | (simp [errW_none, errW_some] <;> rfl) | (simp [*, errW_none, errW_some] <;> rfl), by repeat (first | (with_reducible first | exact HB.out | apply below_alloc | apply pw_below_drewN | apply below_drew1) | exact HB.out)⟩
      · replace c6 := Bool.eq_false_iff.mpr c6
        subst c6
        have H1 : ((ententelaw05_played.f kj2 a0 l1).bind fun bt205 => (if bt205.2.2.2.2.2 = true then ((pot_Check.f bt205.1 bt205.2.1 bt205.2.2.1).bind fun t214 => (ententelaw05_PotPending.j1 kj2 bt205.2.2.2.1 (t214 != 0) bt205.1 bt205.2.1 bt205.2.2.1)) else (ententelaw05_PotPending.j1 kj2 bt205.2.2.2.1 true bt205.1 bt205.2.1 bt205.2.2.1))) = some r := by rw [if_neg (show ¬ (false = true) by decide)] at H; exact H
        clear H
        have H := H1
        clear H1
        replace H := Option.bind_eq_some_iff.mp H
        obtain ⟨⟨t205, t206, t207, t208, t211, t212⟩, A90, H⟩ := H
        replace H : (if t212 = true then ((pot_Check.f t205 t206 t207).bind fun t214 => (ententelaw05_PotPending.j1 kj2 t208 (t214 != 0) t205 t206 t207)) else (ententelaw05_PotPending.j1 kj2 t208 true t205 t206 t207)) = some r := H
        have A9 := Aside0.mk A90
        clear A90
        have HC10 := Aside0.mk H
        clear H
        go_upto_region 4 with (first | ((with_reducible refine gate_callee (f := 22) rfl ?_); refine goesL_ (some 29) rfl rfl Try.func22 (by kernel_rfl) rfl #[.int .i64 a0, .slice A1 l1.length c1] rfl (by (try simp only [List.map_toArray, List.map_cons, List.map_nil]); first | done | rfl | (simp only [List.length_drop, List.length_take]; rfl)) ?_; (with_reducible refine (ententelaw05_played.calls kj2 a0 _ _ l1 t205 t206 t207 t208 t211 t212 _ ?side1 ?side2 A9.out).mono ?_); (case side1 => repeat (first | exact (Kd.C_below HR1.out HB.out) | (with_reducible refine Kd.C_alloc ?_ _) | (with_reducible refine Kd.C_drewN ?_ _) | (with_reducible refine Kd.C_drew ?_))); (case side2 => exact HC1.out); rintro e w11 ⟨v209, rfl, ho0, hb⟩; refine ⟨_, rfl, ?_⟩; have n0_ := Aside0.mk (Kd.R_lower ho0 (below_size (by repeat (first | (with_reducible first | exact HB.out | apply below_alloc | apply pw_below_drewN | apply below_drew1) | exact HB.out)))); have n1_ := Aside0.mk (below_step (by repeat (first | (with_reducible first | exact HB.out | apply below_alloc | apply pw_below_drewN | apply below_drew1) | exact HB.out)) hb); clear HB; have HO210 := n0_; have HB := n1_; clear n0_ n1_; (try clear hb); (try clear hb2); (try clear hk); (try clear hi); (try clear ho0)) | ((with_reducible refine gate_dst (N := 5) rfl ?_); (try (refine gate_guard (by rfl) ?_; dsimp only)); refine box_event ?hg (N := 5) ?hd (cs := #[.int .i64 0, .int .i64 0, .int .i64 0]) (t := 23) ?hr ?_; (case hd => rfl); (case hg => rfl); (case hr => first | (go_simp; done) | (go_simp; rfl)); intro gb213 hg w12 hbox hb; have n0_ := Aside0.mk (Kd.R_below (by (with_reducible repeat (first | apply Kd.R_alloc | apply Kd.R_drewN | apply Kd.R_drew)); exact HO210.out) hb); have n1_ := Aside0.mk (below_step (by repeat (first | (with_reducible first | exact HB.out | apply below_alloc | apply pw_below_drewN | apply below_drew1) | exact HB.out)) hb); have n2_ := Aside0.mk (hbox); have n3_ := Aside0.mk ((by rw [hg]; exact (below_size (by repeat (first | (with_reducible first | exact HB.out | apply below_alloc | apply pw_below_drewN | apply below_drew1) | exact HB.out))) : w.heap.size ≤ gb213)); have n4_ := Aside0.mk ((by rw [hg]; exact (below_size (by repeat (first | (with_reducible first | exact HB.out | apply below_alloc | apply pw_below_drewN | apply below_drew1) | exact HB.out))) : w.heap.size ≤ gb213)); clear HO210; clear HB; have HO210 := n0_; have HB := n1_; have BK213 := n2_; have GW213 := n3_; have GE213 := n4_; clear n0_ n1_ n2_ n3_ n4_; clear hb hbox hg; have hcz13_0 : w12.cell? ⟨gb213, 0, none⟩ = some (.int .i64 0) := (blk_cell BK213.out 0).trans rfl; have hcz13_1 : w12.cell? ⟨gb213, 1, none⟩ = some (.int .i64 0) := (blk_cell BK213.out 1).trans rfl; have hcz13_2 : w12.cell? ⟨gb213, 2, none⟩ = some (.int .i64 0) := (blk_cell BK213.out 2).trans rfl; have hfz13_0 := blk_frozen BK213.out 0; have hfz13_1 := blk_frozen BK213.out 1; have hfz13_2 := blk_frozen BK213.out 2))
        (try simp only [Act.put, List.setIfInBounds_toArray, List.set_cons_zero, List.set_cons_succ])
        go_cut [40] (fun v40 wc => ∃ (kq : Nat) (x40_9 : Bool), v40 = .bool x40_9 ∧ Aside0 (ententelaw05_PotPending.j1 kq t208 x40_9 t205 t206 t207 = some r) ∧ Aside0 (kq ≤ kj2) ∧ Aside0 (Kd.R k39 39 wc w.heap.size (fun _ => True) v209 t208) ∧ Aside0 (wc.heap[gb213]? = some (.cells #[.int .i64 t205, .int .i64 t206, .int .i64 t207] 23 (0, 0))) ∧ Aside0 (Below w.heap.size w wc))
        case first =>
          have H := HC10.out
          clear HC10
          by_cases c14 : t212 = true
          · subst c14
            have H1 : ((pot_Check.f t205 t206 t207).bind fun t214 => (ententelaw05_PotPending.j1 kj2 t208 (t214 != 0) t205 t206 t207)) = some r := by rw [if_pos rfl] at H; exact H
            clear H
            have H := H1
            clear H1
            replace H := Option.bind_eq_some_iff.mp H
            obtain ⟨t214, A150, H⟩ := H
            replace H : (ententelaw05_PotPending.j1 kj2 t208 (t214 != 0) t205 t206 t207) = some r := H
            have A15 := Aside0.mk A150
            clear A150
            have H' := Aside0.mk H
            clear H
            have hcz16_0 : w12.cell? ⟨gb213, 0, none⟩ = some (.int .i64 0) := (blk_cell BK213.out 0).trans rfl
            have hcz16_1 : w12.cell? ⟨gb213, 1, none⟩ = some (.int .i64 0) := (blk_cell BK213.out 1).trans rfl
            have hcz16_2 : w12.cell? ⟨gb213, 2, none⟩ = some (.int .i64 0) := (blk_cell BK213.out 2).trans rfl
            have hfz16_0 := blk_frozen BK213.out 0
            have hfz16_1 := blk_frozen BK213.out 1
            have hfz16_2 := blk_frozen BK213.out 2
            go_wp2_with (first | (go_at_call 9; (with_reducible refine (pot_Check.calls t205 t206 t207 t214 _ A15.out).mono ?_); rintro e w17 ⟨rfl, hb⟩; have n0_ := Aside0.mk (Kd.R_below (by (with_reducible repeat (first | apply Kd.R_alloc | apply Kd.R_drewN | apply Kd.R_drew)); exact (Kd.R_mono (Kd.R_far (p := ⟨gb213, 2, none⟩) (Kd.R_far (p := ⟨gb213, 1, none⟩) (Kd.R_far (p := ⟨gb213, 0, none⟩) (Kd.R_types HO210.out BK213.out (by decide)) (fun _ hk => hk.2) (.int .i64 t205)) (fun _ hk => hk.2) (.int .i64 t206)) (fun _ hk => hk.2) (.int .i64 t207)) (fun _ h_ => h_.1))) hb); have n1_ := Aside0.mk (blk_below (g := gb213) (o := .cells #[.int .i64 t205, .int .i64 t206, .int .i64 t207] 23 (0, 0)) (by (with_reducible repeat (first | refine blk_drewN ?_ _ | refine blk_drew ?_ | refine blk_alloc ?_ _)); refine blk_put (cs := #[.int .i64 t205, .int .i64 t206, .int .i64 0]) ?_ 2 _ rfl; (with_reducible repeat (first | refine blk_drewN ?_ _ | refine blk_drew ?_ | refine blk_alloc ?_ _)); refine blk_put (cs := #[.int .i64 t205, .int .i64 0, .int .i64 0]) ?_ 1 _ rfl; (with_reducible repeat (first | refine blk_drewN ?_ _ | refine blk_drew ?_ | refine blk_alloc ?_ _)); refine blk_put (cs := #[.int .i64 0, .int .i64 0, .int .i64 0]) ?_ 0 _ rfl; (with_reducible repeat (first | refine blk_drewN ?_ _ | refine blk_drew ?_ | refine blk_alloc ?_ _)); exact BK213.out) hb); have n2_ := Aside0.mk (below_step (by repeat (first | (with_reducible first | exact HB.out | apply below_alloc | apply pw_below_drewN | apply below_drew1 | refine below_set ?_ GE213.out) | exact HB.out)) hb); clear HO210; clear BK213; clear HB; have HO210 := n0_; have BK213 := n1_; have HB := n2_; clear n0_ n1_ n2_; (try clear hb); (try clear hb2); (try clear hk); (try clear hi)))
            go_meet
            case rel => exact ⟨_, ((t214 != 0)), (by first | rfl | (simp; done) | (simp [*]; done)), H', ⟨by have := HJ2.out; first | omega | exact Nat.le_refl _⟩, ⟨by (with_reducible repeat (first | apply Kd.R_alloc | apply Kd.R_drewN | apply Kd.R_drew)); exact HO210.out⟩, ⟨by (with_reducible repeat (first | refine blk_drewN ?_ _ | refine blk_drew ?_ | refine blk_alloc ?_ _)); exact BK213.out⟩, ⟨by repeat (first | (with_reducible first | exact HB.out | apply below_alloc | apply pw_below_drewN | apply below_drew1 | refine below_set ?_ GE213.out) | exact HB.out)⟩⟩
          · replace c14 := Bool.eq_false_iff.mpr c14
            subst c14
            have H1 : (ententelaw05_PotPending.j1 kj2 t208 true t205 t206 t207) = some r := by rw [if_neg (show ¬ (false = true) by decide)] at H; exact H
            clear H
            have H := H1
            clear H1
            have H' := Aside0.mk H
            clear H
            go_wp2
            go_meet
            case rel => exact ⟨_, (true), (by first | rfl | (simp; done) | (simp [*]; done)), H', ⟨by have := HJ2.out; first | omega | exact Nat.le_refl _⟩, ⟨by (with_reducible repeat (first | apply Kd.R_alloc | apply Kd.R_drewN | apply Kd.R_drew)); exact Kd.R_mono (Kd.R_far (p := ⟨gb213, 2, none⟩) (Kd.R_far (p := ⟨gb213, 1, none⟩) (Kd.R_far (p := ⟨gb213, 0, none⟩) (Kd.R_types HO210.out BK213.out (by decide)) (fun _ hk => hk.2) (.int .i64 t205)) (fun _ hk => hk.2) (.int .i64 t206)) (fun _ hk => hk.2) (.int .i64 t207)) (fun _ hk => trivial)⟩, ⟨by (with_reducible repeat (first | refine blk_drewN ?_ _ | refine blk_drew ?_ | refine blk_alloc ?_ _)); refine blk_put (cs := #[.int .i64 t205, .int .i64 t206, .int .i64 0]) ?_ 2 _ rfl; (with_reducible repeat (first | refine blk_drewN ?_ _ | refine blk_drew ?_ | refine blk_alloc ?_ _)); refine blk_put (cs := #[.int .i64 t205, .int .i64 0, .int .i64 0]) ?_ 1 _ rfl; (with_reducible repeat (first | refine blk_drewN ?_ _ | refine blk_drew ?_ | refine blk_alloc ?_ _)); refine blk_put (cs := #[.int .i64 0, .int .i64 0, .int .i64 0]) ?_ 0 _ rfl; (with_reducible repeat (first | refine blk_drewN ?_ _ | refine blk_drew ?_ | refine blk_alloc ?_ _)); exact BK213.out⟩, ⟨by repeat (first | (with_reducible first | exact HB.out | apply below_alloc | apply pw_below_drewN | apply below_drew1 | refine below_set ?_ GE213.out) | exact HB.out)⟩⟩
        case rest =>
          clear HC10
          try clear c1
          try clear c2
          try clear p2
          try clear c4
          try clear c4b0
          try clear c5
          try clear c5b0
          try clear c6
          try clear c14
          try clear c15
          try clear hcz13_0
          try clear hcz13_1
          try clear hcz13_2
          try clear hcz16_0
          try clear hcz16_1
          try clear hcz16_2
          try clear hfz13_0
          try clear hfz13_1
          try clear hfz13_2
          try clear hfz16_0
          try clear hfz16_1
          try clear hfz16_2
          try clear p2
          obtain ⟨kq, x40_9, rfl, HA, HJ9, HO_6, BK213, HB⟩ := hcut
          cases kq with
          | zero => exact absurd HA.out (by simp [ententelaw05_PotPending.j1])
          | succ kj9 =>
            have H := HA.out
            clear HA
            simp only [ententelaw05_PotPending.j1] at H
            by_cases c18 : x40_9 = true
            · subst c18
              have H1 : (some false) = some r := by rw [if_pos rfl] at H; exact H
              clear H
              have H := H1
              clear H1
              exact absurd ((Option.some.inj H).trans HT.out) Bool.false_ne_true
            · replace c18 := Bool.eq_false_iff.mpr c18
              subst c18
              have H1 : (ententelaw05_PotPending.l0 kj9 t208 0 t205 t206 t207) = some r := by rw [if_neg (show ¬ (false = true) by decide)] at H; exact H
              clear H
              have H := H1
              clear H1
              have H' := Aside0.mk H
              clear H
              go_wp2
              go_loopg [9] kj9 (fun kq v9 w' => ∃ (x9_3 : Int), v9 = .int .i64 x9_3 ∧ Aside0 (ententelaw05_PotPending.l0 kq t208 x9_3 t205 t206 t207 = some r) ∧ Aside0 (kq ≤ kj9) ∧ Aside0 (Kd.R k39 39 w' w.heap.size (fun _ => True) v209 t208) ∧ Aside0 (w'.heap[gb213]? = some (.cells #[.int .i64 t205, .int .i64 t206, .int .i64 t207] 23 (0, 0))) ∧ Aside0 (Below w.heap.size w w'))
              case atStart => exact ⟨(0), (by first | rfl | (simp; done) | (simp [*]; done)), H', ⟨Nat.le_refl _⟩, ⟨by (with_reducible repeat (first | apply Kd.R_alloc | apply Kd.R_drewN | apply Kd.R_drew)); exact HO_6.out⟩, ⟨by (with_reducible repeat (first | refine blk_drewN ?_ _ | refine blk_drew ?_ | refine blk_alloc ?_ _)); exact BK213.out⟩, ⟨by repeat (first | (with_reducible first | exact HB.out | apply below_alloc | apply pw_below_drewN | apply below_drew1 | refine below_set ?_ GE213.out) | exact HB.out)⟩⟩
              case round =>
                clear H'
                try clear c1
                try clear c2
                try clear p2
                try clear c4
                try clear c4b0
                try clear c5
                try clear c5b0
                try clear c6
                try clear c14
                try clear c15
                try clear c18
                try clear hcz13_0
                try clear hcz13_1
                try clear hcz13_2
                try clear hcz16_0
                try clear hcz16_1
                try clear hcz16_2
                try clear hfz13_0
                try clear hfz13_1
                try clear hfz13_2
                try clear hfz16_0
                try clear hfz16_1
                try clear hfz16_2
                try clear p2
                obtain ⟨x9_3, rfl, HA, HK3, HO_6, BK213, HB⟩ := hrel
                cases gk with
                | zero => exact absurd HA.out (by simp [ententelaw05_PotPending.l0])
                | succ k3 =>
                  have H := HA.out
                  clear HA
                  simp only [ententelaw05_PotPending.l0] at H
                  by_cases c19 : x9_3 < (t208.length : Int)
                  · rw [if_pos c19] at H
                    have c19b0 : decide (x9_3 < (t208.length : Int)) = true := decide_eq_true c19
                    clear c19
                    by_cases c20 : 0 ≤ x9_3
                    · rw [if_pos c20] at H
                      have c20b0 : decide (0 ≤ x9_3) = true := decide_eq_true c20
                      clear c20
                      replace H := Option.bind_eq_some_iff.mp H
                      obtain ⟨⟨t218, t219, t220, t221⟩, A210, H⟩ := H
                      replace H : ((pot_Keep.f k3 t205 t206 t207 ((rd_T39 t208 x9_3).f1) ((rd_T39 t208 x9_3).f2)).bind fun bt225 => (if t221 = 0 then (if bt225.2.2.2 = 0 then (ententelaw05_PotPending.l0 k3 t208 (wrap64 (x9_3 + 1)) t205 t206 t207) else (some false)) else (some false))) = some r := H
                      have A21 := Aside0.mk A210
                      clear A210
                      replace H := Option.bind_eq_some_iff.mp H
                      obtain ⟨⟨t225, t226, t227, t228⟩, A220, H⟩ := H
                      replace H : (if t221 = 0 then (if t228 = 0 then (ententelaw05_PotPending.l0 k3 t208 (wrap64 (x9_3 + 1)) t205 t206 t207) else (some false)) else (some false)) = some r := H
                      have A22 := Aside0.mk A220
                      clear A220
                      by_cases c23 : t221 = 0
                      · rw [if_pos c23] at H
                        have c23b0 : (t221 == 0) = true := beq_iff_eq.mpr c23
                        have c23b1 : (t221 != 0) = false := bne_eq_false_iff_eq.mpr c23
                        clear c23
                        by_cases c24 : t228 = 0
                        · rw [if_pos c24] at H
                          have c24b0 : (t228 == 0) = true := beq_iff_eq.mpr c24
                          have c24b1 : (t228 != 0) = false := bne_eq_false_iff_eq.mpr c24
                          clear c24
                          have H' := Aside0.mk H
                          clear H
                          obtain ⟨Ao25, co25, eo25⟩ := Kd.R_slice HO_6.out
                          subst eo25
                          try go_wp2
                          have n0_ := Aside0.mk (Kd.R_drew HO_6.out)
                          have n1_ := Aside0.mk (blk_drew BK213.out)
                          have n2_ := Aside0.mk (below_drew1 HB.out)
                          clear HO_6
                          clear BK213
                          clear HB
                          have HO_6 := n0_
                          have BK213 := n1_
                          have HB := n2_
                          clear n0_ n1_ n2_
                          have p216 : 0 ≤ (x9_3 : Int) := of_decide_eq_true (by first | (with_reducible assumption) | assumption)
                          have q216 : x9_3 < (t208.length : Int) := of_decide_eq_true (by first | (with_reducible assumption) | assumption)
                          obtain ⟨ad216, e216, hx216_0, hx216_1, hx216_2, hx216_3⟩ := at_T39 (Kd.R_reads' HO_6.out).2.2 x9_3 p216 q216
                          cases e216
                          replace p216 := eq_true p216
                          replace q216 := eq_true q216
                          have p217 : 0 ≤ (x9_3 : Int) := of_decide_eq_true (by first | (with_reducible assumption) | assumption)
                          have q217 : x9_3 < (t208.length : Int) := of_decide_eq_true (by first | (with_reducible assumption) | assumption)
                          obtain ⟨ad217, e217, hx217_0, hx217_1, hx217_2, hx217_3⟩ := at_T39 (Kd.R_reads' HO_6.out).2.2 x9_3 p217 q217
                          obtain rfl : ad216 = ad217 := (by injection e217)
                          replace p217 := eq_true p217
                          replace q217 := eq_true q217
                          refine start_ (n := 18) (S := fun w' => w'.cell? ⟨gb213, 0, none⟩ = some (.int .i64 t205) ∧ w'.cell? ⟨gb213, 1, none⟩ = some (.int .i64 t206) ∧ w'.cell? ⟨gb213, 2, none⟩ = some (.int .i64 t207) ∧ w'.cell? (ad216.add ((x9_3).toNat * 4)) = some (.int .i64 ((rd_T39 t208 x9_3).f0)) ∧ w'.cell? ⟨(ad216.add ((x9_3).toNat * 4)).block, (ad216.add ((x9_3).toNat * 4)).off + 1, none⟩ = some (.bool ((rd_T39 t208 x9_3).f1)) ∧ w'.cell? ⟨(ad216.add ((x9_3).toNat * 4)).block, (ad216.add ((x9_3).toNat * 4)).off + 2, none⟩ = some (.int .i64 ((rd_T39 t208 x9_3).f2)) ∧ w'.cell? ⟨(ad216.add ((x9_3).toNat * 4)).block, (ad216.add ((x9_3).toNat * 4)).off + 3, none⟩ = some (.int .i64 ((rd_T39 t208 x9_3).f3)) ∧ w'.cell? (ad216.add ((x9_3).toNat * 4)) = some (.int .i64 ((rd_T39 t208 x9_3).f0)) ∧ w'.cell? ⟨(ad216.add ((x9_3).toNat * 4)).block, (ad216.add ((x9_3).toNat * 4)).off + 1, none⟩ = some (.bool ((rd_T39 t208 x9_3).f1)) ∧ w'.cell? ⟨(ad216.add ((x9_3).toNat * 4)).block, (ad216.add ((x9_3).toNat * 4)).off + 2, none⟩ = some (.int .i64 ((rd_T39 t208 x9_3).f2)) ∧ w'.cell? ⟨(ad216.add ((x9_3).toNat * 4)).block, (ad216.add ((x9_3).toNat * 4)).off + 3, none⟩ = some (.int .i64 ((rd_T39 t208 x9_3).f3))) (ds := []) #[false, false, false, false, false, false, false, false, false, false, false, false, false, false, false, false, false, false] (by kernel_rfl) rfl rfl ⟨(blk_cell BK213.out 0).trans rfl, (blk_cell BK213.out 1).trans rfl, (blk_cell BK213.out 2).trans rfl, hx216_0, hx216_1, hx216_2, hx216_3, hx217_0, hx217_1, hx217_2, hx217_3⟩ (fun hHeld => ?_); refine with_tabW ententelaw05_PotPending.tab9 ententelaw05_PotPending.bits9 (fun HT_ HW_ => ?_)
                          generalize wr.drew = w26 at HO_6 BK213 HB hx216_0 hx216_1 hx216_2 hx216_3 hx217_0 hx217_1 hx217_2 hx217_3 hHeld ⊢
                          refine pure_ (i := 1) (N := some 49) (v := ?_) (a' := ?_) #[false, true, false, false, false, false, false, false, false, false, false, false, false, false, false, false, false, false] rfl rfl (any_of HT_.out (by kernel_rfl)) (fun _ _ _ h => h) (Or.inl ⟨by rfl, ?_⟩) ?_ ?_
                          rotate_left
                          · intro w'
                            go_simp
                            with_reducible rfl
                          rotate_left
                          · simp only [Act.put, List.setIfInBounds_toArray, List.set_cons_zero, List.set_cons_succ, i64_w, i32_w]
                            rfl
                          refine pure_ (i := 2) (N := some 50) (v := ?_) (a' := ?_) #[false, true, true, false, false, false, false, false, false, false, false, false, false, false, false, false, false, false] rfl rfl (any_of HT_.out (by kernel_rfl)) (fun _ _ _ h => h) (Or.inl ⟨by rfl, ?_⟩) ?_ ?_
                          rotate_left
                          · intro w'
                            go_simp
                            with_reducible rfl
                          rotate_left
                          · simp only [Act.put, List.setIfInBounds_toArray, List.set_cons_zero, List.set_cons_succ, i64_w, i32_w]
                            rfl
                          refine pure_ (i := 3) (N := some 51) (v := ?_) (a' := ?_) #[false, true, true, true, false, false, false, false, false, false, false, false, false, false, false, false, false, false] rfl rfl (any_of HT_.out (by kernel_rfl)) (fun _ _ _ h => h) (Or.inl ⟨by rfl, ?_⟩) ?_ ?_
                          rotate_left
                          · intro w'
                            go_simp
                            with_reducible rfl
                          rotate_left
                          · simp only [Act.put, List.setIfInBounds_toArray, List.set_cons_zero, List.set_cons_succ, i64_w, i32_w]
                            rfl
                          refine pure_ (i := 4) (N := some 52) (v := ?_) (a' := ?_) #[false, true, true, true, true, false, false, false, false, false, false, false, false, false, false, false, false, false] rfl rfl (any_of HT_.out (by kernel_rfl)) (fun _ _ _ h => h) (Or.inl ⟨by rfl, ?_⟩) ?_ ?_
                          rotate_left
                          · intro w'
                            go_simp
                            with_reducible rfl
                          rotate_left
                          · simp only [Act.put, List.setIfInBounds_toArray, List.set_cons_zero, List.set_cons_succ, i64_w, i32_w]
                            rfl
                          refine pure_ (i := 6) (N := some 54) (v := ?_) (a' := ?_) #[false, true, true, true, true, false, true, false, false, false, false, false, false, false, false, false, false, false] rfl rfl (any_of HT_.out (by kernel_rfl)) (fun _ _ _ h => h) (Or.inl ⟨by rfl, ?_⟩) ?_ ?_
                          rotate_left
                          · intro w'
                            go_simp
                            with_reducible rfl
                          rotate_left
                          · simp only [Act.put, List.setIfInBounds_toArray, List.set_cons_zero, List.set_cons_succ, i64_w, i32_w]
                            rfl
                          refine pure_ (i := 7) (N := some 55) (v := ?_) (a' := ?_) #[false, true, true, true, true, false, true, true, false, false, false, false, false, false, false, false, false, false] rfl rfl (any_of HT_.out (by kernel_rfl)) (fun _ _ _ h => h) (Or.inl ⟨by rfl, ?_⟩) ?_ ?_
                          rotate_left
                          · intro w'
                            go_simp
                            with_reducible rfl
                          rotate_left
                          · simp only [Act.put, List.setIfInBounds_toArray, List.set_cons_zero, List.set_cons_succ, i64_w, i32_w]
                            rfl
                          refine pure_ (i := 8) (N := some 56) (v := ?_) (a' := ?_) #[false, true, true, true, true, false, true, true, true, false, false, false, false, false, false, false, false, false] rfl rfl (any_of HT_.out (by kernel_rfl)) (fun _ _ _ h => h) (Or.inl ⟨by rfl, ?_⟩) ?_ ?_
                          rotate_left
                          · intro w'
                            go_simp
                            with_reducible rfl
                          rotate_left
                          · simp only [Act.put, List.setIfInBounds_toArray, List.set_cons_zero, List.set_cons_succ, i64_w, i32_w]
                            rfl
                          refine pure_ (i := 9) (N := some 57) (v := ?_) (a' := ?_) #[false, true, true, true, true, false, true, true, true, true, false, false, false, false, false, false, false, false] rfl rfl (any_of HT_.out (by kernel_rfl)) (fun _ _ _ h => h) (Or.inl ⟨by rfl, ?_⟩) ?_ ?_
                          rotate_left
                          · intro w'
                            go_simp
                            with_reducible rfl
                          rotate_left
                          · simp only [Act.put, List.setIfInBounds_toArray, List.set_cons_zero, List.set_cons_succ, i64_w, i32_w]
                            rfl
                          refine take_ (i := 0) (N := some 48) (v := ?_) (a' := ?_) #[true, true, true, true, true, false, true, true, true, true, false, false, false, false, false, false, false, false] rfl rfl (take_ofW HT_.out HW_.out (by kernel_rfl)) (fun _ _ _ h => h) (Or.inl ⟨by rfl, ?_⟩) hHeld ?_ ?_
                          rotate_left
                          · rintro w' ⟨s0, s1, s2, s3, s4, s5, s6, s7, s8, s9, s10⟩
                            go_simp
                            with_reducible rfl
                          rotate_left
                          · simp only [Act.put, List.setIfInBounds_toArray, List.set_cons_zero, List.set_cons_succ, i64_w, i32_w]
                            rfl
                          refine take_ (i := 5) (N := some 53) (v := ?_) (a' := ?_) #[true, true, true, true, true, true, true, true, true, true, false, false, false, false, false, false, false, false] rfl rfl (take_ofW HT_.out HW_.out (by kernel_rfl)) (fun _ _ _ h => h) (Or.inl ⟨by rfl, ?_⟩) hHeld ?_ ?_
                          rotate_left
                          · rintro w' ⟨s0, s1, s2, s3, s4, s5, s6, s7, s8, s9, s10⟩
                            go_simp
                            with_reducible rfl
                          rotate_left
                          · simp only [Act.put, List.setIfInBounds_toArray, List.set_cons_zero, List.set_cons_succ, i64_w, i32_w]
                            rfl
                          refine take_ (i := 10) (N := some 58) (v := ?_) (a' := ?_) #[true, true, true, true, true, true, true, true, true, true, true, false, false, false, false, false, false, false] rfl rfl (take_ofW HT_.out HW_.out (by kernel_rfl)) (fun _ _ _ h => h) (Or.inl ⟨by rfl, ?_⟩) hHeld ?_ ?_
                          rotate_left
                          · rintro w' ⟨s0, s1, s2, s3, s4, s5, s6, s7, s8, s9, s10⟩
                            go_simp
                            with_reducible rfl
                          rotate_left
                          · simp only [Act.put, List.setIfInBounds_toArray, List.set_cons_zero, List.set_cons_succ, i64_w, i32_w]
                            rfl
                          refine join_ (σ := Nat) 2 #[true, true, true, true, true, true, true, true, true, true, true, true, true, true, true, true, false, false] (fun s_ => [(59, .tuple #[.agg #[.int .i64 t218, .int .i64 t219, .int .i64 t220], .int .i64 t221]), (10, .pointer (some ⟨s_, 0, none⟩)), (47, .tuple #[.agg #[.int .i64 t218, .int .i64 t219, .int .i64 t220], .int .i64 t221]), (60, .agg #[.int .i64 t218, .int .i64 t219, .int .i64 t220]), (61, .int .i64 t221)]) (fun s_ w' => (w'.cell? ⟨gb213, 0, none⟩ = some (.int .i64 t205) ∧ w'.cell? ⟨gb213, 1, none⟩ = some (.int .i64 t206) ∧ w'.cell? ⟨gb213, 2, none⟩ = some (.int .i64 t207) ∧ w'.cell? (ad216.add ((x9_3).toNat * 4)) = some (.int .i64 ((rd_T39 t208 x9_3).f0)) ∧ w'.cell? ⟨(ad216.add ((x9_3).toNat * 4)).block, (ad216.add ((x9_3).toNat * 4)).off + 1, none⟩ = some (.bool ((rd_T39 t208 x9_3).f1)) ∧ w'.cell? ⟨(ad216.add ((x9_3).toNat * 4)).block, (ad216.add ((x9_3).toNat * 4)).off + 2, none⟩ = some (.int .i64 ((rd_T39 t208 x9_3).f2)) ∧ w'.cell? ⟨(ad216.add ((x9_3).toNat * 4)).block, (ad216.add ((x9_3).toNat * 4)).off + 3, none⟩ = some (.int .i64 ((rd_T39 t208 x9_3).f3)) ∧ w'.cell? (ad216.add ((x9_3).toNat * 4)) = some (.int .i64 ((rd_T39 t208 x9_3).f0)) ∧ w'.cell? ⟨(ad216.add ((x9_3).toNat * 4)).block, (ad216.add ((x9_3).toNat * 4)).off + 1, none⟩ = some (.bool ((rd_T39 t208 x9_3).f1)) ∧ w'.cell? ⟨(ad216.add ((x9_3).toNat * 4)).block, (ad216.add ((x9_3).toNat * 4)).off + 2, none⟩ = some (.int .i64 ((rd_T39 t208 x9_3).f2)) ∧ w'.cell? ⟨(ad216.add ((x9_3).toNat * 4)).block, (ad216.add ((x9_3).toNat * 4)).off + 3, none⟩ = some (.int .i64 ((rd_T39 t208 x9_3).f3))) ∧ (Kd.R k39 39 w' w.heap.size (fun _ => True) (.slice (some ad216) t208.length co25) t208) ∧ (w'.heap[gb213]? = some (.cells #[.int .i64 t205, .int .i64 t206, .int .i64 t207] 23 (0, 0))) ∧ (w'.heap[s_]? = some (.cells #[.int .i64 0, .int .i64 0, .int .i64 0] 23 (0, 0))) ∧ (w.heap.size ≤ s_) ∧ (w.heap.size ≤ s_) ∧ (gb213 ≠ s_) ∧ (s_ ≠ gb213) ∧ (Below w.heap.size w w')) ?_ ?_
                          rotate_left
                          · intro hCont
                            refine two_ (i := 11) (j := 15) (Ni := some 59) (Nj := some 10) #[true, true, true, true, true, true, true, true, true, true, true, true, false, false, false, false, false, false] #[true, true, true, true, true, true, true, true, true, true, true, false, false, false, false, true, false, false] rfl rfl rfl rfl (two_of HT_.out (by kernel_rfl)) (by decide) (by decide) (fun K hK => ?_) (fun K hK => ?_)
                            · skip
                              refine goes_ Try.func18 (by kernel_rfl) rfl #[.agg #[.int .i64 t205, .int .i64 t206, .int .i64 t207], .bool ((rd_T39 t208 x9_3).f1), .int .i64 ((rd_T39 t208 x9_3).f2)] (by rfl) rfl rfl (by (try simp only [List.map_toArray, List.map_cons, List.map_nil]); first | done | rfl | (simp only [List.length_drop, List.length_take]; rfl)) ?_
                              with_reducible refine (pot_Undo.calls k3 t205 t206 t207 ((rd_T39 t208 x9_3).f1) ((rd_T39 t208 x9_3).f2) t218 t219 t220 t221 _ A21.out).mono ?_
                              rintro e w27 ⟨rfl, hb⟩
                              have HS3_ := (hb.cell (World.block_lt_of_cell? _ _ (hHeld.2.2.2.1))).trans (hHeld.2.2.2.1)
                              have HS4_ := (hb.cell (World.block_lt_of_cell? _ _ (hHeld.2.2.2.2.1))).trans (hHeld.2.2.2.2.1)
                              have HS5_ := (hb.cell (World.block_lt_of_cell? _ _ (hHeld.2.2.2.2.2.1))).trans (hHeld.2.2.2.2.2.1)
                              have HS6_ := (hb.cell (World.block_lt_of_cell? _ _ (hHeld.2.2.2.2.2.2.1))).trans (hHeld.2.2.2.2.2.2.1)
                              have HS7_ := (hb.cell (World.block_lt_of_cell? _ _ (hHeld.2.2.2.2.2.2.2.1))).trans (hHeld.2.2.2.2.2.2.2.1)
                              have HS8_ := (hb.cell (World.block_lt_of_cell? _ _ (hHeld.2.2.2.2.2.2.2.2.1))).trans (hHeld.2.2.2.2.2.2.2.2.1)
                              have HS9_ := (hb.cell (World.block_lt_of_cell? _ _ (hHeld.2.2.2.2.2.2.2.2.2.1))).trans (hHeld.2.2.2.2.2.2.2.2.2.1)
                              have HS10_ := (hb.cell (World.block_lt_of_cell? _ _ (hHeld.2.2.2.2.2.2.2.2.2.2))).trans (hHeld.2.2.2.2.2.2.2.2.2.2)
                              refine ⟨_, rfl, ?_⟩
                              have n0_ := Aside0.mk (Kd.R_below (by (with_reducible repeat (first | apply Kd.R_alloc | apply Kd.R_drewN | apply Kd.R_drew)); exact HO_6.out) hb)
                              have n1_ := Aside0.mk (blk_below (g := gb213) (o := .cells #[.int .i64 t205, .int .i64 t206, .int .i64 t207] 23 (0, 0)) (by (with_reducible repeat (first | refine blk_drewN ?_ _ | refine blk_drew ?_ | refine blk_alloc ?_ _)); exact BK213.out) hb)
                              have n2_ := Aside0.mk (below_step (by repeat (first | (with_reducible first | exact HB.out | apply below_alloc | apply pw_below_drewN | apply below_drew1 | refine below_set ?_ GE213.out) | exact HB.out)) hb)
                              clear HO_6
                              clear BK213
                              clear HB
                              have HO_6 := n0_
                              have BK213 := n1_
                              have HB := n2_
                              clear n0_ n1_ n2_
                              (try clear hb)
                              (try clear hb2)
                              (try clear hk)
                              (try clear hi)
                              refine hK.out _ _ ⟨(blk_cell BK213.out 0).trans rfl, (blk_cell BK213.out 1).trans rfl, (blk_cell BK213.out 2).trans rfl, HS3_, HS4_, HS5_, HS6_, HS7_, HS8_, HS9_, HS10_⟩ (fun hHeld => ?_)
                              clear hK K
                              refine norm_ (a' := ?_) ?_ ?_
                              rotate_left
                              · show Act.put _ (some 59) _ = _
                                simp only [Act.put, List.setIfInBounds_toArray, List.set_cons_zero, List.set_cons_succ, i64_w, i32_w]
                                rfl
                              refine pure_ (i := 12) (N := some 47) (v := ?_) (a' := ?_) #[true, true, true, true, true, true, true, true, true, true, true, true, true, false, false, false, false, false] rfl rfl (any_of HT_.out (by kernel_rfl)) (fun _ _ _ h => h) (Or.inl ⟨by rfl, ?_⟩) ?_ ?_
                              rotate_left
                              · intro w'
                                go_simp
                                with_reducible rfl
                              rotate_left
                              · simp only [Act.put, List.setIfInBounds_toArray, List.set_cons_zero, List.set_cons_succ, i64_w, i32_w]
                                rfl
                              refine pure_ (i := 13) (N := some 60) (v := ?_) (a' := ?_) #[true, true, true, true, true, true, true, true, true, true, true, true, true, true, false, false, false, false] rfl rfl (any_of HT_.out (by kernel_rfl)) (fun _ _ _ h => h) (Or.inl ⟨by rfl, ?_⟩) ?_ ?_
                              rotate_left
                              · intro w'
                                go_simp
                                with_reducible rfl
                              rotate_left
                              · simp only [Act.put, List.setIfInBounds_toArray, List.set_cons_zero, List.set_cons_succ, i64_w, i32_w]
                                rfl
                              refine pure_ (i := 14) (N := some 61) (v := ?_) (a' := ?_) #[true, true, true, true, true, true, true, true, true, true, true, true, true, true, true, false, false, false] rfl rfl (any_of HT_.out (by kernel_rfl)) (fun _ _ _ h => h) (Or.inl ⟨by rfl, ?_⟩) ?_ ?_
                              rotate_left
                              · intro w'
                                go_simp
                                with_reducible rfl
                              rotate_left
                              · simp only [Act.put, List.setIfInBounds_toArray, List.set_cons_zero, List.set_cons_succ, i64_w, i32_w]
                                rfl
                              refine one_ (i := 15) (N := some 10) #[true, true, true, true, true, true, true, true, true, true, true, true, true, true, true, true, false, false] rfl rfl (one_of HT_.out (by kernel_rfl)) (by decide) (fun K hK => ?_)
                              refine box_step ?hg (N := 10) ?hd (cs := #[.int .i64 0, .int .i64 0, .int .i64 0]) (t := 23) ?hr ?_; (case hd => rfl); (case hg => rfl); (case hr => first | (go_simp; done) | (go_simp; rfl))
                              intro gb222 hg w28 hbox hb
                              have HS3_ := (hb.cell (World.block_lt_of_cell? _ _ (hHeld.2.2.2.1))).trans (hHeld.2.2.2.1)
                              have HS4_ := (hb.cell (World.block_lt_of_cell? _ _ (hHeld.2.2.2.2.1))).trans (hHeld.2.2.2.2.1)
                              have HS5_ := (hb.cell (World.block_lt_of_cell? _ _ (hHeld.2.2.2.2.2.1))).trans (hHeld.2.2.2.2.2.1)
                              have HS6_ := (hb.cell (World.block_lt_of_cell? _ _ (hHeld.2.2.2.2.2.2.1))).trans (hHeld.2.2.2.2.2.2.1)
                              have HS7_ := (hb.cell (World.block_lt_of_cell? _ _ (hHeld.2.2.2.2.2.2.2.1))).trans (hHeld.2.2.2.2.2.2.2.1)
                              have HS8_ := (hb.cell (World.block_lt_of_cell? _ _ (hHeld.2.2.2.2.2.2.2.2.1))).trans (hHeld.2.2.2.2.2.2.2.2.1)
                              have HS9_ := (hb.cell (World.block_lt_of_cell? _ _ (hHeld.2.2.2.2.2.2.2.2.2.1))).trans (hHeld.2.2.2.2.2.2.2.2.2.1)
                              have HS10_ := (hb.cell (World.block_lt_of_cell? _ _ (hHeld.2.2.2.2.2.2.2.2.2.2))).trans (hHeld.2.2.2.2.2.2.2.2.2.2)
                              have n0_ := Aside0.mk (Kd.R_below (by (with_reducible repeat (first | apply Kd.R_alloc | apply Kd.R_drewN | apply Kd.R_drew)); exact HO_6.out) hb)
                              have n1_ := Aside0.mk (blk_below (g := gb213) (o := .cells #[.int .i64 t205, .int .i64 t206, .int .i64 t207] 23 (0, 0)) (by (with_reducible repeat (first | refine blk_drewN ?_ _ | refine blk_drew ?_ | refine blk_alloc ?_ _)); exact BK213.out) hb)
                              have n2_ := Aside0.mk (below_step (by repeat (first | (with_reducible first | exact HB.out | apply below_alloc | apply pw_below_drewN | apply below_drew1 | refine below_set ?_ GE213.out) | exact HB.out)) hb)
                              have n3_ := Aside0.mk (hbox)
                              have n4_ := Aside0.mk ((by rw [hg]; exact (below_size (by repeat (first | (with_reducible first | exact HB.out | apply below_alloc | apply pw_below_drewN | apply below_drew1 | refine below_set ?_ GE213.out) | exact HB.out))) : w.heap.size ≤ gb222))
                              have n5_ := Aside0.mk ((by rw [hg]; exact (below_size (by repeat (first | (with_reducible first | exact HB.out | apply below_alloc | apply pw_below_drewN | apply below_drew1 | refine below_set ?_ GE213.out) | exact HB.out))) : w.heap.size ≤ gb222))
                              have n6_ := Aside0.mk ((by rw [hg]; exact Nat.ne_of_lt (blk_lt (g := gb213) (o := .cells #[.int .i64 t205, .int .i64 t206, .int .i64 t207] 23 (0, 0)) (by (with_reducible repeat (first | refine blk_drewN ?_ _ | refine blk_drew ?_ | refine blk_alloc ?_ _)); exact BK213.out)) : gb213 ≠ gb222))
                              have n7_ := Aside0.mk ((by rw [hg]; exact Nat.ne_of_gt (blk_lt (g := gb213) (o := .cells #[.int .i64 t205, .int .i64 t206, .int .i64 t207] 23 (0, 0)) (by (with_reducible repeat (first | refine blk_drewN ?_ _ | refine blk_drew ?_ | refine blk_alloc ?_ _)); exact BK213.out)) : gb222 ≠ gb213))
                              clear HO_6
                              clear BK213
                              clear HB
                              have HO_6 := n0_
                              have BK213 := n1_
                              have HB := n2_
                              have BK222 := n3_
                              have GW222 := n4_
                              have GE222 := n5_
                              have NB213_222 := n6_
                              have NB222_213 := n7_
                              clear n0_ n1_ n2_ n3_ n4_ n5_ n6_ n7_
                              clear hb hbox hg
                              refine hK.out _ _ ⟨(blk_cell BK213.out 0).trans rfl, (blk_cell BK213.out 1).trans rfl, (blk_cell BK213.out 2).trans rfl, HS3_, HS4_, HS5_, HS6_, HS7_, HS8_, HS9_, HS10_⟩ (fun hHeld => ?_)
                              clear hK K
                              refine norm_ (a' := ?_) ?_ ?_
                              rotate_left
                              · show Act.put _ (some 10) _ = _
                                simp only [Act.put, List.setIfInBounds_toArray, List.set_cons_zero, List.set_cons_succ, i64_w, i32_w]
                                rfl
                              exact norm_ (by simp only [putAll, Act.put, List.setIfInBounds_toArray, List.set_cons_zero, List.set_cons_succ]) (hCont (gb222) _ ⟨hHeld, (by (with_reducible repeat (first | apply Kd.R_alloc | apply Kd.R_drewN | apply Kd.R_drew)); exact HO_6.out), (by (with_reducible repeat (first | refine blk_drewN ?_ _ | refine blk_drew ?_ | refine blk_alloc ?_ _)); exact BK213.out), (by (with_reducible repeat (first | refine blk_drewN ?_ _ | refine blk_drew ?_ | refine blk_alloc ?_ _)); exact BK222.out), GW222.out, GE222.out, NB213_222.out, NB222_213.out, (by repeat (first | (with_reducible first | exact HB.out | apply below_alloc | apply pw_below_drewN | apply below_drew1 | refine below_set ?_ GE213.out | refine below_set ?_ GE222.out) | exact HB.out))⟩)
                            · skip
                              refine box_step ?hg (N := 10) ?hd (cs := #[.int .i64 0, .int .i64 0, .int .i64 0]) (t := 23) ?hr ?_; (case hd => rfl); (case hg => rfl); (case hr => first | (go_simp; done) | (go_simp; rfl))
                              intro gb222 hg w27 hbox hb
                              have HS3_ := (hb.cell (World.block_lt_of_cell? _ _ (hHeld.2.2.2.1))).trans (hHeld.2.2.2.1)
                              have HS4_ := (hb.cell (World.block_lt_of_cell? _ _ (hHeld.2.2.2.2.1))).trans (hHeld.2.2.2.2.1)
                              have HS5_ := (hb.cell (World.block_lt_of_cell? _ _ (hHeld.2.2.2.2.2.1))).trans (hHeld.2.2.2.2.2.1)
                              have HS6_ := (hb.cell (World.block_lt_of_cell? _ _ (hHeld.2.2.2.2.2.2.1))).trans (hHeld.2.2.2.2.2.2.1)
                              have HS7_ := (hb.cell (World.block_lt_of_cell? _ _ (hHeld.2.2.2.2.2.2.2.1))).trans (hHeld.2.2.2.2.2.2.2.1)
                              have HS8_ := (hb.cell (World.block_lt_of_cell? _ _ (hHeld.2.2.2.2.2.2.2.2.1))).trans (hHeld.2.2.2.2.2.2.2.2.1)
                              have HS9_ := (hb.cell (World.block_lt_of_cell? _ _ (hHeld.2.2.2.2.2.2.2.2.2.1))).trans (hHeld.2.2.2.2.2.2.2.2.2.1)
                              have HS10_ := (hb.cell (World.block_lt_of_cell? _ _ (hHeld.2.2.2.2.2.2.2.2.2.2))).trans (hHeld.2.2.2.2.2.2.2.2.2.2)
                              have n0_ := Aside0.mk (Kd.R_below (by (with_reducible repeat (first | apply Kd.R_alloc | apply Kd.R_drewN | apply Kd.R_drew)); exact HO_6.out) hb)
                              have n1_ := Aside0.mk (blk_below (g := gb213) (o := .cells #[.int .i64 t205, .int .i64 t206, .int .i64 t207] 23 (0, 0)) (by (with_reducible repeat (first | refine blk_drewN ?_ _ | refine blk_drew ?_ | refine blk_alloc ?_ _)); exact BK213.out) hb)
                              have n2_ := Aside0.mk (below_step (by repeat (first | (with_reducible first | exact HB.out | apply below_alloc | apply pw_below_drewN | apply below_drew1 | refine below_set ?_ GE213.out) | exact HB.out)) hb)
                              have n3_ := Aside0.mk (hbox)
                              have n4_ := Aside0.mk ((by rw [hg]; exact (below_size (by repeat (first | (with_reducible first | exact HB.out | apply below_alloc | apply pw_below_drewN | apply below_drew1 | refine below_set ?_ GE213.out) | exact HB.out))) : w.heap.size ≤ gb222))
                              have n5_ := Aside0.mk ((by rw [hg]; exact (below_size (by repeat (first | (with_reducible first | exact HB.out | apply below_alloc | apply pw_below_drewN | apply below_drew1 | refine below_set ?_ GE213.out) | exact HB.out))) : w.heap.size ≤ gb222))
                              have n6_ := Aside0.mk ((by rw [hg]; exact Nat.ne_of_lt (blk_lt (g := gb213) (o := .cells #[.int .i64 t205, .int .i64 t206, .int .i64 t207] 23 (0, 0)) (by (with_reducible repeat (first | refine blk_drewN ?_ _ | refine blk_drew ?_ | refine blk_alloc ?_ _)); exact BK213.out)) : gb213 ≠ gb222))
                              have n7_ := Aside0.mk ((by rw [hg]; exact Nat.ne_of_gt (blk_lt (g := gb213) (o := .cells #[.int .i64 t205, .int .i64 t206, .int .i64 t207] 23 (0, 0)) (by (with_reducible repeat (first | refine blk_drewN ?_ _ | refine blk_drew ?_ | refine blk_alloc ?_ _)); exact BK213.out)) : gb222 ≠ gb213))
                              clear HO_6
                              clear BK213
                              clear HB
                              have HO_6 := n0_
                              have BK213 := n1_
                              have HB := n2_
                              have BK222 := n3_
                              have GW222 := n4_
                              have GE222 := n5_
                              have NB213_222 := n6_
                              have NB222_213 := n7_
                              clear n0_ n1_ n2_ n3_ n4_ n5_ n6_ n7_
                              clear hb hbox hg
                              refine hK.out _ _ ⟨(blk_cell BK213.out 0).trans rfl, (blk_cell BK213.out 1).trans rfl, (blk_cell BK213.out 2).trans rfl, HS3_, HS4_, HS5_, HS6_, HS7_, HS8_, HS9_, HS10_⟩ (fun hHeld => ?_)
                              clear hK K
                              refine norm_ (a' := ?_) ?_ ?_
                              rotate_left
                              · show Act.put _ (some 10) _ = _
                                simp only [Act.put, List.setIfInBounds_toArray, List.set_cons_zero, List.set_cons_succ, i64_w, i32_w]
                                rfl
                              refine one_ (i := 11) (N := some 59) #[true, true, true, true, true, true, true, true, true, true, true, true, false, false, false, true, false, false] rfl rfl (one_of HT_.out (by kernel_rfl)) (by decide) (fun K hK => ?_)
                              refine goes_ Try.func18 (by kernel_rfl) rfl #[.agg #[.int .i64 t205, .int .i64 t206, .int .i64 t207], .bool ((rd_T39 t208 x9_3).f1), .int .i64 ((rd_T39 t208 x9_3).f2)] (by rfl) rfl rfl (by (try simp only [List.map_toArray, List.map_cons, List.map_nil]); first | done | rfl | (simp only [List.length_drop, List.length_take]; rfl)) ?_
                              with_reducible refine (pot_Undo.calls k3 t205 t206 t207 ((rd_T39 t208 x9_3).f1) ((rd_T39 t208 x9_3).f2) t218 t219 t220 t221 _ A21.out).mono ?_
                              rintro e w28 ⟨rfl, hb⟩
                              have HS3_ := (hb.cell (World.block_lt_of_cell? _ _ (hHeld.2.2.2.1))).trans (hHeld.2.2.2.1)
                              have HS4_ := (hb.cell (World.block_lt_of_cell? _ _ (hHeld.2.2.2.2.1))).trans (hHeld.2.2.2.2.1)
                              have HS5_ := (hb.cell (World.block_lt_of_cell? _ _ (hHeld.2.2.2.2.2.1))).trans (hHeld.2.2.2.2.2.1)
                              have HS6_ := (hb.cell (World.block_lt_of_cell? _ _ (hHeld.2.2.2.2.2.2.1))).trans (hHeld.2.2.2.2.2.2.1)
                              have HS7_ := (hb.cell (World.block_lt_of_cell? _ _ (hHeld.2.2.2.2.2.2.2.1))).trans (hHeld.2.2.2.2.2.2.2.1)
                              have HS8_ := (hb.cell (World.block_lt_of_cell? _ _ (hHeld.2.2.2.2.2.2.2.2.1))).trans (hHeld.2.2.2.2.2.2.2.2.1)
                              have HS9_ := (hb.cell (World.block_lt_of_cell? _ _ (hHeld.2.2.2.2.2.2.2.2.2.1))).trans (hHeld.2.2.2.2.2.2.2.2.2.1)
                              have HS10_ := (hb.cell (World.block_lt_of_cell? _ _ (hHeld.2.2.2.2.2.2.2.2.2.2))).trans (hHeld.2.2.2.2.2.2.2.2.2.2)
                              refine ⟨_, rfl, ?_⟩
                              have n0_ := Aside0.mk (Kd.R_below (by (with_reducible repeat (first | apply Kd.R_alloc | apply Kd.R_drewN | apply Kd.R_drew)); exact HO_6.out) hb)
                              have n1_ := Aside0.mk (blk_below (g := gb213) (o := .cells #[.int .i64 t205, .int .i64 t206, .int .i64 t207] 23 (0, 0)) (by (with_reducible repeat (first | refine blk_drewN ?_ _ | refine blk_drew ?_ | refine blk_alloc ?_ _)); exact BK213.out) hb)
                              have n2_ := Aside0.mk (blk_below (g := gb222) (o := .cells #[.int .i64 0, .int .i64 0, .int .i64 0] 23 (0, 0)) (by (with_reducible repeat (first | refine blk_drewN ?_ _ | refine blk_drew ?_ | refine blk_alloc ?_ _)); exact BK222.out) hb)
                              have n3_ := Aside0.mk (below_step (by repeat (first | (with_reducible first | exact HB.out | apply below_alloc | apply pw_below_drewN | apply below_drew1 | refine below_set ?_ GE213.out | refine below_set ?_ GE222.out) | exact HB.out)) hb)
                              clear HO_6
                              clear BK213
                              clear BK222
                              clear HB
                              have HO_6 := n0_
                              have BK213 := n1_
                              have BK222 := n2_
                              have HB := n3_
                              clear n0_ n1_ n2_ n3_
                              (try clear hb)
                              (try clear hb2)
                              (try clear hk)
                              (try clear hi)
                              refine hK.out _ _ ⟨(blk_cell BK213.out 0).trans rfl, (blk_cell BK213.out 1).trans rfl, (blk_cell BK213.out 2).trans rfl, HS3_, HS4_, HS5_, HS6_, HS7_, HS8_, HS9_, HS10_⟩ (fun hHeld => ?_)
                              clear hK K
                              refine norm_ (a' := ?_) ?_ ?_
                              rotate_left
                              · show Act.put _ (some 59) _ = _
                                simp only [Act.put, List.setIfInBounds_toArray, List.set_cons_zero, List.set_cons_succ, i64_w, i32_w]
                                rfl
                              refine pure_ (i := 12) (N := some 47) (v := ?_) (a' := ?_) #[true, true, true, true, true, true, true, true, true, true, true, true, true, false, false, true, false, false] rfl rfl (any_of HT_.out (by kernel_rfl)) (fun _ _ _ h => h) (Or.inl ⟨by rfl, ?_⟩) ?_ ?_
                              rotate_left
                              · intro w'
                                go_simp
                                with_reducible rfl
                              rotate_left
                              · simp only [Act.put, List.setIfInBounds_toArray, List.set_cons_zero, List.set_cons_succ, i64_w, i32_w]
                                rfl
                              refine pure_ (i := 13) (N := some 60) (v := ?_) (a' := ?_) #[true, true, true, true, true, true, true, true, true, true, true, true, true, true, false, true, false, false] rfl rfl (any_of HT_.out (by kernel_rfl)) (fun _ _ _ h => h) (Or.inl ⟨by rfl, ?_⟩) ?_ ?_
                              rotate_left
                              · intro w'
                                go_simp
                                with_reducible rfl
                              rotate_left
                              · simp only [Act.put, List.setIfInBounds_toArray, List.set_cons_zero, List.set_cons_succ, i64_w, i32_w]
                                rfl
                              refine pure_ (i := 14) (N := some 61) (v := ?_) (a' := ?_) #[true, true, true, true, true, true, true, true, true, true, true, true, true, true, true, true, false, false] rfl rfl (any_of HT_.out (by kernel_rfl)) (fun _ _ _ h => h) (Or.inl ⟨by rfl, ?_⟩) ?_ ?_
                              rotate_left
                              · intro w'
                                go_simp
                                with_reducible rfl
                              rotate_left
                              · simp only [Act.put, List.setIfInBounds_toArray, List.set_cons_zero, List.set_cons_succ, i64_w, i32_w]
                                rfl
                              exact norm_ (by simp only [putAll, Act.put, List.setIfInBounds_toArray, List.set_cons_zero, List.set_cons_succ]) (hCont (gb222) _ ⟨hHeld, (by (with_reducible repeat (first | apply Kd.R_alloc | apply Kd.R_drewN | apply Kd.R_drew)); exact HO_6.out), (by (with_reducible repeat (first | refine blk_drewN ?_ _ | refine blk_drew ?_ | refine blk_alloc ?_ _)); exact BK213.out), (by (with_reducible repeat (first | refine blk_drewN ?_ _ | refine blk_drew ?_ | refine blk_alloc ?_ _)); exact BK222.out), GW222.out, GE222.out, NB213_222.out, NB222_213.out, (by repeat (first | (with_reducible first | exact HB.out | apply below_alloc | apply pw_below_drewN | apply below_drew1 | refine below_set ?_ GE213.out | refine below_set ?_ GE222.out) | exact HB.out))⟩)
                          rintro gb222 w29 ⟨hS_, h0_, h1_, h2_, h3_, h4_, h5_, h6_, h7_⟩
                          have n0_ : Aside0 (Kd.R k39 39 w29 w.heap.size (fun _ => True) (.slice (some ad216) t208.length co25) t208) := ⟨h0_⟩
                          have n1_ : Aside0 (w29.heap[gb213]? = some (.cells #[.int .i64 t205, .int .i64 t206, .int .i64 t207] 23 (0, 0))) := ⟨h1_⟩
                          have n2_ : Aside0 (w29.heap[gb222]? = some (.cells #[.int .i64 0, .int .i64 0, .int .i64 0] 23 (0, 0))) := ⟨h2_⟩
                          have n3_ : Aside0 (w.heap.size ≤ gb222) := ⟨h3_⟩
                          have n4_ : Aside0 (w.heap.size ≤ gb222) := ⟨h4_⟩
                          have n5_ : Aside0 (gb213 ≠ gb222) := ⟨h5_⟩
                          have n6_ : Aside0 (gb222 ≠ gb213) := ⟨h6_⟩
                          have n7_ : Aside0 (Below w.heap.size w w29) := ⟨h7_⟩
                          clear HO_6
                          clear BK213
                          clear HB
                          clear h0_ h1_ h2_ h3_ h4_ h5_ h6_ h7_
                          have HO_6 := n0_
                          have BK213 := n1_
                          have BK222 := n2_
                          have GW222 := n3_
                          have GE222 := n4_
                          have NB213_222 := n5_
                          have NB222_213 := n6_
                          have HB := n7_
                          clear n0_ n1_ n2_ n3_ n4_ n5_ n6_ n7_
                          have hHeld : w29.cell? ⟨gb213, 0, none⟩ = some (.int .i64 t205) ∧ w29.cell? ⟨gb213, 1, none⟩ = some (.int .i64 t206) ∧ w29.cell? ⟨gb213, 2, none⟩ = some (.int .i64 t207) ∧ w29.cell? (ad216.add ((x9_3).toNat * 4)) = some (.int .i64 ((rd_T39 t208 x9_3).f0)) ∧ w29.cell? ⟨(ad216.add ((x9_3).toNat * 4)).block, (ad216.add ((x9_3).toNat * 4)).off + 1, none⟩ = some (.bool ((rd_T39 t208 x9_3).f1)) ∧ w29.cell? ⟨(ad216.add ((x9_3).toNat * 4)).block, (ad216.add ((x9_3).toNat * 4)).off + 2, none⟩ = some (.int .i64 ((rd_T39 t208 x9_3).f2)) ∧ w29.cell? ⟨(ad216.add ((x9_3).toNat * 4)).block, (ad216.add ((x9_3).toNat * 4)).off + 3, none⟩ = some (.int .i64 ((rd_T39 t208 x9_3).f3)) ∧ w29.cell? (ad216.add ((x9_3).toNat * 4)) = some (.int .i64 ((rd_T39 t208 x9_3).f0)) ∧ w29.cell? ⟨(ad216.add ((x9_3).toNat * 4)).block, (ad216.add ((x9_3).toNat * 4)).off + 1, none⟩ = some (.bool ((rd_T39 t208 x9_3).f1)) ∧ w29.cell? ⟨(ad216.add ((x9_3).toNat * 4)).block, (ad216.add ((x9_3).toNat * 4)).off + 2, none⟩ = some (.int .i64 ((rd_T39 t208 x9_3).f2)) ∧ w29.cell? ⟨(ad216.add ((x9_3).toNat * 4)).block, (ad216.add ((x9_3).toNat * 4)).off + 3, none⟩ = some (.int .i64 ((rd_T39 t208 x9_3).f3)) := hS_
                          refine norm_ (a' := ?_) ?_ ?_
                          rotate_left
                          · simp only [putAll, Act.put, List.setIfInBounds_toArray, List.set_cons_zero, List.set_cons_succ]
                            rfl
                          refine one_ (i := 16) (N := none) #[true, true, true, true, true, true, true, true, true, true, true, true, true, true, true, true, true, false] rfl rfl (one_of HT_.out (by kernel_rfl)) (by decide) (fun K hK => ?_)
                          have hs30 : w29.cell? ⟨gb222, 0, none⟩ = some (.int .i64 0) := (blk_cell BK222.out 0).trans rfl
                          have hfs30 := blk_frozen BK222.out 0
                          have hns30_0 := NB213_222.out
                          have hms30_0 := NB222_213.out
                          have hs31 : w29.cell? ⟨gb222, 1, none⟩ = some (.int .i64 0) := (blk_cell BK222.out 1).trans rfl
                          have hfs31 := blk_frozen BK222.out 1
                          have hns31_0 := NB213_222.out
                          have hms31_0 := NB222_213.out
                          have hs32 : w29.cell? ⟨gb222, 2, none⟩ = some (.int .i64 0) := (blk_cell BK222.out 2).trans rfl
                          have hfs32 := blk_frozen BK222.out 2
                          have hns32_0 := NB213_222.out
                          have hms32_0 := NB222_213.out
                          refine skip_ (w1 := ?_) (by rfl) rfl ?_ ?_
                          rotate_left
                          · go_simp
                            rfl
                          refine hK.out _ _ ⟨((cell_far (p := ⟨gb222, _, none⟩) NB213_222.out _).trans (((cell_far (p := ⟨gb222, _, none⟩) NB213_222.out _).trans (((cell_far (p := ⟨gb222, _, none⟩) NB213_222.out _).trans (hHeld.1)))))), ((cell_far (p := ⟨gb222, _, none⟩) NB213_222.out _).trans (((cell_far (p := ⟨gb222, _, none⟩) NB213_222.out _).trans (((cell_far (p := ⟨gb222, _, none⟩) NB213_222.out _).trans (hHeld.2.1)))))), ((cell_far (p := ⟨gb222, _, none⟩) NB213_222.out _).trans (((cell_far (p := ⟨gb222, _, none⟩) NB213_222.out _).trans (((cell_far (p := ⟨gb222, _, none⟩) NB213_222.out _).trans (hHeld.2.2.1)))))), ((cell_far (p := ⟨gb222, _, none⟩) (by first | exact Kd.own_blk (Kd.R_ne HO_6.out BK222.out (by decide)) | (rw [add_block]; exact Kd.own_blk (Kd.R_ne HO_6.out BK222.out (by decide))) | (show (Addr.add _ _).block ≠ _; rw [add_block]; exact Kd.own_blk (Kd.R_ne HO_6.out BK222.out (by decide))) | (dsimp only; exact Kd.own_blk (Kd.R_ne HO_6.out BK222.out (by decide)))) _).trans (((cell_far (p := ⟨gb222, _, none⟩) (by first | exact Kd.own_blk (Kd.R_ne HO_6.out BK222.out (by decide)) | (rw [add_block]; exact Kd.own_blk (Kd.R_ne HO_6.out BK222.out (by decide))) | (show (Addr.add _ _).block ≠ _; rw [add_block]; exact Kd.own_blk (Kd.R_ne HO_6.out BK222.out (by decide))) | (dsimp only; exact Kd.own_blk (Kd.R_ne HO_6.out BK222.out (by decide)))) _).trans (((cell_far (p := ⟨gb222, _, none⟩) (by first | exact Kd.own_blk (Kd.R_ne HO_6.out BK222.out (by decide)) | (rw [add_block]; exact Kd.own_blk (Kd.R_ne HO_6.out BK222.out (by decide))) | (show (Addr.add _ _).block ≠ _; rw [add_block]; exact Kd.own_blk (Kd.R_ne HO_6.out BK222.out (by decide))) | (dsimp only; exact Kd.own_blk (Kd.R_ne HO_6.out BK222.out (by decide)))) _).trans (hHeld.2.2.2.1)))))), ((cell_far (p := ⟨gb222, _, none⟩) (by first | exact Kd.own_blk (Kd.R_ne HO_6.out BK222.out (by decide)) | (rw [add_block]; exact Kd.own_blk (Kd.R_ne HO_6.out BK222.out (by decide))) | (show (Addr.add _ _).block ≠ _; rw [add_block]; exact Kd.own_blk (Kd.R_ne HO_6.out BK222.out (by decide))) | (dsimp only; exact Kd.own_blk (Kd.R_ne HO_6.out BK222.out (by decide)))) _).trans (((cell_far (p := ⟨gb222, _, none⟩) (by first | exact Kd.own_blk (Kd.R_ne HO_6.out BK222.out (by decide)) | (rw [add_block]; exact Kd.own_blk (Kd.R_ne HO_6.out BK222.out (by decide))) | (show (Addr.add _ _).block ≠ _; rw [add_block]; exact Kd.own_blk (Kd.R_ne HO_6.out BK222.out (by decide))) | (dsimp only; exact Kd.own_blk (Kd.R_ne HO_6.out BK222.out (by decide)))) _).trans (((cell_far (p := ⟨gb222, _, none⟩) (by first | exact Kd.own_blk (Kd.R_ne HO_6.out BK222.out (by decide)) | (rw [add_block]; exact Kd.own_blk (Kd.R_ne HO_6.out BK222.out (by decide))) | (show (Addr.add _ _).block ≠ _; rw [add_block]; exact Kd.own_blk (Kd.R_ne HO_6.out BK222.out (by decide))) | (dsimp only; exact Kd.own_blk (Kd.R_ne HO_6.out BK222.out (by decide)))) _).trans (hHeld.2.2.2.2.1)))))), ((cell_far (p := ⟨gb222, _, none⟩) (by first | exact Kd.own_blk (Kd.R_ne HO_6.out BK222.out (by decide)) | (rw [add_block]; exact Kd.own_blk (Kd.R_ne HO_6.out BK222.out (by decide))) | (show (Addr.add _ _).block ≠ _; rw [add_block]; exact Kd.own_blk (Kd.R_ne HO_6.out BK222.out (by decide))) | (dsimp only; exact Kd.own_blk (Kd.R_ne HO_6.out BK222.out (by decide)))) _).trans (((cell_far (p := ⟨gb222, _, none⟩) (by first | exact Kd.own_blk (Kd.R_ne HO_6.out BK222.out (by decide)) | (rw [add_block]; exact Kd.own_blk (Kd.R_ne HO_6.out BK222.out (by decide))) | (show (Addr.add _ _).block ≠ _; rw [add_block]; exact Kd.own_blk (Kd.R_ne HO_6.out BK222.out (by decide))) | (dsimp only; exact Kd.own_blk (Kd.R_ne HO_6.out BK222.out (by decide)))) _).trans (((cell_far (p := ⟨gb222, _, none⟩) (by first | exact Kd.own_blk (Kd.R_ne HO_6.out BK222.out (by decide)) | (rw [add_block]; exact Kd.own_blk (Kd.R_ne HO_6.out BK222.out (by decide))) | (show (Addr.add _ _).block ≠ _; rw [add_block]; exact Kd.own_blk (Kd.R_ne HO_6.out BK222.out (by decide))) | (dsimp only; exact Kd.own_blk (Kd.R_ne HO_6.out BK222.out (by decide)))) _).trans (hHeld.2.2.2.2.2.1)))))), ((cell_far (p := ⟨gb222, _, none⟩) (by first | exact Kd.own_blk (Kd.R_ne HO_6.out BK222.out (by decide)) | (rw [add_block]; exact Kd.own_blk (Kd.R_ne HO_6.out BK222.out (by decide))) | (show (Addr.add _ _).block ≠ _; rw [add_block]; exact Kd.own_blk (Kd.R_ne HO_6.out BK222.out (by decide))) | (dsimp only; exact Kd.own_blk (Kd.R_ne HO_6.out BK222.out (by decide)))) _).trans (((cell_far (p := ⟨gb222, _, none⟩) (by first | exact Kd.own_blk (Kd.R_ne HO_6.out BK222.out (by decide)) | (rw [add_block]; exact Kd.own_blk (Kd.R_ne HO_6.out BK222.out (by decide))) | (show (Addr.add _ _).block ≠ _; rw [add_block]; exact Kd.own_blk (Kd.R_ne HO_6.out BK222.out (by decide))) | (dsimp only; exact Kd.own_blk (Kd.R_ne HO_6.out BK222.out (by decide)))) _).trans (((cell_far (p := ⟨gb222, _, none⟩) (by first | exact Kd.own_blk (Kd.R_ne HO_6.out BK222.out (by decide)) | (rw [add_block]; exact Kd.own_blk (Kd.R_ne HO_6.out BK222.out (by decide))) | (show (Addr.add _ _).block ≠ _; rw [add_block]; exact Kd.own_blk (Kd.R_ne HO_6.out BK222.out (by decide))) | (dsimp only; exact Kd.own_blk (Kd.R_ne HO_6.out BK222.out (by decide)))) _).trans (hHeld.2.2.2.2.2.2.1)))))), ((cell_far (p := ⟨gb222, _, none⟩) (by first | exact Kd.own_blk (Kd.R_ne HO_6.out BK222.out (by decide)) | (rw [add_block]; exact Kd.own_blk (Kd.R_ne HO_6.out BK222.out (by decide))) | (show (Addr.add _ _).block ≠ _; rw [add_block]; exact Kd.own_blk (Kd.R_ne HO_6.out BK222.out (by decide))) | (dsimp only; exact Kd.own_blk (Kd.R_ne HO_6.out BK222.out (by decide)))) _).trans (((cell_far (p := ⟨gb222, _, none⟩) (by first | exact Kd.own_blk (Kd.R_ne HO_6.out BK222.out (by decide)) | (rw [add_block]; exact Kd.own_blk (Kd.R_ne HO_6.out BK222.out (by decide))) | (show (Addr.add _ _).block ≠ _; rw [add_block]; exact Kd.own_blk (Kd.R_ne HO_6.out BK222.out (by decide))) | (dsimp only; exact Kd.own_blk (Kd.R_ne HO_6.out BK222.out (by decide)))) _).trans (((cell_far (p := ⟨gb222, _, none⟩) (by first | exact Kd.own_blk (Kd.R_ne HO_6.out BK222.out (by decide)) | (rw [add_block]; exact Kd.own_blk (Kd.R_ne HO_6.out BK222.out (by decide))) | (show (Addr.add _ _).block ≠ _; rw [add_block]; exact Kd.own_blk (Kd.R_ne HO_6.out BK222.out (by decide))) | (dsimp only; exact Kd.own_blk (Kd.R_ne HO_6.out BK222.out (by decide)))) _).trans (hHeld.2.2.2.2.2.2.2.1)))))), ((cell_far (p := ⟨gb222, _, none⟩) (by first | exact Kd.own_blk (Kd.R_ne HO_6.out BK222.out (by decide)) | (rw [add_block]; exact Kd.own_blk (Kd.R_ne HO_6.out BK222.out (by decide))) | (show (Addr.add _ _).block ≠ _; rw [add_block]; exact Kd.own_blk (Kd.R_ne HO_6.out BK222.out (by decide))) | (dsimp only; exact Kd.own_blk (Kd.R_ne HO_6.out BK222.out (by decide)))) _).trans (((cell_far (p := ⟨gb222, _, none⟩) (by first | exact Kd.own_blk (Kd.R_ne HO_6.out BK222.out (by decide)) | (rw [add_block]; exact Kd.own_blk (Kd.R_ne HO_6.out BK222.out (by decide))) | (show (Addr.add _ _).block ≠ _; rw [add_block]; exact Kd.own_blk (Kd.R_ne HO_6.out BK222.out (by decide))) | (dsimp only; exact Kd.own_blk (Kd.R_ne HO_6.out BK222.out (by decide)))) _).trans (((cell_far (p := ⟨gb222, _, none⟩) (by first | exact Kd.own_blk (Kd.R_ne HO_6.out BK222.out (by decide)) | (rw [add_block]; exact Kd.own_blk (Kd.R_ne HO_6.out BK222.out (by decide))) | (show (Addr.add _ _).block ≠ _; rw [add_block]; exact Kd.own_blk (Kd.R_ne HO_6.out BK222.out (by decide))) | (dsimp only; exact Kd.own_blk (Kd.R_ne HO_6.out BK222.out (by decide)))) _).trans (hHeld.2.2.2.2.2.2.2.2.1)))))), ((cell_far (p := ⟨gb222, _, none⟩) (by first | exact Kd.own_blk (Kd.R_ne HO_6.out BK222.out (by decide)) | (rw [add_block]; exact Kd.own_blk (Kd.R_ne HO_6.out BK222.out (by decide))) | (show (Addr.add _ _).block ≠ _; rw [add_block]; exact Kd.own_blk (Kd.R_ne HO_6.out BK222.out (by decide))) | (dsimp only; exact Kd.own_blk (Kd.R_ne HO_6.out BK222.out (by decide)))) _).trans (((cell_far (p := ⟨gb222, _, none⟩) (by first | exact Kd.own_blk (Kd.R_ne HO_6.out BK222.out (by decide)) | (rw [add_block]; exact Kd.own_blk (Kd.R_ne HO_6.out BK222.out (by decide))) | (show (Addr.add _ _).block ≠ _; rw [add_block]; exact Kd.own_blk (Kd.R_ne HO_6.out BK222.out (by decide))) | (dsimp only; exact Kd.own_blk (Kd.R_ne HO_6.out BK222.out (by decide)))) _).trans (((cell_far (p := ⟨gb222, _, none⟩) (by first | exact Kd.own_blk (Kd.R_ne HO_6.out BK222.out (by decide)) | (rw [add_block]; exact Kd.own_blk (Kd.R_ne HO_6.out BK222.out (by decide))) | (show (Addr.add _ _).block ≠ _; rw [add_block]; exact Kd.own_blk (Kd.R_ne HO_6.out BK222.out (by decide))) | (dsimp only; exact Kd.own_blk (Kd.R_ne HO_6.out BK222.out (by decide)))) _).trans (hHeld.2.2.2.2.2.2.2.2.2.1)))))), ((cell_far (p := ⟨gb222, _, none⟩) (by first | exact Kd.own_blk (Kd.R_ne HO_6.out BK222.out (by decide)) | (rw [add_block]; exact Kd.own_blk (Kd.R_ne HO_6.out BK222.out (by decide))) | (show (Addr.add _ _).block ≠ _; rw [add_block]; exact Kd.own_blk (Kd.R_ne HO_6.out BK222.out (by decide))) | (dsimp only; exact Kd.own_blk (Kd.R_ne HO_6.out BK222.out (by decide)))) _).trans (((cell_far (p := ⟨gb222, _, none⟩) (by first | exact Kd.own_blk (Kd.R_ne HO_6.out BK222.out (by decide)) | (rw [add_block]; exact Kd.own_blk (Kd.R_ne HO_6.out BK222.out (by decide))) | (show (Addr.add _ _).block ≠ _; rw [add_block]; exact Kd.own_blk (Kd.R_ne HO_6.out BK222.out (by decide))) | (dsimp only; exact Kd.own_blk (Kd.R_ne HO_6.out BK222.out (by decide)))) _).trans (((cell_far (p := ⟨gb222, _, none⟩) (by first | exact Kd.own_blk (Kd.R_ne HO_6.out BK222.out (by decide)) | (rw [add_block]; exact Kd.own_blk (Kd.R_ne HO_6.out BK222.out (by decide))) | (show (Addr.add _ _).block ≠ _; rw [add_block]; exact Kd.own_blk (Kd.R_ne HO_6.out BK222.out (by decide))) | (dsimp only; exact Kd.own_blk (Kd.R_ne HO_6.out BK222.out (by decide)))) _).trans (hHeld.2.2.2.2.2.2.2.2.2.2))))))⟩ (fun hHeld => ?_)
                          clear hK K
                          refine pure_ (i := 17) (N := some 11) (v := ?_) (a' := ?_) #[true, true, true, true, true, true, true, true, true, true, true, true, true, true, true, true, true, true] rfl rfl (any_of HT_.out (by kernel_rfl)) (fun _ _ _ h => h) (Or.inl ⟨by rfl, ?_⟩) ?_ ?_
                          rotate_left
                          · intro w'
                            go_simp
                            with_reducible rfl
                          rotate_left
                          · simp only [Act.put, List.setIfInBounds_toArray, List.set_cons_zero, List.set_cons_succ, i64_w, i32_w]
                            rfl
                          refine done_ (done_of HT_.out (by kernel_rfl)) ?_
                          try go_wp2
                          have n0_ : Aside0 (Kd.R k39 39 (((w29.setCell ⟨gb222, 0, none⟩ (.int .i64 t218)).setCell ⟨gb222, 1, none⟩ (.int .i64 t219)).setCell ⟨gb222, 2, none⟩ (.int .i64 t220)) w.heap.size (fun _ => True) (.slice (some ad216) t208.length co25) t208) := ⟨by (with_reducible repeat (first | apply Kd.R_alloc | apply Kd.R_drewN | apply Kd.R_drew)); exact Kd.R_mono (Kd.R_far (p := ⟨gb222, 2, none⟩) (Kd.R_far (p := ⟨gb222, 1, none⟩) (Kd.R_far (p := ⟨gb222, 0, none⟩) (Kd.R_types HO_6.out BK222.out (by decide)) (fun _ hk => hk.2) (.int .i64 t218)) (fun _ hk => hk.2) (.int .i64 t219)) (fun _ hk => hk.2) (.int .i64 t220)) (fun _ hk => trivial)⟩
                          have n1_ : Aside0 ((((w29.setCell ⟨gb222, 0, none⟩ (.int .i64 t218)).setCell ⟨gb222, 1, none⟩ (.int .i64 t219)).setCell ⟨gb222, 2, none⟩ (.int .i64 t220)).heap[gb213]? = some (.cells #[.int .i64 t205, .int .i64 t206, .int .i64 t207] 23 (0, 0))) := ⟨by (with_reducible repeat (first | refine blk_drewN ?_ _ | refine blk_drew ?_ | refine blk_alloc ?_ _)); refine blk_far ?_ NB213_222.out _; (with_reducible repeat (first | refine blk_drewN ?_ _ | refine blk_drew ?_ | refine blk_alloc ?_ _)); refine blk_far ?_ NB213_222.out _; (with_reducible repeat (first | refine blk_drewN ?_ _ | refine blk_drew ?_ | refine blk_alloc ?_ _)); refine blk_far ?_ NB213_222.out _; (with_reducible repeat (first | refine blk_drewN ?_ _ | refine blk_drew ?_ | refine blk_alloc ?_ _)); exact BK213.out⟩
                          have n2_ : Aside0 ((((w29.setCell ⟨gb222, 0, none⟩ (.int .i64 t218)).setCell ⟨gb222, 1, none⟩ (.int .i64 t219)).setCell ⟨gb222, 2, none⟩ (.int .i64 t220)).heap[gb222]? = some (.cells #[.int .i64 t218, .int .i64 t219, .int .i64 t220] 23 (0, 0))) := ⟨by (with_reducible repeat (first | refine blk_drewN ?_ _ | refine blk_drew ?_ | refine blk_alloc ?_ _)); refine blk_put (cs := #[.int .i64 t218, .int .i64 t219, .int .i64 0]) ?_ 2 _ rfl; (with_reducible repeat (first | refine blk_drewN ?_ _ | refine blk_drew ?_ | refine blk_alloc ?_ _)); refine blk_put (cs := #[.int .i64 t218, .int .i64 0, .int .i64 0]) ?_ 1 _ rfl; (with_reducible repeat (first | refine blk_drewN ?_ _ | refine blk_drew ?_ | refine blk_alloc ?_ _)); refine blk_put (cs := #[.int .i64 0, .int .i64 0, .int .i64 0]) ?_ 0 _ rfl; (with_reducible repeat (first | refine blk_drewN ?_ _ | refine blk_drew ?_ | refine blk_alloc ?_ _)); exact BK222.out⟩
                          have n3_ : Aside0 (Below w.heap.size w (((w29.setCell ⟨gb222, 0, none⟩ (.int .i64 t218)).setCell ⟨gb222, 1, none⟩ (.int .i64 t219)).setCell ⟨gb222, 2, none⟩ (.int .i64 t220))) := ⟨by repeat (first | (with_reducible first | exact HB.out | apply below_alloc | apply pw_below_drewN | apply below_drew1 | refine below_set ?_ GE213.out | refine below_set ?_ GE222.out) | exact HB.out)⟩
                          (try clear HO_6)
                          (try clear BK213)
                          (try clear BK222)
                          (try clear HB)
                          generalize (((w29.setCell ⟨gb222, 0, none⟩ (.int .i64 t218)).setCell ⟨gb222, 1, none⟩ (.int .i64 t219)).setCell ⟨gb222, 2, none⟩ (.int .i64 t220)) = w33 at n0_ n1_ n2_ n3_ ⊢
                          have HO_6 := n0_
                          have BK213 := n1_
                          have BK222 := n2_
                          have HB := n3_
                          clear n0_ n1_ n2_ n3_
                          have n0_ := Aside0.mk (Kd.R_drew HO_6.out)
                          have n1_ := Aside0.mk (blk_drew BK213.out)
                          have n2_ := Aside0.mk (blk_drew BK222.out)
                          have n3_ := Aside0.mk (below_drew1 HB.out)
                          clear HO_6
                          clear BK213
                          clear BK222
                          clear HB
                          have HO_6 := n0_
                          have BK213 := n1_
                          have BK222 := n2_
                          have HB := n3_
                          clear n0_ n1_ n2_ n3_
                          have p223 : 0 ≤ (x9_3 : Int) := of_decide_eq_true (by first | (with_reducible assumption) | assumption)
                          have q223 : x9_3 < (t208.length : Int) := of_decide_eq_true (by first | (with_reducible assumption) | assumption)
                          obtain ⟨ad223, e223, hx223_0, hx223_1, hx223_2, hx223_3⟩ := at_T39 (Kd.R_reads' HO_6.out).2.2 x9_3 p223 q223
                          obtain rfl : ad216 = ad223 := (by injection e223)
                          replace p223 := eq_true p223
                          replace q223 := eq_true q223
                          have p224 : 0 ≤ (x9_3 : Int) := of_decide_eq_true (by first | (with_reducible assumption) | assumption)
                          have q224 : x9_3 < (t208.length : Int) := of_decide_eq_true (by first | (with_reducible assumption) | assumption)
                          obtain ⟨ad224, e224, hx224_0, hx224_1, hx224_2, hx224_3⟩ := at_T39 (Kd.R_reads' HO_6.out).2.2 x9_3 p224 q224
                          obtain rfl : ad216 = ad224 := (by injection e224)
                          replace p224 := eq_true p224
                          replace q224 := eq_true q224
                          refine start_ (n := 18) (S := fun w' => w'.cell? ⟨gb213, 0, none⟩ = some (.int .i64 t205) ∧ w'.cell? ⟨gb213, 1, none⟩ = some (.int .i64 t206) ∧ w'.cell? ⟨gb213, 2, none⟩ = some (.int .i64 t207) ∧ w'.cell? (ad216.add ((x9_3).toNat * 4)) = some (.int .i64 ((rd_T39 t208 x9_3).f0)) ∧ w'.cell? ⟨(ad216.add ((x9_3).toNat * 4)).block, (ad216.add ((x9_3).toNat * 4)).off + 1, none⟩ = some (.bool ((rd_T39 t208 x9_3).f1)) ∧ w'.cell? ⟨(ad216.add ((x9_3).toNat * 4)).block, (ad216.add ((x9_3).toNat * 4)).off + 2, none⟩ = some (.int .i64 ((rd_T39 t208 x9_3).f2)) ∧ w'.cell? ⟨(ad216.add ((x9_3).toNat * 4)).block, (ad216.add ((x9_3).toNat * 4)).off + 3, none⟩ = some (.int .i64 ((rd_T39 t208 x9_3).f3)) ∧ w'.cell? (ad216.add ((x9_3).toNat * 4)) = some (.int .i64 ((rd_T39 t208 x9_3).f0)) ∧ w'.cell? ⟨(ad216.add ((x9_3).toNat * 4)).block, (ad216.add ((x9_3).toNat * 4)).off + 1, none⟩ = some (.bool ((rd_T39 t208 x9_3).f1)) ∧ w'.cell? ⟨(ad216.add ((x9_3).toNat * 4)).block, (ad216.add ((x9_3).toNat * 4)).off + 2, none⟩ = some (.int .i64 ((rd_T39 t208 x9_3).f2)) ∧ w'.cell? ⟨(ad216.add ((x9_3).toNat * 4)).block, (ad216.add ((x9_3).toNat * 4)).off + 3, none⟩ = some (.int .i64 ((rd_T39 t208 x9_3).f3))) (ds := []) #[false, false, false, false, false, false, false, false, false, false, false, false, false, false, false, false, false, false] (by kernel_rfl) rfl rfl ⟨(blk_cell BK213.out 0).trans rfl, (blk_cell BK213.out 1).trans rfl, (blk_cell BK213.out 2).trans rfl, hx223_0, hx223_1, hx223_2, hx223_3, hx224_0, hx224_1, hx224_2, hx224_3⟩ (fun hHeld => ?_); refine with_tabW ententelaw05_PotPending.tab10 ententelaw05_PotPending.bits10 (fun HT_ HW_ => ?_)
                          generalize w33.drew = w34 at HO_6 BK213 BK222 HB hx223_0 hx223_1 hx223_2 hx223_3 hx224_0 hx224_1 hx224_2 hx224_3 hHeld ⊢
                          refine pure_ (i := 1) (N := some 64) (v := ?_) (a' := ?_) #[false, true, false, false, false, false, false, false, false, false, false, false, false, false, false, false, false, false] rfl rfl (any_of HT_.out (by kernel_rfl)) (fun _ _ _ h => h) (Or.inl ⟨by rfl, ?_⟩) ?_ ?_
                          rotate_left
                          · intro w'
                            go_simp
                            with_reducible rfl
                          rotate_left
                          · simp only [Act.put, List.setIfInBounds_toArray, List.set_cons_zero, List.set_cons_succ, i64_w, i32_w]
                            rfl
                          refine pure_ (i := 2) (N := some 65) (v := ?_) (a' := ?_) #[false, true, true, false, false, false, false, false, false, false, false, false, false, false, false, false, false, false] rfl rfl (any_of HT_.out (by kernel_rfl)) (fun _ _ _ h => h) (Or.inl ⟨by rfl, ?_⟩) ?_ ?_
                          rotate_left
                          · intro w'
                            go_simp
                            with_reducible rfl
                          rotate_left
                          · simp only [Act.put, List.setIfInBounds_toArray, List.set_cons_zero, List.set_cons_succ, i64_w, i32_w]
                            rfl
                          refine pure_ (i := 3) (N := some 66) (v := ?_) (a' := ?_) #[false, true, true, true, false, false, false, false, false, false, false, false, false, false, false, false, false, false] rfl rfl (any_of HT_.out (by kernel_rfl)) (fun _ _ _ h => h) (Or.inl ⟨by rfl, ?_⟩) ?_ ?_
                          rotate_left
                          · intro w'
                            go_simp
                            with_reducible rfl
                          rotate_left
                          · simp only [Act.put, List.setIfInBounds_toArray, List.set_cons_zero, List.set_cons_succ, i64_w, i32_w]
                            rfl
                          refine pure_ (i := 4) (N := some 67) (v := ?_) (a' := ?_) #[false, true, true, true, true, false, false, false, false, false, false, false, false, false, false, false, false, false] rfl rfl (any_of HT_.out (by kernel_rfl)) (fun _ _ _ h => h) (Or.inl ⟨by rfl, ?_⟩) ?_ ?_
                          rotate_left
                          · intro w'
                            go_simp
                            with_reducible rfl
                          rotate_left
                          · simp only [Act.put, List.setIfInBounds_toArray, List.set_cons_zero, List.set_cons_succ, i64_w, i32_w]
                            rfl
                          refine pure_ (i := 6) (N := some 69) (v := ?_) (a' := ?_) #[false, true, true, true, true, false, true, false, false, false, false, false, false, false, false, false, false, false] rfl rfl (any_of HT_.out (by kernel_rfl)) (fun _ _ _ h => h) (Or.inl ⟨by rfl, ?_⟩) ?_ ?_
                          rotate_left
                          · intro w'
                            go_simp
                            with_reducible rfl
                          rotate_left
                          · simp only [Act.put, List.setIfInBounds_toArray, List.set_cons_zero, List.set_cons_succ, i64_w, i32_w]
                            rfl
                          refine pure_ (i := 7) (N := some 70) (v := ?_) (a' := ?_) #[false, true, true, true, true, false, true, true, false, false, false, false, false, false, false, false, false, false] rfl rfl (any_of HT_.out (by kernel_rfl)) (fun _ _ _ h => h) (Or.inl ⟨by rfl, ?_⟩) ?_ ?_
                          rotate_left
                          · intro w'
                            go_simp
                            with_reducible rfl
                          rotate_left
                          · simp only [Act.put, List.setIfInBounds_toArray, List.set_cons_zero, List.set_cons_succ, i64_w, i32_w]
                            rfl
                          refine pure_ (i := 8) (N := some 71) (v := ?_) (a' := ?_) #[false, true, true, true, true, false, true, true, true, false, false, false, false, false, false, false, false, false] rfl rfl (any_of HT_.out (by kernel_rfl)) (fun _ _ _ h => h) (Or.inl ⟨by rfl, ?_⟩) ?_ ?_
                          rotate_left
                          · intro w'
                            go_simp
                            with_reducible rfl
                          rotate_left
                          · simp only [Act.put, List.setIfInBounds_toArray, List.set_cons_zero, List.set_cons_succ, i64_w, i32_w]
                            rfl
                          refine pure_ (i := 9) (N := some 72) (v := ?_) (a' := ?_) #[false, true, true, true, true, false, true, true, true, true, false, false, false, false, false, false, false, false] rfl rfl (any_of HT_.out (by kernel_rfl)) (fun _ _ _ h => h) (Or.inl ⟨by rfl, ?_⟩) ?_ ?_
                          rotate_left
                          · intro w'
                            go_simp
                            with_reducible rfl
                          rotate_left
                          · simp only [Act.put, List.setIfInBounds_toArray, List.set_cons_zero, List.set_cons_succ, i64_w, i32_w]
                            rfl
                          refine take_ (i := 0) (N := some 63) (v := ?_) (a' := ?_) #[true, true, true, true, true, false, true, true, true, true, false, false, false, false, false, false, false, false] rfl rfl (take_ofW HT_.out HW_.out (by kernel_rfl)) (fun _ _ _ h => h) (Or.inl ⟨by rfl, ?_⟩) hHeld ?_ ?_
                          rotate_left
                          · rintro w' ⟨s0, s1, s2, s3, s4, s5, s6, s7, s8, s9, s10⟩
                            go_simp
                            with_reducible rfl
                          rotate_left
                          · simp only [Act.put, List.setIfInBounds_toArray, List.set_cons_zero, List.set_cons_succ, i64_w, i32_w]
                            rfl
                          refine take_ (i := 5) (N := some 68) (v := ?_) (a' := ?_) #[true, true, true, true, true, true, true, true, true, true, false, false, false, false, false, false, false, false] rfl rfl (take_ofW HT_.out HW_.out (by kernel_rfl)) (fun _ _ _ h => h) (Or.inl ⟨by rfl, ?_⟩) hHeld ?_ ?_
                          rotate_left
                          · rintro w' ⟨s0, s1, s2, s3, s4, s5, s6, s7, s8, s9, s10⟩
                            go_simp
                            with_reducible rfl
                          rotate_left
                          · simp only [Act.put, List.setIfInBounds_toArray, List.set_cons_zero, List.set_cons_succ, i64_w, i32_w]
                            rfl
                          refine take_ (i := 10) (N := some 73) (v := ?_) (a' := ?_) #[true, true, true, true, true, true, true, true, true, true, true, false, false, false, false, false, false, false] rfl rfl (take_ofW HT_.out HW_.out (by kernel_rfl)) (fun _ _ _ h => h) (Or.inl ⟨by rfl, ?_⟩) hHeld ?_ ?_
                          rotate_left
                          · rintro w' ⟨s0, s1, s2, s3, s4, s5, s6, s7, s8, s9, s10⟩
                            go_simp
                            with_reducible rfl
                          rotate_left
                          · simp only [Act.put, List.setIfInBounds_toArray, List.set_cons_zero, List.set_cons_succ, i64_w, i32_w]
                            rfl
                          refine join_ (σ := Nat) 2 #[true, true, true, true, true, true, true, true, true, true, true, true, true, true, true, true, false, false] (fun s_ => [(74, .tuple #[.agg #[.int .i64 t225, .int .i64 t226, .int .i64 t227], .int .i64 t228]), (12, .pointer (some ⟨s_, 0, none⟩)), (62, .tuple #[.agg #[.int .i64 t225, .int .i64 t226, .int .i64 t227], .int .i64 t228]), (75, .agg #[.int .i64 t225, .int .i64 t226, .int .i64 t227]), (76, .int .i64 t228)]) (fun s_ w' => (w'.cell? ⟨gb213, 0, none⟩ = some (.int .i64 t205) ∧ w'.cell? ⟨gb213, 1, none⟩ = some (.int .i64 t206) ∧ w'.cell? ⟨gb213, 2, none⟩ = some (.int .i64 t207) ∧ w'.cell? (ad216.add ((x9_3).toNat * 4)) = some (.int .i64 ((rd_T39 t208 x9_3).f0)) ∧ w'.cell? ⟨(ad216.add ((x9_3).toNat * 4)).block, (ad216.add ((x9_3).toNat * 4)).off + 1, none⟩ = some (.bool ((rd_T39 t208 x9_3).f1)) ∧ w'.cell? ⟨(ad216.add ((x9_3).toNat * 4)).block, (ad216.add ((x9_3).toNat * 4)).off + 2, none⟩ = some (.int .i64 ((rd_T39 t208 x9_3).f2)) ∧ w'.cell? ⟨(ad216.add ((x9_3).toNat * 4)).block, (ad216.add ((x9_3).toNat * 4)).off + 3, none⟩ = some (.int .i64 ((rd_T39 t208 x9_3).f3)) ∧ w'.cell? (ad216.add ((x9_3).toNat * 4)) = some (.int .i64 ((rd_T39 t208 x9_3).f0)) ∧ w'.cell? ⟨(ad216.add ((x9_3).toNat * 4)).block, (ad216.add ((x9_3).toNat * 4)).off + 1, none⟩ = some (.bool ((rd_T39 t208 x9_3).f1)) ∧ w'.cell? ⟨(ad216.add ((x9_3).toNat * 4)).block, (ad216.add ((x9_3).toNat * 4)).off + 2, none⟩ = some (.int .i64 ((rd_T39 t208 x9_3).f2)) ∧ w'.cell? ⟨(ad216.add ((x9_3).toNat * 4)).block, (ad216.add ((x9_3).toNat * 4)).off + 3, none⟩ = some (.int .i64 ((rd_T39 t208 x9_3).f3))) ∧ (Kd.R k39 39 w' w.heap.size (fun _ => True) (.slice (some ad216) t208.length co25) t208) ∧ (w'.heap[gb213]? = some (.cells #[.int .i64 t205, .int .i64 t206, .int .i64 t207] 23 (0, 0))) ∧ (w'.heap[gb222]? = some (.cells #[.int .i64 t218, .int .i64 t219, .int .i64 t220] 23 (0, 0))) ∧ (w'.heap[s_]? = some (.cells #[.int .i64 0, .int .i64 0, .int .i64 0] 23 (0, 0))) ∧ (w.heap.size ≤ s_) ∧ (w.heap.size ≤ s_) ∧ (gb213 ≠ s_) ∧ (s_ ≠ gb213) ∧ (gb222 ≠ s_) ∧ (s_ ≠ gb222) ∧ (Below w.heap.size w w')) ?_ ?_
                          rotate_left
                          · intro hCont
                            refine two_ (i := 11) (j := 15) (Ni := some 74) (Nj := some 12) #[true, true, true, true, true, true, true, true, true, true, true, true, false, false, false, false, false, false] #[true, true, true, true, true, true, true, true, true, true, true, false, false, false, false, true, false, false] rfl rfl rfl rfl (two_of HT_.out (by kernel_rfl)) (by decide) (by decide) (fun K hK => ?_) (fun K hK => ?_)
                            · skip
                              refine goes_ Try.func20 (by kernel_rfl) rfl #[.agg #[.int .i64 t205, .int .i64 t206, .int .i64 t207], .bool ((rd_T39 t208 x9_3).f1), .int .i64 ((rd_T39 t208 x9_3).f2)] (by rfl) rfl rfl (by (try simp only [List.map_toArray, List.map_cons, List.map_nil]); first | done | rfl | (simp only [List.length_drop, List.length_take]; rfl)) ?_
                              with_reducible refine (pot_Keep.calls k3 t205 t206 t207 ((rd_T39 t208 x9_3).f1) ((rd_T39 t208 x9_3).f2) t225 t226 t227 t228 _ A22.out).mono ?_
                              rintro e w35 ⟨rfl, hb⟩
                              have HS3_ := (hb.cell (World.block_lt_of_cell? _ _ (hHeld.2.2.2.1))).trans (hHeld.2.2.2.1)
                              have HS4_ := (hb.cell (World.block_lt_of_cell? _ _ (hHeld.2.2.2.2.1))).trans (hHeld.2.2.2.2.1)
                              have HS5_ := (hb.cell (World.block_lt_of_cell? _ _ (hHeld.2.2.2.2.2.1))).trans (hHeld.2.2.2.2.2.1)
                              have HS6_ := (hb.cell (World.block_lt_of_cell? _ _ (hHeld.2.2.2.2.2.2.1))).trans (hHeld.2.2.2.2.2.2.1)
                              have HS7_ := (hb.cell (World.block_lt_of_cell? _ _ (hHeld.2.2.2.2.2.2.2.1))).trans (hHeld.2.2.2.2.2.2.2.1)
                              have HS8_ := (hb.cell (World.block_lt_of_cell? _ _ (hHeld.2.2.2.2.2.2.2.2.1))).trans (hHeld.2.2.2.2.2.2.2.2.1)
                              have HS9_ := (hb.cell (World.block_lt_of_cell? _ _ (hHeld.2.2.2.2.2.2.2.2.2.1))).trans (hHeld.2.2.2.2.2.2.2.2.2.1)
                              have HS10_ := (hb.cell (World.block_lt_of_cell? _ _ (hHeld.2.2.2.2.2.2.2.2.2.2))).trans (hHeld.2.2.2.2.2.2.2.2.2.2)
                              refine ⟨_, rfl, ?_⟩
                              have n0_ := Aside0.mk (Kd.R_below (by (with_reducible repeat (first | apply Kd.R_alloc | apply Kd.R_drewN | apply Kd.R_drew)); exact HO_6.out) hb)
                              have n1_ := Aside0.mk (blk_below (g := gb213) (o := .cells #[.int .i64 t205, .int .i64 t206, .int .i64 t207] 23 (0, 0)) (by (with_reducible repeat (first | refine blk_drewN ?_ _ | refine blk_drew ?_ | refine blk_alloc ?_ _)); exact BK213.out) hb)
                              have n2_ := Aside0.mk (blk_below (g := gb222) (o := .cells #[.int .i64 t218, .int .i64 t219, .int .i64 t220] 23 (0, 0)) (by (with_reducible repeat (first | refine blk_drewN ?_ _ | refine blk_drew ?_ | refine blk_alloc ?_ _)); exact BK222.out) hb)
                              have n3_ := Aside0.mk (below_step (by repeat (first | (with_reducible first | exact HB.out | apply below_alloc | apply pw_below_drewN | apply below_drew1 | refine below_set ?_ GE213.out | refine below_set ?_ GE222.out) | exact HB.out)) hb)
                              clear HO_6
                              clear BK213
                              clear BK222
                              clear HB
                              have HO_6 := n0_
                              have BK213 := n1_
                              have BK222 := n2_
                              have HB := n3_
                              clear n0_ n1_ n2_ n3_
                              (try clear hb)
                              (try clear hb2)
                              (try clear hk)
                              (try clear hi)
                              refine hK.out _ _ ⟨(blk_cell BK213.out 0).trans rfl, (blk_cell BK213.out 1).trans rfl, (blk_cell BK213.out 2).trans rfl, HS3_, HS4_, HS5_, HS6_, HS7_, HS8_, HS9_, HS10_⟩ (fun hHeld => ?_)
                              clear hK K
                              refine norm_ (a' := ?_) ?_ ?_
                              rotate_left
                              · show Act.put _ (some 74) _ = _
                                simp only [Act.put, List.setIfInBounds_toArray, List.set_cons_zero, List.set_cons_succ, i64_w, i32_w]
                                rfl
                              refine pure_ (i := 12) (N := some 62) (v := ?_) (a' := ?_) #[true, true, true, true, true, true, true, true, true, true, true, true, true, false, false, false, false, false] rfl rfl (any_of HT_.out (by kernel_rfl)) (fun _ _ _ h => h) (Or.inl ⟨by rfl, ?_⟩) ?_ ?_
                              rotate_left
                              · intro w'
                                go_simp
                                with_reducible rfl
                              rotate_left
                              · simp only [Act.put, List.setIfInBounds_toArray, List.set_cons_zero, List.set_cons_succ, i64_w, i32_w]
                                rfl
                              refine pure_ (i := 13) (N := some 75) (v := ?_) (a' := ?_) #[true, true, true, true, true, true, true, true, true, true, true, true, true, true, false, false, false, false] rfl rfl (any_of HT_.out (by kernel_rfl)) (fun _ _ _ h => h) (Or.inl ⟨by rfl, ?_⟩) ?_ ?_
                              rotate_left
                              · intro w'
                                go_simp
                                with_reducible rfl
                              rotate_left
                              · simp only [Act.put, List.setIfInBounds_toArray, List.set_cons_zero, List.set_cons_succ, i64_w, i32_w]
                                rfl
                              refine pure_ (i := 14) (N := some 76) (v := ?_) (a' := ?_) #[true, true, true, true, true, true, true, true, true, true, true, true, true, true, true, false, false, false] rfl rfl (any_of HT_.out (by kernel_rfl)) (fun _ _ _ h => h) (Or.inl ⟨by rfl, ?_⟩) ?_ ?_
                              rotate_left
                              · intro w'
                                go_simp
                                with_reducible rfl
                              rotate_left
                              · simp only [Act.put, List.setIfInBounds_toArray, List.set_cons_zero, List.set_cons_succ, i64_w, i32_w]
                                rfl
                              refine one_ (i := 15) (N := some 12) #[true, true, true, true, true, true, true, true, true, true, true, true, true, true, true, true, false, false] rfl rfl (one_of HT_.out (by kernel_rfl)) (by decide) (fun K hK => ?_)
                              refine box_step ?hg (N := 12) ?hd (cs := #[.int .i64 0, .int .i64 0, .int .i64 0]) (t := 23) ?hr ?_; (case hd => rfl); (case hg => rfl); (case hr => first | (go_simp; done) | (go_simp; rfl))
                              intro gb229 hg w36 hbox hb
                              have HS3_ := (hb.cell (World.block_lt_of_cell? _ _ (hHeld.2.2.2.1))).trans (hHeld.2.2.2.1)
                              have HS4_ := (hb.cell (World.block_lt_of_cell? _ _ (hHeld.2.2.2.2.1))).trans (hHeld.2.2.2.2.1)
                              have HS5_ := (hb.cell (World.block_lt_of_cell? _ _ (hHeld.2.2.2.2.2.1))).trans (hHeld.2.2.2.2.2.1)
                              have HS6_ := (hb.cell (World.block_lt_of_cell? _ _ (hHeld.2.2.2.2.2.2.1))).trans (hHeld.2.2.2.2.2.2.1)
                              have HS7_ := (hb.cell (World.block_lt_of_cell? _ _ (hHeld.2.2.2.2.2.2.2.1))).trans (hHeld.2.2.2.2.2.2.2.1)
                              have HS8_ := (hb.cell (World.block_lt_of_cell? _ _ (hHeld.2.2.2.2.2.2.2.2.1))).trans (hHeld.2.2.2.2.2.2.2.2.1)
                              have HS9_ := (hb.cell (World.block_lt_of_cell? _ _ (hHeld.2.2.2.2.2.2.2.2.2.1))).trans (hHeld.2.2.2.2.2.2.2.2.2.1)
                              have HS10_ := (hb.cell (World.block_lt_of_cell? _ _ (hHeld.2.2.2.2.2.2.2.2.2.2))).trans (hHeld.2.2.2.2.2.2.2.2.2.2)
                              have n0_ := Aside0.mk (Kd.R_below (by (with_reducible repeat (first | apply Kd.R_alloc | apply Kd.R_drewN | apply Kd.R_drew)); exact HO_6.out) hb)
                              have n1_ := Aside0.mk (blk_below (g := gb213) (o := .cells #[.int .i64 t205, .int .i64 t206, .int .i64 t207] 23 (0, 0)) (by (with_reducible repeat (first | refine blk_drewN ?_ _ | refine blk_drew ?_ | refine blk_alloc ?_ _)); exact BK213.out) hb)
                              have n2_ := Aside0.mk (blk_below (g := gb222) (o := .cells #[.int .i64 t218, .int .i64 t219, .int .i64 t220] 23 (0, 0)) (by (with_reducible repeat (first | refine blk_drewN ?_ _ | refine blk_drew ?_ | refine blk_alloc ?_ _)); exact BK222.out) hb)
                              have n3_ := Aside0.mk (below_step (by repeat (first | (with_reducible first | exact HB.out | apply below_alloc | apply pw_below_drewN | apply below_drew1 | refine below_set ?_ GE213.out | refine below_set ?_ GE222.out) | exact HB.out)) hb)
                              have n4_ := Aside0.mk (hbox)
                              have n5_ := Aside0.mk ((by rw [hg]; exact (below_size (by repeat (first | (with_reducible first | exact HB.out | apply below_alloc | apply pw_below_drewN | apply below_drew1 | refine below_set ?_ GE213.out | refine below_set ?_ GE222.out) | exact HB.out))) : w.heap.size ≤ gb229))
                              have n6_ := Aside0.mk ((by rw [hg]; exact (below_size (by repeat (first | (with_reducible first | exact HB.out | apply below_alloc | apply pw_below_drewN | apply below_drew1 | refine below_set ?_ GE213.out | refine below_set ?_ GE222.out) | exact HB.out))) : w.heap.size ≤ gb229))
                              have n7_ := Aside0.mk ((by rw [hg]; exact Nat.ne_of_lt (blk_lt (g := gb213) (o := .cells #[.int .i64 t205, .int .i64 t206, .int .i64 t207] 23 (0, 0)) (by (with_reducible repeat (first | refine blk_drewN ?_ _ | refine blk_drew ?_ | refine blk_alloc ?_ _)); exact BK213.out)) : gb213 ≠ gb229))
                              have n8_ := Aside0.mk ((by rw [hg]; exact Nat.ne_of_gt (blk_lt (g := gb213) (o := .cells #[.int .i64 t205, .int .i64 t206, .int .i64 t207] 23 (0, 0)) (by (with_reducible repeat (first | refine blk_drewN ?_ _ | refine blk_drew ?_ | refine blk_alloc ?_ _)); exact BK213.out)) : gb229 ≠ gb213))
                              have n9_ := Aside0.mk ((by rw [hg]; exact Nat.ne_of_lt (blk_lt (g := gb222) (o := .cells #[.int .i64 t218, .int .i64 t219, .int .i64 t220] 23 (0, 0)) (by (with_reducible repeat (first | refine blk_drewN ?_ _ | refine blk_drew ?_ | refine blk_alloc ?_ _)); exact BK222.out)) : gb222 ≠ gb229))
                              have n10_ := Aside0.mk ((by rw [hg]; exact Nat.ne_of_gt (blk_lt (g := gb222) (o := .cells #[.int .i64 t218, .int .i64 t219, .int .i64 t220] 23 (0, 0)) (by (with_reducible repeat (first | refine blk_drewN ?_ _ | refine blk_drew ?_ | refine blk_alloc ?_ _)); exact BK222.out)) : gb229 ≠ gb222))
                              clear HO_6
                              clear BK213
                              clear BK222
                              clear HB
                              have HO_6 := n0_
                              have BK213 := n1_
                              have BK222 := n2_
                              have HB := n3_
                              have BK229 := n4_
                              have GW229 := n5_
                              have GE229 := n6_
                              have NB213_229 := n7_
                              have NB229_213 := n8_
                              have NB222_229 := n9_
                              have NB229_222 := n10_
                              clear n0_ n1_ n2_ n3_ n4_ n5_ n6_ n7_ n8_ n9_ n10_
                              clear hb hbox hg
                              refine hK.out _ _ ⟨(blk_cell BK213.out 0).trans rfl, (blk_cell BK213.out 1).trans rfl, (blk_cell BK213.out 2).trans rfl, HS3_, HS4_, HS5_, HS6_, HS7_, HS8_, HS9_, HS10_⟩ (fun hHeld => ?_)
                              clear hK K
                              refine norm_ (a' := ?_) ?_ ?_
                              rotate_left
                              · show Act.put _ (some 12) _ = _
                                simp only [Act.put, List.setIfInBounds_toArray, List.set_cons_zero, List.set_cons_succ, i64_w, i32_w]
                                rfl
                              exact norm_ (by simp only [putAll, Act.put, List.setIfInBounds_toArray, List.set_cons_zero, List.set_cons_succ]) (hCont (gb229) _ ⟨hHeld, (by (with_reducible repeat (first | apply Kd.R_alloc | apply Kd.R_drewN | apply Kd.R_drew)); exact HO_6.out), (by (with_reducible repeat (first | refine blk_drewN ?_ _ | refine blk_drew ?_ | refine blk_alloc ?_ _)); exact BK213.out), (by (with_reducible repeat (first | refine blk_drewN ?_ _ | refine blk_drew ?_ | refine blk_alloc ?_ _)); exact BK222.out), (by (with_reducible repeat (first | refine blk_drewN ?_ _ | refine blk_drew ?_ | refine blk_alloc ?_ _)); exact BK229.out), GW229.out, GE229.out, NB213_229.out, NB229_213.out, NB222_229.out, NB229_222.out, (by repeat (first | (with_reducible first | exact HB.out | apply below_alloc | apply pw_below_drewN | apply below_drew1 | refine below_set ?_ GE213.out | refine below_set ?_ GE222.out | refine below_set ?_ GE229.out) | exact HB.out))⟩)
                            · skip
                              refine box_step ?hg (N := 12) ?hd (cs := #[.int .i64 0, .int .i64 0, .int .i64 0]) (t := 23) ?hr ?_; (case hd => rfl); (case hg => rfl); (case hr => first | (go_simp; done) | (go_simp; rfl))
                              intro gb229 hg w35 hbox hb
                              have HS3_ := (hb.cell (World.block_lt_of_cell? _ _ (hHeld.2.2.2.1))).trans (hHeld.2.2.2.1)
                              have HS4_ := (hb.cell (World.block_lt_of_cell? _ _ (hHeld.2.2.2.2.1))).trans (hHeld.2.2.2.2.1)
                              have HS5_ := (hb.cell (World.block_lt_of_cell? _ _ (hHeld.2.2.2.2.2.1))).trans (hHeld.2.2.2.2.2.1)
                              have HS6_ := (hb.cell (World.block_lt_of_cell? _ _ (hHeld.2.2.2.2.2.2.1))).trans (hHeld.2.2.2.2.2.2.1)
                              have HS7_ := (hb.cell (World.block_lt_of_cell? _ _ (hHeld.2.2.2.2.2.2.2.1))).trans (hHeld.2.2.2.2.2.2.2.1)
                              have HS8_ := (hb.cell (World.block_lt_of_cell? _ _ (hHeld.2.2.2.2.2.2.2.2.1))).trans (hHeld.2.2.2.2.2.2.2.2.1)
                              have HS9_ := (hb.cell (World.block_lt_of_cell? _ _ (hHeld.2.2.2.2.2.2.2.2.2.1))).trans (hHeld.2.2.2.2.2.2.2.2.2.1)
                              have HS10_ := (hb.cell (World.block_lt_of_cell? _ _ (hHeld.2.2.2.2.2.2.2.2.2.2))).trans (hHeld.2.2.2.2.2.2.2.2.2.2)
                              have n0_ := Aside0.mk (Kd.R_below (by (with_reducible repeat (first | apply Kd.R_alloc | apply Kd.R_drewN | apply Kd.R_drew)); exact HO_6.out) hb)
                              have n1_ := Aside0.mk (blk_below (g := gb213) (o := .cells #[.int .i64 t205, .int .i64 t206, .int .i64 t207] 23 (0, 0)) (by (with_reducible repeat (first | refine blk_drewN ?_ _ | refine blk_drew ?_ | refine blk_alloc ?_ _)); exact BK213.out) hb)
                              have n2_ := Aside0.mk (blk_below (g := gb222) (o := .cells #[.int .i64 t218, .int .i64 t219, .int .i64 t220] 23 (0, 0)) (by (with_reducible repeat (first | refine blk_drewN ?_ _ | refine blk_drew ?_ | refine blk_alloc ?_ _)); exact BK222.out) hb)
                              have n3_ := Aside0.mk (below_step (by repeat (first | (with_reducible first | exact HB.out | apply below_alloc | apply pw_below_drewN | apply below_drew1 | refine below_set ?_ GE213.out | refine below_set ?_ GE222.out) | exact HB.out)) hb)
                              have n4_ := Aside0.mk (hbox)
                              have n5_ := Aside0.mk ((by rw [hg]; exact (below_size (by repeat (first | (with_reducible first | exact HB.out | apply below_alloc | apply pw_below_drewN | apply below_drew1 | refine below_set ?_ GE213.out | refine below_set ?_ GE222.out) | exact HB.out))) : w.heap.size ≤ gb229))
                              have n6_ := Aside0.mk ((by rw [hg]; exact (below_size (by repeat (first | (with_reducible first | exact HB.out | apply below_alloc | apply pw_below_drewN | apply below_drew1 | refine below_set ?_ GE213.out | refine below_set ?_ GE222.out) | exact HB.out))) : w.heap.size ≤ gb229))
                              have n7_ := Aside0.mk ((by rw [hg]; exact Nat.ne_of_lt (blk_lt (g := gb213) (o := .cells #[.int .i64 t205, .int .i64 t206, .int .i64 t207] 23 (0, 0)) (by (with_reducible repeat (first | refine blk_drewN ?_ _ | refine blk_drew ?_ | refine blk_alloc ?_ _)); exact BK213.out)) : gb213 ≠ gb229))
                              have n8_ := Aside0.mk ((by rw [hg]; exact Nat.ne_of_gt (blk_lt (g := gb213) (o := .cells #[.int .i64 t205, .int .i64 t206, .int .i64 t207] 23 (0, 0)) (by (with_reducible repeat (first | refine blk_drewN ?_ _ | refine blk_drew ?_ | refine blk_alloc ?_ _)); exact BK213.out)) : gb229 ≠ gb213))
                              have n9_ := Aside0.mk ((by rw [hg]; exact Nat.ne_of_lt (blk_lt (g := gb222) (o := .cells #[.int .i64 t218, .int .i64 t219, .int .i64 t220] 23 (0, 0)) (by (with_reducible repeat (first | refine blk_drewN ?_ _ | refine blk_drew ?_ | refine blk_alloc ?_ _)); exact BK222.out)) : gb222 ≠ gb229))
                              have n10_ := Aside0.mk ((by rw [hg]; exact Nat.ne_of_gt (blk_lt (g := gb222) (o := .cells #[.int .i64 t218, .int .i64 t219, .int .i64 t220] 23 (0, 0)) (by (with_reducible repeat (first | refine blk_drewN ?_ _ | refine blk_drew ?_ | refine blk_alloc ?_ _)); exact BK222.out)) : gb229 ≠ gb222))
                              clear HO_6
                              clear BK213
                              clear BK222
                              clear HB
                              have HO_6 := n0_
                              have BK213 := n1_
                              have BK222 := n2_
                              have HB := n3_
                              have BK229 := n4_
                              have GW229 := n5_
                              have GE229 := n6_
                              have NB213_229 := n7_
                              have NB229_213 := n8_
                              have NB222_229 := n9_
                              have NB229_222 := n10_
                              clear n0_ n1_ n2_ n3_ n4_ n5_ n6_ n7_ n8_ n9_ n10_
                              clear hb hbox hg
                              refine hK.out _ _ ⟨(blk_cell BK213.out 0).trans rfl, (blk_cell BK213.out 1).trans rfl, (blk_cell BK213.out 2).trans rfl, HS3_, HS4_, HS5_, HS6_, HS7_, HS8_, HS9_, HS10_⟩ (fun hHeld => ?_)
                              clear hK K
                              refine norm_ (a' := ?_) ?_ ?_
                              rotate_left
                              · show Act.put _ (some 12) _ = _
                                simp only [Act.put, List.setIfInBounds_toArray, List.set_cons_zero, List.set_cons_succ, i64_w, i32_w]
                                rfl
                              refine one_ (i := 11) (N := some 74) #[true, true, true, true, true, true, true, true, true, true, true, true, false, false, false, true, false, false] rfl rfl (one_of HT_.out (by kernel_rfl)) (by decide) (fun K hK => ?_)
                              refine goes_ Try.func20 (by kernel_rfl) rfl #[.agg #[.int .i64 t205, .int .i64 t206, .int .i64 t207], .bool ((rd_T39 t208 x9_3).f1), .int .i64 ((rd_T39 t208 x9_3).f2)] (by rfl) rfl rfl (by (try simp only [List.map_toArray, List.map_cons, List.map_nil]); first | done | rfl | (simp only [List.length_drop, List.length_take]; rfl)) ?_
                              with_reducible refine (pot_Keep.calls k3 t205 t206 t207 ((rd_T39 t208 x9_3).f1) ((rd_T39 t208 x9_3).f2) t225 t226 t227 t228 _ A22.out).mono ?_
                              rintro e w36 ⟨rfl, hb⟩
                              have HS3_ := (hb.cell (World.block_lt_of_cell? _ _ (hHeld.2.2.2.1))).trans (hHeld.2.2.2.1)
                              have HS4_ := (hb.cell (World.block_lt_of_cell? _ _ (hHeld.2.2.2.2.1))).trans (hHeld.2.2.2.2.1)
                              have HS5_ := (hb.cell (World.block_lt_of_cell? _ _ (hHeld.2.2.2.2.2.1))).trans (hHeld.2.2.2.2.2.1)
                              have HS6_ := (hb.cell (World.block_lt_of_cell? _ _ (hHeld.2.2.2.2.2.2.1))).trans (hHeld.2.2.2.2.2.2.1)
                              have HS7_ := (hb.cell (World.block_lt_of_cell? _ _ (hHeld.2.2.2.2.2.2.2.1))).trans (hHeld.2.2.2.2.2.2.2.1)
                              have HS8_ := (hb.cell (World.block_lt_of_cell? _ _ (hHeld.2.2.2.2.2.2.2.2.1))).trans (hHeld.2.2.2.2.2.2.2.2.1)
                              have HS9_ := (hb.cell (World.block_lt_of_cell? _ _ (hHeld.2.2.2.2.2.2.2.2.2.1))).trans (hHeld.2.2.2.2.2.2.2.2.2.1)
                              have HS10_ := (hb.cell (World.block_lt_of_cell? _ _ (hHeld.2.2.2.2.2.2.2.2.2.2))).trans (hHeld.2.2.2.2.2.2.2.2.2.2)
                              refine ⟨_, rfl, ?_⟩
                              have n0_ := Aside0.mk (Kd.R_below (by (with_reducible repeat (first | apply Kd.R_alloc | apply Kd.R_drewN | apply Kd.R_drew)); exact HO_6.out) hb)
                              have n1_ := Aside0.mk (blk_below (g := gb213) (o := .cells #[.int .i64 t205, .int .i64 t206, .int .i64 t207] 23 (0, 0)) (by (with_reducible repeat (first | refine blk_drewN ?_ _ | refine blk_drew ?_ | refine blk_alloc ?_ _)); exact BK213.out) hb)
                              have n2_ := Aside0.mk (blk_below (g := gb222) (o := .cells #[.int .i64 t218, .int .i64 t219, .int .i64 t220] 23 (0, 0)) (by (with_reducible repeat (first | refine blk_drewN ?_ _ | refine blk_drew ?_ | refine blk_alloc ?_ _)); exact BK222.out) hb)
                              have n3_ := Aside0.mk (blk_below (g := gb229) (o := .cells #[.int .i64 0, .int .i64 0, .int .i64 0] 23 (0, 0)) (by (with_reducible repeat (first | refine blk_drewN ?_ _ | refine blk_drew ?_ | refine blk_alloc ?_ _)); exact BK229.out) hb)
                              have n4_ := Aside0.mk (below_step (by repeat (first | (with_reducible first | exact HB.out | apply below_alloc | apply pw_below_drewN | apply below_drew1 | refine below_set ?_ GE213.out | refine below_set ?_ GE222.out | refine below_set ?_ GE229.out) | exact HB.out)) hb)
                              clear HO_6
                              clear BK213
                              clear BK222
                              clear BK229
                              clear HB
                              have HO_6 := n0_
                              have BK213 := n1_
                              have BK222 := n2_
                              have BK229 := n3_
                              have HB := n4_
                              clear n0_ n1_ n2_ n3_ n4_
                              (try clear hb)
                              (try clear hb2)
                              (try clear hk)
                              (try clear hi)
                              refine hK.out _ _ ⟨(blk_cell BK213.out 0).trans rfl, (blk_cell BK213.out 1).trans rfl, (blk_cell BK213.out 2).trans rfl, HS3_, HS4_, HS5_, HS6_, HS7_, HS8_, HS9_, HS10_⟩ (fun hHeld => ?_)
                              clear hK K
                              refine norm_ (a' := ?_) ?_ ?_
                              rotate_left
                              · show Act.put _ (some 74) _ = _
                                simp only [Act.put, List.setIfInBounds_toArray, List.set_cons_zero, List.set_cons_succ, i64_w, i32_w]
                                rfl
                              refine pure_ (i := 12) (N := some 62) (v := ?_) (a' := ?_) #[true, true, true, true, true, true, true, true, true, true, true, true, true, false, false, true, false, false] rfl rfl (any_of HT_.out (by kernel_rfl)) (fun _ _ _ h => h) (Or.inl ⟨by rfl, ?_⟩) ?_ ?_
                              rotate_left
                              · intro w'
                                go_simp
                                with_reducible rfl
                              rotate_left
                              · simp only [Act.put, List.setIfInBounds_toArray, List.set_cons_zero, List.set_cons_succ, i64_w, i32_w]
                                rfl
                              refine pure_ (i := 13) (N := some 75) (v := ?_) (a' := ?_) #[true, true, true, true, true, true, true, true, true, true, true, true, true, true, false, true, false, false] rfl rfl (any_of HT_.out (by kernel_rfl)) (fun _ _ _ h => h) (Or.inl ⟨by rfl, ?_⟩) ?_ ?_
                              rotate_left
                              · intro w'
                                go_simp
                                with_reducible rfl
                              rotate_left
                              · simp only [Act.put, List.setIfInBounds_toArray, List.set_cons_zero, List.set_cons_succ, i64_w, i32_w]
                                rfl
                              refine pure_ (i := 14) (N := some 76) (v := ?_) (a' := ?_) #[true, true, true, true, true, true, true, true, true, true, true, true, true, true, true, true, false, false] rfl rfl (any_of HT_.out (by kernel_rfl)) (fun _ _ _ h => h) (Or.inl ⟨by rfl, ?_⟩) ?_ ?_
                              rotate_left
                              · intro w'
                                go_simp
                                with_reducible rfl
                              rotate_left
                              · simp only [Act.put, List.setIfInBounds_toArray, List.set_cons_zero, List.set_cons_succ, i64_w, i32_w]
                                rfl
                              exact norm_ (by simp only [putAll, Act.put, List.setIfInBounds_toArray, List.set_cons_zero, List.set_cons_succ]) (hCont (gb229) _ ⟨hHeld, (by (with_reducible repeat (first | apply Kd.R_alloc | apply Kd.R_drewN | apply Kd.R_drew)); exact HO_6.out), (by (with_reducible repeat (first | refine blk_drewN ?_ _ | refine blk_drew ?_ | refine blk_alloc ?_ _)); exact BK213.out), (by (with_reducible repeat (first | refine blk_drewN ?_ _ | refine blk_drew ?_ | refine blk_alloc ?_ _)); exact BK222.out), (by (with_reducible repeat (first | refine blk_drewN ?_ _ | refine blk_drew ?_ | refine blk_alloc ?_ _)); exact BK229.out), GW229.out, GE229.out, NB213_229.out, NB229_213.out, NB222_229.out, NB229_222.out, (by repeat (first | (with_reducible first | exact HB.out | apply below_alloc | apply pw_below_drewN | apply below_drew1 | refine below_set ?_ GE213.out | refine below_set ?_ GE222.out | refine below_set ?_ GE229.out) | exact HB.out))⟩)
                          rintro gb229 w37 ⟨hS_, h0_, h1_, h2_, h3_, h4_, h5_, h6_, h7_, h8_, h9_, h10_⟩
                          have n0_ : Aside0 (Kd.R k39 39 w37 w.heap.size (fun _ => True) (.slice (some ad216) t208.length co25) t208) := ⟨h0_⟩
                          have n1_ : Aside0 (w37.heap[gb213]? = some (.cells #[.int .i64 t205, .int .i64 t206, .int .i64 t207] 23 (0, 0))) := ⟨h1_⟩
                          have n2_ : Aside0 (w37.heap[gb222]? = some (.cells #[.int .i64 t218, .int .i64 t219, .int .i64 t220] 23 (0, 0))) := ⟨h2_⟩
                          have n3_ : Aside0 (w37.heap[gb229]? = some (.cells #[.int .i64 0, .int .i64 0, .int .i64 0] 23 (0, 0))) := ⟨h3_⟩
                          have n4_ : Aside0 (w.heap.size ≤ gb229) := ⟨h4_⟩
                          have n5_ : Aside0 (w.heap.size ≤ gb229) := ⟨h5_⟩
                          have n6_ : Aside0 (gb213 ≠ gb229) := ⟨h6_⟩
                          have n7_ : Aside0 (gb229 ≠ gb213) := ⟨h7_⟩
                          have n8_ : Aside0 (gb222 ≠ gb229) := ⟨h8_⟩
                          have n9_ : Aside0 (gb229 ≠ gb222) := ⟨h9_⟩
                          have n10_ : Aside0 (Below w.heap.size w w37) := ⟨h10_⟩
                          clear HO_6
                          clear BK213
                          clear BK222
                          clear HB
                          clear h0_ h1_ h2_ h3_ h4_ h5_ h6_ h7_ h8_ h9_ h10_
                          have HO_6 := n0_
                          have BK213 := n1_
                          have BK222 := n2_
                          have BK229 := n3_
                          have GW229 := n4_
                          have GE229 := n5_
                          have NB213_229 := n6_
                          have NB229_213 := n7_
                          have NB222_229 := n8_
                          have NB229_222 := n9_
                          have HB := n10_
                          clear n0_ n1_ n2_ n3_ n4_ n5_ n6_ n7_ n8_ n9_ n10_
                          have hHeld : w37.cell? ⟨gb213, 0, none⟩ = some (.int .i64 t205) ∧ w37.cell? ⟨gb213, 1, none⟩ = some (.int .i64 t206) ∧ w37.cell? ⟨gb213, 2, none⟩ = some (.int .i64 t207) ∧ w37.cell? (ad216.add ((x9_3).toNat * 4)) = some (.int .i64 ((rd_T39 t208 x9_3).f0)) ∧ w37.cell? ⟨(ad216.add ((x9_3).toNat * 4)).block, (ad216.add ((x9_3).toNat * 4)).off + 1, none⟩ = some (.bool ((rd_T39 t208 x9_3).f1)) ∧ w37.cell? ⟨(ad216.add ((x9_3).toNat * 4)).block, (ad216.add ((x9_3).toNat * 4)).off + 2, none⟩ = some (.int .i64 ((rd_T39 t208 x9_3).f2)) ∧ w37.cell? ⟨(ad216.add ((x9_3).toNat * 4)).block, (ad216.add ((x9_3).toNat * 4)).off + 3, none⟩ = some (.int .i64 ((rd_T39 t208 x9_3).f3)) ∧ w37.cell? (ad216.add ((x9_3).toNat * 4)) = some (.int .i64 ((rd_T39 t208 x9_3).f0)) ∧ w37.cell? ⟨(ad216.add ((x9_3).toNat * 4)).block, (ad216.add ((x9_3).toNat * 4)).off + 1, none⟩ = some (.bool ((rd_T39 t208 x9_3).f1)) ∧ w37.cell? ⟨(ad216.add ((x9_3).toNat * 4)).block, (ad216.add ((x9_3).toNat * 4)).off + 2, none⟩ = some (.int .i64 ((rd_T39 t208 x9_3).f2)) ∧ w37.cell? ⟨(ad216.add ((x9_3).toNat * 4)).block, (ad216.add ((x9_3).toNat * 4)).off + 3, none⟩ = some (.int .i64 ((rd_T39 t208 x9_3).f3)) := hS_
                          refine norm_ (a' := ?_) ?_ ?_
                          rotate_left
                          · simp only [putAll, Act.put, List.setIfInBounds_toArray, List.set_cons_zero, List.set_cons_succ]
                            rfl
                          refine one_ (i := 16) (N := none) #[true, true, true, true, true, true, true, true, true, true, true, true, true, true, true, true, true, false] rfl rfl (one_of HT_.out (by kernel_rfl)) (by decide) (fun K hK => ?_)
                          have hs38 : w37.cell? ⟨gb229, 0, none⟩ = some (.int .i64 0) := (blk_cell BK229.out 0).trans rfl
                          have hfs38 := blk_frozen BK229.out 0
                          have hns38_0 := NB213_229.out
                          have hns38_1 := NB222_229.out
                          have hms38_0 := NB229_213.out
                          have hms38_1 := NB229_222.out
                          have hs39 : w37.cell? ⟨gb229, 1, none⟩ = some (.int .i64 0) := (blk_cell BK229.out 1).trans rfl
                          have hfs39 := blk_frozen BK229.out 1
                          have hns39_0 := NB213_229.out
                          have hns39_1 := NB222_229.out
                          have hms39_0 := NB229_213.out
                          have hms39_1 := NB229_222.out
                          have hs40 : w37.cell? ⟨gb229, 2, none⟩ = some (.int .i64 0) := (blk_cell BK229.out 2).trans rfl
                          have hfs40 := blk_frozen BK229.out 2
                          have hns40_0 := NB213_229.out
                          have hns40_1 := NB222_229.out
                          have hms40_0 := NB229_213.out
                          have hms40_1 := NB229_222.out
                          refine skip_ (w1 := ?_) (by rfl) rfl ?_ ?_
                          rotate_left
                          · go_simp
                            rfl
                          refine hK.out _ _ ⟨((cell_far (p := ⟨gb229, _, none⟩) NB213_229.out _).trans (((cell_far (p := ⟨gb229, _, none⟩) NB213_229.out _).trans (((cell_far (p := ⟨gb229, _, none⟩) NB213_229.out _).trans (hHeld.1)))))), ((cell_far (p := ⟨gb229, _, none⟩) NB213_229.out _).trans (((cell_far (p := ⟨gb229, _, none⟩) NB213_229.out _).trans (((cell_far (p := ⟨gb229, _, none⟩) NB213_229.out _).trans (hHeld.2.1)))))), ((cell_far (p := ⟨gb229, _, none⟩) NB213_229.out _).trans (((cell_far (p := ⟨gb229, _, none⟩) NB213_229.out _).trans (((cell_far (p := ⟨gb229, _, none⟩) NB213_229.out _).trans (hHeld.2.2.1)))))), ((cell_far (p := ⟨gb229, _, none⟩) (by first | exact Kd.own_blk (Kd.R_ne HO_6.out BK229.out (by decide)) | (rw [add_block]; exact Kd.own_blk (Kd.R_ne HO_6.out BK229.out (by decide))) | (show (Addr.add _ _).block ≠ _; rw [add_block]; exact Kd.own_blk (Kd.R_ne HO_6.out BK229.out (by decide))) | (dsimp only; exact Kd.own_blk (Kd.R_ne HO_6.out BK229.out (by decide)))) _).trans (((cell_far (p := ⟨gb229, _, none⟩) (by first | exact Kd.own_blk (Kd.R_ne HO_6.out BK229.out (by decide)) | (rw [add_block]; exact Kd.own_blk (Kd.R_ne HO_6.out BK229.out (by decide))) | (show (Addr.add _ _).block ≠ _; rw [add_block]; exact Kd.own_blk (Kd.R_ne HO_6.out BK229.out (by decide))) | (dsimp only; exact Kd.own_blk (Kd.R_ne HO_6.out BK229.out (by decide)))) _).trans (((cell_far (p := ⟨gb229, _, none⟩) (by first | exact Kd.own_blk (Kd.R_ne HO_6.out BK229.out (by decide)) | (rw [add_block]; exact Kd.own_blk (Kd.R_ne HO_6.out BK229.out (by decide))) | (show (Addr.add _ _).block ≠ _; rw [add_block]; exact Kd.own_blk (Kd.R_ne HO_6.out BK229.out (by decide))) | (dsimp only; exact Kd.own_blk (Kd.R_ne HO_6.out BK229.out (by decide)))) _).trans (hHeld.2.2.2.1)))))), ((cell_far (p := ⟨gb229, _, none⟩) (by first | exact Kd.own_blk (Kd.R_ne HO_6.out BK229.out (by decide)) | (rw [add_block]; exact Kd.own_blk (Kd.R_ne HO_6.out BK229.out (by decide))) | (show (Addr.add _ _).block ≠ _; rw [add_block]; exact Kd.own_blk (Kd.R_ne HO_6.out BK229.out (by decide))) | (dsimp only; exact Kd.own_blk (Kd.R_ne HO_6.out BK229.out (by decide)))) _).trans (((cell_far (p := ⟨gb229, _, none⟩) (by first | exact Kd.own_blk (Kd.R_ne HO_6.out BK229.out (by decide)) | (rw [add_block]; exact Kd.own_blk (Kd.R_ne HO_6.out BK229.out (by decide))) | (show (Addr.add _ _).block ≠ _; rw [add_block]; exact Kd.own_blk (Kd.R_ne HO_6.out BK229.out (by decide))) | (dsimp only; exact Kd.own_blk (Kd.R_ne HO_6.out BK229.out (by decide)))) _).trans (((cell_far (p := ⟨gb229, _, none⟩) (by first | exact Kd.own_blk (Kd.R_ne HO_6.out BK229.out (by decide)) | (rw [add_block]; exact Kd.own_blk (Kd.R_ne HO_6.out BK229.out (by decide))) | (show (Addr.add _ _).block ≠ _; rw [add_block]; exact Kd.own_blk (Kd.R_ne HO_6.out BK229.out (by decide))) | (dsimp only; exact Kd.own_blk (Kd.R_ne HO_6.out BK229.out (by decide)))) _).trans (hHeld.2.2.2.2.1)))))), ((cell_far (p := ⟨gb229, _, none⟩) (by first | exact Kd.own_blk (Kd.R_ne HO_6.out BK229.out (by decide)) | (rw [add_block]; exact Kd.own_blk (Kd.R_ne HO_6.out BK229.out (by decide))) | (show (Addr.add _ _).block ≠ _; rw [add_block]; exact Kd.own_blk (Kd.R_ne HO_6.out BK229.out (by decide))) | (dsimp only; exact Kd.own_blk (Kd.R_ne HO_6.out BK229.out (by decide)))) _).trans (((cell_far (p := ⟨gb229, _, none⟩) (by first | exact Kd.own_blk (Kd.R_ne HO_6.out BK229.out (by decide)) | (rw [add_block]; exact Kd.own_blk (Kd.R_ne HO_6.out BK229.out (by decide))) | (show (Addr.add _ _).block ≠ _; rw [add_block]; exact Kd.own_blk (Kd.R_ne HO_6.out BK229.out (by decide))) | (dsimp only; exact Kd.own_blk (Kd.R_ne HO_6.out BK229.out (by decide)))) _).trans (((cell_far (p := ⟨gb229, _, none⟩) (by first | exact Kd.own_blk (Kd.R_ne HO_6.out BK229.out (by decide)) | (rw [add_block]; exact Kd.own_blk (Kd.R_ne HO_6.out BK229.out (by decide))) | (show (Addr.add _ _).block ≠ _; rw [add_block]; exact Kd.own_blk (Kd.R_ne HO_6.out BK229.out (by decide))) | (dsimp only; exact Kd.own_blk (Kd.R_ne HO_6.out BK229.out (by decide)))) _).trans (hHeld.2.2.2.2.2.1)))))), ((cell_far (p := ⟨gb229, _, none⟩) (by first | exact Kd.own_blk (Kd.R_ne HO_6.out BK229.out (by decide)) | (rw [add_block]; exact Kd.own_blk (Kd.R_ne HO_6.out BK229.out (by decide))) | (show (Addr.add _ _).block ≠ _; rw [add_block]; exact Kd.own_blk (Kd.R_ne HO_6.out BK229.out (by decide))) | (dsimp only; exact Kd.own_blk (Kd.R_ne HO_6.out BK229.out (by decide)))) _).trans (((cell_far (p := ⟨gb229, _, none⟩) (by first | exact Kd.own_blk (Kd.R_ne HO_6.out BK229.out (by decide)) | (rw [add_block]; exact Kd.own_blk (Kd.R_ne HO_6.out BK229.out (by decide))) | (show (Addr.add _ _).block ≠ _; rw [add_block]; exact Kd.own_blk (Kd.R_ne HO_6.out BK229.out (by decide))) | (dsimp only; exact Kd.own_blk (Kd.R_ne HO_6.out BK229.out (by decide)))) _).trans (((cell_far (p := ⟨gb229, _, none⟩) (by first | exact Kd.own_blk (Kd.R_ne HO_6.out BK229.out (by decide)) | (rw [add_block]; exact Kd.own_blk (Kd.R_ne HO_6.out BK229.out (by decide))) | (show (Addr.add _ _).block ≠ _; rw [add_block]; exact Kd.own_blk (Kd.R_ne HO_6.out BK229.out (by decide))) | (dsimp only; exact Kd.own_blk (Kd.R_ne HO_6.out BK229.out (by decide)))) _).trans (hHeld.2.2.2.2.2.2.1)))))), ((cell_far (p := ⟨gb229, _, none⟩) (by first | exact Kd.own_blk (Kd.R_ne HO_6.out BK229.out (by decide)) | (rw [add_block]; exact Kd.own_blk (Kd.R_ne HO_6.out BK229.out (by decide))) | (show (Addr.add _ _).block ≠ _; rw [add_block]; exact Kd.own_blk (Kd.R_ne HO_6.out BK229.out (by decide))) | (dsimp only; exact Kd.own_blk (Kd.R_ne HO_6.out BK229.out (by decide)))) _).trans (((cell_far (p := ⟨gb229, _, none⟩) (by first | exact Kd.own_blk (Kd.R_ne HO_6.out BK229.out (by decide)) | (rw [add_block]; exact Kd.own_blk (Kd.R_ne HO_6.out BK229.out (by decide))) | (show (Addr.add _ _).block ≠ _; rw [add_block]; exact Kd.own_blk (Kd.R_ne HO_6.out BK229.out (by decide))) | (dsimp only; exact Kd.own_blk (Kd.R_ne HO_6.out BK229.out (by decide)))) _).trans (((cell_far (p := ⟨gb229, _, none⟩) (by first | exact Kd.own_blk (Kd.R_ne HO_6.out BK229.out (by decide)) | (rw [add_block]; exact Kd.own_blk (Kd.R_ne HO_6.out BK229.out (by decide))) | (show (Addr.add _ _).block ≠ _; rw [add_block]; exact Kd.own_blk (Kd.R_ne HO_6.out BK229.out (by decide))) | (dsimp only; exact Kd.own_blk (Kd.R_ne HO_6.out BK229.out (by decide)))) _).trans (hHeld.2.2.2.2.2.2.2.1)))))), ((cell_far (p := ⟨gb229, _, none⟩) (by first | exact Kd.own_blk (Kd.R_ne HO_6.out BK229.out (by decide)) | (rw [add_block]; exact Kd.own_blk (Kd.R_ne HO_6.out BK229.out (by decide))) | (show (Addr.add _ _).block ≠ _; rw [add_block]; exact Kd.own_blk (Kd.R_ne HO_6.out BK229.out (by decide))) | (dsimp only; exact Kd.own_blk (Kd.R_ne HO_6.out BK229.out (by decide)))) _).trans (((cell_far (p := ⟨gb229, _, none⟩) (by first | exact Kd.own_blk (Kd.R_ne HO_6.out BK229.out (by decide)) | (rw [add_block]; exact Kd.own_blk (Kd.R_ne HO_6.out BK229.out (by decide))) | (show (Addr.add _ _).block ≠ _; rw [add_block]; exact Kd.own_blk (Kd.R_ne HO_6.out BK229.out (by decide))) | (dsimp only; exact Kd.own_blk (Kd.R_ne HO_6.out BK229.out (by decide)))) _).trans (((cell_far (p := ⟨gb229, _, none⟩) (by first | exact Kd.own_blk (Kd.R_ne HO_6.out BK229.out (by decide)) | (rw [add_block]; exact Kd.own_blk (Kd.R_ne HO_6.out BK229.out (by decide))) | (show (Addr.add _ _).block ≠ _; rw [add_block]; exact Kd.own_blk (Kd.R_ne HO_6.out BK229.out (by decide))) | (dsimp only; exact Kd.own_blk (Kd.R_ne HO_6.out BK229.out (by decide)))) _).trans (hHeld.2.2.2.2.2.2.2.2.1)))))), ((cell_far (p := ⟨gb229, _, none⟩) (by first | exact Kd.own_blk (Kd.R_ne HO_6.out BK229.out (by decide)) | (rw [add_block]; exact Kd.own_blk (Kd.R_ne HO_6.out BK229.out (by decide))) | (show (Addr.add _ _).block ≠ _; rw [add_block]; exact Kd.own_blk (Kd.R_ne HO_6.out BK229.out (by decide))) | (dsimp only; exact Kd.own_blk (Kd.R_ne HO_6.out BK229.out (by decide)))) _).trans (((cell_far (p := ⟨gb229, _, none⟩) (by first | exact Kd.own_blk (Kd.R_ne HO_6.out BK229.out (by decide)) | (rw [add_block]; exact Kd.own_blk (Kd.R_ne HO_6.out BK229.out (by decide))) | (show (Addr.add _ _).block ≠ _; rw [add_block]; exact Kd.own_blk (Kd.R_ne HO_6.out BK229.out (by decide))) | (dsimp only; exact Kd.own_blk (Kd.R_ne HO_6.out BK229.out (by decide)))) _).trans (((cell_far (p := ⟨gb229, _, none⟩) (by first | exact Kd.own_blk (Kd.R_ne HO_6.out BK229.out (by decide)) | (rw [add_block]; exact Kd.own_blk (Kd.R_ne HO_6.out BK229.out (by decide))) | (show (Addr.add _ _).block ≠ _; rw [add_block]; exact Kd.own_blk (Kd.R_ne HO_6.out BK229.out (by decide))) | (dsimp only; exact Kd.own_blk (Kd.R_ne HO_6.out BK229.out (by decide)))) _).trans (hHeld.2.2.2.2.2.2.2.2.2.1)))))), ((cell_far (p := ⟨gb229, _, none⟩) (by first | exact Kd.own_blk (Kd.R_ne HO_6.out BK229.out (by decide)) | (rw [add_block]; exact Kd.own_blk (Kd.R_ne HO_6.out BK229.out (by decide))) | (show (Addr.add _ _).block ≠ _; rw [add_block]; exact Kd.own_blk (Kd.R_ne HO_6.out BK229.out (by decide))) | (dsimp only; exact Kd.own_blk (Kd.R_ne HO_6.out BK229.out (by decide)))) _).trans (((cell_far (p := ⟨gb229, _, none⟩) (by first | exact Kd.own_blk (Kd.R_ne HO_6.out BK229.out (by decide)) | (rw [add_block]; exact Kd.own_blk (Kd.R_ne HO_6.out BK229.out (by decide))) | (show (Addr.add _ _).block ≠ _; rw [add_block]; exact Kd.own_blk (Kd.R_ne HO_6.out BK229.out (by decide))) | (dsimp only; exact Kd.own_blk (Kd.R_ne HO_6.out BK229.out (by decide)))) _).trans (((cell_far (p := ⟨gb229, _, none⟩) (by first | exact Kd.own_blk (Kd.R_ne HO_6.out BK229.out (by decide)) | (rw [add_block]; exact Kd.own_blk (Kd.R_ne HO_6.out BK229.out (by decide))) | (show (Addr.add _ _).block ≠ _; rw [add_block]; exact Kd.own_blk (Kd.R_ne HO_6.out BK229.out (by decide))) | (dsimp only; exact Kd.own_blk (Kd.R_ne HO_6.out BK229.out (by decide)))) _).trans (hHeld.2.2.2.2.2.2.2.2.2.2))))))⟩ (fun hHeld => ?_)
                          clear hK K
                          refine pure_ (i := 17) (N := some 13) (v := ?_) (a' := ?_) #[true, true, true, true, true, true, true, true, true, true, true, true, true, true, true, true, true, true] rfl rfl (any_of HT_.out (by kernel_rfl)) (fun _ _ _ h => h) (Or.inl ⟨by rfl, ?_⟩) ?_ ?_
                          rotate_left
                          · intro w'
                            go_simp
                            with_reducible rfl
                          rotate_left
                          · simp only [Act.put, List.setIfInBounds_toArray, List.set_cons_zero, List.set_cons_succ, i64_w, i32_w]
                            rfl
                          refine done_ (done_of HT_.out (by kernel_rfl)) ?_
                          try go_wp2
                          go_roundg k3
                          case measure => have := HJ2.out; have := HJ9.out; have := HK3.out; omega
                          case rel => exact ⟨(wrap64 (x9_3 + 1)), (by first | rfl | (simp; done) | (simp [*]; done)), H', ⟨by have := HJ2.out; have := HJ9.out; have := HK3.out; omega⟩, ⟨by (with_reducible repeat (first | apply Kd.R_alloc | apply Kd.R_drewN | apply Kd.R_drew)); exact Kd.R_mono (Kd.R_far (p := ⟨gb229, 2, none⟩) (Kd.R_far (p := ⟨gb229, 1, none⟩) (Kd.R_far (p := ⟨gb229, 0, none⟩) (Kd.R_types HO_6.out BK229.out (by decide)) (fun _ hk => hk.2) (.int .i64 t225)) (fun _ hk => hk.2) (.int .i64 t226)) (fun _ hk => hk.2) (.int .i64 t227)) (fun _ hk => trivial)⟩, ⟨by (with_reducible repeat (first | refine blk_drewN ?_ _ | refine blk_drew ?_ | refine blk_alloc ?_ _)); refine blk_far ?_ NB213_229.out _; (with_reducible repeat (first | refine blk_drewN ?_ _ | refine blk_drew ?_ | refine blk_alloc ?_ _)); refine blk_far ?_ NB213_229.out _; (with_reducible repeat (first | refine blk_drewN ?_ _ | refine blk_drew ?_ | refine blk_alloc ?_ _)); refine blk_far ?_ NB213_229.out _; (with_reducible repeat (first | refine blk_drewN ?_ _ | refine blk_drew ?_ | refine blk_alloc ?_ _)); exact BK213.out⟩, ⟨by repeat (first | (with_reducible first | exact HB.out | apply below_alloc | apply pw_below_drewN | apply below_drew1 | refine below_set ?_ GE213.out | refine below_set ?_ GE222.out | refine below_set ?_ GE229.out) | exact HB.out)⟩⟩
                        · rw [if_neg c24] at H
                          have c24b0 : (t228 == 0) = false := beq_eq_false_iff_ne.mpr c24
                          have c24b1 : (t228 != 0) = true := bne_iff_ne.mpr c24
                          exact absurd ((Option.some.inj H).trans HT.out) Bool.false_ne_true
                      · rw [if_neg c23] at H
                        have c23b0 : (t221 == 0) = false := beq_eq_false_iff_ne.mpr c23
                        have c23b1 : (t221 != 0) = true := bne_iff_ne.mpr c23
                        exact absurd ((Option.some.inj H).trans HT.out) Bool.false_ne_true
                    · rw [if_neg c20] at H
                      exact absurd H (by simp)
                  · rw [if_neg c19] at H
                    have c19b0 : decide (x9_3 < (t208.length : Int)) = false := decide_eq_false c19
                    clear c19
                    replace H := Option.bind_eq_some_iff.mp H
                    obtain ⟨t215, A410, H⟩ := H
                    replace H : (some t215) = some r := H
                    have A41 := Aside0.mk A410
                    clear A410
                    obtain rfl := Option.some.inj H
                    obtain ⟨Ao42, co42, eo42⟩ := Kd.R_slice HO_6.out
                    subst eo42
                    go_wp2_with (first | ((with_reducible refine gate_callee (f := 15) rfl ?_); refine goesL_ (some 83) rfl rfl Try.func15 (by kernel_rfl) rfl #[] rfl (by (try simp only [List.map_toArray, List.map_cons, List.map_nil]); first | done | rfl | (simp only [List.length_drop, List.length_take]; rfl)) ?_; (with_reducible refine (ententelaw05_awake.calls k3  t215 _ A41.out).mono ?_); rintro e w43 ⟨rfl, hb⟩; refine ⟨_, rfl, ?_⟩; have n0_ := Aside0.mk (Kd.R_below (by (with_reducible repeat (first | apply Kd.R_alloc | apply Kd.R_drewN | apply Kd.R_drew)); exact HO_6.out) hb); have n1_ := Aside0.mk (blk_below (g := gb213) (o := .cells #[.int .i64 t205, .int .i64 t206, .int .i64 t207] 23 (0, 0)) (by (with_reducible repeat (first | refine blk_drewN ?_ _ | refine blk_drew ?_ | refine blk_alloc ?_ _)); exact BK213.out) hb); have n2_ := Aside0.mk (below_step (by repeat (first | (with_reducible first | exact HB.out | apply below_alloc | apply pw_below_drewN | apply below_drew1 | refine below_set ?_ GE213.out) | exact HB.out)) hb); clear HO_6; clear BK213; clear HB; have HO_6 := n0_; have BK213 := n1_; have HB := n2_; clear n0_ n1_ n2_; (try clear hb); (try clear hb2); (try clear hk); (try clear hi)))
                    go_ret
                    exact ⟨by first | rfl | (simp [errW_none, errW_some] <;> rfl) | (simp [*, errW_none, errW_some] <;> rfl), by repeat (first | (with_reducible first | exact HB.out | apply below_alloc | apply pw_below_drewN | apply below_drew1 | refine below_set ?_ GE213.out) | exact HB.out)⟩

/-- What is known of an element that came in. -/
def Q39 (x : S39) : Prop := (Lit.int .i64 x.f0).wf = true ∧ True ∧ (Lit.int .i64 x.f2).wf = true ∧ (Lit.int .i64 x.f3).wf = true
/-- THE ONE PURE STATEMENT of ententelaw05_PotPending. -/
def ententelaw05_PotPending.Pure : Prop := ∀ (a0 : Int) (l1 : List S39), (Lit.int .i64 a0).wf = true → (l1.length ≤ 9223372036854775807 ∧ l1.length * 32 ≤ 140737488351232 ∧ ∀ y_ ∈ l1, Q39 y_) → ∃ k, ententelaw05_PotPending.f k a0 l1 = some true

end Go.Proofs.Ytfjlodknogiipaa.PB
