-- Written by a program of this session (wip/tools/mp.py over the kit's printer); Lean checks it.
import Derived.Test.YtfhffabnllicdaaPCx0
import Derived.Test.YtfhffabnllicdaaPCx1
import Derived.Test.YtfhffabnllicdaaPCx2
namespace Go.Proofs.Ytfhffabnllicdaa.PC
open Go.RowKit Go.Proofs.YtfhffabnllicdaaW.PrintWords Go.Proofs.YtfhffabnllicdaaW.PrintLast Go.Proofs.YtfhffabnllicdaaW.PrintMore
attribute [local go_sem] max2_int min2_int max_two min_two max_three min_three max_four min_four   -- for this text's walks alone
set_option linter.unusedVariables false
set_option linter.unusedSimpArgs false

/-! ### ententelaw01_PackBack: function 9 -/
def ententelaw01_PackBack.j0 : Nat → Int → List ByteArray → Bool → ByteArray → ByteArray → Option (Bool)
  | 0, _, _, _, _, _ => none
  | k + 1, x0, x1, x35, x136000, x136001 => if x35 = true then ((ententelaw01_awake.f k).bind fun t137 => (some t137)) else ((pack_Signed.f k x0).bind fun t138 => ((pack_Number.f k (IntKind.u64.wrap (x0))).bind fun t139 => ((pack_Texts.f k x1).bind fun t140 => (if x136000.size + t138.size ≤ 9223372036854775807 then (if (x136000 ++ t138).size + t139.size ≤ 9223372036854775807 then (if ((x136000 ++ t138) ++ t139).size + t140.size ≤ 9223372036854775807 then (if (((x136000 ++ t138) ++ t139) ++ t140).size + x136001.size ≤ 9223372036854775807 then ((pack_TakeSigned.f k ((((x136000 ++ t138) ++ t139) ++ t140) ++ x136001) (x136000.size : Int)).bind fun bt141 => ((pack_TakeNumber.f k ((((x136000 ++ t138) ++ t139) ++ t140) ++ x136001) bt141.2.1).bind fun bt144 => ((pack_TakeTexts.f k ((((x136000 ++ t138) ++ t139) ++ t140) ++ x136001) bt144.2.1).bind fun bt147 => (if bt141.1 = x0 then (if bt141.2.2 = 0 then (if bt141.2.1 = (wrap64 ((x136000.size : Int) + (t138.size : Int))) then (if bt144.1 = (IntKind.u64.wrap (x0)) then (if bt144.2.2 = 0 then (if bt144.2.1 = (wrap64 (bt141.2.1 + (t139.size : Int))) then ((ententeref01_Same.f k bt147.1 x1).bind fun t152 => (if t152 = true then (if bt147.2.2 = 0 then (if bt147.2.1 = (wrap64 (bt144.2.1 + (t140.size : Int))) then ((ententelaw01_awake.f k).bind fun t153 => (some t153)) else (some false)) else (some false)) else (some false))) else (some false)) else (some false)) else (some false)) else (some false)) else (some false)) else (some false))))) else (none)) else (none)) else (none)) else (none)))))
def ententelaw01_PackBack.f (k : Nat) (a0 : Int) (l1 : List ByteArray) (a2_0 : ByteArray) (a2_1 : ByteArray) : Option (Bool) := (ententelaw01_Small.f k l1).bind fun t136 => (if t136 = true then (if (a2_0.size : Int) > 10000 then (ententelaw01_PackBack.j0 k a0 l1 true a2_0 a2_1) else (ententelaw01_PackBack.j0 k a0 l1 (decide ((a2_1.size : Int) > 10000)) a2_0 a2_1)) else (ententelaw01_PackBack.j0 k a0 l1 true a2_0 a2_1))
theorem ententelaw01_PackBack.mono_l : ∀ k, (∀ y0 y1 y2 y3 y4, LeO (ententelaw01_PackBack.j0 k y0 y1 y2 y3 y4) (ententelaw01_PackBack.j0 (k + 1) y0 y1 y2 y3 y4))
  | 0 => fun _ _ _ _ _ r h => by simp [ententelaw01_PackBack.j0] at h
  | k + 1 => by
    have ih0 := ententelaw01_PackBack.mono_l k
    · intro y0 y1 y2 y3 y4
      unfold ententelaw01_PackBack.j0
      repeat' first
      | (with_reducible exact ih0 _ _ _ _ _)
      | (with_reducible exact ententelaw01_Small.mono _ _)
      | (with_reducible exact ententelaw01_awake.mono _)
      | (with_reducible exact ententeref01_Same.mono _ _ _)
      | (with_reducible exact pack_Number.mono _ _)
      | (with_reducible exact pack_Signed.mono _ _)
      | (with_reducible exact pack_TakeNumber.mono _ _ _)
      | (with_reducible exact pack_TakeSigned.mono _ _ _)
      | (with_reducible exact pack_TakeTexts.mono _ _ _)
      | (with_reducible exact pack_Texts.mono _ _)
      | (with_reducible exact LeO.refl _)
      | (with_reducible exact LeO.none _)
      | (with_reducible refine LeO.ite ?_ ?_)
      | (with_reducible refine LeO.bind ?_ (fun _ => ?_))
      | exact ih0 _ _ _ _ _
      | exact ententelaw01_Small.mono _ _
      | exact ententelaw01_awake.mono _
      | exact ententeref01_Same.mono _ _ _
      | exact pack_Number.mono _ _
      | exact pack_Signed.mono _ _
      | exact pack_TakeNumber.mono _ _ _
      | exact pack_TakeSigned.mono _ _ _
      | exact pack_TakeTexts.mono _ _ _
      | exact pack_Texts.mono _ _
      | exact LeO.none _
      | refine LeO.ite ?_ ?_
      | refine LeO.bind ?_ (fun _ => ?_)
theorem ententelaw01_PackBack.mono : ∀ a0 a1 a2 a3 k, LeO (ententelaw01_PackBack.f k a0 a1 a2 a3) (ententelaw01_PackBack.f (k + 1) a0 a1 a2 a3) := by
  intro a0 a1 a2 a3 k
  have ih0 := ententelaw01_PackBack.mono_l k
  unfold ententelaw01_PackBack.f
  repeat' first
      | (with_reducible exact ih0 _ _ _ _ _)
      | (with_reducible exact ententelaw01_Small.mono _ _)
      | (with_reducible exact ententelaw01_awake.mono _)
      | (with_reducible exact ententeref01_Same.mono _ _ _)
      | (with_reducible exact pack_Number.mono _ _)
      | (with_reducible exact pack_Signed.mono _ _)
      | (with_reducible exact pack_TakeNumber.mono _ _ _)
      | (with_reducible exact pack_TakeSigned.mono _ _ _)
      | (with_reducible exact pack_TakeTexts.mono _ _ _)
      | (with_reducible exact pack_Texts.mono _ _)
      | (with_reducible exact LeO.refl _)
      | (with_reducible exact LeO.none _)
      | (with_reducible refine LeO.ite ?_ ?_)
      | (with_reducible refine LeO.bind ?_ (fun _ => ?_))
      | exact ih0 _ _ _ _ _
      | exact ententelaw01_Small.mono _ _
      | exact ententelaw01_awake.mono _
      | exact ententeref01_Same.mono _ _ _
      | exact pack_Number.mono _ _
      | exact pack_Signed.mono _ _
      | exact pack_TakeNumber.mono _ _ _
      | exact pack_TakeSigned.mono _ _ _
      | exact pack_TakeTexts.mono _ _ _
      | exact pack_Texts.mono _ _
      | exact LeO.none _
      | refine LeO.ite ?_ ?_
      | refine LeO.bind ?_ (fun _ => ?_)
set_option maxHeartbeats 8000000 in
set_option maxRecDepth 100000 in
theorem ententelaw01_PackBack.calls (k : Nat) (a0 : Int) (A1 : Option Addr) (c1 : Nat) (l1 : List ByteArray) (a2_0 : ByteArray) (a2_1 : ByteArray) (r : Bool) (w : World) (hr1 : Kd.C Kd.string w A1 l1.length l1) (hc1 : l1.length ≤ c1) (ht : r = true) (h : ententelaw01_PackBack.f k a0 l1 a2_0 a2_1 = some r) :
    Calls Try.prog 9 #[.int .i64 a0, .slice A1 l1.length c1, .agg #[.string a2_0, .string a2_1]] w fun e w' => e = .returned (.bool r) ∧ Below w.heap.size w w' := by
  have hu53 := Try.underlying53
  have HR1 := Aside0.mk hr1
  have HC1 := Aside0.mk hc1
  clear hr1 hc1
  have HB := Aside0.mk (Below.refl w.heap.size w)
  have HT := Aside0.mk ht
  clear ht
  have H : ((ententelaw01_Small.f k l1).bind fun t136 => (if t136 = true then (if (a2_0.size : Int) > 10000 then (ententelaw01_PackBack.j0 k a0 l1 true a2_0 a2_1) else (ententelaw01_PackBack.j0 k a0 l1 (decide ((a2_1.size : Int) > 10000)) a2_0 a2_1)) else (ententelaw01_PackBack.j0 k a0 l1 true a2_0 a2_1))) = some r := h
  clear h
  have HC4 := Aside0.mk H
  clear H
  go_enter Try.func9, Try.ntmps9
  go_upto_region 1 with (first | ((with_reducible refine gate_dst (N := 5) rfl ?_); (try (refine gate_guard (by rfl) ?_; dsimp only)); refine box_event ?hg (N := 5) ?hd (cs := #[.string a2_0, .string a2_1]) (t := 53) ?hr ?_; (case hd => rfl); (case hg => rfl); (case hr => first | (go_simp; done) | (go_simp; rfl)); intro gb135 hg w5 hbox hb; have n0_ := Aside0.mk (below_step (by repeat (first | (with_reducible first | exact HB.out | apply below_alloc | apply pw_below_drewN | apply below_drew1) | exact HB.out)) hb); have n1_ := Aside0.mk (hbox); have n2_ := Aside0.mk ((by rw [hg]; exact (below_size (by repeat (first | (with_reducible first | exact HB.out | apply below_alloc | apply pw_below_drewN | apply below_drew1) | exact HB.out))) : w.heap.size ≤ gb135)); have n3_ := Aside0.mk ((by rw [hg]; exact (below_size (by repeat (first | (with_reducible first | exact HB.out | apply below_alloc | apply pw_below_drewN | apply below_drew1) | exact HB.out))) : w.heap.size ≤ gb135)); clear HB; have HB := n0_; have BK135 := n1_; have GW135 := n2_; have GE135 := n3_; clear n0_ n1_ n2_ n3_; clear hb hbox hg))
  (try simp only [Act.put, List.setIfInBounds_toArray, List.set_cons_zero, List.set_cons_succ])
  go_cut [35] (fun v35 wc => ∃ (kq : Nat) (x35_3 : Bool), v35 = .bool x35_3 ∧ Aside0 (ententelaw01_PackBack.j0 kq a0 l1 x35_3 a2_0 a2_1 = some r) ∧ Aside0 (kq ≤ k) ∧ Aside0 (wc.heap[gb135]? = some (.cells #[.string a2_0, .string a2_1] 53 (0, 0))) ∧ Aside0 (Below w.heap.size w wc))
  case first =>
    have H := HC4.out
    clear HC4
    replace H := Option.bind_eq_some_iff.mp H
    obtain ⟨t136, A60, H⟩ := H
    replace H : (if t136 = true then (if (a2_0.size : Int) > 10000 then (ententelaw01_PackBack.j0 k a0 l1 true a2_0 a2_1) else (ententelaw01_PackBack.j0 k a0 l1 (decide ((a2_1.size : Int) > 10000)) a2_0 a2_1)) else (ententelaw01_PackBack.j0 k a0 l1 true a2_0 a2_1)) = some r := H
    have A6 := Aside0.mk A60
    clear A60
    by_cases c7 : t136 = true
    · subst c7
      have H1 : (if (a2_0.size : Int) > 10000 then (ententelaw01_PackBack.j0 k a0 l1 true a2_0 a2_1) else (ententelaw01_PackBack.j0 k a0 l1 (decide ((a2_1.size : Int) > 10000)) a2_0 a2_1)) = some r := by rw [if_pos rfl] at H; exact H
      clear H
      have H := H1
      clear H1
      by_cases c8 : (a2_0.size : Int) > 10000
      · rw [if_pos c8] at H
        have c8b0 : decide (10000 < (a2_0.size : Int)) = true := decide_eq_true c8
        have c8b1 : decide (10000 < a2_0.size) = true := decide_eq_true (by omega)
        clear c8
        (first | rw [c8b0] | (simp only [i64_w, i32_w]; rw [c8b0]) | skip)
        have H' := Aside0.mk H
        clear H
        go_wp2_with (first | ((with_reducible refine gate_callee (f := 10) rfl ?_); refine goesL_ (some 22) rfl rfl Try.func10 (by kernel_rfl) rfl #[.slice A1 l1.length c1] rfl (by (try simp only [List.map_toArray, List.map_cons, List.map_nil]); first | done | rfl | (simp only [List.length_drop, List.length_take]; rfl)) ?_; (with_reducible refine (ententelaw01_Small.calls k _ _ l1 true _ ?side1 ?side2 A6.out).mono ?_); (case side1 => repeat (first | exact (Kd.C_below HR1.out HB.out) | (with_reducible refine Kd.C_alloc ?_ _) | (with_reducible refine Kd.C_drewN ?_ _) | (with_reducible refine Kd.C_drew ?_))); (case side2 => exact HC1.out); rintro e w9 ⟨rfl, hb⟩; refine ⟨_, rfl, ?_⟩; have n0_ := Aside0.mk (blk_below (g := gb135) (o := .cells #[.string a2_0, .string a2_1] 53 (0, 0)) (by (with_reducible repeat (first | refine blk_drewN ?_ _ | refine blk_drew ?_ | refine blk_alloc ?_ _)); exact BK135.out) hb); have n1_ := Aside0.mk (below_step (by repeat (first | (with_reducible first | exact HB.out | apply below_alloc | apply pw_below_drewN | apply below_drew1 | refine below_set ?_ GE135.out) | exact HB.out)) hb); clear BK135; clear HB; have BK135 := n0_; have HB := n1_; clear n0_ n1_; (try clear hb); (try clear hb2); (try clear hk); (try clear hi); have hcz10_0 : w9.cell? ⟨gb135, 0, none⟩ = some (.string a2_0) := (blk_cell BK135.out 0).trans rfl; have hcz10_1 : w9.cell? ⟨gb135, 1, none⟩ = some (.string a2_1) := (blk_cell BK135.out 1).trans rfl; have hfz10_0 := blk_frozen BK135.out 0; have hfz10_1 := blk_frozen BK135.out 1))
        go_meet
        case rel => exact ⟨_, (true), (by first | rfl | (simp; done) | (simp [*]; done)), H', ⟨by first | omega | exact Nat.le_refl _⟩, ⟨by (with_reducible repeat (first | refine blk_drewN ?_ _ | refine blk_drew ?_ | refine blk_alloc ?_ _)); exact BK135.out⟩, ⟨by repeat (first | (with_reducible first | exact HB.out | apply below_alloc | apply pw_below_drewN | apply below_drew1 | refine below_set ?_ GE135.out) | exact HB.out)⟩⟩
      · rw [if_neg c8] at H
        have c8b0 : decide (10000 < (a2_0.size : Int)) = false := decide_eq_false c8
        have c8b1 : decide (10000 < a2_0.size) = false := decide_eq_false (by omega)
        clear c8
        (first | rw [c8b0] | (simp only [i64_w, i32_w]; rw [c8b0]) | skip)
        have H' := Aside0.mk H
        clear H
        go_wp2_with (first | ((with_reducible refine gate_callee (f := 10) rfl ?_); refine goesL_ (some 22) rfl rfl Try.func10 (by kernel_rfl) rfl #[.slice A1 l1.length c1] rfl (by (try simp only [List.map_toArray, List.map_cons, List.map_nil]); first | done | rfl | (simp only [List.length_drop, List.length_take]; rfl)) ?_; (with_reducible refine (ententelaw01_Small.calls k _ _ l1 true _ ?side1 ?side2 A6.out).mono ?_); (case side1 => repeat (first | exact (Kd.C_below HR1.out HB.out) | (with_reducible refine Kd.C_alloc ?_ _) | (with_reducible refine Kd.C_drewN ?_ _) | (with_reducible refine Kd.C_drew ?_))); (case side2 => exact HC1.out); rintro e w11 ⟨rfl, hb⟩; refine ⟨_, rfl, ?_⟩; have n0_ := Aside0.mk (blk_below (g := gb135) (o := .cells #[.string a2_0, .string a2_1] 53 (0, 0)) (by (with_reducible repeat (first | refine blk_drewN ?_ _ | refine blk_drew ?_ | refine blk_alloc ?_ _)); exact BK135.out) hb); have n1_ := Aside0.mk (below_step (by repeat (first | (with_reducible first | exact HB.out | apply below_alloc | apply pw_below_drewN | apply below_drew1 | refine below_set ?_ GE135.out) | exact HB.out)) hb); clear BK135; clear HB; have BK135 := n0_; have HB := n1_; clear n0_ n1_; (try clear hb); (try clear hb2); (try clear hk); (try clear hi); have hcz12_0 : w11.cell? ⟨gb135, 0, none⟩ = some (.string a2_0) := (blk_cell BK135.out 0).trans rfl; have hcz12_1 : w11.cell? ⟨gb135, 1, none⟩ = some (.string a2_1) := (blk_cell BK135.out 1).trans rfl; have hfz12_0 := blk_frozen BK135.out 0; have hfz12_1 := blk_frozen BK135.out 1))
        go_meet
        case rel => exact ⟨_, (decide ((a2_1.size : Int) > 10000)), (by first | rfl | (simp; done) | (simp [*]; done)), H', ⟨by first | omega | exact Nat.le_refl _⟩, ⟨by (with_reducible repeat (first | refine blk_drewN ?_ _ | refine blk_drew ?_ | refine blk_alloc ?_ _)); exact BK135.out⟩, ⟨by repeat (first | (with_reducible first | exact HB.out | apply below_alloc | apply pw_below_drewN | apply below_drew1 | refine below_set ?_ GE135.out) | exact HB.out)⟩⟩
    · replace c7 := Bool.eq_false_iff.mpr c7
      subst c7
      have H1 : (ententelaw01_PackBack.j0 k a0 l1 true a2_0 a2_1) = some r := by rw [if_neg (show ¬ (false = true) by decide)] at H; exact H
      clear H
      have H := H1
      clear H1
      have H' := Aside0.mk H
      clear H
      go_wp2_with (first | ((with_reducible refine gate_callee (f := 10) rfl ?_); refine goesL_ (some 22) rfl rfl Try.func10 (by kernel_rfl) rfl #[.slice A1 l1.length c1] rfl (by (try simp only [List.map_toArray, List.map_cons, List.map_nil]); first | done | rfl | (simp only [List.length_drop, List.length_take]; rfl)) ?_; (with_reducible refine (ententelaw01_Small.calls k _ _ l1 false _ ?side1 ?side2 A6.out).mono ?_); (case side1 => repeat (first | exact (Kd.C_below HR1.out HB.out) | (with_reducible refine Kd.C_alloc ?_ _) | (with_reducible refine Kd.C_drewN ?_ _) | (with_reducible refine Kd.C_drew ?_))); (case side2 => exact HC1.out); rintro e w13 ⟨rfl, hb⟩; refine ⟨_, rfl, ?_⟩; have n0_ := Aside0.mk (blk_below (g := gb135) (o := .cells #[.string a2_0, .string a2_1] 53 (0, 0)) (by (with_reducible repeat (first | refine blk_drewN ?_ _ | refine blk_drew ?_ | refine blk_alloc ?_ _)); exact BK135.out) hb); have n1_ := Aside0.mk (below_step (by repeat (first | (with_reducible first | exact HB.out | apply below_alloc | apply pw_below_drewN | apply below_drew1 | refine below_set ?_ GE135.out) | exact HB.out)) hb); clear BK135; clear HB; have BK135 := n0_; have HB := n1_; clear n0_ n1_; (try clear hb); (try clear hb2); (try clear hk); (try clear hi)))
      go_meet
      case rel => exact ⟨_, (true), (by first | rfl | (simp; done) | (simp [*]; done)), H', ⟨by first | omega | exact Nat.le_refl _⟩, ⟨by (with_reducible repeat (first | refine blk_drewN ?_ _ | refine blk_drew ?_ | refine blk_alloc ?_ _)); exact BK135.out⟩, ⟨by repeat (first | (with_reducible first | exact HB.out | apply below_alloc | apply pw_below_drewN | apply below_drew1 | refine below_set ?_ GE135.out) | exact HB.out)⟩⟩
  case rest =>
    clear HC4
    try clear c1
    try clear p2
    try clear c7
    try clear c8
    try clear c8b0
    try clear c8b1
    try clear c9
    try clear c10
    try clear hcz10_0
    try clear hcz10_1
    try clear hcz12_0
    try clear hcz12_1
    try clear hfz10_0
    try clear hfz10_1
    try clear hfz12_0
    try clear hfz12_1
    obtain ⟨kq, x35_3, rfl, HA, HJ3, BK135, HB⟩ := hcut
    cases kq with
    | zero => exact absurd HA.out (by simp [ententelaw01_PackBack.j0])
    | succ kj3 =>
      have H := HA.out
      clear HA
      simp only [ententelaw01_PackBack.j0] at H
      by_cases c14 : x35_3 = true
      · subst c14
        have H1 : ((ententelaw01_awake.f kj3).bind fun t137 => (some t137)) = some r := by rw [if_pos rfl] at H; exact H
        clear H
        have H := H1
        clear H1
        replace H := Option.bind_eq_some_iff.mp H
        obtain ⟨t137, A150, H⟩ := H
        replace H : (some t137) = some r := H
        have A15 := Aside0.mk A150
        clear A150
        obtain rfl := Option.some.inj H
        go_wp2_with (first | ((with_reducible refine gate_callee (f := 11) rfl ?_); refine goesL_ (some 36) rfl rfl Try.func11 (by kernel_rfl) rfl #[] rfl (by (try simp only [List.map_toArray, List.map_cons, List.map_nil]); first | done | rfl | (simp only [List.length_drop, List.length_take]; rfl)) ?_; (with_reducible refine (ententelaw01_awake.calls kj3  t137 _ A15.out).mono ?_); rintro e w16 ⟨rfl, hb⟩; refine ⟨_, rfl, ?_⟩; have n0_ := Aside0.mk (blk_below (g := gb135) (o := .cells #[.string a2_0, .string a2_1] 53 (0, 0)) (by (with_reducible repeat (first | refine blk_drewN ?_ _ | refine blk_drew ?_ | refine blk_alloc ?_ _)); exact BK135.out) hb); have n1_ := Aside0.mk (below_step (by repeat (first | (with_reducible first | exact HB.out | apply below_alloc | apply pw_below_drewN | apply below_drew1 | refine below_set ?_ GE135.out) | exact HB.out)) hb); clear BK135; clear HB; have BK135 := n0_; have HB := n1_; clear n0_ n1_; (try clear hb); (try clear hb2); (try clear hk); (try clear hi)))
        go_ret
        exact ⟨by first | rfl | (simp [errW_none, errW_some] <;> rfl) | (simp [*, errW_none, errW_some] <;> rfl), by repeat (first | (with_reducible first | exact HB.out | apply below_alloc | apply pw_below_drewN | apply below_drew1 | refine below_set ?_ GE135.out) | exact HB.out)⟩
      · replace c14 := Bool.eq_false_iff.mpr c14
        subst c14
        have H1 : ((pack_Signed.f kj3 a0).bind fun t138 => ((pack_Number.f kj3 (IntKind.u64.wrap (a0))).bind fun t139 => ((pack_Texts.f kj3 l1).bind fun t140 => (if a2_0.size + t138.size ≤ 9223372036854775807 then (if (a2_0 ++ t138).size + t139.size ≤ 9223372036854775807 then (if ((a2_0 ++ t138) ++ t139).size + t140.size ≤ 9223372036854775807 then (if (((a2_0 ++ t138) ++ t139) ++ t140).size + a2_1.size ≤ 9223372036854775807 then ((pack_TakeSigned.f kj3 ((((a2_0 ++ t138) ++ t139) ++ t140) ++ a2_1) (a2_0.size : Int)).bind fun bt141 => ((pack_TakeNumber.f kj3 ((((a2_0 ++ t138) ++ t139) ++ t140) ++ a2_1) bt141.2.1).bind fun bt144 => ((pack_TakeTexts.f kj3 ((((a2_0 ++ t138) ++ t139) ++ t140) ++ a2_1) bt144.2.1).bind fun bt147 => (if bt141.1 = a0 then (if bt141.2.2 = 0 then (if bt141.2.1 = (wrap64 ((a2_0.size : Int) + (t138.size : Int))) then (if bt144.1 = (IntKind.u64.wrap (a0)) then (if bt144.2.2 = 0 then (if bt144.2.1 = (wrap64 (bt141.2.1 + (t139.size : Int))) then ((ententeref01_Same.f kj3 bt147.1 l1).bind fun t152 => (if t152 = true then (if bt147.2.2 = 0 then (if bt147.2.1 = (wrap64 (bt144.2.1 + (t140.size : Int))) then ((ententelaw01_awake.f kj3).bind fun t153 => (some t153)) else (some false)) else (some false)) else (some false))) else (some false)) else (some false)) else (some false)) else (some false)) else (some false)) else (some false))))) else (none)) else (none)) else (none)) else (none))))) = some r := by rw [if_neg (show ¬ (false = true) by decide)] at H; exact H
        clear H
        have H := H1
        clear H1
        replace H := Option.bind_eq_some_iff.mp H
        obtain ⟨t138, A170, H⟩ := H
        replace H : ((pack_Number.f kj3 (IntKind.u64.wrap (a0))).bind fun t139 => ((pack_Texts.f kj3 l1).bind fun t140 => (if a2_0.size + t138.size ≤ 9223372036854775807 then (if (a2_0 ++ t138).size + t139.size ≤ 9223372036854775807 then (if ((a2_0 ++ t138) ++ t139).size + t140.size ≤ 9223372036854775807 then (if (((a2_0 ++ t138) ++ t139) ++ t140).size + a2_1.size ≤ 9223372036854775807 then ((pack_TakeSigned.f kj3 ((((a2_0 ++ t138) ++ t139) ++ t140) ++ a2_1) (a2_0.size : Int)).bind fun bt141 => ((pack_TakeNumber.f kj3 ((((a2_0 ++ t138) ++ t139) ++ t140) ++ a2_1) bt141.2.1).bind fun bt144 => ((pack_TakeTexts.f kj3 ((((a2_0 ++ t138) ++ t139) ++ t140) ++ a2_1) bt144.2.1).bind fun bt147 => (if bt141.1 = a0 then (if bt141.2.2 = 0 then (if bt141.2.1 = (wrap64 ((a2_0.size : Int) + (t138.size : Int))) then (if bt144.1 = (IntKind.u64.wrap (a0)) then (if bt144.2.2 = 0 then (if bt144.2.1 = (wrap64 (bt141.2.1 + (t139.size : Int))) then ((ententeref01_Same.f kj3 bt147.1 l1).bind fun t152 => (if t152 = true then (if bt147.2.2 = 0 then (if bt147.2.1 = (wrap64 (bt144.2.1 + (t140.size : Int))) then ((ententelaw01_awake.f kj3).bind fun t153 => (some t153)) else (some false)) else (some false)) else (some false))) else (some false)) else (some false)) else (some false)) else (some false)) else (some false)) else (some false))))) else (none)) else (none)) else (none)) else (none)))) = some r := H
        have A17 := Aside0.mk A170
        clear A170
        replace H := Option.bind_eq_some_iff.mp H
        obtain ⟨t139, A180, H⟩ := H
        replace H : ((pack_Texts.f kj3 l1).bind fun t140 => (if a2_0.size + t138.size ≤ 9223372036854775807 then (if (a2_0 ++ t138).size + t139.size ≤ 9223372036854775807 then (if ((a2_0 ++ t138) ++ t139).size + t140.size ≤ 9223372036854775807 then (if (((a2_0 ++ t138) ++ t139) ++ t140).size + a2_1.size ≤ 9223372036854775807 then ((pack_TakeSigned.f kj3 ((((a2_0 ++ t138) ++ t139) ++ t140) ++ a2_1) (a2_0.size : Int)).bind fun bt141 => ((pack_TakeNumber.f kj3 ((((a2_0 ++ t138) ++ t139) ++ t140) ++ a2_1) bt141.2.1).bind fun bt144 => ((pack_TakeTexts.f kj3 ((((a2_0 ++ t138) ++ t139) ++ t140) ++ a2_1) bt144.2.1).bind fun bt147 => (if bt141.1 = a0 then (if bt141.2.2 = 0 then (if bt141.2.1 = (wrap64 ((a2_0.size : Int) + (t138.size : Int))) then (if bt144.1 = (IntKind.u64.wrap (a0)) then (if bt144.2.2 = 0 then (if bt144.2.1 = (wrap64 (bt141.2.1 + (t139.size : Int))) then ((ententeref01_Same.f kj3 bt147.1 l1).bind fun t152 => (if t152 = true then (if bt147.2.2 = 0 then (if bt147.2.1 = (wrap64 (bt144.2.1 + (t140.size : Int))) then ((ententelaw01_awake.f kj3).bind fun t153 => (some t153)) else (some false)) else (some false)) else (some false))) else (some false)) else (some false)) else (some false)) else (some false)) else (some false)) else (some false))))) else (none)) else (none)) else (none)) else (none))) = some r := H
        have A18 := Aside0.mk A180
        clear A180
        replace H := Option.bind_eq_some_iff.mp H
        obtain ⟨t140, A190, H⟩ := H
        replace H : (if a2_0.size + t138.size ≤ 9223372036854775807 then (if (a2_0 ++ t138).size + t139.size ≤ 9223372036854775807 then (if ((a2_0 ++ t138) ++ t139).size + t140.size ≤ 9223372036854775807 then (if (((a2_0 ++ t138) ++ t139) ++ t140).size + a2_1.size ≤ 9223372036854775807 then ((pack_TakeSigned.f kj3 ((((a2_0 ++ t138) ++ t139) ++ t140) ++ a2_1) (a2_0.size : Int)).bind fun bt141 => ((pack_TakeNumber.f kj3 ((((a2_0 ++ t138) ++ t139) ++ t140) ++ a2_1) bt141.2.1).bind fun bt144 => ((pack_TakeTexts.f kj3 ((((a2_0 ++ t138) ++ t139) ++ t140) ++ a2_1) bt144.2.1).bind fun bt147 => (if bt141.1 = a0 then (if bt141.2.2 = 0 then (if bt141.2.1 = (wrap64 ((a2_0.size : Int) + (t138.size : Int))) then (if bt144.1 = (IntKind.u64.wrap (a0)) then (if bt144.2.2 = 0 then (if bt144.2.1 = (wrap64 (bt141.2.1 + (t139.size : Int))) then ((ententeref01_Same.f kj3 bt147.1 l1).bind fun t152 => (if t152 = true then (if bt147.2.2 = 0 then (if bt147.2.1 = (wrap64 (bt144.2.1 + (t140.size : Int))) then ((ententelaw01_awake.f kj3).bind fun t153 => (some t153)) else (some false)) else (some false)) else (some false))) else (some false)) else (some false)) else (some false)) else (some false)) else (some false)) else (some false))))) else (none)) else (none)) else (none)) else (none)) = some r := H
        have A19 := Aside0.mk A190
        clear A190
        by_cases c20 : a2_0.size + t138.size ≤ 9223372036854775807
        · rw [if_pos c20] at H
          have c20b0 := eq_true c20
          have c20b1 : decide (a2_0.size + t138.size ≤ 9223372036854775807) = true := decide_eq_true c20
          try have c20b2 : (9223372036854775807 < a2_0.size + t138.size) = False := eq_false (Nat.not_lt.2 c20)
          try clear c20
          by_cases c21 : (a2_0 ++ t138).size + t139.size ≤ 9223372036854775807
          · rw [if_pos c21] at H
            have c21b0 := eq_true c21
            have c21b1 : decide ((a2_0 ++ t138).size + t139.size ≤ 9223372036854775807) = true := decide_eq_true c21
            try have c21b2 : (9223372036854775807 < (a2_0 ++ t138).size + t139.size) = False := eq_false (Nat.not_lt.2 c21)
            try have c21b3 : (9223372036854775807 < a2_0.size + t138.size + t139.size) = False := by have h_ := c21; simp only [ByteArray.size_append] at h_; exact eq_false (Nat.not_lt.2 h_)
            try clear c21
            by_cases c22 : ((a2_0 ++ t138) ++ t139).size + t140.size ≤ 9223372036854775807
            · rw [if_pos c22] at H
              have c22b0 := eq_true c22
              have c22b1 : decide (((a2_0 ++ t138) ++ t139).size + t140.size ≤ 9223372036854775807) = true := decide_eq_true c22
              try have c22b2 : (9223372036854775807 < ((a2_0 ++ t138) ++ t139).size + t140.size) = False := eq_false (Nat.not_lt.2 c22)
              try have c22b3 : (9223372036854775807 < a2_0.size + t138.size + t139.size + t140.size) = False := by have h_ := c22; simp only [ByteArray.size_append] at h_; exact eq_false (Nat.not_lt.2 h_)
              try clear c22
              by_cases c23 : (((a2_0 ++ t138) ++ t139) ++ t140).size + a2_1.size ≤ 9223372036854775807
              · rw [if_pos c23] at H
                have c23b0 := eq_true c23
                have c23b1 : decide ((((a2_0 ++ t138) ++ t139) ++ t140).size + a2_1.size ≤ 9223372036854775807) = true := decide_eq_true c23
                try have c23b2 : (9223372036854775807 < (((a2_0 ++ t138) ++ t139) ++ t140).size + a2_1.size) = False := eq_false (Nat.not_lt.2 c23)
                try have c23b3 : (9223372036854775807 < a2_0.size + t138.size + t139.size + t140.size + a2_1.size) = False := by have h_ := c23; simp only [ByteArray.size_append] at h_; exact eq_false (Nat.not_lt.2 h_)
                try clear c23
                replace H := Option.bind_eq_some_iff.mp H
                obtain ⟨⟨t141, t142, t143⟩, A240, H⟩ := H
                replace H : ((pack_TakeNumber.f kj3 ((((a2_0 ++ t138) ++ t139) ++ t140) ++ a2_1) t142).bind fun bt144 => ((pack_TakeTexts.f kj3 ((((a2_0 ++ t138) ++ t139) ++ t140) ++ a2_1) bt144.2.1).bind fun bt147 => (if t141 = a0 then (if t143 = 0 then (if t142 = (wrap64 ((a2_0.size : Int) + (t138.size : Int))) then (if bt144.1 = (IntKind.u64.wrap (a0)) then (if bt144.2.2 = 0 then (if bt144.2.1 = (wrap64 (t142 + (t139.size : Int))) then ((ententeref01_Same.f kj3 bt147.1 l1).bind fun t152 => (if t152 = true then (if bt147.2.2 = 0 then (if bt147.2.1 = (wrap64 (bt144.2.1 + (t140.size : Int))) then ((ententelaw01_awake.f kj3).bind fun t153 => (some t153)) else (some false)) else (some false)) else (some false))) else (some false)) else (some false)) else (some false)) else (some false)) else (some false)) else (some false)))) = some r := H
                have A24 := Aside0.mk A240
                clear A240
                replace H := Option.bind_eq_some_iff.mp H
                obtain ⟨⟨t144, t145, t146⟩, A250, H⟩ := H
                replace H : ((pack_TakeTexts.f kj3 ((((a2_0 ++ t138) ++ t139) ++ t140) ++ a2_1) t145).bind fun bt147 => (if t141 = a0 then (if t143 = 0 then (if t142 = (wrap64 ((a2_0.size : Int) + (t138.size : Int))) then (if t144 = (IntKind.u64.wrap (a0)) then (if t146 = 0 then (if t145 = (wrap64 (t142 + (t139.size : Int))) then ((ententeref01_Same.f kj3 bt147.1 l1).bind fun t152 => (if t152 = true then (if bt147.2.2 = 0 then (if bt147.2.1 = (wrap64 (t145 + (t140.size : Int))) then ((ententelaw01_awake.f kj3).bind fun t153 => (some t153)) else (some false)) else (some false)) else (some false))) else (some false)) else (some false)) else (some false)) else (some false)) else (some false)) else (some false))) = some r := H
                have A25 := Aside0.mk A250
                clear A250
                replace H := Option.bind_eq_some_iff.mp H
                obtain ⟨⟨t147, t148, t149⟩, A260, H⟩ := H
                replace H : (if t141 = a0 then (if t143 = 0 then (if t142 = (wrap64 ((a2_0.size : Int) + (t138.size : Int))) then (if t144 = (IntKind.u64.wrap (a0)) then (if t146 = 0 then (if t145 = (wrap64 (t142 + (t139.size : Int))) then ((ententeref01_Same.f kj3 t147 l1).bind fun t152 => (if t152 = true then (if t149 = 0 then (if t148 = (wrap64 (t145 + (t140.size : Int))) then ((ententelaw01_awake.f kj3).bind fun t153 => (some t153)) else (some false)) else (some false)) else (some false))) else (some false)) else (some false)) else (some false)) else (some false)) else (some false)) else (some false)) = some r := H
                have A26 := Aside0.mk A260
                clear A260
                by_cases c27 : t141 = a0
                · rw [if_pos c27] at H
                  have c27b0 : (t141 == a0) = true := beq_iff_eq.mpr c27
                  have c27b1 : (t141 != a0) = false := bne_eq_false_iff_eq.mpr c27
                  clear c27
                  by_cases c28 : t143 = 0
                  · rw [if_pos c28] at H
                    have c28b0 : (t143 == 0) = true := beq_iff_eq.mpr c28
                    have c28b1 : (t143 != 0) = false := bne_eq_false_iff_eq.mpr c28
                    clear c28
                    by_cases c29 : t142 = (wrap64 ((a2_0.size : Int) + (t138.size : Int)))
                    · rw [if_pos c29] at H
                      have c29b0 : (t142 == (wrap64 ((a2_0.size : Int) + (t138.size : Int)))) = true := beq_iff_eq.mpr c29
                      have c29b1 : (t142 != (wrap64 ((a2_0.size : Int) + (t138.size : Int)))) = false := bne_eq_false_iff_eq.mpr c29
                      clear c29
                      by_cases c30 : t144 = (IntKind.u64.wrap (a0))
                      · rw [if_pos c30] at H
                        have c30b0 : (t144 == (IntKind.u64.wrap (a0))) = true := beq_iff_eq.mpr c30
                        have c30b1 : (t144 != (IntKind.u64.wrap (a0))) = false := bne_eq_false_iff_eq.mpr c30
                        clear c30
                        by_cases c31 : t146 = 0
                        · rw [if_pos c31] at H
                          have c31b0 : (t146 == 0) = true := beq_iff_eq.mpr c31
                          have c31b1 : (t146 != 0) = false := bne_eq_false_iff_eq.mpr c31
                          clear c31
                          by_cases c32 : t145 = (wrap64 (t142 + (t139.size : Int)))
                          · rw [if_pos c32] at H
                            have c32b0 : (t145 == (wrap64 (t142 + (t139.size : Int)))) = true := beq_iff_eq.mpr c32
                            have c32b1 : (t145 != (wrap64 (t142 + (t139.size : Int)))) = false := bne_eq_false_iff_eq.mpr c32
                            clear c32
                            replace H := Option.bind_eq_some_iff.mp H
                            obtain ⟨t152, A330, H⟩ := H
                            replace H : (if t152 = true then (if t149 = 0 then (if t148 = (wrap64 (t145 + (t140.size : Int))) then ((ententelaw01_awake.f kj3).bind fun t153 => (some t153)) else (some false)) else (some false)) else (some false)) = some r := H
                            have A33 := Aside0.mk A330
                            clear A330
                            by_cases c34 : t152 = true
                            · subst c34
                              have H1 : (if t149 = 0 then (if t148 = (wrap64 (t145 + (t140.size : Int))) then ((ententelaw01_awake.f kj3).bind fun t153 => (some t153)) else (some false)) else (some false)) = some r := by rw [if_pos rfl] at H; exact H
                              clear H
                              have H := H1
                              clear H1
                              by_cases c35 : t149 = 0
                              · rw [if_pos c35] at H
                                have c35b0 : (t149 == 0) = true := beq_iff_eq.mpr c35
                                have c35b1 : (t149 != 0) = false := bne_eq_false_iff_eq.mpr c35
                                clear c35
                                by_cases c36 : t148 = (wrap64 (t145 + (t140.size : Int)))
                                · rw [if_pos c36] at H
                                  have c36b0 : (t148 == (wrap64 (t145 + (t140.size : Int)))) = true := beq_iff_eq.mpr c36
                                  have c36b1 : (t148 != (wrap64 (t145 + (t140.size : Int)))) = false := bne_eq_false_iff_eq.mpr c36
                                  clear c36
                                  replace H := Option.bind_eq_some_iff.mp H
                                  obtain ⟨t153, A370, H⟩ := H
                                  replace H : (some t153) = some r := H
                                  have A37 := Aside0.mk A370
                                  clear A370
                                  obtain rfl := Option.some.inj H
                                  have hcz38_0 : wc.cell? ⟨gb135, 0, none⟩ = some (.string a2_0) := (blk_cell BK135.out 0).trans rfl
                                  have hcz38_1 : wc.cell? ⟨gb135, 1, none⟩ = some (.string a2_1) := (blk_cell BK135.out 1).trans rfl
                                  have hfz38_0 := blk_frozen BK135.out 0
                                  have hfz38_1 := blk_frozen BK135.out 1
                                  go_wp2_with (first | ((with_reducible refine gate_callee (f := 18) rfl ?_); refine goesL_ (some 41) rfl rfl Try.func18 (by kernel_rfl) rfl #[.int .i64 a0] rfl (by (try simp only [List.map_toArray, List.map_cons, List.map_nil]); first | done | rfl | (simp only [List.length_drop, List.length_take]; rfl)) ?_; (with_reducible refine (pack_Signed.calls kj3 a0 t138 _ A17.out).mono ?_); rintro e w39 ⟨rfl, hb⟩; refine ⟨_, rfl, ?_⟩; have n0_ := Aside0.mk (blk_below (g := gb135) (o := .cells #[.string a2_0, .string a2_1] 53 (0, 0)) (by (with_reducible repeat (first | refine blk_drewN ?_ _ | refine blk_drew ?_ | refine blk_alloc ?_ _)); exact BK135.out) hb); have n1_ := Aside0.mk (below_step (by repeat (first | (with_reducible first | exact HB.out | apply below_alloc | apply pw_below_drewN | apply below_drew1 | refine below_set ?_ GE135.out) | exact HB.out)) hb); clear BK135; clear HB; have BK135 := n0_; have HB := n1_; clear n0_ n1_; (try clear hb); (try clear hb2); (try clear hk); (try clear hi)) | ((with_reducible refine gate_callee (f := 16) rfl ?_); refine goesL_ (some 44) rfl rfl Try.func16 (by kernel_rfl) rfl #[.int .u64 (IntKind.u64.wrap (a0))] rfl (by (try simp only [List.map_toArray, List.map_cons, List.map_nil]); first | done | rfl | (simp only [List.length_drop, List.length_take]; rfl)) ?_; (with_reducible refine (pack_Number.calls kj3 (IntKind.u64.wrap (a0)) t139 _ A18.out).mono ?_); rintro e w40 ⟨rfl, hb⟩; refine ⟨_, rfl, ?_⟩; have n0_ := Aside0.mk (blk_below (g := gb135) (o := .cells #[.string a2_0, .string a2_1] 53 (0, 0)) (by (with_reducible repeat (first | refine blk_drewN ?_ _ | refine blk_drew ?_ | refine blk_alloc ?_ _)); exact BK135.out) hb); have n1_ := Aside0.mk (below_step (by repeat (first | (with_reducible first | exact HB.out | apply below_alloc | apply pw_below_drewN | apply below_drew1 | refine below_set ?_ GE135.out) | exact HB.out)) hb); clear BK135; clear HB; have BK135 := n0_; have HB := n1_; clear n0_ n1_; (try clear hb); (try clear hb2); (try clear hk); (try clear hi)) | ((with_reducible refine gate_callee (f := 14) rfl ?_); refine goesL_ (some 46) rfl rfl Try.func14 (by kernel_rfl) rfl #[.slice A1 l1.length c1] rfl (by (try simp only [List.map_toArray, List.map_cons, List.map_nil]); first | done | rfl | (simp only [List.length_drop, List.length_take]; rfl)) ?_; (with_reducible refine (pack_Texts.calls kj3 _ _ l1 t140 _ ?side1 ?side2 A19.out).mono ?_); (case side1 => repeat (first | exact (Kd.C_below HR1.out HB.out) | (with_reducible refine Kd.C_alloc ?_ _) | (with_reducible refine Kd.C_drewN ?_ _) | (with_reducible refine Kd.C_drew ?_))); (case side2 => exact HC1.out); rintro e w41 ⟨rfl, hb⟩; refine ⟨_, rfl, ?_⟩; have n0_ := Aside0.mk (blk_below (g := gb135) (o := .cells #[.string a2_0, .string a2_1] 53 (0, 0)) (by (with_reducible repeat (first | refine blk_drewN ?_ _ | refine blk_drew ?_ | refine blk_alloc ?_ _)); exact BK135.out) hb); have n1_ := Aside0.mk (below_step (by repeat (first | (with_reducible first | exact HB.out | apply below_alloc | apply pw_below_drewN | apply below_drew1 | refine below_set ?_ GE135.out) | exact HB.out)) hb); clear BK135; clear HB; have BK135 := n0_; have HB := n1_; clear n0_ n1_; (try clear hb); (try clear hb2); (try clear hk); (try clear hi); have hcz42_0 : w41.cell? ⟨gb135, 0, none⟩ = some (.string a2_0) := (blk_cell BK135.out 0).trans rfl; have hcz42_1 : w41.cell? ⟨gb135, 1, none⟩ = some (.string a2_1) := (blk_cell BK135.out 1).trans rfl; have hfz42_0 := blk_frozen BK135.out 0; have hfz42_1 := blk_frozen BK135.out 1) | ((with_reducible refine gate_callee (f := 22) rfl ?_); refine goesL_ (some 61) rfl rfl Try.func22 (by kernel_rfl) rfl #[.string ((((a2_0 ++ t138) ++ t139) ++ t140) ++ a2_1), .int .i64 (a2_0.size : Int)] rfl (by (try simp only [List.map_toArray, List.map_cons, List.map_nil]); first | done | rfl | (simp only [List.length_drop, List.length_take]; rfl)) ?_; (with_reducible refine (pack_TakeSigned.calls kj3 ((((a2_0 ++ t138) ++ t139) ++ t140) ++ a2_1) (a2_0.size : Int) t141 t142 t143 _ A24.out).mono ?_); rintro e w' ⟨rfl, ⟨nd, rfl⟩⟩; refine ⟨_, rfl, ?_⟩) | ((with_reducible refine gate_callee (f := 20) rfl ?_); refine goesL_ (some 68) rfl rfl Try.func20 (by kernel_rfl) rfl #[.string ((((a2_0 ++ t138) ++ t139) ++ t140) ++ a2_1), .int .i64 t142] rfl (by (try simp only [List.map_toArray, List.map_cons, List.map_nil]); first | done | rfl | (simp only [List.length_drop, List.length_take]; rfl)) ?_; (with_reducible refine (pack_TakeNumber.calls kj3 ((((a2_0 ++ t138) ++ t139) ++ t140) ++ a2_1) t142 t144 t145 t146 _ A25.out).mono ?_); rintro e w' ⟨rfl, ⟨nd, rfl⟩⟩; refine ⟨_, rfl, ?_⟩) | ((with_reducible refine gate_callee (f := 26) rfl ?_); refine goesL_ (some 75) rfl rfl Try.func26 (by kernel_rfl) rfl #[.string ((((a2_0 ++ t138) ++ t139) ++ t140) ++ a2_1), .int .i64 t145] rfl (by (try simp only [List.map_toArray, List.map_cons, List.map_nil]); first | done | rfl | (simp only [List.length_drop, List.length_take]; rfl)) ?_; (with_reducible refine (pack_TakeTexts.calls kj3 ((((a2_0 ++ t138) ++ t139) ++ t140) ++ a2_1) t145 t147 t148 t149 _ A26.out).mono ?_); rintro e w43 ⟨v150, rfl, ho0, hb⟩; refine ⟨_, rfl, ?_⟩; have n0_ := Aside0.mk (Kd.R_lower ho0 (below_size (by repeat (first | (with_reducible first | exact HB.out | apply below_alloc | apply pw_below_drewN | apply below_drew1 | refine below_set ?_ GE135.out) | exact HB.out)))); have n1_ := Aside0.mk (blk_below (g := gb135) (o := .cells #[.string a2_0, .string a2_1] 53 (0, 0)) (by (with_reducible repeat (first | refine blk_drewN ?_ _ | refine blk_drew ?_ | refine blk_alloc ?_ _)); exact BK135.out) hb); have n2_ := Aside0.mk (below_step (by repeat (first | (with_reducible first | exact HB.out | apply below_alloc | apply pw_below_drewN | apply below_drew1 | refine below_set ?_ GE135.out) | exact HB.out)) hb); clear BK135; clear HB; have HO151 := n0_; have BK135 := n1_; have HB := n2_; clear n0_ n1_ n2_; (try clear hb); (try clear hb2); (try clear hk); (try clear hi); (try clear ho0); obtain ⟨Ao44, co44, eo44⟩ := Kd.R_slice HO151.out; subst eo44) | (go_at_call 28; (with_reducible refine (ententeref01_Same.calls kj3 _ _ t147 _ _ l1 true _ ?side1 ?side2 ?side3 ?side4 A33.out).mono ?_); (case side1 => repeat (first | exact (Kd.R_reads' HO151.out).2.2 | (with_reducible refine Kd.C_alloc ?_ _) | (with_reducible refine Kd.C_drewN ?_ _) | (with_reducible refine Kd.C_drew ?_))); (case side2 => exact (Kd.R_reads' HO151.out).2.1); (case side3 => repeat (first | exact (Kd.C_below HR1.out HB.out) | (with_reducible refine Kd.C_alloc ?_ _) | (with_reducible refine Kd.C_drewN ?_ _) | (with_reducible refine Kd.C_drew ?_))); (case side4 => exact HC1.out); rintro e w' ⟨rfl, ⟨nd, rfl⟩⟩) | (go_at_call 11; (with_reducible refine (ententelaw01_awake.calls kj3  t153 _ A37.out).mono ?_); rintro e w45 ⟨rfl, hb⟩; have n0_ := Aside0.mk (Kd.R_below (by (with_reducible repeat (first | apply Kd.R_alloc | apply Kd.R_drewN | apply Kd.R_drew)); exact HO151.out) hb); have n1_ := Aside0.mk (blk_below (g := gb135) (o := .cells #[.string a2_0, .string a2_1] 53 (0, 0)) (by (with_reducible repeat (first | refine blk_drewN ?_ _ | refine blk_drew ?_ | refine blk_alloc ?_ _)); exact BK135.out) hb); have n2_ := Aside0.mk (below_step (by repeat (first | (with_reducible first | exact HB.out | apply below_alloc | apply pw_below_drewN | apply below_drew1 | refine below_set ?_ GE135.out) | exact HB.out)) hb); clear HO151; clear BK135; clear HB; have HO151 := n0_; have BK135 := n1_; have HB := n2_; clear n0_ n1_ n2_; (try clear hb); (try clear hb2); (try clear hk); (try clear hi)))
                                  go_ret
                                  exact ⟨by first | rfl | (simp [errW_none, errW_some] <;> rfl) | (simp [*, errW_none, errW_some] <;> rfl), by repeat (first | (with_reducible first | exact HB.out | apply below_alloc | apply pw_below_drewN | apply below_drew1 | refine below_set ?_ GE135.out) | exact HB.out)⟩
                                · rw [if_neg c36] at H
                                  have c36b0 : (t148 == (wrap64 (t145 + (t140.size : Int)))) = false := beq_eq_false_iff_ne.mpr c36
                                  have c36b1 : (t148 != (wrap64 (t145 + (t140.size : Int)))) = true := bne_iff_ne.mpr c36
                                  exact absurd ((Option.some.inj H).trans HT.out) Bool.false_ne_true
                              · rw [if_neg c35] at H
                                have c35b0 : (t149 == 0) = false := beq_eq_false_iff_ne.mpr c35
                                have c35b1 : (t149 != 0) = true := bne_iff_ne.mpr c35
                                exact absurd ((Option.some.inj H).trans HT.out) Bool.false_ne_true
                            · replace c34 := Bool.eq_false_iff.mpr c34
                              subst c34
                              have H1 : (some false) = some r := by rw [if_neg (show ¬ (false = true) by decide)] at H; exact H
                              clear H
                              have H := H1
                              clear H1
                              exact absurd ((Option.some.inj H).trans HT.out) Bool.false_ne_true
                          · rw [if_neg c32] at H
                            have c32b0 : (t145 == (wrap64 (t142 + (t139.size : Int)))) = false := beq_eq_false_iff_ne.mpr c32
                            have c32b1 : (t145 != (wrap64 (t142 + (t139.size : Int)))) = true := bne_iff_ne.mpr c32
                            exact absurd ((Option.some.inj H).trans HT.out) Bool.false_ne_true
                        · rw [if_neg c31] at H
                          have c31b0 : (t146 == 0) = false := beq_eq_false_iff_ne.mpr c31
                          have c31b1 : (t146 != 0) = true := bne_iff_ne.mpr c31
                          exact absurd ((Option.some.inj H).trans HT.out) Bool.false_ne_true
                      · rw [if_neg c30] at H
                        have c30b0 : (t144 == (IntKind.u64.wrap (a0))) = false := beq_eq_false_iff_ne.mpr c30
                        have c30b1 : (t144 != (IntKind.u64.wrap (a0))) = true := bne_iff_ne.mpr c30
                        exact absurd ((Option.some.inj H).trans HT.out) Bool.false_ne_true
                    · rw [if_neg c29] at H
                      have c29b0 : (t142 == (wrap64 ((a2_0.size : Int) + (t138.size : Int)))) = false := beq_eq_false_iff_ne.mpr c29
                      have c29b1 : (t142 != (wrap64 ((a2_0.size : Int) + (t138.size : Int)))) = true := bne_iff_ne.mpr c29
                      exact absurd ((Option.some.inj H).trans HT.out) Bool.false_ne_true
                  · rw [if_neg c28] at H
                    have c28b0 : (t143 == 0) = false := beq_eq_false_iff_ne.mpr c28
                    have c28b1 : (t143 != 0) = true := bne_iff_ne.mpr c28
                    exact absurd ((Option.some.inj H).trans HT.out) Bool.false_ne_true
                · rw [if_neg c27] at H
                  have c27b0 : (t141 == a0) = false := beq_eq_false_iff_ne.mpr c27
                  have c27b1 : (t141 != a0) = true := bne_iff_ne.mpr c27
                  exact absurd ((Option.some.inj H).trans HT.out) Bool.false_ne_true
              · rw [if_neg c23] at H
                exact absurd H (by simp)
            · rw [if_neg c22] at H
              exact absurd H (by simp)
          · rw [if_neg c21] at H
            exact absurd H (by simp)
        · rw [if_neg c20] at H
          exact absurd H (by simp)

/-- THE ONE PURE STATEMENT of ententelaw01_PackBack. -/
def ententelaw01_PackBack.Pure : Prop := ∀ (a0 : Int) (l1 : List ByteArray) (a2_0 : ByteArray) (a2_1 : ByteArray), (Lit.int .i64 a0).wf = true → (l1.length ≤ 9223372036854775807 ∧ l1.length * 16 ≤ 140737488351232 ∧ ∀ y_ ∈ l1, y_.size ≤ 140737488351232) → a2_0.size ≤ 140737488351232 → a2_1.size ≤ 140737488351232 → ∃ k, ententelaw01_PackBack.f k a0 l1 a2_0 a2_1 = some true

end Go.Proofs.Ytfhffabnllicdaa.PC
