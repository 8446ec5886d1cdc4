-- Written by a program of this session (wip/tools/mp.py over the kit's printer); Lean checks it.
import Derived.Test.YtcgmoeiknkdljaaPAx0
namespace Go.Proofs.Ytcgmoeiknkdljaa.PA
open Go.RowKit Go.Proofs.YtcgmoeiknkdljaaW.PrintWords Go.Proofs.YtcgmoeiknkdljaaW.PrintLast Go.Proofs.YtcgmoeiknkdljaaW.PrintMore
attribute [local go_sem] max2_int min2_int max_two min_two max_three min_three max_four min_four   -- for this text's walks alone
set_option linter.unusedVariables false
set_option maxHeartbeats 8000000
set_option maxRecDepth 100000
set_option linter.unusedSimpArgs false

/-! ### ententeref03_Check: function 42 -/
mutual
def ententeref03_Check.j0 : Nat → Bool → Int → Int → List (S62) → Option (Int)
 | 0, _, _, _, _ => none
 | k + 1, x29, x254000, x254001, x254002 => if x29 = true then (some 30) else (ententeref03_Check.l0 k 0 x254000 x254001 x254002)
def ententeref03_Check.l0 : Nat → Int → Int → Int → List (S62) → Option (Int)
 | 0, _, _, _, _ => none
 | k + 1, x3, x254000, x254001, x254002 => if x3 < (x254002.length : Int) then (if 0 ≤ x3 then (if ((rd_T62 x254002 x3).f0) < 0 then (ententeref03_Check.j2 k x3 true x254000 x254001 x254002 ((rd_T62 x254002 x3).f0) ((rd_T62 x254002 x3).f1)) else (if ((rd_T62 x254002 x3).f0) > 7 then (ententeref03_Check.j2 k x3 true x254000 x254001 x254002 ((rd_T62 x254002 x3).f0) ((rd_T62 x254002 x3).f1)) else (if ((rd_T62 x254002 x3).f1) < 0 then (ententeref03_Check.j2 k x3 true x254000 x254001 x254002 ((rd_T62 x254002 x3).f0) ((rd_T62 x254002 x3).f1)) else (if ((rd_T62 x254002 x3).f1) > 15 then (ententeref03_Check.j2 k x3 true x254000 x254001 x254002 ((rd_T62 x254002 x3).f0) ((rd_T62 x254002 x3).f1)) else (ententeref03_Check.j2 k x3 (((rd_T62 x254002 x3).f1) == x254000) x254000 x254001 x254002 ((rd_T62 x254002 x3).f0) ((rd_T62 x254002 x3).f1)))))) else (none)) else (some 0)
def ententeref03_Check.j2 : Nat → Int → Bool → Int → Int → List (S62) → Int → Int → Option (Int)
 | 0, _, _, _, _, _, _, _ => none
 | k + 1, x3, x66, x254000, x254001, x254002, x256000, x256001 => if x66 = true then (some 30) else (ententeref03_Check.l1 k x3 0 x254000 x254001 x254002 x256000 x256001)
def ententeref03_Check.l1 : Nat → Int → Int → Int → Int → List (S62) → Int → Int → Option (Int)
 | 0, _, _, _, _, _, _, _ => none
 | k + 1, x3, x5, x254000, x254001, x254002, x256000, x256001 => if x5 < x3 then (if 0 ≤ x5 then (if x5 < (x254002.length : Int) then (if ((rd_T62 x254002 x5).f1) = x256001 then (some 30) else (ententeref03_Check.l1 k x3 (wrap64 (x5 + 1)) x254000 x254001 x254002 x256000 x256001)) else (none)) else (none)) else (ententeref03_Check.l0 k (wrap64 (x3 + 1)) x254000 x254001 x254002)
end
def ententeref03_Check.f (k : Nat) (a0_0 : Int) (a0_1 : Int) (l0_2 : List (S62)) : Option (Int) := if a0_1 < 1 then (ententeref03_Check.j0 k true a0_0 a0_1 l0_2) else (if a0_1 > 999999 then (ententeref03_Check.j0 k true a0_0 a0_1 l0_2) else (if (l0_2.length : Int) > 4 then (ententeref03_Check.j0 k true a0_0 a0_1 l0_2) else (if a0_0 < 0 then (ententeref03_Check.j0 k true a0_0 a0_1 l0_2) else (ententeref03_Check.j0 k (decide (a0_0 > 15)) a0_0 a0_1 l0_2))))
theorem ententeref03_Check.mono_l : ∀ k, (∀ y0 y1 y2 y3, LeO (ententeref03_Check.j0 k y0 y1 y2 y3) (ententeref03_Check.j0 (k + 1) y0 y1 y2 y3)) ∧ (∀ y0 y1 y2 y3, LeO (ententeref03_Check.l0 k y0 y1 y2 y3) (ententeref03_Check.l0 (k + 1) y0 y1 y2 y3)) ∧ (∀ y0 y1 y2 y3 y4 y5 y6, LeO (ententeref03_Check.j2 k y0 y1 y2 y3 y4 y5 y6) (ententeref03_Check.j2 (k + 1) y0 y1 y2 y3 y4 y5 y6)) ∧ (∀ y0 y1 y2 y3 y4 y5 y6, LeO (ententeref03_Check.l1 k y0 y1 y2 y3 y4 y5 y6) (ententeref03_Check.l1 (k + 1) y0 y1 y2 y3 y4 y5 y6))
 | 0 => ⟨fun _ _ _ _ r h => by simp [ententeref03_Check.j0] at h, fun _ _ _ _ r h => by simp [ententeref03_Check.l0] at h, fun _ _ _ _ _ _ _ r h => by simp [ententeref03_Check.j2] at h, fun _ _ _ _ _ _ _ r h => by simp [ententeref03_Check.l1] at h⟩
 | k + 1 => by
  obtain ⟨ih0, ih1, ih2, ih3⟩ := ententeref03_Check.mono_l k
  refine ⟨?_, ?_, ?_, ?_⟩
  ·intro y0 y1 y2 y3
   unfold ententeref03_Check.j0
   repeat' (with_reducible first | exact ih0 _ _ _ _ | exact ih1 _ _ _ _ | exact ih2 _ _ _ _ _ _ _ | exact ih3 _ _ _ _ _ _ _ | exact LeO.refl _ | exact LeO.none _ | apply LeO.ite | refine LeO.bind ?_ (fun _ => ?_))
  ·intro y0 y1 y2 y3
   unfold ententeref03_Check.l0
   repeat' (with_reducible first | exact ih0 _ _ _ _ | exact ih1 _ _ _ _ | exact ih2 _ _ _ _ _ _ _ | exact ih3 _ _ _ _ _ _ _ | exact LeO.refl _ | exact LeO.none _ | apply LeO.ite | refine LeO.bind ?_ (fun _ => ?_))
  ·intro y0 y1 y2 y3 y4 y5 y6
   unfold ententeref03_Check.j2
   repeat' (with_reducible first | exact ih0 _ _ _ _ | exact ih1 _ _ _ _ | exact ih2 _ _ _ _ _ _ _ | exact ih3 _ _ _ _ _ _ _ | exact LeO.refl _ | exact LeO.none _ | apply LeO.ite | refine LeO.bind ?_ (fun _ => ?_))
  intro y0 y1 y2 y3 y4 y5 y6
  unfold ententeref03_Check.l1
  repeat' (with_reducible first | exact ih0 _ _ _ _ | exact ih1 _ _ _ _ | exact ih2 _ _ _ _ _ _ _ | exact ih3 _ _ _ _ _ _ _ | exact LeO.refl _ | exact LeO.none _ | apply LeO.ite | refine LeO.bind ?_ (fun _ => ?_))
theorem ententeref03_Check.mono : ∀ a0 a1 a2 k, LeO (ententeref03_Check.f k a0 a1 a2) (ententeref03_Check.f (k + 1) a0 a1 a2) := by
 intro a0 a1 a2 k
 obtain ⟨ih0, ih1, ih2, ih3⟩ := ententeref03_Check.mono_l k
 unfold ententeref03_Check.f
 repeat' (with_reducible first | exact ih0 _ _ _ _ | exact ih1 _ _ _ _ | exact ih2 _ _ _ _ _ _ _ | exact ih3 _ _ _ _ _ _ _ | exact LeO.refl _ | exact LeO.none _ | apply LeO.ite | refine LeO.bind ?_ (fun _ => ?_))
theorem ententeref03_Check.calls (k : Nat) (a0_0 : Int) (a0_1 : Int) (A0_2 : Option Addr) (c0_2 : Nat) (l0_2 : List (S62)) (r : Int) (w : World) (hr0_2 : Kd.C k62 w A0_2 l0_2.length l0_2) (hc0_2 : l0_2.length ≤ c0_2) (h : ententeref03_Check.f k a0_0 a0_1 l0_2 = some r) :
  Calls Try.prog 42 #[.agg #[.int .i64 a0_0, .int .i64 a0_1, .slice A0_2 l0_2.length c0_2]] w fun e w' => e = .returned (.int .i64 r) ∧ Below w.heap.size w w' := by
 have hu35 := Try.underlying35
 have hu62 := Try.underlying62
 have HR0_2 := My.am hr0_2
 have HC0_2 := My.am hc0_2
 clear hr0_2 hc0_2
 have HB := My.am (Below.refl w.heap.size w)
 unfold ententeref03_Check.f at h
 have H := h
 clear h
 have HC2 := My.am H
 clear H
 go_enter Try.func42, Try.ntmps42
 go_upto_region 1 with (first | ((with_reducible refine gate_dst (N := 1) rfl ?_); (try (refine gate_guard (by rfl) ?_; dsimp only)); refine My.bx 1 #[.int .i64 a0_0, .int .i64 a0_1, .slice A0_2 l0_2.length c0_2] 35 ?_; intro gb253 hg w3 hbox hb; have BK253 := My.am (hbox); have GE253 := My.nge hg (My.bl_ HB); replace HB := My.st HB hb; clear hb hbox hg))
 repeat (go_quiet (first | ((with_reducible refine gate_dst (N := 1) rfl ?_); (try (refine gate_guard (by rfl) ?_; dsimp only)); refine My.bx 1 #[.int .i64 a0_0, .int .i64 a0_1, .slice A0_2 l0_2.length c0_2] 35 ?_; intro gb253 hg w3 hbox hb; have BK253 := My.am (hbox); have GE253 := My.nge hg (My.bl_ HB); replace HB := My.st HB hb; clear hb hbox hg)); go_upto_region 1 with (first | ((with_reducible refine gate_dst (N := 1) rfl ?_); (try (refine gate_guard (by rfl) ?_; dsimp only)); refine My.bx 1 #[.int .i64 a0_0, .int .i64 a0_1, .slice A0_2 l0_2.length c0_2] 35 ?_; intro gb253 hg w3 hbox hb; have BK253 := My.am (hbox); have GE253 := My.nge hg (My.bl_ HB); replace HB := My.st HB hb; clear hb hbox hg)))
 (try simp only [Act.put, List.setIfInBounds_toArray, List.set_cons_zero, List.set_cons_succ])
 go_cut [29] (fun v29 wc => ∃ (kq : Nat) (x29_1 : Bool), v29 = .bool x29_1 ∧ Aside0 (ententeref03_Check.j0 kq x29_1 a0_0 a0_1 l0_2 = some r) ∧ Aside0 (kq ≤ k) ∧ Aside0 (wc.heap[gb253]? = some (.cells #[.int .i64 a0_0, .int .i64 a0_1, (.slice A0_2 l0_2.length c0_2)] 35 (0, 0))) ∧ Aside0 (Below w.heap.size w wc))
 case first =>
  have H := HC2.out
  clear HC2
  by_cases c4 : a0_1 < 1
  ·rw [if_pos c4] at H
   have c4b0 := decide_eq_true c4
   clear c4
   (first | rw [c4b0] | (simp only [i64_w, i32_w]; rw [c4b0]) | skip)
   have H' := My.am H
   clear H
   have hq5 := My.cz3 BK253
   go_wp2
   repeat (go_quiet (fail); try go_wp2)
   go_meet
   case rel => exact ⟨_, (true), My.r1, H', ⟨My.r4⟩, ⟨(My.at_ BK253)⟩, ⟨(My.bl_ HB)⟩⟩
  ·rw [if_neg c4] at H
   have c4b0 := decide_eq_false c4
   clear c4
   (first | rw [c4b0] | (simp only [i64_w, i32_w]; rw [c4b0]) | skip)
   by_cases c6 : a0_1 > 999999
   ·rw [if_pos c6] at H
    have c6b0 : decide (999999 < a0_1) = true := decide_eq_true c6
    clear c6
    have H' := My.am H
    clear H
    have hq7 := My.cz3 BK253
    go_wp2
    repeat (go_quiet (fail); try go_wp2)
    go_meet
    case rel => exact ⟨_, (true), My.r1, H', ⟨My.r4⟩, ⟨(My.at_ BK253)⟩, ⟨(My.bl_ HB)⟩⟩
   rw [if_neg c6] at H
   have c6b0 : decide (999999 < a0_1) = false := decide_eq_false c6
   clear c6
   by_cases c8 : (l0_2.length : Int) > 4
   ·rw [if_pos c8] at H
    have c8b0 : decide (4 < (l0_2.length : Int)) = true := decide_eq_true c8
    have c8b1 : decide (4 < l0_2.length) = true := decide_eq_true (by omega)
    clear c8
    have H' := My.am H
    clear H
    have hq9 := My.cz3 BK253
    go_wp2
    repeat (go_quiet (fail); try go_wp2)
    go_meet
    case rel => exact ⟨_, (true), My.r1, H', ⟨My.r4⟩, ⟨(My.at_ BK253)⟩, ⟨(My.bl_ HB)⟩⟩
   rw [if_neg c8] at H
   have c8b0 : decide (4 < (l0_2.length : Int)) = false := decide_eq_false c8
   have c8b1 : decide (4 < l0_2.length) = false := decide_eq_false (by omega)
   clear c8
   by_cases c10 : a0_0 < 0
   ·rw [if_pos c10] at H
    have c10b0 := decide_eq_true c10
    clear c10
    have H' := My.am H
    clear H
    have hq11 := My.cz3 BK253
    go_wp2
    repeat (go_quiet (fail); try go_wp2)
    go_meet
    case rel => exact ⟨_, (true), My.r1, H', ⟨My.r4⟩, ⟨(My.at_ BK253)⟩, ⟨(My.bl_ HB)⟩⟩
   rw [if_neg c10] at H
   have c10b0 := decide_eq_false c10
   clear c10
   have H' := My.am H
   clear H
   have hq12 := My.cz3 BK253
   go_wp2
   repeat (go_quiet (fail); try go_wp2)
   go_meet
   case rel => exact ⟨_, (decide (a0_0 > 15)), My.r1, H', ⟨My.r4⟩, ⟨(My.at_ BK253)⟩, ⟨(My.bl_ HB)⟩⟩
 case rest =>
  clear HC2
  obtain ⟨kq, x29_1, rfl, HA, HJ1, BK253, HB⟩ := hcut
  cases kq with
  | zero => exact absurd HA.out (by simp [ententeref03_Check.j0])
  | succ kj1 =>
   have H := HA.out
   clear HA
   simp only [ententeref03_Check.j0] at H
   by_cases c13 : x29_1 = true
   ·subst c13
    rw [if_pos rfl] at H
    obtain rfl := Option.some.inj H
    go_wp2
    repeat (go_quiet (fail); try go_wp2)
    go_ret
    exact ⟨My.r2, (My.bl_ HB)⟩
   replace c13 := Bool.eq_false_iff.mpr c13
   subst c13
   rw [if_neg (show ¬ (false = true) by decide)] at H
   have H' := My.am H
   clear H
   go_wp2
   repeat (go_quiet (fail); try go_wp2)
   go_loopg [3] kj1 (fun kq v3 w' => ∃ (x3_2 : Int), v3 = .int .i64 x3_2 ∧ Aside0 (ententeref03_Check.l0 kq x3_2 a0_0 a0_1 l0_2 = some r) ∧ Aside0 (kq ≤ kj1) ∧ Aside0 (w'.heap[gb253]? = some (.cells #[.int .i64 a0_0, .int .i64 a0_1, (.slice A0_2 l0_2.length c0_2)] 35 (0, 0))) ∧ Aside0 (Below w.heap.size w w'))
   case atStart => exact ⟨(0), My.r1, H', ⟨Nat.le_refl _⟩, ⟨(My.at_ BK253)⟩, ⟨(My.bl_ HB)⟩⟩
   case round =>
    clear H'
    try clear c13
    obtain ⟨x3_2, rfl, HA, HK2, BK253, HB⟩ := hrel
    cases gk with
    | zero => exact absurd HA.out (by simp [ententeref03_Check.l0])
    | succ k2 =>
     have H := HA.out
     clear HA
     simp only [ententeref03_Check.l0] at H
     by_cases c14 : x3_2 < (l0_2.length : Int)
     rotate_left
     ·rw [if_neg c14] at H
      have c14b0 := decide_eq_false c14
      clear c14
      obtain rfl := Option.some.inj H
      have hq47 := My.cz3 BK253
      go_wp2
      repeat (go_quiet (fail); try go_wp2)
      go_ret
      exact ⟨My.r2, (My.bl_ HB)⟩

     rw [if_pos c14] at H
     have c14b0 := decide_eq_true c14
     clear c14
     replace H := My.ds H
     obtain ⟨c15b0, H⟩ := H
     have HC16 := My.am H
     clear H
     have hq17 := My.cz3 BK253
     have p254 : 0 ≤ (x3_2 : Int) := My.as_
     have q254 : x3_2 < (l0_2.length : Int) := My.as_
     obtain ⟨ad254, e254, hx254_0, hx254_1⟩ := My.up2 HB (at_T62 HR0_2.out x3_2 p254 q254)
     cases e254
     replace p254 := eq_true p254
     replace q254 := eq_true q254
     go_upto_region 7 with (first | ((with_reducible refine gate_dst (N := 4) rfl ?_); (try (refine gate_guard (by rfl) ?_; dsimp only)); refine My.bx 4 #[.int .i64 0, .int .i64 0] 62 ?_; intro gb255 hg w18 hbox hb; have BK255 := My.am (hbox); have GE255 := My.nge hg (My.bl_ HB); replace HB := My.st HB hb; obtain ⟨NB253_255, NB255_253, BK253⟩ := My.nb hg hb BK253; clear hb hbox hg; have hnb19 := NB255_253.out; have hnc19 := NB253_255.out; have hq20 := My.cz2 BK255))
     repeat (go_quiet (first | ((with_reducible refine gate_dst (N := 4) rfl ?_); (try (refine gate_guard (by rfl) ?_; dsimp only)); refine My.bx 4 #[.int .i64 0, .int .i64 0] 62 ?_; intro gb255 hg w18 hbox hb; have BK255 := My.am (hbox); have GE255 := My.nge hg (My.bl_ HB); replace HB := My.st HB hb; obtain ⟨NB253_255, NB255_253, BK253⟩ := My.nb hg hb BK253; clear hb hbox hg; have hnb19 := NB255_253.out; have hnc19 := NB253_255.out; have hq20 := My.cz2 BK255)); go_upto_region 7 with (first | ((with_reducible refine gate_dst (N := 4) rfl ?_); (try (refine gate_guard (by rfl) ?_; dsimp only)); refine My.bx 4 #[.int .i64 0, .int .i64 0] 62 ?_; intro gb255 hg w18 hbox hb; have BK255 := My.am (hbox); have GE255 := My.nge hg (My.bl_ HB); replace HB := My.st HB hb; obtain ⟨NB253_255, NB255_253, BK253⟩ := My.nb hg hb BK253; clear hb hbox hg; have hnb19 := NB255_253.out; have hnc19 := NB253_255.out; have hq20 := My.cz2 BK255)))
     (try simp only [Act.put, List.setIfInBounds_toArray, List.set_cons_zero, List.set_cons_succ])
     go_cut [66] (fun v66 wc => ∃ (kq : Nat) (x66_15 : Bool), v66 = .bool x66_15 ∧ Aside0 (ententeref03_Check.j2 kq x3_2 x66_15 a0_0 a0_1 l0_2 ((rd_T62 l0_2 x3_2).f0) ((rd_T62 l0_2 x3_2).f1) = some r) ∧ Aside0 (kq ≤ k2) ∧ Aside0 (wc.heap[gb253]? = some (.cells #[.int .i64 a0_0, .int .i64 a0_1, (.slice (some ad254) l0_2.length c0_2)] 35 (0, 0))) ∧ Aside0 (wc.heap[gb255]? = some (.cells #[.int .i64 ((rd_T62 l0_2 x3_2).f0), .int .i64 ((rd_T62 l0_2 x3_2).f1)] 62 (0, 0))) ∧ Aside0 (Below w.heap.size w wc))
     case first =>
      have H := HC16.out
      clear HC16
      by_cases c21 : ((rd_T62 l0_2 x3_2).f0) < 0
      ·rw [if_pos c21] at H
       have c21b0 := decide_eq_true c21
       clear c21
       (first | rw [c21b0] | (simp only [i64_w, i32_w]; rw [c21b0]) | skip)
       have H' := My.am H
       clear H
       have hnb22 := NB255_253.out
       have hnc22 := NB253_255.out
       have hq23 := My.cz2 BK255
       go_wp2
       repeat (go_quiet (fail); try go_wp2)
       go_meet
       case rel => exact ⟨_, (true), My.r1, H', ⟨by have := HJ1.out; have := HK2.out; first | omega | exact Nat.le_refl _⟩, ⟨(My.sv_ BK253)⟩, ⟨(My.sv_ BK255)⟩, ⟨(My.bl_ HB)⟩⟩
      rw [if_neg c21] at H
      have c21b0 := decide_eq_false c21
      clear c21
      (first | rw [c21b0] | (simp only [i64_w, i32_w]; rw [c21b0]) | skip)
      by_cases c24 : ((rd_T62 l0_2 x3_2).f0) > 7
      ·rw [if_pos c24] at H
       have c24b0 : decide (7 < ((rd_T62 l0_2 x3_2).f0)) = true := decide_eq_true c24
       clear c24
       have H' := My.am H
       clear H
       have hnb25 := NB255_253.out
       have hnc25 := NB253_255.out
       have hq26 := My.cz2 BK255
       go_wp2
       repeat (go_quiet (fail); try go_wp2)
       go_meet
       case rel => exact ⟨_, (true), My.r1, H', ⟨by have := HJ1.out; have := HK2.out; first | omega | exact Nat.le_refl _⟩, ⟨(My.sv_ BK253)⟩, ⟨(My.sv_ BK255)⟩, ⟨(My.bl_ HB)⟩⟩
      rw [if_neg c24] at H
      have c24b0 : decide (7 < ((rd_T62 l0_2 x3_2).f0)) = false := decide_eq_false c24
      clear c24
      by_cases c27 : ((rd_T62 l0_2 x3_2).f1) < 0
      ·rw [if_pos c27] at H
       have c27b0 := decide_eq_true c27
       clear c27
       have H' := My.am H
       clear H
       have hnb28 := NB255_253.out
       have hnc28 := NB253_255.out
       have hq29 := My.cz2 BK255
       go_wp2
       repeat (go_quiet (fail); try go_wp2)
       go_meet
       case rel => exact ⟨_, (true), My.r1, H', ⟨by have := HJ1.out; have := HK2.out; first | omega | exact Nat.le_refl _⟩, ⟨(My.sv_ BK253)⟩, ⟨(My.sv_ BK255)⟩, ⟨(My.bl_ HB)⟩⟩
      rw [if_neg c27] at H
      have c27b0 := decide_eq_false c27
      clear c27
      by_cases c30 : ((rd_T62 l0_2 x3_2).f1) > 15
      ·rw [if_pos c30] at H
       have c30b0 : decide (15 < ((rd_T62 l0_2 x3_2).f1)) = true := decide_eq_true c30
       clear c30
       have H' := My.am H
       clear H
       have hnb31 := NB255_253.out
       have hnc31 := NB253_255.out
       have hq32 := My.cz2 BK255
       go_wp2
       repeat (go_quiet (fail); try go_wp2)
       go_meet
       case rel => exact ⟨_, (true), My.r1, H', ⟨by have := HJ1.out; have := HK2.out; first | omega | exact Nat.le_refl _⟩, ⟨(My.sv_ BK253)⟩, ⟨(My.sv_ BK255)⟩, ⟨(My.bl_ HB)⟩⟩
      rw [if_neg c30] at H
      have c30b0 : decide (15 < ((rd_T62 l0_2 x3_2).f1)) = false := decide_eq_false c30
      clear c30
      have H' := My.am H
      clear H
      have hnb33 := NB255_253.out
      have hnc33 := NB253_255.out
      have hq34 := My.cz2 BK255
      have hq35 := My.cz3 BK253
      go_wp2
      repeat (go_quiet (fail); try go_wp2)
      go_meet
      case rel => exact ⟨_, ((((rd_T62 l0_2 x3_2).f1) == a0_0)), My.r1, H', ⟨by have := HJ1.out; have := HK2.out; first | omega | exact Nat.le_refl _⟩, ⟨(My.sv_ BK253)⟩, ⟨(My.sv_ BK255)⟩, ⟨(My.bl_ HB)⟩⟩
     case rest =>
      clear HC16
      try clear c13
      try clear c14
      try clear c14b0
      try clear c15b0
      try clear hq17
      try clear hq20
      try clear hx254_0
      try clear hx254_1
      try clear p254
      try clear q254
      obtain ⟨kq, x66_15, rfl, HA, HJ15, BK253, BK255, HB⟩ := hcut
      cases kq with
      | zero => exact absurd HA.out (by simp [ententeref03_Check.j2])
      | succ kj15 =>
       have H := HA.out
       clear HA
       simp only [ententeref03_Check.j2] at H
       by_cases c36 : x66_15 = true
       ·subst c36
        rw [if_pos rfl] at H
        obtain rfl := Option.some.inj H
        go_wp2
        repeat (go_quiet (fail); try go_wp2)
        go_ret
        exact ⟨My.r2, (My.bl_ HB)⟩
       replace c36 := Bool.eq_false_iff.mpr c36
       subst c36
       rw [if_neg (show ¬ (false = true) by decide)] at H
       have H' := My.am H
       clear H
       go_wp2
       repeat (go_quiet (fail); try go_wp2)
       go_loopg [5] kj15 (fun kq v5 w' => ∃ (x5_4 : Int), v5 = .int .i64 x5_4 ∧ Aside0 (ententeref03_Check.l1 kq x3_2 x5_4 a0_0 a0_1 l0_2 ((rd_T62 l0_2 x3_2).f0) ((rd_T62 l0_2 x3_2).f1) = some r) ∧ Aside0 (kq ≤ kj15) ∧ Aside0 (w'.heap[gb253]? = some (.cells #[.int .i64 a0_0, .int .i64 a0_1, (.slice (some ad254) l0_2.length c0_2)] 35 (0, 0))) ∧ Aside0 (w'.heap[gb255]? = some (.cells #[.int .i64 ((rd_T62 l0_2 x3_2).f0), .int .i64 ((rd_T62 l0_2 x3_2).f1)] 62 (0, 0))) ∧ Aside0 (Below w.heap.size w w'))
       case atStart => exact ⟨(0), My.r1, H', ⟨Nat.le_refl _⟩, ⟨(My.at_ BK253)⟩, ⟨(My.at_ BK255)⟩, ⟨(My.bl_ HB)⟩⟩
       case round =>
        clear H'
        try clear c13
        try clear c14
        try clear c14b0
        try clear c15b0
        try clear c36
        try clear hq17
        try clear hq20
        try clear hx254_0
        try clear hx254_1
        try clear p254
        try clear q254
        obtain ⟨x5_4, rfl, HA, HK4, BK253, BK255, HB⟩ := hrel
        cases gk with
        | zero => exact absurd HA.out (by simp [ententeref03_Check.l1])
        | succ k4 =>
         have H := HA.out
         clear HA
         simp only [ententeref03_Check.l1] at H
         by_cases c37 : x5_4 < x3_2
         rotate_left
         ·rw [if_neg c37] at H
          have c37b0 := decide_eq_false c37
          clear c37
          have H' := My.am H
          clear H
          go_wp2
          repeat (go_quiet (fail); try go_wp2)
          go_roundg k4
          case measure => have := HJ1.out; have := HK2.out; have := HJ15.out; have := HK4.out; omega
          case rel => exact ⟨(wrap64 (x3_2 + 1)), My.r1, H', ⟨by have := HJ1.out; have := HK2.out; have := HJ15.out; have := HK4.out; omega⟩, ⟨(My.at_ BK253)⟩, ⟨(My.bl_ HB)⟩⟩
         rw [if_pos c37] at H
         have c37b0 := decide_eq_true c37
         clear c37
         replace H := My.ds H
         obtain ⟨c38b0, H⟩ := H
         replace H := My.ds H
         obtain ⟨c39b0, H⟩ := H
         by_cases c40 : ((rd_T62 l0_2 x5_4).f1) = ((rd_T62 l0_2 x3_2).f1)
         ·rw [if_pos c40] at H
          have c40b0 : (((rd_T62 l0_2 x5_4).f1) == ((rd_T62 l0_2 x3_2).f1)) = true := beq_iff_eq.mpr c40
          have c40b1 : (((rd_T62 l0_2 x5_4).f1) != ((rd_T62 l0_2 x3_2).f1)) = false := bne_eq_false_iff_eq.mpr c40
          clear c40
          obtain rfl := Option.some.inj H
          have hnb41 := NB253_255.out
          have hnc41 := NB255_253.out
          have hq42 := My.cz3 BK253
          have p256 : 0 ≤ (x5_4 : Int) := My.as_
          have q256 : x5_4 < (l0_2.length : Int) := My.as_
          obtain ⟨ad256, e256, hx256_0, hx256_1⟩ := at_T62 HR0_2.out x5_4 p256 q256
          obtain rfl : ad254 = ad256 := (by injection e256)
          replace hx256_0 := My.up HB hx256_0
          replace hx256_1 := My.up HB hx256_1
          replace p256 := eq_true p256
          replace q256 := eq_true q256
          have hq43 := My.cz2 BK255
          go_wp2
          repeat (go_quiet (fail); try go_wp2)
          go_ret
          exact ⟨My.r2, (My.bl_ HB)⟩
         rw [if_neg c40] at H
         have c40b0 : (((rd_T62 l0_2 x5_4).f1) == ((rd_T62 l0_2 x3_2).f1)) = false := beq_eq_false_iff_ne.mpr c40
         have c40b1 : (((rd_T62 l0_2 x5_4).f1) != ((rd_T62 l0_2 x3_2).f1)) = true := bne_iff_ne.mpr c40
         have H' := My.am H
         clear H
         have hnb44 := NB253_255.out
         have hnc44 := NB255_253.out
         have hq45 := My.cz3 BK253
         have p256 : 0 ≤ (x5_4 : Int) := My.as_
         have q256 : x5_4 < (l0_2.length : Int) := My.as_
         obtain ⟨ad256, e256, hx256_0, hx256_1⟩ := at_T62 HR0_2.out x5_4 p256 q256
         obtain rfl : ad254 = ad256 := (by injection e256)
         replace hx256_0 := My.up HB hx256_0
         replace hx256_1 := My.up HB hx256_1
         replace p256 := eq_true p256
         replace q256 := eq_true q256
         have hq46 := My.cz2 BK255
         go_wp2
         repeat (go_quiet (fail); try go_wp2)
         go_roundg k4
         case measure => have := HJ1.out; have := HK2.out; have := HJ15.out; have := HK4.out; omega
         case rel => exact ⟨(wrap64 (x5_4 + 1)), My.r1, H', ⟨by have := HJ1.out; have := HK2.out; have := HJ15.out; have := HK4.out; omega⟩, ⟨(My.at_ BK253)⟩, ⟨(My.at_ BK255)⟩, ⟨(My.bl_ HB)⟩⟩
end Go.Proofs.Ytcgmoeiknkdljaa.PA
