-- Written by a program of this session (wip/tools/mp.py over the kit's printer); Lean checks it.
import Derived.Test.YtikanbdhpafbiaaPZx0
namespace Go.Proofs.Ytikanbdhpafbiaa.PZ
open Go.RowKit Go.Proofs.YtikanbdhpafbiaaW.PrintWords Go.Proofs.YtikanbdhpafbiaaW.PrintLast Go.Proofs.YtikanbdhpafbiaaW.PrintMore
attribute [local go_sem] max2_int min2_int max_two min_two max_three min_three max_four min_four   -- for this text's walks alone
set_option linter.unusedVariables false
set_option maxHeartbeats 8000000
set_option maxRecDepth 100000
set_option linter.unusedSimpArgs false

/-! ### ententeref07_pots: function 59 -/
mutual
def ententeref07_pots.l0 : Nat → Int → Int → Int → Int → Int → List (S51) → List (S64) → ByteArray → Int → Int → Int → Int → Int → Int → Option (Bool)
 | 0, _, _, _, _, _, _, _, _, _, _, _, _, _, _ => none
 | k + 1, x5, x6, x7, x8, x9, x447000, x447001, x448000, x448001, x448002, x448003, x448004, x448005, x448006 => if x9 < (x447001.length : Int) then (if 0 ≤ x9 then (if ((rd_T64 x447001 x9).f1.f1).toList = x448000.toList then (ententeref07_pots.j1 k x5 x6 x7 x8 x9 (((rd_T64 x447001 x9).f2) != 1) x447000 x447001 x448000 x448001 x448002 x448003 x448004 x448005 x448006 ((rd_T64 x447001 x9).f0) ((rd_T64 x447001 x9).f1.f0) ((rd_T64 x447001 x9).f1.f1) ((rd_T64 x447001 x9).f1.f2) ((rd_T64 x447001 x9).f2)) else (ententeref07_pots.j1 k x5 x6 x7 x8 x9 true x447000 x447001 x448000 x448001 x448002 x448003 x448004 x448005 x448006 ((rd_T64 x447001 x9).f0) ((rd_T64 x447001 x9).f1.f0) ((rd_T64 x447001 x9).f1.f1) ((rd_T64 x447001 x9).f1.f2) ((rd_T64 x447001 x9).f2))) else (none)) else (if x448002 = x5 then (if x448003 = x6 then (if x448005 = x7 then (some (x448006 == x8)) else (some false)) else (some false)) else (some false))
def ententeref07_pots.j1 : Nat → Int → Int → Int → Int → Int → Bool → List (S51) → List (S64) → ByteArray → Int → Int → Int → Int → Int → Int → ByteArray → Int → ByteArray → Int → Int → Option (Bool)
 | 0, _, _, _, _, _, _, _, _, _, _, _, _, _, _, _, _, _, _, _, _ => none
 | k + 1, x5, x6, x7, x8, x9, x34, x447000, x447001, x448000, x448001, x448002, x448003, x448004, x448005, x448006, x450000, x450001, x450002, x450003, x450004 => if x34 = true then (ententeref07_pots.l0 k x5 x6 x7 x8 (wrap64 (x9 + 1)) x447000 x447001 x448000 x448001 x448002 x448003 x448004 x448005 x448006) else (if x450001 = 1 then (ententeref07_pots.l0 k x5 (wrap64 (x6 + x450003)) x7 x8 (wrap64 (x9 + 1)) x447000 x447001 x448000 x448001 x448002 x448003 x448004 x448005 x448006) else (if x450001 = 2 then (ententeref07_pots.l0 k (wrap64 (x5 + x450003)) x6 x7 x8 (wrap64 (x9 + 1)) x447000 x447001 x448000 x448001 x448002 x448003 x448004 x448005 x448006) else (if x450001 = 3 then (ententeref07_pots.l0 k x5 (wrap64 (x6 + x450003)) (wrap64 (x7 + x450003)) x8 (wrap64 (x9 + 1)) x447000 x447001 x448000 x448001 x448002 x448003 x448004 x448005 x448006) else (if x450001 = 4 then (ententeref07_pots.l0 k (wrap64 (x5 + x450003)) x6 x7 (wrap64 (x8 + x450003)) (wrap64 (x9 + 1)) x447000 x447001 x448000 x448001 x448002 x448003 x448004 x448005 x448006) else (ententeref07_pots.l0 k x5 x6 x7 x8 (wrap64 (x9 + 1)) x447000 x447001 x448000 x448001 x448002 x448003 x448004 x448005 x448006)))))
end
def ententeref07_pots.f (k : Nat) (l0_0 : List (S51)) (l0_1 : List (S64)) (a1_0 : ByteArray) (a1_1 : Int) (a1_2 : Int) (a1_3 : Int) (a1_4 : Int) (a1_5 : Int) (a1_6 : Int) : Option (Bool) := ententeref07_pots.l0 k 0 0 0 0 0 l0_0 l0_1 a1_0 a1_1 a1_2 a1_3 a1_4 a1_5 a1_6
theorem ententeref07_pots.mono_l : ∀ k, (∀ y0 y1 y2 y3 y4 y5 y6 y7 y8 y9 y10 y11 y12 y13, LeO (ententeref07_pots.l0 k y0 y1 y2 y3 y4 y5 y6 y7 y8 y9 y10 y11 y12 y13) (ententeref07_pots.l0 (k + 1) y0 y1 y2 y3 y4 y5 y6 y7 y8 y9 y10 y11 y12 y13)) ∧ (∀ y0 y1 y2 y3 y4 y5 y6 y7 y8 y9 y10 y11 y12 y13 y14 y15 y16 y17 y18 y19, LeO (ententeref07_pots.j1 k y0 y1 y2 y3 y4 y5 y6 y7 y8 y9 y10 y11 y12 y13 y14 y15 y16 y17 y18 y19) (ententeref07_pots.j1 (k + 1) y0 y1 y2 y3 y4 y5 y6 y7 y8 y9 y10 y11 y12 y13 y14 y15 y16 y17 y18 y19))
 | 0 => ⟨fun _ _ _ _ _ _ _ _ _ _ _ _ _ _ r h => by simp [ententeref07_pots.l0] at h, fun _ _ _ _ _ _ _ _ _ _ _ _ _ _ _ _ _ _ _ _ r h => by simp [ententeref07_pots.j1] at h⟩
 | k + 1 => by
  obtain ⟨ih0, ih1⟩ := ententeref07_pots.mono_l k
  refine ⟨?_, ?_⟩
  ·intro y0 y1 y2 y3 y4 y5 y6 y7 y8 y9 y10 y11 y12 y13
   unfold ententeref07_pots.l0
   repeat' (with_reducible first | exact ih0 _ _ _ _ _ _ _ _ _ _ _ _ _ _ | exact ih1 _ _ _ _ _ _ _ _ _ _ _ _ _ _ _ _ _ _ _ _ | exact LeO.refl _ | exact LeO.none _ | apply LeO.ite | refine LeO.bind ?_ (fun _ => ?_))
  intro y0 y1 y2 y3 y4 y5 y6 y7 y8 y9 y10 y11 y12 y13 y14 y15 y16 y17 y18 y19
  unfold ententeref07_pots.j1
  repeat' (with_reducible first | exact ih0 _ _ _ _ _ _ _ _ _ _ _ _ _ _ | exact ih1 _ _ _ _ _ _ _ _ _ _ _ _ _ _ _ _ _ _ _ _ | exact LeO.refl _ | exact LeO.none _ | apply LeO.ite | refine LeO.bind ?_ (fun _ => ?_))
theorem ententeref07_pots.mono : ∀ a0 a1 a2 a3 a4 a5 a6 a7 a8 k, LeO (ententeref07_pots.f k a0 a1 a2 a3 a4 a5 a6 a7 a8) (ententeref07_pots.f (k + 1) a0 a1 a2 a3 a4 a5 a6 a7 a8) := by
 intro a0 a1 a2 a3 a4 a5 a6 a7 a8 k
 obtain ⟨ih0, ih1⟩ := ententeref07_pots.mono_l k
 unfold ententeref07_pots.f
 repeat' (with_reducible first | exact ih0 _ _ _ _ _ _ _ _ _ _ _ _ _ _ | exact ih1 _ _ _ _ _ _ _ _ _ _ _ _ _ _ _ _ _ _ _ _ | exact LeO.refl _ | exact LeO.none _ | apply LeO.ite | refine LeO.bind ?_ (fun _ => ?_))
theorem ententeref07_pots.calls (k : Nat) (A0_0 : Option Addr) (c0_0 : Nat) (l0_0 : List (S51)) (A0_1 : Option Addr) (c0_1 : Nat) (l0_1 : List (S64)) (a1_0 : ByteArray) (a1_1 : Int) (a1_2 : Int) (a1_3 : Int) (a1_4 : Int) (a1_5 : Int) (a1_6 : Int) (r : Bool) (w : World) (hr0_0 : Kd.C k51 w A0_0 l0_0.length l0_0) (hc0_0 : l0_0.length ≤ c0_0) (hr0_1 : Kd.C k64 w A0_1 l0_1.length l0_1) (hc0_1 : l0_1.length ≤ c0_1) (h : ententeref07_pots.f k l0_0 l0_1 a1_0 a1_1 a1_2 a1_3 a1_4 a1_5 a1_6 = some r) :
  Calls Try.prog 59 #[.agg #[.slice A0_0 l0_0.length c0_0, .slice A0_1 l0_1.length c0_1], .agg #[.string a1_0, .int .i64 a1_1, .int .i64 a1_2, .int .i64 a1_3, .int .i64 a1_4, .int .i64 a1_5, .int .i64 a1_6]] w fun e w' => e = .returned (.bool r) ∧ Below w.heap.size w w' := by
 have hu25 := Try.underlying25
 have hu51 := Try.underlying51
 have hu64 := Try.underlying64
 have HR0_0 := My.am hr0_0
 have HC0_0 := My.am hc0_0
 clear hr0_0 hc0_0
 have HR0_1 := My.am hr0_1
 have HC0_1 := My.am hc0_1
 clear hr0_1 hc0_1
 have HB := My.am (Below.refl w.heap.size w)
 unfold ententeref07_pots.f at h
 have H := h
 clear h
 have H' := My.am H
 clear H
 go_enter Try.func59, Try.ntmps59
 go_wp2_with (first | ((with_reducible refine gate_dst (N := 2) rfl ?_); refine My.bx 2 #[.slice A0_0 l0_0.length c0_0, .slice A0_1 l0_1.length c0_1] 25 ?_; intro gb446 hg w3 hbox hb; have BK446 := My.am (hbox); have GE446 := My.nge hg (My.bl_ HB); replace HB := My.st HB hb; clear hb hbox hg) | ((with_reducible refine gate_dst (N := 3) rfl ?_); refine My.bx 3 #[.string a1_0, .int .i64 a1_1, .int .i64 a1_2, .int .i64 a1_3, .int .i64 a1_4, .int .i64 a1_5, .int .i64 a1_6] 51 ?_; intro gb447 hg w4 hbox hb; have BK447 := My.am (hbox); have GE447 := My.nge hg (My.bl_ HB); replace HB := My.st HB hb; obtain ⟨NB446_447, NB447_446, BK446⟩ := My.nb hg hb BK446; clear hb hbox hg))
 go_loopg [5, 6, 7, 8, 9] k (fun kq v5 v6 v7 v8 v9 w' => ∃ (x5_1 : Int) (x6_1 : Int) (x7_1 : Int) (x8_1 : Int) (x9_1 : Int), v5 = .int .i64 x5_1 ∧ v6 = .int .i64 x6_1 ∧ v7 = .int .i64 x7_1 ∧ v8 = .int .i64 x8_1 ∧ v9 = .int .i64 x9_1 ∧ Aside0 (ententeref07_pots.l0 kq x5_1 x6_1 x7_1 x8_1 x9_1 l0_0 l0_1 a1_0 a1_1 a1_2 a1_3 a1_4 a1_5 a1_6 = some r) ∧ Aside0 (kq ≤ k) ∧ Aside0 (w'.heap[gb446]? = some (.cells #[(.slice A0_0 l0_0.length c0_0), (.slice A0_1 l0_1.length c0_1)] 25 (0, 0))) ∧ Aside0 (w'.heap[gb447]? = some (.cells #[.string a1_0, .int .i64 a1_1, .int .i64 a1_2, .int .i64 a1_3, .int .i64 a1_4, .int .i64 a1_5, .int .i64 a1_6] 51 (0, 0))) ∧ Aside0 (Below w.heap.size w w'))
 case atStart => exact ⟨(0), (0), (0), (0), (0), My.r1, My.r1, My.r1, My.r1, My.r1, H', ⟨Nat.le_refl _⟩, ⟨(My.at_ BK446)⟩, ⟨(My.at_ BK447)⟩, ⟨(My.bl_ HB)⟩⟩
 case round =>
  clear H'
  obtain ⟨x5_1, x6_1, x7_1, x8_1, x9_1, rfl, rfl, rfl, rfl, rfl, HA, HK1, BK446, BK447, HB⟩ := hrel
  cases gk with
  | zero => exact absurd HA.out (by simp [ententeref07_pots.l0])
  | succ k1 =>
   have H := HA.out
   clear HA
   simp only [ententeref07_pots.l0] at H
   by_cases c5 : x9_1 < (l0_1.length : Int)
   rotate_left
   ·rw [if_neg c5] at H
    have c5b0 := decide_eq_false c5
    clear c5
    by_cases c45 : a1_2 = x5_1
    rotate_left
    ·rw [if_neg c45] at H
     have c45b0 : (a1_2 == x5_1) = false := beq_eq_false_iff_ne.mpr c45
     have c45b1 : (a1_2 != x5_1) = true := bne_iff_ne.mpr c45
     obtain rfl := Option.some.inj H
     have hnb57 := NB446_447.out
     have hnc57 := NB447_446.out
     have hq58 := My.cz2 BK446
     have hq59 := My.cz7 BK447
     go_wp2
     go_ret
     exact ⟨My.r2, (My.bl_ HB)⟩

    rw [if_pos c45] at H
    have c45b0 : (a1_2 == x5_1) = true := beq_iff_eq.mpr c45
    have c45b1 : (a1_2 != x5_1) = false := bne_eq_false_iff_eq.mpr c45
    clear c45
    by_cases c46 : a1_3 = x6_1
    rotate_left
    ·rw [if_neg c46] at H
     have c46b0 : (a1_3 == x6_1) = false := beq_eq_false_iff_ne.mpr c46
     have c46b1 : (a1_3 != x6_1) = true := bne_iff_ne.mpr c46
     obtain rfl := Option.some.inj H
     have hnb54 := NB446_447.out
     have hnc54 := NB447_446.out
     have hq55 := My.cz2 BK446
     have hq56 := My.cz7 BK447
     go_wp2
     go_ret
     exact ⟨My.r2, (My.bl_ HB)⟩
    rw [if_pos c46] at H
    have c46b0 : (a1_3 == x6_1) = true := beq_iff_eq.mpr c46
    have c46b1 : (a1_3 != x6_1) = false := bne_eq_false_iff_eq.mpr c46
    clear c46
    by_cases c47 : a1_5 = x7_1
    ·rw [if_pos c47] at H
     have c47b0 : (a1_5 == x7_1) = true := beq_iff_eq.mpr c47
     have c47b1 : (a1_5 != x7_1) = false := bne_eq_false_iff_eq.mpr c47
     clear c47
     obtain rfl := Option.some.inj H
     have hnb48 := NB446_447.out
     have hnc48 := NB447_446.out
     have hq49 := My.cz2 BK446
     have hq50 := My.cz7 BK447
     go_wp2
     go_ret
     exact ⟨My.r2, (My.bl_ HB)⟩
    rw [if_neg c47] at H
    have c47b0 : (a1_5 == x7_1) = false := beq_eq_false_iff_ne.mpr c47
    have c47b1 : (a1_5 != x7_1) = true := bne_iff_ne.mpr c47
    obtain rfl := Option.some.inj H
    have hnb51 := NB446_447.out
    have hnc51 := NB447_446.out
    have hq52 := My.cz2 BK446
    have hq53 := My.cz7 BK447
    go_wp2
    go_ret
    exact ⟨My.r2, (My.bl_ HB)⟩
   rw [if_pos c5] at H
   have c5b0 := decide_eq_true c5
   clear c5
   replace H := My.ds H
   obtain ⟨c6b0, H⟩ := H
   have HC7 := My.am H
   clear H
   have hnb8 := NB446_447.out
   have hnc8 := NB447_446.out
   have hq9 := My.cz2 BK446
   have p448 : 0 ≤ (x9_1 : Int) := My.as_
   have q448 : x9_1 < (l0_1.length : Int) := My.as_
   obtain ⟨ad448, e448, hx448_0, hx448_1, hx448_2, hx448_3, hx448_4⟩ := My.up5 HB (at_T64 HR0_1.out x9_1 p448 q448)
   cases e448
   replace p448 := eq_true p448
   replace q448 := eq_true q448
   go_upto_region 6 with (first | ((with_reducible refine gate_dst (N := 10) rfl ?_); refine My.bx 10 #[.string (⟨#[]⟩ : ByteArray), .int .i64 0, .string (⟨#[]⟩ : ByteArray), .int .i64 0, .int .i64 0] 64 ?_; intro gb449 hg w10 hbox hb; have BK449 := My.am (hbox); have GE449 := My.nge hg (My.bl_ HB); replace HB := My.st HB hb; obtain ⟨NB446_449, NB449_446, BK446⟩ := My.nb hg hb BK446; obtain ⟨NB447_449, NB449_447, BK447⟩ := My.nb hg hb BK447; clear hb hbox hg; have hnb11 := NB449_446.out; have hnc11 := NB446_449.out; have hnb12 := NB449_447.out; have hnc12 := NB447_449.out; have hq13 := My.cz5 BK449))
   (try simp only [Act.put, List.setIfInBounds_toArray, List.set_cons_zero, List.set_cons_succ])
   go_cut [34] (fun v34 wc => ∃ (kq : Nat) (x34_6 : Bool), v34 = .bool x34_6 ∧ Aside0 (ententeref07_pots.j1 kq x5_1 x6_1 x7_1 x8_1 x9_1 x34_6 l0_0 l0_1 a1_0 a1_1 a1_2 a1_3 a1_4 a1_5 a1_6 ((rd_T64 l0_1 x9_1).f0) ((rd_T64 l0_1 x9_1).f1.f0) ((rd_T64 l0_1 x9_1).f1.f1) ((rd_T64 l0_1 x9_1).f1.f2) ((rd_T64 l0_1 x9_1).f2) = some r) ∧ Aside0 (kq ≤ k1) ∧ Aside0 (wc.heap[gb446]? = some (.cells #[(.slice A0_0 l0_0.length c0_0), (.slice (some ad448) l0_1.length c0_1)] 25 (0, 0))) ∧ Aside0 (wc.heap[gb447]? = some (.cells #[.string a1_0, .int .i64 a1_1, .int .i64 a1_2, .int .i64 a1_3, .int .i64 a1_4, .int .i64 a1_5, .int .i64 a1_6] 51 (0, 0))) ∧ Aside0 (wc.heap[gb449]? = some (.cells #[.string ((rd_T64 l0_1 x9_1).f0), .int .i64 ((rd_T64 l0_1 x9_1).f1.f0), .string ((rd_T64 l0_1 x9_1).f1.f1), .int .i64 ((rd_T64 l0_1 x9_1).f1.f2), .int .i64 ((rd_T64 l0_1 x9_1).f2)] 64 (0, 0))) ∧ Aside0 (Below w.heap.size w wc))
   case first =>
    have H := HC7.out
    clear HC7
    by_cases c14 : ((rd_T64 l0_1 x9_1).f1.f1).toList = a1_0.toList
    ·rw [if_pos c14] at H
     have c14b0 : (((rd_T64 l0_1 x9_1).f1.f1).toList == a1_0.toList) = true := beq_iff_eq.mpr c14
     have c14b1 : (((rd_T64 l0_1 x9_1).f1.f1).toList != a1_0.toList) = false := bne_eq_false_iff_eq.mpr c14
     clear c14
     (first | rw [c14b0] | (simp only [i64_w, i32_w]; rw [c14b0]) | skip)
     have H' := My.am H
     clear H
     have hnb15 := NB449_446.out
     have hnc15 := NB446_449.out
     have hnb16 := NB449_447.out
     have hnc16 := NB447_449.out
     have hq17 := My.cz5 BK449
     have hnb18 := NB447_446.out
     have hnc18 := NB446_447.out
     have hq19 := My.cz7 BK447
     go_wp2
     go_meet
     case rel => exact ⟨_, ((((rd_T64 l0_1 x9_1).f2) != 1)), My.r1, H', ⟨by have := HK1.out; first | omega | exact Nat.le_refl _⟩, ⟨(My.sv_ BK446)⟩, ⟨(My.sv_ BK447)⟩, ⟨(My.sv_ BK449)⟩, ⟨(My.bl_ HB)⟩⟩
    rw [if_neg c14] at H
    have c14b0 : (((rd_T64 l0_1 x9_1).f1.f1).toList == a1_0.toList) = false := beq_eq_false_iff_ne.mpr c14
    have c14b1 : (((rd_T64 l0_1 x9_1).f1.f1).toList != a1_0.toList) = true := bne_iff_ne.mpr c14
    (first | rw [c14b0] | (simp only [i64_w, i32_w]; rw [c14b0]) | skip)
    have H' := My.am H
    clear H
    have hnb20 := NB449_446.out
    have hnc20 := NB446_449.out
    have hnb21 := NB449_447.out
    have hnc21 := NB447_449.out
    have hq22 := My.cz5 BK449
    have hnb23 := NB447_446.out
    have hnc23 := NB446_447.out
    have hq24 := My.cz7 BK447
    go_wp2
    go_meet
    case rel => exact ⟨_, (true), My.r1, H', ⟨by have := HK1.out; first | omega | exact Nat.le_refl _⟩, ⟨(My.sv_ BK446)⟩, ⟨(My.sv_ BK447)⟩, ⟨(My.sv_ BK449)⟩, ⟨(My.bl_ HB)⟩⟩
   case rest =>
    clear HC7
    try clear c5
    try clear c5b0
    try clear c6b0
    try clear hq13
    try clear hq9
    try clear hx448_0
    try clear hx448_1
    try clear hx448_2
    try clear hx448_3
    try clear hx448_4
    try clear p448
    try clear q448
    obtain ⟨kq, x34_6, rfl, HA, HJ6, BK446, BK447, BK449, HB⟩ := hcut
    cases kq with
    | zero => exact absurd HA.out (by simp [ententeref07_pots.j1])
    | succ kj6 =>
     have H := HA.out
     clear HA
     simp only [ententeref07_pots.j1] at H
     by_cases c25 : x34_6 = true
     ·subst c25
      rw [if_pos rfl] at H
      have H' := My.am H
      clear H
      go_wp2
      go_roundg kj6
      case measure => have := HK1.out; have := HJ6.out; omega
      case rel => exact ⟨(x5_1), (x6_1), (x7_1), (x8_1), (wrap64 (x9_1 + 1)), My.r1, My.r1, My.r1, My.r1, My.r1, H', ⟨by have := HK1.out; have := HJ6.out; omega⟩, ⟨(My.at_ BK446)⟩, ⟨(My.at_ BK447)⟩, ⟨(My.bl_ HB)⟩⟩
     replace c25 := Bool.eq_false_iff.mpr c25
     subst c25
     rw [if_neg (show ¬ (false = true) by decide)] at H
     by_cases c26 : ((rd_T64 l0_1 x9_1).f1.f0) = 1
     ·rw [if_pos c26] at H
      have c26b0 : (((rd_T64 l0_1 x9_1).f1.f0) == 1) = true := beq_iff_eq.mpr c26
      have c26b1 : (((rd_T64 l0_1 x9_1).f1.f0) != 1) = false := bne_eq_false_iff_eq.mpr c26
      clear c26
      have H' := My.am H
      clear H
      have hnb27 := NB449_446.out
      have hnc27 := NB446_449.out
      have hnb28 := NB449_447.out
      have hnc28 := NB447_449.out
      have hq29 := My.cz5 BK449
      go_wp2
      go_roundg kj6
      case measure => have := HK1.out; have := HJ6.out; omega
      case rel => exact ⟨(x5_1), (wrap64 (x6_1 + ((rd_T64 l0_1 x9_1).f1.f2))), (x7_1), (x8_1), (wrap64 (x9_1 + 1)), My.r1, My.r1, My.r1, My.r1, My.r1, H', ⟨by have := HK1.out; have := HJ6.out; omega⟩, ⟨(My.at_ BK446)⟩, ⟨(My.at_ BK447)⟩, ⟨(My.bl_ HB)⟩⟩
     rw [if_neg c26] at H
     have c26b0 : (((rd_T64 l0_1 x9_1).f1.f0) == 1) = false := beq_eq_false_iff_ne.mpr c26
     have c26b1 : (((rd_T64 l0_1 x9_1).f1.f0) != 1) = true := bne_iff_ne.mpr c26
     by_cases c30 : ((rd_T64 l0_1 x9_1).f1.f0) = 2
     ·rw [if_pos c30] at H
      have c30b0 : (((rd_T64 l0_1 x9_1).f1.f0) == 2) = true := beq_iff_eq.mpr c30
      have c30b1 : (((rd_T64 l0_1 x9_1).f1.f0) != 2) = false := bne_eq_false_iff_eq.mpr c30
      clear c30
      have H' := My.am H
      clear H
      have hnb31 := NB449_446.out
      have hnc31 := NB446_449.out
      have hnb32 := NB449_447.out
      have hnc32 := NB447_449.out
      have hq33 := My.cz5 BK449
      go_wp2
      go_roundg kj6
      case measure => have := HK1.out; have := HJ6.out; omega
      case rel => exact ⟨(wrap64 (x5_1 + ((rd_T64 l0_1 x9_1).f1.f2))), (x6_1), (x7_1), (x8_1), (wrap64 (x9_1 + 1)), My.r1, My.r1, My.r1, My.r1, My.r1, H', ⟨by have := HK1.out; have := HJ6.out; omega⟩, ⟨(My.at_ BK446)⟩, ⟨(My.at_ BK447)⟩, ⟨(My.bl_ HB)⟩⟩
     rw [if_neg c30] at H
     have c30b0 : (((rd_T64 l0_1 x9_1).f1.f0) == 2) = false := beq_eq_false_iff_ne.mpr c30
     have c30b1 : (((rd_T64 l0_1 x9_1).f1.f0) != 2) = true := bne_iff_ne.mpr c30
     by_cases c34 : ((rd_T64 l0_1 x9_1).f1.f0) = 3
     ·rw [if_pos c34] at H
      have c34b0 : (((rd_T64 l0_1 x9_1).f1.f0) == 3) = true := beq_iff_eq.mpr c34
      have c34b1 : (((rd_T64 l0_1 x9_1).f1.f0) != 3) = false := bne_eq_false_iff_eq.mpr c34
      clear c34
      have H' := My.am H
      clear H
      have hnb35 := NB449_446.out
      have hnc35 := NB446_449.out
      have hnb36 := NB449_447.out
      have hnc36 := NB447_449.out
      have hq37 := My.cz5 BK449
      go_wp2
      go_roundg kj6
      case measure => have := HK1.out; have := HJ6.out; omega
      case rel => exact ⟨(x5_1), (wrap64 (x6_1 + ((rd_T64 l0_1 x9_1).f1.f2))), (wrap64 (x7_1 + ((rd_T64 l0_1 x9_1).f1.f2))), (x8_1), (wrap64 (x9_1 + 1)), My.r1, My.r1, My.r1, My.r1, My.r1, H', ⟨by have := HK1.out; have := HJ6.out; omega⟩, ⟨(My.at_ BK446)⟩, ⟨(My.at_ BK447)⟩, ⟨(My.bl_ HB)⟩⟩
     rw [if_neg c34] at H
     have c34b0 : (((rd_T64 l0_1 x9_1).f1.f0) == 3) = false := beq_eq_false_iff_ne.mpr c34
     have c34b1 : (((rd_T64 l0_1 x9_1).f1.f0) != 3) = true := bne_iff_ne.mpr c34
     by_cases c38 : ((rd_T64 l0_1 x9_1).f1.f0) = 4
     ·rw [if_pos c38] at H
      have c38b0 : (((rd_T64 l0_1 x9_1).f1.f0) == 4) = true := beq_iff_eq.mpr c38
      have c38b1 : (((rd_T64 l0_1 x9_1).f1.f0) != 4) = false := bne_eq_false_iff_eq.mpr c38
      clear c38
      have H' := My.am H
      clear H
      have hnb39 := NB449_446.out
      have hnc39 := NB446_449.out
      have hnb40 := NB449_447.out
      have hnc40 := NB447_449.out
      have hq41 := My.cz5 BK449
      go_wp2
      go_roundg kj6
      case measure => have := HK1.out; have := HJ6.out; omega
      case rel => exact ⟨(wrap64 (x5_1 + ((rd_T64 l0_1 x9_1).f1.f2))), (x6_1), (x7_1), (wrap64 (x8_1 + ((rd_T64 l0_1 x9_1).f1.f2))), (wrap64 (x9_1 + 1)), My.r1, My.r1, My.r1, My.r1, My.r1, H', ⟨by have := HK1.out; have := HJ6.out; omega⟩, ⟨(My.at_ BK446)⟩, ⟨(My.at_ BK447)⟩, ⟨(My.bl_ HB)⟩⟩
     rw [if_neg c38] at H
     have c38b0 : (((rd_T64 l0_1 x9_1).f1.f0) == 4) = false := beq_eq_false_iff_ne.mpr c38
     have c38b1 : (((rd_T64 l0_1 x9_1).f1.f0) != 4) = true := bne_iff_ne.mpr c38
     have H' := My.am H
     clear H
     have hnb42 := NB449_446.out
     have hnc42 := NB446_449.out
     have hnb43 := NB449_447.out
     have hnc43 := NB447_449.out
     have hq44 := My.cz5 BK449
     go_wp2
     go_roundg kj6
     case measure => have := HK1.out; have := HJ6.out; omega
     case rel => exact ⟨(x5_1), (x6_1), (x7_1), (x8_1), (wrap64 (x9_1 + 1)), My.r1, My.r1, My.r1, My.r1, My.r1, H', ⟨by have := HK1.out; have := HJ6.out; omega⟩, ⟨(My.at_ BK446)⟩, ⟨(My.at_ BK447)⟩, ⟨(My.bl_ HB)⟩⟩
end Go.Proofs.Ytikanbdhpafbiaa.PZ
