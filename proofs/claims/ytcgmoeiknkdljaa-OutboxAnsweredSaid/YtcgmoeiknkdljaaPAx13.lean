-- Written by a program of this session (wip/tools/mp.py over the kit's printer); Lean checks it.
import Derived.Test.YtcgmoeiknkdljaaPAx0
import Derived.Test.YtcgmoeiknkdljaaPAx12
namespace Go.Proofs.Ytcgmoeiknkdljaa.PA
open Go.RowKit Go.Proofs.YtcgmoeiknkdljaaW.PrintWords Go.Proofs.YtcgmoeiknkdljaaW.PrintLast Go.Proofs.YtcgmoeiknkdljaaW.PrintMore
attribute [local go_sem] max2_int min2_int max_two min_two max_three min_three max_four min_four   -- for this text's walks alone
set_option linter.unusedVariables false
set_option maxHeartbeats 8000000
set_option maxRecDepth 100000
set_option linter.unusedSimpArgs false

/-! ### ententeref03_Cmp: function 48 -/
mutual
def ententeref03_Cmp.l0 : Nat → Int → Int → Int → List (S62) → Int → Int → List (S62) → Option (Int)
 | 0, _, _, _, _, _, _, _ => none
 | k + 1, x5, x261000, x261001, x261002, x262000, x262001, x262002 => if x5 < (x261002.length : Int) then (ententeref03_Cmp.j1 k x5 (decide (x5 < (x262002.length : Int))) x261000 x261001 x261002 x262000 x262001 x262002) else (ententeref03_Cmp.j1 k x5 false x261000 x261001 x261002 x262000 x262001 x262002)
def ententeref03_Cmp.j1 : Nat → Int → Bool → Int → Int → List (S62) → Int → Int → List (S62) → Option (Int)
 | 0, _, _, _, _, _, _, _, _ => none
 | k + 1, x5, x39, x261000, x261001, x261002, x262000, x262001, x262002 => if x39 = true then (if 0 ≤ x5 then (if x5 < (x261002.length : Int) then (if x5 < (x262002.length : Int) then (if ((rd_T62 x261002 x5).f0) = ((rd_T62 x262002 x5).f0) then (if ((rd_T62 x261002 x5).f1) = ((rd_T62 x262002 x5).f1) then (ententeref03_Cmp.l0 k (wrap64 (x5 + 1)) x261000 x261001 x261002 x262000 x262001 x262002) else ((ententeref03_number.f ((rd_T62 x261002 x5).f1) ((rd_T62 x262002 x5).f1)).bind fun t269 => (some t269))) else ((ententeref03_number.f ((rd_T62 x261002 x5).f0) ((rd_T62 x262002 x5).f0)).bind fun t270 => (some t270))) else (none)) else (none)) else (none)) else ((ententeref03_number.f (x261002.length : Int) (x262002.length : Int)).bind fun t264 => (some t264))
end
def ententeref03_Cmp.f (k : Nat) (a0_0 : Int) (a0_1 : Int) (l0_2 : List (S62)) (a1_0 : Int) (a1_1 : Int) (l1_2 : List (S62)) : Option (Int) := if a0_0 = a1_0 then (if a0_1 = a1_1 then (ententeref03_Cmp.l0 k 0 a0_0 a0_1 l0_2 a1_0 a1_1 l1_2) else ((ententeref03_number.f a0_1 a1_1).bind fun t263 => (some t263))) else ((ententeref03_number.f a0_0 a1_0).bind fun t262 => (some t262))
theorem ententeref03_Cmp.mono_l : ∀ k, (∀ y0 y1 y2 y3 y4 y5 y6, LeO (ententeref03_Cmp.l0 k y0 y1 y2 y3 y4 y5 y6) (ententeref03_Cmp.l0 (k + 1) y0 y1 y2 y3 y4 y5 y6)) ∧ (∀ y0 y1 y2 y3 y4 y5 y6 y7, LeO (ententeref03_Cmp.j1 k y0 y1 y2 y3 y4 y5 y6 y7) (ententeref03_Cmp.j1 (k + 1) y0 y1 y2 y3 y4 y5 y6 y7))
 | 0 => ⟨fun _ _ _ _ _ _ _ r h => by simp [ententeref03_Cmp.l0] at h, fun _ _ _ _ _ _ _ _ r h => by simp [ententeref03_Cmp.j1] at h⟩
 | k + 1 => by
  obtain ⟨ih0, ih1⟩ := ententeref03_Cmp.mono_l k
  refine ⟨?_, ?_⟩
  ·intro y0 y1 y2 y3 y4 y5 y6
   unfold ententeref03_Cmp.l0
   repeat' (with_reducible first | exact ih0 _ _ _ _ _ _ _ | exact ih1 _ _ _ _ _ _ _ _ | exact LeO.refl _ | exact LeO.none _ | apply LeO.ite | refine LeO.bind ?_ (fun _ => ?_))
  intro y0 y1 y2 y3 y4 y5 y6 y7
  unfold ententeref03_Cmp.j1
  repeat' (with_reducible first | exact ih0 _ _ _ _ _ _ _ | exact ih1 _ _ _ _ _ _ _ _ | exact LeO.refl _ | exact LeO.none _ | apply LeO.ite | refine LeO.bind ?_ (fun _ => ?_))
theorem ententeref03_Cmp.mono : ∀ a0 a1 a2 a3 a4 a5 k, LeO (ententeref03_Cmp.f k a0 a1 a2 a3 a4 a5) (ententeref03_Cmp.f (k + 1) a0 a1 a2 a3 a4 a5) := by
 intro a0 a1 a2 a3 a4 a5 k
 obtain ⟨ih0, ih1⟩ := ententeref03_Cmp.mono_l k
 unfold ententeref03_Cmp.f
 repeat' (with_reducible first | exact ih0 _ _ _ _ _ _ _ | exact ih1 _ _ _ _ _ _ _ _ | exact LeO.refl _ | exact LeO.none _ | apply LeO.ite | refine LeO.bind ?_ (fun _ => ?_))
def ententeref03_Cmp.T8 : Bool × List (List Nat × List Nat) := (true, [([], []), ([0], [0]), ([], []), ([1, 2], [1, 2]), ([3], [3]), ([], []), ([5], [5]), ([], []), ([6, 7], [6, 7]), ([8], [8]), ([], []), ([], []), ([10, 4, 0, 1, 2, 3, 4, 10, 11], [4, 10]), ([11, 9, 12, 0, 1, 2, 3, 4, 5, 6, 7, 8, 9, 10, 11, 12], [9, 11])])
def ententeref03_Cmp.B8 : List Nat := [0, 1, 0, 7, 15, 0, 32, 0, 224, 480, 0, 0, 3103, 8191]
theorem ententeref03_Cmp.tab8 : rtab .any (opsOf Try.f48 8) = ententeref03_Cmp.T8 := by kernel_rfl
theorem ententeref03_Cmp.bits8 : waitsOk ententeref03_Cmp.T8.2 ententeref03_Cmp.B8 = true := by kernel_rfl
theorem ententeref03_Cmp.calls (k : Nat) (a0_0 : Int) (a0_1 : Int) (A0_2 : Option Addr) (c0_2 : Nat) (l0_2 : List (S62)) (a1_0 : Int) (a1_1 : Int) (A1_2 : Option Addr) (c1_2 : Nat) (l1_2 : List (S62)) (r : Int) (w : World) (hr0_2 : Kd.C k62 w A0_2 l0_2.length l0_2) (hc0_2 : l0_2.length ≤ c0_2) (hr1_2 : Kd.C k62 w A1_2 l1_2.length l1_2) (hc1_2 : l1_2.length ≤ c1_2) (h : ententeref03_Cmp.f k a0_0 a0_1 l0_2 a1_0 a1_1 l1_2 = some r) :
  Calls Try.prog 48 #[.agg #[.int .i64 a0_0, .int .i64 a0_1, .slice A0_2 l0_2.length c0_2], .agg #[.int .i64 a1_0, .int .i64 a1_1, .slice A1_2 l1_2.length c1_2]] w fun e w' => e = .returned (.int .i64 r) ∧ Below w.heap.size w w' := by
 have hu35 := Try.underlying35
 have hu62 := Try.underlying62
 have HR0_2 := My.am hr0_2
 have HC0_2 := My.am hc0_2
 clear hr0_2 hc0_2
 have HR1_2 := My.am hr1_2
 have HC1_2 := My.am hc1_2
 clear hr1_2 hc1_2
 have HB := My.am (Below.refl w.heap.size w)
 unfold ententeref03_Cmp.f at h
 have H := h
 clear h
 by_cases c3 : a0_0 = a1_0
 ·rw [if_pos c3] at H
  have c3b0 : (a0_0 == a1_0) = true := beq_iff_eq.mpr c3
  have c3b1 : (a0_0 != a1_0) = false := bne_eq_false_iff_eq.mpr c3
  clear c3
  by_cases c4 : a0_1 = a1_1
  ·rw [if_pos c4] at H
   have c4b0 : (a0_1 == a1_1) = true := beq_iff_eq.mpr c4
   have c4b1 : (a0_1 != a1_1) = false := bne_eq_false_iff_eq.mpr c4
   clear c4
   have H' := My.am H
   clear H
   go_enter Try.func48, Try.ntmps48
   go_wp2_with (first | ((with_reducible refine gate_dst (N := 2) rfl ?_); (try (refine gate_guard (by rfl) ?_; dsimp only)); refine My.bx 2 #[.int .i64 a0_0, .int .i64 a0_1, .slice A0_2 l0_2.length c0_2] 35 ?_; intro gb260 hg w5 hbox hb; have BK260 := My.am (hbox); have GE260 := My.nge hg (My.bl_ HB); replace HB := My.st HB hb; clear hb hbox hg) | ((with_reducible refine gate_dst (N := 3) rfl ?_); (try (refine gate_guard (by rfl) ?_; dsimp only)); refine My.bx 3 #[.int .i64 a1_0, .int .i64 a1_1, .slice A1_2 l1_2.length c1_2] 35 ?_; intro gb261 hg w6 hbox hb; have BK261 := My.am (hbox); have GE261 := My.nge hg (My.bl_ HB); replace HB := My.st HB hb; obtain ⟨NB260_261, NB261_260, BK260⟩ := My.nb hg hb BK260; clear hb hbox hg; have hnb7 := NB260_261.out; have hnc7 := NB261_260.out; have hq8 := My.cz3 BK260; have hq9 := My.cz3 BK261))
   go_loopg [5] k (fun kq v5 w' => ∃ (x5_1 : Int), v5 = .int .i64 x5_1 ∧ Aside0 (ententeref03_Cmp.l0 kq x5_1 a0_0 a0_1 l0_2 a1_0 a1_1 l1_2 = some r) ∧ Aside0 (kq ≤ k) ∧ Aside0 (w'.heap[gb260]? = some (.cells #[.int .i64 a0_0, .int .i64 a0_1, (.slice A0_2 l0_2.length c0_2)] 35 (0, 0))) ∧ Aside0 (w'.heap[gb261]? = some (.cells #[.int .i64 a1_0, .int .i64 a1_1, (.slice A1_2 l1_2.length c1_2)] 35 (0, 0))) ∧ Aside0 (Below w.heap.size w w'))
   case atStart => exact ⟨(0), My.r1, H', ⟨Nat.le_refl _⟩, ⟨(My.at_ BK260)⟩, ⟨(My.at_ BK261)⟩, ⟨(My.bl_ HB)⟩⟩
   case round =>
    clear H'
    try clear c3
    try clear c3b0
    try clear c3b1
    try clear c4
    try clear c4b0
    try clear c4b1
    try clear hq8
    try clear hq9
    obtain ⟨x5_1, rfl, HA, HK1, BK260, BK261, HB⟩ := hrel
    cases gk with
    | zero => exact absurd HA.out (by simp [ententeref03_Cmp.l0])
    | succ k1 =>
     have H := HA.out
     clear HA
     simp only [ententeref03_Cmp.l0] at H
     have HC10 := My.am H
     clear H
     go_upto_region 6 with (fail)
     go_cut [39] (fun v39 wc => ∃ (kq : Nat) (x39_9 : Bool), v39 = .bool x39_9 ∧ Aside0 (ententeref03_Cmp.j1 kq x5_1 x39_9 a0_0 a0_1 l0_2 a1_0 a1_1 l1_2 = some r) ∧ Aside0 (kq ≤ k1) ∧ Aside0 (wc.heap[gb260]? = some (.cells #[.int .i64 a0_0, .int .i64 a0_1, (.slice A0_2 l0_2.length c0_2)] 35 (0, 0))) ∧ Aside0 (wc.heap[gb261]? = some (.cells #[.int .i64 a1_0, .int .i64 a1_1, (.slice A1_2 l1_2.length c1_2)] 35 (0, 0))) ∧ Aside0 (Below w.heap.size w wc))
     case first =>
      have H := HC10.out
      clear HC10
      by_cases c11 : x5_1 < (l0_2.length : Int)
      ·rw [if_pos c11] at H
       have c11b0 := decide_eq_true c11
       clear c11
       (first | rw [c11b0] | (simp only [i64_w, i32_w]; rw [c11b0]) | skip)
       have H' := My.am H
       clear H
       have hnb12 := NB260_261.out
       have hnc12 := NB261_260.out
       have hq13 := My.cz3 BK260
       have hq14 := My.cz3 BK261
       go_wp2
       go_meet
       case rel => exact ⟨_, (decide (x5_1 < (l1_2.length : Int))), My.r1, H', ⟨by have := HK1.out; first | omega | exact Nat.le_refl _⟩, ⟨(My.at_ BK260)⟩, ⟨(My.at_ BK261)⟩, ⟨(My.bl_ HB)⟩⟩
      rw [if_neg c11] at H
      have c11b0 := decide_eq_false c11
      clear c11
      (first | rw [c11b0] | (simp only [i64_w, i32_w]; rw [c11b0]) | skip)
      have H' := My.am H
      clear H
      have hnb15 := NB260_261.out
      have hnc15 := NB261_260.out
      have hq16 := My.cz3 BK260
      go_wp2
      go_meet
      case rel => exact ⟨_, (false), My.r1, H', ⟨by have := HK1.out; first | omega | exact Nat.le_refl _⟩, ⟨(My.at_ BK260)⟩, ⟨(My.at_ BK261)⟩, ⟨(My.bl_ HB)⟩⟩
     case rest =>
      clear HC10
      try clear c3
      try clear c3b0
      try clear c3b1
      try clear c4
      try clear c4b0
      try clear c4b1
      try clear hq8
      try clear hq9
      obtain ⟨kq, x39_9, rfl, HA, HJ9, BK260, BK261, HB⟩ := hcut
      cases kq with
      | zero => exact absurd HA.out (by simp [ententeref03_Cmp.j1])
      | succ kj9 =>
       have H := HA.out
       clear HA
       simp only [ententeref03_Cmp.j1] at H
       by_cases c17 : x39_9 = true
       rotate_left
       ·replace c17 := Bool.eq_false_iff.mpr c17
        subst c17
        rw [if_neg (show ¬ (false = true) by decide)] at H
        replace H := Option.bind_eq_some_iff.mp H
        obtain ⟨t264, A700, H⟩ := H
        try dsimp only at H
        have A70 := My.am A700
        clear A700
        obtain rfl := Option.some.inj H
        have hnb71 := NB260_261.out
        have hnc71 := NB261_260.out
        have hq72 := My.cz3 BK260
        have hq73 := My.cz3 BK261
        go_wp2_with (first | ((with_reducible refine gate_callee (f := 56) rfl ?_); refine goesL_ (some 78) rfl rfl Try.func56 (by kernel_rfl) rfl #[.int .i64 (l0_2.length : Int), .int .i64 (l1_2.length : Int)] rfl My.gx ?_; (with_reducible refine (ententeref03_number.calls (l0_2.length : Int) (l1_2.length : Int) t264 _ A70.out).mono ?_); rintro e w' ⟨rfl, ⟨nd, rfl⟩⟩; refine ⟨_, rfl, ?_⟩))
        go_ret
        exact ⟨My.r2, (My.bl_ HB)⟩
       subst c17
       rw [if_pos rfl] at H
       replace H := My.ds H
       obtain ⟨c18b0, H⟩ := H
       replace H := My.ds H
       obtain ⟨c19b0, H⟩ := H
       replace H := My.ds H
       obtain ⟨c20b0, H⟩ := H
       by_cases c21 : ((rd_T62 l0_2 x5_1).f0) = ((rd_T62 l1_2 x5_1).f0)
       rotate_left
       ·rw [if_neg c21] at H
        have c21b0 : (((rd_T62 l0_2 x5_1).f0) == ((rd_T62 l1_2 x5_1).f0)) = false := beq_eq_false_iff_ne.mpr c21
        have c21b1 : (((rd_T62 l0_2 x5_1).f0) != ((rd_T62 l1_2 x5_1).f0)) = true := bne_iff_ne.mpr c21
        replace H := Option.bind_eq_some_iff.mp H
        obtain ⟨t270, A540, H⟩ := H
        try dsimp only at H
        have A54 := My.am A540
        clear A540
        obtain rfl := Option.some.inj H
        try go_wp2
        replace BK260 := My.am (blk_drew BK260.out)
        replace BK261 := My.am (blk_drew BK261.out)
        replace HB := My.am (below_drew1 HB.out)
        have p265 : 0 ≤ (x5_1 : Int) := My.as_
        have q265 : x5_1 < (l0_2.length : Int) := My.as_
        obtain ⟨ad265, e265, hx265_0, hx265_1⟩ := at_T62 HR0_2.out x5_1 p265 q265
        have hw265_1 := hx265_1
        have hw265_0 := hx265_0
        cases e265
        replace hx265_0 := My.up HB hx265_0
        replace hx265_1 := My.up HB hx265_1
        replace p265 := eq_true p265
        replace q265 := eq_true q265
        have p266 : 0 ≤ (x5_1 : Int) := My.as_
        have q266 : x5_1 < (l1_2.length : Int) := My.as_
        obtain ⟨ad266, e266, hx266_0, hx266_1⟩ := at_T62 HR1_2.out x5_1 p266 q266
        have hw266_1 := hx266_1
        have hw266_0 := hx266_0
        cases e266
        replace hx266_0 := My.up HB hx266_0
        replace hx266_1 := My.up HB hx266_1
        replace p266 := eq_true p266
        replace q266 := eq_true q266
        refine start_ (n := 14) (S := fun w' => w'.cell? ⟨gb260, 0, none⟩ = some (.int .i64 a0_0) ∧ w'.cell? ⟨gb260, 1, none⟩ = some (.int .i64 a0_1) ∧ w'.cell? ⟨gb260, 2, none⟩ = some (.slice (some ad265) l0_2.length c0_2) ∧ w'.cell? ⟨gb261, 0, none⟩ = some (.int .i64 a1_0) ∧ w'.cell? ⟨gb261, 1, none⟩ = some (.int .i64 a1_1) ∧ w'.cell? ⟨gb261, 2, none⟩ = some (.slice (some ad266) l1_2.length c1_2) ∧ w'.cell? (ad265.add ((x5_1).toNat * 2)) = some (.int .i64 ((rd_T62 l0_2 x5_1).f0)) ∧ w'.cell? ⟨(ad265.add ((x5_1).toNat * 2)).block, (ad265.add ((x5_1).toNat * 2)).off + 1, none⟩ = some (.int .i64 ((rd_T62 l0_2 x5_1).f1)) ∧ w'.cell? (ad266.add ((x5_1).toNat * 2)) = some (.int .i64 ((rd_T62 l1_2 x5_1).f0)) ∧ w'.cell? ⟨(ad266.add ((x5_1).toNat * 2)).block, (ad266.add ((x5_1).toNat * 2)).off + 1, none⟩ = some (.int .i64 ((rd_T62 l1_2 x5_1).f1))) (ds := []) #[false, false, false, false, false, false, false, false, false, false, false, false, false, false] (by kernel_rfl) rfl rfl ⟨My.b_ BK260 0, My.b_ BK260 1, My.b_ BK260 2, My.b_ BK261 0, My.b_ BK261 1, My.b_ BK261 2, (My.up HB hw265_0), (My.up HB hw265_1), (My.up HB hw266_0), (My.up HB hw266_1)⟩ (fun hHeld => ?_); refine with_tabW ententeref03_Cmp.tab8 ententeref03_Cmp.bits8 (fun HT_ HW_ => ?_)
        generalize wc.drew = w55 at BK260 BK261 HB hx265_0 hx265_1 hx266_0 hx266_1 hHeld ⊢
        refine My.pu_ 0 42 14 HT_.out ?_
        refine My.pv_ 2 44 14 5 HT_.out ?_
        refine My.pv_ 5 47 14 37 HT_.out ?_
        refine My.pv_ 7 49 14 165 HT_.out ?_
        refine My.tv_ 1 43 14 167 HT_.out HW_.out hHeld rfl rfl (by rintro w' ⟨s0, s1, s2, s3, s4, s5, s6, s7, s8, s9⟩; go_simp; with_reducible rfl) ?_
        refine My.pv_ 3 45 14 175 HT_.out ?_
        refine My.tv_ 4 46 14 191 HT_.out HW_.out hHeld rfl rfl (by rintro w' ⟨s0, s1, s2, s3, s4, s5, s6, s7, s8, s9⟩; go_simp; with_reducible rfl) ?_
        refine My.tv_ 6 48 14 255 HT_.out HW_.out hHeld rfl rfl (by rintro w' ⟨s0, s1, s2, s3, s4, s5, s6, s7, s8, s9⟩; go_simp; with_reducible rfl) ?_
        refine My.pu_ 8 50 14 HT_.out ?_
        refine My.ta_ 9 51 14 HT_.out HW_.out hHeld rfl rfl (by rintro w' ⟨s0, s1, s2, s3, s4, s5, s6, s7, s8, s9⟩; go_simp; with_reducible rfl) ?_
        refine join_ (σ := Nat × Nat) 2 (My.Mb 14 4095) (fun s_ => [(6, .pointer (some ⟨s_.1, 0, none⟩)), (7, .pointer (some ⟨s_.2, 0, none⟩))]) (fun s_ w' => (w'.cell? ⟨gb260, 0, none⟩ = some (.int .i64 a0_0) ∧ w'.cell? ⟨gb260, 1, none⟩ = some (.int .i64 a0_1) ∧ w'.cell? ⟨gb260, 2, none⟩ = some (.slice (some ad265) l0_2.length c0_2) ∧ w'.cell? ⟨gb261, 0, none⟩ = some (.int .i64 a1_0) ∧ w'.cell? ⟨gb261, 1, none⟩ = some (.int .i64 a1_1) ∧ w'.cell? ⟨gb261, 2, none⟩ = some (.slice (some ad266) l1_2.length c1_2) ∧ w'.cell? (ad265.add ((x5_1).toNat * 2)) = some (.int .i64 ((rd_T62 l0_2 x5_1).f0)) ∧ w'.cell? ⟨(ad265.add ((x5_1).toNat * 2)).block, (ad265.add ((x5_1).toNat * 2)).off + 1, none⟩ = some (.int .i64 ((rd_T62 l0_2 x5_1).f1)) ∧ w'.cell? (ad266.add ((x5_1).toNat * 2)) = some (.int .i64 ((rd_T62 l1_2 x5_1).f0)) ∧ w'.cell? ⟨(ad266.add ((x5_1).toNat * 2)).block, (ad266.add ((x5_1).toNat * 2)).off + 1, none⟩ = some (.int .i64 ((rd_T62 l1_2 x5_1).f1))) ∧ (w'.heap[gb260]? = some (.cells #[.int .i64 a0_0, .int .i64 a0_1, .slice (some ad265) l0_2.length c0_2] 35 (0, 0))) ∧ (w'.heap[gb261]? = some (.cells #[.int .i64 a1_0, .int .i64 a1_1, .slice (some ad266) l1_2.length c1_2] 35 (0, 0))) ∧ (w'.heap[s_.1]? = some (.cells #[.int .i64 0, .int .i64 0] 62 (0, 0))) ∧ (w'.heap[s_.2]? = some (.cells #[.int .i64 0, .int .i64 0] 62 (0, 0))) ∧ (w.heap.size ≤ s_.1) ∧ (w.heap.size ≤ s_.1) ∧ (gb260 ≠ s_.1) ∧ (s_.1 ≠ gb260) ∧ (gb261 ≠ s_.1) ∧ (s_.1 ≠ gb261) ∧ (s_.2 ≠ s_.1) ∧ (s_.1 ≠ s_.2) ∧ (w.heap.size ≤ s_.2) ∧ (w.heap.size ≤ s_.2) ∧ (gb260 ≠ s_.2) ∧ (s_.2 ≠ gb260) ∧ (gb261 ≠ s_.2) ∧ (s_.2 ≠ gb261) ∧ (Below w.heap.size w w')) ?_ ?_
        rotate_left
        ·intro hCont
         refine two_ (i := 10) (j := 11) (Ni := some 6) (Nj := some 7) (My.Mb 14 2047) (My.Mb 14 3071) rfl rfl rfl rfl (two_of HT_.out (by kernel_rfl)) (by decide) (by decide) (fun K hK => ?_) (fun K hK => ?_)
         ·skip
          refine box_step ?hg (N := 6) ?hd (cs := #[.int .i64 0, .int .i64 0]) (t := 62) ?hr ?_; (case hd => rfl); (case hg => rfl); (case hr => first | (go_simp; done) | (go_simp; rfl))
          intro gb267 hg w56 hbox hb
          have BK267 := My.am (hbox)
          have GW267 := My.nge hg (My.bl_ HB)
          have GE267 := My.nge hg (My.bl_ HB)
          replace HB := My.st HB hb
          obtain ⟨NB260_267, NB267_260, BK260⟩ := My.nb hg hb BK260
          obtain ⟨NB261_267, NB267_261, BK261⟩ := My.nb hg hb BK261
          clear hb hbox hg
          refine hK.out _ _ ⟨My.b_ BK260 0, My.b_ BK260 1, My.b_ BK260 2, My.b_ BK261 0, My.b_ BK261 1, My.b_ BK261 2, (My.up HB hw265_0), (My.up HB hw265_1), (My.up HB hw266_0), (My.up HB hw266_1)⟩ (fun hHeld => ?_)
          clear hK K
          refine My.nm 6 ?_
          refine one_ (i := 11) (N := some 7) (My.Mb 14 4095) rfl rfl (one_of HT_.out (by kernel_rfl)) (by decide) (fun K hK => ?_)
          refine box_step ?hg (N := 7) ?hd (cs := #[.int .i64 0, .int .i64 0]) (t := 62) ?hr ?_; (case hd => rfl); (case hg => rfl); (case hr => first | (go_simp; done) | (go_simp; rfl))
          intro gb268 hg w57 hbox hb
          have BK268 := My.am (hbox)
          have GW268 := My.nge hg (My.bl_ HB)
          have GE268 := My.nge hg (My.bl_ HB)
          replace HB := My.st HB hb
          obtain ⟨NB260_268, NB268_260, BK260⟩ := My.nb hg hb BK260
          obtain ⟨NB261_268, NB268_261, BK261⟩ := My.nb hg hb BK261
          obtain ⟨NB267_268, NB268_267, BK267⟩ := My.nb hg hb BK267
          clear hb hbox hg
          refine hK.out _ _ ⟨My.b_ BK260 0, My.b_ BK260 1, My.b_ BK260 2, My.b_ BK261 0, My.b_ BK261 1, My.b_ BK261 2, (My.up HB hw265_0), (My.up HB hw265_1), (My.up HB hw266_0), (My.up HB hw266_1)⟩ (fun hHeld => ?_)
          clear hK K
          refine My.nm 7 ?_
          exact norm_ (by simp only [putAll, Act.put, List.setIfInBounds_toArray, List.set_cons_zero, List.set_cons_succ]) (hCont (gb267, gb268) _ ⟨hHeld, (My.at_ BK260), (My.at_ BK261), (My.at_ BK267), (My.at_ BK268), GW267.out, GE267.out, NB260_267.out, NB267_260.out, NB261_267.out, NB267_261.out, NB268_267.out, NB267_268.out, GW268.out, GE268.out, NB260_268.out, NB268_260.out, NB261_268.out, NB268_261.out, (My.bl_ HB)⟩)
         skip
         refine box_step ?hg (N := 7) ?hd (cs := #[.int .i64 0, .int .i64 0]) (t := 62) ?hr ?_; (case hd => rfl); (case hg => rfl); (case hr => first | (go_simp; done) | (go_simp; rfl))
         intro gb268 hg w56 hbox hb
         have BK268 := My.am (hbox)
         have GW268 := My.nge hg (My.bl_ HB)
         have GE268 := My.nge hg (My.bl_ HB)
         replace HB := My.st HB hb
         obtain ⟨NB260_268, NB268_260, BK260⟩ := My.nb hg hb BK260
         obtain ⟨NB261_268, NB268_261, BK261⟩ := My.nb hg hb BK261
         clear hb hbox hg
         refine hK.out _ _ ⟨My.b_ BK260 0, My.b_ BK260 1, My.b_ BK260 2, My.b_ BK261 0, My.b_ BK261 1, My.b_ BK261 2, (My.up HB hw265_0), (My.up HB hw265_1), (My.up HB hw266_0), (My.up HB hw266_1)⟩ (fun hHeld => ?_)
         clear hK K
         refine My.nm 7 ?_
         refine one_ (i := 10) (N := some 6) (My.Mb 14 4095) rfl rfl (one_of HT_.out (by kernel_rfl)) (by decide) (fun K hK => ?_)
         refine box_step ?hg (N := 6) ?hd (cs := #[.int .i64 0, .int .i64 0]) (t := 62) ?hr ?_; (case hd => rfl); (case hg => rfl); (case hr => first | (go_simp; done) | (go_simp; rfl))
         intro gb267 hg w57 hbox hb
         have BK267 := My.am (hbox)
         have GW267 := My.nge hg (My.bl_ HB)
         have GE267 := My.nge hg (My.bl_ HB)
         replace HB := My.st HB hb
         obtain ⟨NB260_267, NB267_260, BK260⟩ := My.nb hg hb BK260
         obtain ⟨NB261_267, NB267_261, BK261⟩ := My.nb hg hb BK261
         obtain ⟨NB268_267, NB267_268, BK268⟩ := My.nb hg hb BK268
         clear hb hbox hg
         refine hK.out _ _ ⟨My.b_ BK260 0, My.b_ BK260 1, My.b_ BK260 2, My.b_ BK261 0, My.b_ BK261 1, My.b_ BK261 2, (My.up HB hw265_0), (My.up HB hw265_1), (My.up HB hw266_0), (My.up HB hw266_1)⟩ (fun hHeld => ?_)
         clear hK K
         refine My.nm 6 ?_
         exact norm_ (by simp only [putAll, Act.put, List.setIfInBounds_toArray, List.set_cons_zero, List.set_cons_succ]) (hCont (gb267, gb268) _ ⟨hHeld, (My.at_ BK260), (My.at_ BK261), (My.at_ BK267), (My.at_ BK268), GW267.out, GE267.out, NB260_267.out, NB267_260.out, NB261_267.out, NB267_261.out, NB268_267.out, NB267_268.out, GW268.out, GE268.out, NB260_268.out, NB268_260.out, NB261_268.out, NB268_261.out, (My.bl_ HB)⟩)
        rintro ⟨gb267, gb268⟩ w58 ⟨hS_, h0_, h1_, h2_, h3_, h4_, h5_, h6_, h7_, h8_, h9_, h10_, h11_, h12_, h13_, h14_, h15_, h16_, h17_, h18_⟩
        have n0_ : Aside0 (w58.heap[gb260]? = some (.cells #[.int .i64 a0_0, .int .i64 a0_1, .slice (some ad265) l0_2.length c0_2] 35 (0, 0))) := ⟨h0_⟩
        have n1_ : Aside0 (w58.heap[gb261]? = some (.cells #[.int .i64 a1_0, .int .i64 a1_1, .slice (some ad266) l1_2.length c1_2] 35 (0, 0))) := ⟨h1_⟩
        have n2_ : Aside0 (w58.heap[gb267]? = some (.cells #[.int .i64 0, .int .i64 0] 62 (0, 0))) := ⟨h2_⟩
        have n3_ : Aside0 (w58.heap[gb268]? = some (.cells #[.int .i64 0, .int .i64 0] 62 (0, 0))) := ⟨h3_⟩
        have n4_ : Aside0 (w.heap.size ≤ gb267) := ⟨h4_⟩
        have n5_ : Aside0 (w.heap.size ≤ gb267) := ⟨h5_⟩
        have n6_ : Aside0 (gb260 ≠ gb267) := ⟨h6_⟩
        have n7_ : Aside0 (gb267 ≠ gb260) := ⟨h7_⟩
        have n8_ : Aside0 (gb261 ≠ gb267) := ⟨h8_⟩
        have n9_ : Aside0 (gb267 ≠ gb261) := ⟨h9_⟩
        have n10_ : Aside0 (gb268 ≠ gb267) := ⟨h10_⟩
        have n11_ : Aside0 (gb267 ≠ gb268) := ⟨h11_⟩
        have n12_ : Aside0 (w.heap.size ≤ gb268) := ⟨h12_⟩
        have n13_ : Aside0 (w.heap.size ≤ gb268) := ⟨h13_⟩
        have n14_ : Aside0 (gb260 ≠ gb268) := ⟨h14_⟩
        have n15_ : Aside0 (gb268 ≠ gb260) := ⟨h15_⟩
        have n16_ : Aside0 (gb261 ≠ gb268) := ⟨h16_⟩
        have n17_ : Aside0 (gb268 ≠ gb261) := ⟨h17_⟩
        have n18_ : Aside0 (Below w.heap.size w w58) := ⟨h18_⟩
        clear BK260
        clear BK261
        clear HB
        clear h0_ h1_ h2_ h3_ h4_ h5_ h6_ h7_ h8_ h9_ h10_ h11_ h12_ h13_ h14_ h15_ h16_ h17_ h18_
        have BK260 := n0_
        have BK261 := n1_
        have BK267 := n2_
        have BK268 := n3_
        have GW267 := n4_
        have GE267 := n5_
        have NB260_267 := n6_
        have NB267_260 := n7_
        have NB261_267 := n8_
        have NB267_261 := n9_
        have NB268_267 := n10_
        have NB267_268 := n11_
        have GW268 := n12_
        have GE268 := n13_
        have NB260_268 := n14_
        have NB268_260 := n15_
        have NB261_268 := n16_
        have NB268_261 := n17_
        have HB := n18_
        clear n0_ n1_ n2_ n3_ n4_ n5_ n6_ n7_ n8_ n9_ n10_ n11_ n12_ n13_ n14_ n15_ n16_ n17_ n18_
        have hHeld : w58.cell? ⟨gb260, 0, none⟩ = some (.int .i64 a0_0) ∧ w58.cell? ⟨gb260, 1, none⟩ = some (.int .i64 a0_1) ∧ w58.cell? ⟨gb260, 2, none⟩ = some (.slice (some ad265) l0_2.length c0_2) ∧ w58.cell? ⟨gb261, 0, none⟩ = some (.int .i64 a1_0) ∧ w58.cell? ⟨gb261, 1, none⟩ = some (.int .i64 a1_1) ∧ w58.cell? ⟨gb261, 2, none⟩ = some (.slice (some ad266) l1_2.length c1_2) ∧ w58.cell? (ad265.add ((x5_1).toNat * 2)) = some (.int .i64 ((rd_T62 l0_2 x5_1).f0)) ∧ w58.cell? ⟨(ad265.add ((x5_1).toNat * 2)).block, (ad265.add ((x5_1).toNat * 2)).off + 1, none⟩ = some (.int .i64 ((rd_T62 l0_2 x5_1).f1)) ∧ w58.cell? (ad266.add ((x5_1).toNat * 2)) = some (.int .i64 ((rd_T62 l1_2 x5_1).f0)) ∧ w58.cell? ⟨(ad266.add ((x5_1).toNat * 2)).block, (ad266.add ((x5_1).toNat * 2)).off + 1, none⟩ = some (.int .i64 ((rd_T62 l1_2 x5_1).f1)) := hS_
        refine norm_ (a' := ?_) ?_ ?_
        rotate_left
        ·simp only [putAll, Act.put, List.setIfInBounds_toArray, List.set_cons_zero, List.set_cons_succ]
         rfl
        refine one_ (i := 12) (N := none) (My.Mb 14 8191) rfl rfl (one_of HT_.out (by kernel_rfl)) (by decide) (fun K hK => ?_)
        have hs59 : w58.cell? ⟨gb267, 0, none⟩ = some (.int .i64 0) := My.b_ BK267 0
        have hfs59 := blk_frozen BK267.out 0
        have hns59_0 := NB260_267.out
        have hns59_1 := NB261_267.out
        have hns59_3 := NB268_267.out
        have hms59_0 := NB267_260.out
        have hms59_1 := NB267_261.out
        have hms59_3 := NB267_268.out
        have hs60 : w58.cell? ⟨gb267, 1, none⟩ = some (.int .i64 0) := My.b_ BK267 1
        have hfs60 := blk_frozen BK267.out 1
        have hns60_0 := NB260_267.out
        have hns60_1 := NB261_267.out
        have hns60_3 := NB268_267.out
        have hms60_0 := NB267_260.out
        have hms60_1 := NB267_261.out
        have hms60_3 := NB267_268.out
        refine skip_ (w1 := ?_) (by rfl) rfl ?_ ?_
        rotate_left
        ·go_simp
         rfl
        refine hK.out _ _ ⟨(My.c2 NB260_267.out hHeld.1), (My.c2 NB260_267.out hHeld.2.1), (My.c2 NB260_267.out hHeld.2.2.1), (My.c2 NB261_267.out hHeld.2.2.2.1), (My.c2 NB261_267.out hHeld.2.2.2.2.1), (My.c2 NB261_267.out hHeld.2.2.2.2.2.1), (My.c2 (My.nw hw265_0 GW267) hHeld.2.2.2.2.2.2.1), (My.c2 (My.nw hw265_1 GW267) hHeld.2.2.2.2.2.2.2.1), (My.c2 (My.nw hw266_0 GW267) hHeld.2.2.2.2.2.2.2.2.1), (My.c2 (My.nw hw266_1 GW267) hHeld.2.2.2.2.2.2.2.2.2)⟩ (fun hHeld => ?_)
        clear hK K
        refine one_ (i := 13) (N := none) (My.Mb 14 16383) rfl rfl (one_of HT_.out (by kernel_rfl)) (by decide) (fun K hK => ?_)
        have hs61 : w58.cell? ⟨gb268, 0, none⟩ = some (.int .i64 0) := My.b_ BK268 0
        have hfs61 := blk_frozen BK268.out 0
        have hns61_0 := NB260_268.out
        have hns61_1 := NB261_268.out
        have hns61_2 := NB267_268.out
        have hms61_0 := NB268_260.out
        have hms61_1 := NB268_261.out
        have hms61_2 := NB268_267.out
        have hs62 : w58.cell? ⟨gb268, 1, none⟩ = some (.int .i64 0) := My.b_ BK268 1
        have hfs62 := blk_frozen BK268.out 1
        have hns62_0 := NB260_268.out
        have hns62_1 := NB261_268.out
        have hns62_2 := NB267_268.out
        have hms62_0 := NB268_260.out
        have hms62_1 := NB268_261.out
        have hms62_2 := NB268_267.out
        refine skip_ (w1 := ?_) (by rfl) rfl ?_ ?_
        rotate_left
        ·go_simp
         rfl
        refine hK.out _ _ ⟨(My.c2 NB260_268.out hHeld.1), (My.c2 NB260_268.out hHeld.2.1), (My.c2 NB260_268.out hHeld.2.2.1), (My.c2 NB261_268.out hHeld.2.2.2.1), (My.c2 NB261_268.out hHeld.2.2.2.2.1), (My.c2 NB261_268.out hHeld.2.2.2.2.2.1), (My.c2 (My.nw hw265_0 GW268) hHeld.2.2.2.2.2.2.1), (My.c2 (My.nw hw265_1 GW268) hHeld.2.2.2.2.2.2.2.1), (My.c2 (My.nw hw266_0 GW268) hHeld.2.2.2.2.2.2.2.2.1), (My.c2 (My.nw hw266_1 GW268) hHeld.2.2.2.2.2.2.2.2.2)⟩ (fun hHeld => ?_)
        clear hK K
        refine done_ (done_of HT_.out (by kernel_rfl)) ?_
        have hnb63 := NB267_260.out
        have hnc63 := NB260_267.out
        have hnb64 := NB267_261.out
        have hnc64 := NB261_267.out
        have hnb65 := NB267_268.out
        have hnc65 := NB268_267.out
        have hq66 := My.cz2 BK267
        have hnb67 := NB268_260.out
        have hnc67 := NB260_268.out
        have hnb68 := NB268_261.out
        have hnc68 := NB261_268.out
        have hq69 := My.cz2 BK268
        try go_wp2_with (first | ((with_reducible refine gate_callee (f := 56) rfl ?_); refine goesL_ (some 61) rfl rfl Try.func56 (by kernel_rfl) rfl #[.int .i64 ((rd_T62 l0_2 x5_1).f0), .int .i64 ((rd_T62 l1_2 x5_1).f0)] rfl My.gx ?_; (with_reducible refine (ententeref03_number.calls ((rd_T62 l0_2 x5_1).f0) ((rd_T62 l1_2 x5_1).f0) t270 _ A54.out).mono ?_); rintro e w' ⟨rfl, ⟨nd, rfl⟩⟩; refine ⟨_, rfl, ?_⟩))
        go_ret
        exact ⟨My.r2, (My.bl_ HB)⟩
       rw [if_pos c21] at H
       have c21b0 : (((rd_T62 l0_2 x5_1).f0) == ((rd_T62 l1_2 x5_1).f0)) = true := beq_iff_eq.mpr c21
       have c21b1 : (((rd_T62 l0_2 x5_1).f0) != ((rd_T62 l1_2 x5_1).f0)) = false := bne_eq_false_iff_eq.mpr c21
       clear c21
       by_cases c22 : ((rd_T62 l0_2 x5_1).f1) = ((rd_T62 l1_2 x5_1).f1)
       ·rw [if_pos c22] at H
        have c22b0 : (((rd_T62 l0_2 x5_1).f1) == ((rd_T62 l1_2 x5_1).f1)) = true := beq_iff_eq.mpr c22
        have c22b1 : (((rd_T62 l0_2 x5_1).f1) != ((rd_T62 l1_2 x5_1).f1)) = false := bne_eq_false_iff_eq.mpr c22
        clear c22
        have H' := My.am H
        clear H
        try go_wp2
        replace BK260 := My.am (blk_drew BK260.out)
        replace BK261 := My.am (blk_drew BK261.out)
        replace HB := My.am (below_drew1 HB.out)
        have p265 : 0 ≤ (x5_1 : Int) := My.as_
        have q265 : x5_1 < (l0_2.length : Int) := My.as_
        obtain ⟨ad265, e265, hx265_0, hx265_1⟩ := at_T62 HR0_2.out x5_1 p265 q265
        have hw265_1 := hx265_1
        have hw265_0 := hx265_0
        cases e265
        replace hx265_0 := My.up HB hx265_0
        replace hx265_1 := My.up HB hx265_1
        replace p265 := eq_true p265
        replace q265 := eq_true q265
        have p266 : 0 ≤ (x5_1 : Int) := My.as_
        have q266 : x5_1 < (l1_2.length : Int) := My.as_
        obtain ⟨ad266, e266, hx266_0, hx266_1⟩ := at_T62 HR1_2.out x5_1 p266 q266
        have hw266_1 := hx266_1
        have hw266_0 := hx266_0
        cases e266
        replace hx266_0 := My.up HB hx266_0
        replace hx266_1 := My.up HB hx266_1
        replace p266 := eq_true p266
        replace q266 := eq_true q266
        refine start_ (n := 14) (S := fun w' => w'.cell? ⟨gb260, 0, none⟩ = some (.int .i64 a0_0) ∧ w'.cell? ⟨gb260, 1, none⟩ = some (.int .i64 a0_1) ∧ w'.cell? ⟨gb260, 2, none⟩ = some (.slice (some ad265) l0_2.length c0_2) ∧ w'.cell? ⟨gb261, 0, none⟩ = some (.int .i64 a1_0) ∧ w'.cell? ⟨gb261, 1, none⟩ = some (.int .i64 a1_1) ∧ w'.cell? ⟨gb261, 2, none⟩ = some (.slice (some ad266) l1_2.length c1_2) ∧ w'.cell? (ad265.add ((x5_1).toNat * 2)) = some (.int .i64 ((rd_T62 l0_2 x5_1).f0)) ∧ w'.cell? ⟨(ad265.add ((x5_1).toNat * 2)).block, (ad265.add ((x5_1).toNat * 2)).off + 1, none⟩ = some (.int .i64 ((rd_T62 l0_2 x5_1).f1)) ∧ w'.cell? (ad266.add ((x5_1).toNat * 2)) = some (.int .i64 ((rd_T62 l1_2 x5_1).f0)) ∧ w'.cell? ⟨(ad266.add ((x5_1).toNat * 2)).block, (ad266.add ((x5_1).toNat * 2)).off + 1, none⟩ = some (.int .i64 ((rd_T62 l1_2 x5_1).f1))) (ds := []) #[false, false, false, false, false, false, false, false, false, false, false, false, false, false] (by kernel_rfl) rfl rfl ⟨My.b_ BK260 0, My.b_ BK260 1, My.b_ BK260 2, My.b_ BK261 0, My.b_ BK261 1, My.b_ BK261 2, (My.up HB hw265_0), (My.up HB hw265_1), (My.up HB hw266_0), (My.up HB hw266_1)⟩ (fun hHeld => ?_); refine with_tabW ententeref03_Cmp.tab8 ententeref03_Cmp.bits8 (fun HT_ HW_ => ?_)
        generalize wc.drew = w23 at BK260 BK261 HB hx265_0 hx265_1 hx266_0 hx266_1 hHeld ⊢
        refine My.pu_ 0 42 14 HT_.out ?_
        refine My.pv_ 2 44 14 5 HT_.out ?_
        refine My.pv_ 5 47 14 37 HT_.out ?_
        refine My.pv_ 7 49 14 165 HT_.out ?_
        refine My.tv_ 1 43 14 167 HT_.out HW_.out hHeld rfl rfl (by rintro w' ⟨s0, s1, s2, s3, s4, s5, s6, s7, s8, s9⟩; go_simp; with_reducible rfl) ?_
        refine My.pv_ 3 45 14 175 HT_.out ?_
        refine My.tv_ 4 46 14 191 HT_.out HW_.out hHeld rfl rfl (by rintro w' ⟨s0, s1, s2, s3, s4, s5, s6, s7, s8, s9⟩; go_simp; with_reducible rfl) ?_
        refine My.tv_ 6 48 14 255 HT_.out HW_.out hHeld rfl rfl (by rintro w' ⟨s0, s1, s2, s3, s4, s5, s6, s7, s8, s9⟩; go_simp; with_reducible rfl) ?_
        refine My.pu_ 8 50 14 HT_.out ?_
        refine My.ta_ 9 51 14 HT_.out HW_.out hHeld rfl rfl (by rintro w' ⟨s0, s1, s2, s3, s4, s5, s6, s7, s8, s9⟩; go_simp; with_reducible rfl) ?_
        refine join_ (σ := Nat × Nat) 2 (My.Mb 14 4095) (fun s_ => [(6, .pointer (some ⟨s_.1, 0, none⟩)), (7, .pointer (some ⟨s_.2, 0, none⟩))]) (fun s_ w' => (w'.cell? ⟨gb260, 0, none⟩ = some (.int .i64 a0_0) ∧ w'.cell? ⟨gb260, 1, none⟩ = some (.int .i64 a0_1) ∧ w'.cell? ⟨gb260, 2, none⟩ = some (.slice (some ad265) l0_2.length c0_2) ∧ w'.cell? ⟨gb261, 0, none⟩ = some (.int .i64 a1_0) ∧ w'.cell? ⟨gb261, 1, none⟩ = some (.int .i64 a1_1) ∧ w'.cell? ⟨gb261, 2, none⟩ = some (.slice (some ad266) l1_2.length c1_2) ∧ w'.cell? (ad265.add ((x5_1).toNat * 2)) = some (.int .i64 ((rd_T62 l0_2 x5_1).f0)) ∧ w'.cell? ⟨(ad265.add ((x5_1).toNat * 2)).block, (ad265.add ((x5_1).toNat * 2)).off + 1, none⟩ = some (.int .i64 ((rd_T62 l0_2 x5_1).f1)) ∧ w'.cell? (ad266.add ((x5_1).toNat * 2)) = some (.int .i64 ((rd_T62 l1_2 x5_1).f0)) ∧ w'.cell? ⟨(ad266.add ((x5_1).toNat * 2)).block, (ad266.add ((x5_1).toNat * 2)).off + 1, none⟩ = some (.int .i64 ((rd_T62 l1_2 x5_1).f1))) ∧ (w'.heap[gb260]? = some (.cells #[.int .i64 a0_0, .int .i64 a0_1, .slice (some ad265) l0_2.length c0_2] 35 (0, 0))) ∧ (w'.heap[gb261]? = some (.cells #[.int .i64 a1_0, .int .i64 a1_1, .slice (some ad266) l1_2.length c1_2] 35 (0, 0))) ∧ (w'.heap[s_.1]? = some (.cells #[.int .i64 0, .int .i64 0] 62 (0, 0))) ∧ (w'.heap[s_.2]? = some (.cells #[.int .i64 0, .int .i64 0] 62 (0, 0))) ∧ (w.heap.size ≤ s_.1) ∧ (w.heap.size ≤ s_.1) ∧ (gb260 ≠ s_.1) ∧ (s_.1 ≠ gb260) ∧ (gb261 ≠ s_.1) ∧ (s_.1 ≠ gb261) ∧ (s_.2 ≠ s_.1) ∧ (s_.1 ≠ s_.2) ∧ (w.heap.size ≤ s_.2) ∧ (w.heap.size ≤ s_.2) ∧ (gb260 ≠ s_.2) ∧ (s_.2 ≠ gb260) ∧ (gb261 ≠ s_.2) ∧ (s_.2 ≠ gb261) ∧ (Below w.heap.size w w')) ?_ ?_
        rotate_left
        ·intro hCont
         refine two_ (i := 10) (j := 11) (Ni := some 6) (Nj := some 7) (My.Mb 14 2047) (My.Mb 14 3071) rfl rfl rfl rfl (two_of HT_.out (by kernel_rfl)) (by decide) (by decide) (fun K hK => ?_) (fun K hK => ?_)
         ·skip
          refine box_step ?hg (N := 6) ?hd (cs := #[.int .i64 0, .int .i64 0]) (t := 62) ?hr ?_; (case hd => rfl); (case hg => rfl); (case hr => first | (go_simp; done) | (go_simp; rfl))
          intro gb267 hg w24 hbox hb
          have BK267 := My.am (hbox)
          have GW267 := My.nge hg (My.bl_ HB)
          have GE267 := My.nge hg (My.bl_ HB)
          replace HB := My.st HB hb
          obtain ⟨NB260_267, NB267_260, BK260⟩ := My.nb hg hb BK260
          obtain ⟨NB261_267, NB267_261, BK261⟩ := My.nb hg hb BK261
          clear hb hbox hg
          refine hK.out _ _ ⟨My.b_ BK260 0, My.b_ BK260 1, My.b_ BK260 2, My.b_ BK261 0, My.b_ BK261 1, My.b_ BK261 2, (My.up HB hw265_0), (My.up HB hw265_1), (My.up HB hw266_0), (My.up HB hw266_1)⟩ (fun hHeld => ?_)
          clear hK K
          refine My.nm 6 ?_
          refine one_ (i := 11) (N := some 7) (My.Mb 14 4095) rfl rfl (one_of HT_.out (by kernel_rfl)) (by decide) (fun K hK => ?_)
          refine box_step ?hg (N := 7) ?hd (cs := #[.int .i64 0, .int .i64 0]) (t := 62) ?hr ?_; (case hd => rfl); (case hg => rfl); (case hr => first | (go_simp; done) | (go_simp; rfl))
          intro gb268 hg w25 hbox hb
          have BK268 := My.am (hbox)
          have GW268 := My.nge hg (My.bl_ HB)
          have GE268 := My.nge hg (My.bl_ HB)
          replace HB := My.st HB hb
          obtain ⟨NB260_268, NB268_260, BK260⟩ := My.nb hg hb BK260
          obtain ⟨NB261_268, NB268_261, BK261⟩ := My.nb hg hb BK261
          obtain ⟨NB267_268, NB268_267, BK267⟩ := My.nb hg hb BK267
          clear hb hbox hg
          refine hK.out _ _ ⟨My.b_ BK260 0, My.b_ BK260 1, My.b_ BK260 2, My.b_ BK261 0, My.b_ BK261 1, My.b_ BK261 2, (My.up HB hw265_0), (My.up HB hw265_1), (My.up HB hw266_0), (My.up HB hw266_1)⟩ (fun hHeld => ?_)
          clear hK K
          refine My.nm 7 ?_
          exact norm_ (by simp only [putAll, Act.put, List.setIfInBounds_toArray, List.set_cons_zero, List.set_cons_succ]) (hCont (gb267, gb268) _ ⟨hHeld, (My.at_ BK260), (My.at_ BK261), (My.at_ BK267), (My.at_ BK268), GW267.out, GE267.out, NB260_267.out, NB267_260.out, NB261_267.out, NB267_261.out, NB268_267.out, NB267_268.out, GW268.out, GE268.out, NB260_268.out, NB268_260.out, NB261_268.out, NB268_261.out, (My.bl_ HB)⟩)
         skip
         refine box_step ?hg (N := 7) ?hd (cs := #[.int .i64 0, .int .i64 0]) (t := 62) ?hr ?_; (case hd => rfl); (case hg => rfl); (case hr => first | (go_simp; done) | (go_simp; rfl))
         intro gb268 hg w24 hbox hb
         have BK268 := My.am (hbox)
         have GW268 := My.nge hg (My.bl_ HB)
         have GE268 := My.nge hg (My.bl_ HB)
         replace HB := My.st HB hb
         obtain ⟨NB260_268, NB268_260, BK260⟩ := My.nb hg hb BK260
         obtain ⟨NB261_268, NB268_261, BK261⟩ := My.nb hg hb BK261
         clear hb hbox hg
         refine hK.out _ _ ⟨My.b_ BK260 0, My.b_ BK260 1, My.b_ BK260 2, My.b_ BK261 0, My.b_ BK261 1, My.b_ BK261 2, (My.up HB hw265_0), (My.up HB hw265_1), (My.up HB hw266_0), (My.up HB hw266_1)⟩ (fun hHeld => ?_)
         clear hK K
         refine My.nm 7 ?_
         refine one_ (i := 10) (N := some 6) (My.Mb 14 4095) rfl rfl (one_of HT_.out (by kernel_rfl)) (by decide) (fun K hK => ?_)
         refine box_step ?hg (N := 6) ?hd (cs := #[.int .i64 0, .int .i64 0]) (t := 62) ?hr ?_; (case hd => rfl); (case hg => rfl); (case hr => first | (go_simp; done) | (go_simp; rfl))
         intro gb267 hg w25 hbox hb
         have BK267 := My.am (hbox)
         have GW267 := My.nge hg (My.bl_ HB)
         have GE267 := My.nge hg (My.bl_ HB)
         replace HB := My.st HB hb
         obtain ⟨NB260_267, NB267_260, BK260⟩ := My.nb hg hb BK260
         obtain ⟨NB261_267, NB267_261, BK261⟩ := My.nb hg hb BK261
         obtain ⟨NB268_267, NB267_268, BK268⟩ := My.nb hg hb BK268
         clear hb hbox hg
         refine hK.out _ _ ⟨My.b_ BK260 0, My.b_ BK260 1, My.b_ BK260 2, My.b_ BK261 0, My.b_ BK261 1, My.b_ BK261 2, (My.up HB hw265_0), (My.up HB hw265_1), (My.up HB hw266_0), (My.up HB hw266_1)⟩ (fun hHeld => ?_)
         clear hK K
         refine My.nm 6 ?_
         exact norm_ (by simp only [putAll, Act.put, List.setIfInBounds_toArray, List.set_cons_zero, List.set_cons_succ]) (hCont (gb267, gb268) _ ⟨hHeld, (My.at_ BK260), (My.at_ BK261), (My.at_ BK267), (My.at_ BK268), GW267.out, GE267.out, NB260_267.out, NB267_260.out, NB261_267.out, NB267_261.out, NB268_267.out, NB267_268.out, GW268.out, GE268.out, NB260_268.out, NB268_260.out, NB261_268.out, NB268_261.out, (My.bl_ HB)⟩)
        rintro ⟨gb267, gb268⟩ w26 ⟨hS_, h0_, h1_, h2_, h3_, h4_, h5_, h6_, h7_, h8_, h9_, h10_, h11_, h12_, h13_, h14_, h15_, h16_, h17_, h18_⟩
        have n0_ : Aside0 (w26.heap[gb260]? = some (.cells #[.int .i64 a0_0, .int .i64 a0_1, .slice (some ad265) l0_2.length c0_2] 35 (0, 0))) := ⟨h0_⟩
        have n1_ : Aside0 (w26.heap[gb261]? = some (.cells #[.int .i64 a1_0, .int .i64 a1_1, .slice (some ad266) l1_2.length c1_2] 35 (0, 0))) := ⟨h1_⟩
        have n2_ : Aside0 (w26.heap[gb267]? = some (.cells #[.int .i64 0, .int .i64 0] 62 (0, 0))) := ⟨h2_⟩
        have n3_ : Aside0 (w26.heap[gb268]? = some (.cells #[.int .i64 0, .int .i64 0] 62 (0, 0))) := ⟨h3_⟩
        have n4_ : Aside0 (w.heap.size ≤ gb267) := ⟨h4_⟩
        have n5_ : Aside0 (w.heap.size ≤ gb267) := ⟨h5_⟩
        have n6_ : Aside0 (gb260 ≠ gb267) := ⟨h6_⟩
        have n7_ : Aside0 (gb267 ≠ gb260) := ⟨h7_⟩
        have n8_ : Aside0 (gb261 ≠ gb267) := ⟨h8_⟩
        have n9_ : Aside0 (gb267 ≠ gb261) := ⟨h9_⟩
        have n10_ : Aside0 (gb268 ≠ gb267) := ⟨h10_⟩
        have n11_ : Aside0 (gb267 ≠ gb268) := ⟨h11_⟩
        have n12_ : Aside0 (w.heap.size ≤ gb268) := ⟨h12_⟩
        have n13_ : Aside0 (w.heap.size ≤ gb268) := ⟨h13_⟩
        have n14_ : Aside0 (gb260 ≠ gb268) := ⟨h14_⟩
        have n15_ : Aside0 (gb268 ≠ gb260) := ⟨h15_⟩
        have n16_ : Aside0 (gb261 ≠ gb268) := ⟨h16_⟩
        have n17_ : Aside0 (gb268 ≠ gb261) := ⟨h17_⟩
        have n18_ : Aside0 (Below w.heap.size w w26) := ⟨h18_⟩
        clear BK260
        clear BK261
        clear HB
        clear h0_ h1_ h2_ h3_ h4_ h5_ h6_ h7_ h8_ h9_ h10_ h11_ h12_ h13_ h14_ h15_ h16_ h17_ h18_
        have BK260 := n0_
        have BK261 := n1_
        have BK267 := n2_
        have BK268 := n3_
        have GW267 := n4_
        have GE267 := n5_
        have NB260_267 := n6_
        have NB267_260 := n7_
        have NB261_267 := n8_
        have NB267_261 := n9_
        have NB268_267 := n10_
        have NB267_268 := n11_
        have GW268 := n12_
        have GE268 := n13_
        have NB260_268 := n14_
        have NB268_260 := n15_
        have NB261_268 := n16_
        have NB268_261 := n17_
        have HB := n18_
        clear n0_ n1_ n2_ n3_ n4_ n5_ n6_ n7_ n8_ n9_ n10_ n11_ n12_ n13_ n14_ n15_ n16_ n17_ n18_
        have hHeld : w26.cell? ⟨gb260, 0, none⟩ = some (.int .i64 a0_0) ∧ w26.cell? ⟨gb260, 1, none⟩ = some (.int .i64 a0_1) ∧ w26.cell? ⟨gb260, 2, none⟩ = some (.slice (some ad265) l0_2.length c0_2) ∧ w26.cell? ⟨gb261, 0, none⟩ = some (.int .i64 a1_0) ∧ w26.cell? ⟨gb261, 1, none⟩ = some (.int .i64 a1_1) ∧ w26.cell? ⟨gb261, 2, none⟩ = some (.slice (some ad266) l1_2.length c1_2) ∧ w26.cell? (ad265.add ((x5_1).toNat * 2)) = some (.int .i64 ((rd_T62 l0_2 x5_1).f0)) ∧ w26.cell? ⟨(ad265.add ((x5_1).toNat * 2)).block, (ad265.add ((x5_1).toNat * 2)).off + 1, none⟩ = some (.int .i64 ((rd_T62 l0_2 x5_1).f1)) ∧ w26.cell? (ad266.add ((x5_1).toNat * 2)) = some (.int .i64 ((rd_T62 l1_2 x5_1).f0)) ∧ w26.cell? ⟨(ad266.add ((x5_1).toNat * 2)).block, (ad266.add ((x5_1).toNat * 2)).off + 1, none⟩ = some (.int .i64 ((rd_T62 l1_2 x5_1).f1)) := hS_
        refine norm_ (a' := ?_) ?_ ?_
        rotate_left
        ·simp only [putAll, Act.put, List.setIfInBounds_toArray, List.set_cons_zero, List.set_cons_succ]
         rfl
        refine one_ (i := 12) (N := none) (My.Mb 14 8191) rfl rfl (one_of HT_.out (by kernel_rfl)) (by decide) (fun K hK => ?_)
        have hs27 : w26.cell? ⟨gb267, 0, none⟩ = some (.int .i64 0) := My.b_ BK267 0
        have hfs27 := blk_frozen BK267.out 0
        have hns27_0 := NB260_267.out
        have hns27_1 := NB261_267.out
        have hns27_3 := NB268_267.out
        have hms27_0 := NB267_260.out
        have hms27_1 := NB267_261.out
        have hms27_3 := NB267_268.out
        have hs28 : w26.cell? ⟨gb267, 1, none⟩ = some (.int .i64 0) := My.b_ BK267 1
        have hfs28 := blk_frozen BK267.out 1
        have hns28_0 := NB260_267.out
        have hns28_1 := NB261_267.out
        have hns28_3 := NB268_267.out
        have hms28_0 := NB267_260.out
        have hms28_1 := NB267_261.out
        have hms28_3 := NB267_268.out
        refine skip_ (w1 := ?_) (by rfl) rfl ?_ ?_
        rotate_left
        ·go_simp
         rfl
        refine hK.out _ _ ⟨(My.c2 NB260_267.out hHeld.1), (My.c2 NB260_267.out hHeld.2.1), (My.c2 NB260_267.out hHeld.2.2.1), (My.c2 NB261_267.out hHeld.2.2.2.1), (My.c2 NB261_267.out hHeld.2.2.2.2.1), (My.c2 NB261_267.out hHeld.2.2.2.2.2.1), (My.c2 (My.nw hw265_0 GW267) hHeld.2.2.2.2.2.2.1), (My.c2 (My.nw hw265_1 GW267) hHeld.2.2.2.2.2.2.2.1), (My.c2 (My.nw hw266_0 GW267) hHeld.2.2.2.2.2.2.2.2.1), (My.c2 (My.nw hw266_1 GW267) hHeld.2.2.2.2.2.2.2.2.2)⟩ (fun hHeld => ?_)
        clear hK K
        refine one_ (i := 13) (N := none) (My.Mb 14 16383) rfl rfl (one_of HT_.out (by kernel_rfl)) (by decide) (fun K hK => ?_)
        have hs29 : w26.cell? ⟨gb268, 0, none⟩ = some (.int .i64 0) := My.b_ BK268 0
        have hfs29 := blk_frozen BK268.out 0
        have hns29_0 := NB260_268.out
        have hns29_1 := NB261_268.out
        have hns29_2 := NB267_268.out
        have hms29_0 := NB268_260.out
        have hms29_1 := NB268_261.out
        have hms29_2 := NB268_267.out
        have hs30 : w26.cell? ⟨gb268, 1, none⟩ = some (.int .i64 0) := My.b_ BK268 1
        have hfs30 := blk_frozen BK268.out 1
        have hns30_0 := NB260_268.out
        have hns30_1 := NB261_268.out
        have hns30_2 := NB267_268.out
        have hms30_0 := NB268_260.out
        have hms30_1 := NB268_261.out
        have hms30_2 := NB268_267.out
        refine skip_ (w1 := ?_) (by rfl) rfl ?_ ?_
        rotate_left
        ·go_simp
         rfl
        refine hK.out _ _ ⟨(My.c2 NB260_268.out hHeld.1), (My.c2 NB260_268.out hHeld.2.1), (My.c2 NB260_268.out hHeld.2.2.1), (My.c2 NB261_268.out hHeld.2.2.2.1), (My.c2 NB261_268.out hHeld.2.2.2.2.1), (My.c2 NB261_268.out hHeld.2.2.2.2.2.1), (My.c2 (My.nw hw265_0 GW268) hHeld.2.2.2.2.2.2.1), (My.c2 (My.nw hw265_1 GW268) hHeld.2.2.2.2.2.2.2.1), (My.c2 (My.nw hw266_0 GW268) hHeld.2.2.2.2.2.2.2.2.1), (My.c2 (My.nw hw266_1 GW268) hHeld.2.2.2.2.2.2.2.2.2)⟩ (fun hHeld => ?_)
        clear hK K
        refine done_ (done_of HT_.out (by kernel_rfl)) ?_
        have hnb31 := NB267_260.out
        have hnc31 := NB260_267.out
        have hnb32 := NB267_261.out
        have hnc32 := NB261_267.out
        have hnb33 := NB267_268.out
        have hnc33 := NB268_267.out
        have hq34 := My.cz2 BK267
        have hnb35 := NB268_260.out
        have hnc35 := NB260_268.out
        have hnb36 := NB268_261.out
        have hnc36 := NB261_268.out
        have hq37 := My.cz2 BK268
        try go_wp2
        go_roundg kj9
        case measure => have := HK1.out; have := HJ9.out; omega
        case rel => exact ⟨(wrap64 (x5_1 + 1)), My.r1, H', ⟨by have := HK1.out; have := HJ9.out; omega⟩, ⟨(My.sv_ BK260)⟩, ⟨(My.sv_ BK261)⟩, ⟨(My.bl_ HB)⟩⟩
       rw [if_neg c22] at H
       have c22b0 : (((rd_T62 l0_2 x5_1).f1) == ((rd_T62 l1_2 x5_1).f1)) = false := beq_eq_false_iff_ne.mpr c22
       have c22b1 : (((rd_T62 l0_2 x5_1).f1) != ((rd_T62 l1_2 x5_1).f1)) = true := bne_iff_ne.mpr c22
       replace H := Option.bind_eq_some_iff.mp H
       obtain ⟨t269, A380, H⟩ := H
       try dsimp only at H
       have A38 := My.am A380
       clear A380
       obtain rfl := Option.some.inj H
       try go_wp2
       replace BK260 := My.am (blk_drew BK260.out)
       replace BK261 := My.am (blk_drew BK261.out)
       replace HB := My.am (below_drew1 HB.out)
       have p265 : 0 ≤ (x5_1 : Int) := My.as_
       have q265 : x5_1 < (l0_2.length : Int) := My.as_
       obtain ⟨ad265, e265, hx265_0, hx265_1⟩ := at_T62 HR0_2.out x5_1 p265 q265
       have hw265_1 := hx265_1
       have hw265_0 := hx265_0
       cases e265
       replace hx265_0 := My.up HB hx265_0
       replace hx265_1 := My.up HB hx265_1
       replace p265 := eq_true p265
       replace q265 := eq_true q265
       have p266 : 0 ≤ (x5_1 : Int) := My.as_
       have q266 : x5_1 < (l1_2.length : Int) := My.as_
       obtain ⟨ad266, e266, hx266_0, hx266_1⟩ := at_T62 HR1_2.out x5_1 p266 q266
       have hw266_1 := hx266_1
       have hw266_0 := hx266_0
       cases e266
       replace hx266_0 := My.up HB hx266_0
       replace hx266_1 := My.up HB hx266_1
       replace p266 := eq_true p266
       replace q266 := eq_true q266
       refine start_ (n := 14) (S := fun w' => w'.cell? ⟨gb260, 0, none⟩ = some (.int .i64 a0_0) ∧ w'.cell? ⟨gb260, 1, none⟩ = some (.int .i64 a0_1) ∧ w'.cell? ⟨gb260, 2, none⟩ = some (.slice (some ad265) l0_2.length c0_2) ∧ w'.cell? ⟨gb261, 0, none⟩ = some (.int .i64 a1_0) ∧ w'.cell? ⟨gb261, 1, none⟩ = some (.int .i64 a1_1) ∧ w'.cell? ⟨gb261, 2, none⟩ = some (.slice (some ad266) l1_2.length c1_2) ∧ w'.cell? (ad265.add ((x5_1).toNat * 2)) = some (.int .i64 ((rd_T62 l0_2 x5_1).f0)) ∧ w'.cell? ⟨(ad265.add ((x5_1).toNat * 2)).block, (ad265.add ((x5_1).toNat * 2)).off + 1, none⟩ = some (.int .i64 ((rd_T62 l0_2 x5_1).f1)) ∧ w'.cell? (ad266.add ((x5_1).toNat * 2)) = some (.int .i64 ((rd_T62 l1_2 x5_1).f0)) ∧ w'.cell? ⟨(ad266.add ((x5_1).toNat * 2)).block, (ad266.add ((x5_1).toNat * 2)).off + 1, none⟩ = some (.int .i64 ((rd_T62 l1_2 x5_1).f1))) (ds := []) #[false, false, false, false, false, false, false, false, false, false, false, false, false, false] (by kernel_rfl) rfl rfl ⟨My.b_ BK260 0, My.b_ BK260 1, My.b_ BK260 2, My.b_ BK261 0, My.b_ BK261 1, My.b_ BK261 2, (My.up HB hw265_0), (My.up HB hw265_1), (My.up HB hw266_0), (My.up HB hw266_1)⟩ (fun hHeld => ?_); refine with_tabW ententeref03_Cmp.tab8 ententeref03_Cmp.bits8 (fun HT_ HW_ => ?_)
       generalize wc.drew = w39 at BK260 BK261 HB hx265_0 hx265_1 hx266_0 hx266_1 hHeld ⊢
       refine My.pu_ 0 42 14 HT_.out ?_
       refine My.pv_ 2 44 14 5 HT_.out ?_
       refine My.pv_ 5 47 14 37 HT_.out ?_
       refine My.pv_ 7 49 14 165 HT_.out ?_
       refine My.tv_ 1 43 14 167 HT_.out HW_.out hHeld rfl rfl (by rintro w' ⟨s0, s1, s2, s3, s4, s5, s6, s7, s8, s9⟩; go_simp; with_reducible rfl) ?_
       refine My.pv_ 3 45 14 175 HT_.out ?_
       refine My.tv_ 4 46 14 191 HT_.out HW_.out hHeld rfl rfl (by rintro w' ⟨s0, s1, s2, s3, s4, s5, s6, s7, s8, s9⟩; go_simp; with_reducible rfl) ?_
       refine My.tv_ 6 48 14 255 HT_.out HW_.out hHeld rfl rfl (by rintro w' ⟨s0, s1, s2, s3, s4, s5, s6, s7, s8, s9⟩; go_simp; with_reducible rfl) ?_
       refine My.pu_ 8 50 14 HT_.out ?_
       refine My.ta_ 9 51 14 HT_.out HW_.out hHeld rfl rfl (by rintro w' ⟨s0, s1, s2, s3, s4, s5, s6, s7, s8, s9⟩; go_simp; with_reducible rfl) ?_
       refine join_ (σ := Nat × Nat) 2 (My.Mb 14 4095) (fun s_ => [(6, .pointer (some ⟨s_.1, 0, none⟩)), (7, .pointer (some ⟨s_.2, 0, none⟩))]) (fun s_ w' => (w'.cell? ⟨gb260, 0, none⟩ = some (.int .i64 a0_0) ∧ w'.cell? ⟨gb260, 1, none⟩ = some (.int .i64 a0_1) ∧ w'.cell? ⟨gb260, 2, none⟩ = some (.slice (some ad265) l0_2.length c0_2) ∧ w'.cell? ⟨gb261, 0, none⟩ = some (.int .i64 a1_0) ∧ w'.cell? ⟨gb261, 1, none⟩ = some (.int .i64 a1_1) ∧ w'.cell? ⟨gb261, 2, none⟩ = some (.slice (some ad266) l1_2.length c1_2) ∧ w'.cell? (ad265.add ((x5_1).toNat * 2)) = some (.int .i64 ((rd_T62 l0_2 x5_1).f0)) ∧ w'.cell? ⟨(ad265.add ((x5_1).toNat * 2)).block, (ad265.add ((x5_1).toNat * 2)).off + 1, none⟩ = some (.int .i64 ((rd_T62 l0_2 x5_1).f1)) ∧ w'.cell? (ad266.add ((x5_1).toNat * 2)) = some (.int .i64 ((rd_T62 l1_2 x5_1).f0)) ∧ w'.cell? ⟨(ad266.add ((x5_1).toNat * 2)).block, (ad266.add ((x5_1).toNat * 2)).off + 1, none⟩ = some (.int .i64 ((rd_T62 l1_2 x5_1).f1))) ∧ (w'.heap[gb260]? = some (.cells #[.int .i64 a0_0, .int .i64 a0_1, .slice (some ad265) l0_2.length c0_2] 35 (0, 0))) ∧ (w'.heap[gb261]? = some (.cells #[.int .i64 a1_0, .int .i64 a1_1, .slice (some ad266) l1_2.length c1_2] 35 (0, 0))) ∧ (w'.heap[s_.1]? = some (.cells #[.int .i64 0, .int .i64 0] 62 (0, 0))) ∧ (w'.heap[s_.2]? = some (.cells #[.int .i64 0, .int .i64 0] 62 (0, 0))) ∧ (w.heap.size ≤ s_.1) ∧ (w.heap.size ≤ s_.1) ∧ (gb260 ≠ s_.1) ∧ (s_.1 ≠ gb260) ∧ (gb261 ≠ s_.1) ∧ (s_.1 ≠ gb261) ∧ (s_.2 ≠ s_.1) ∧ (s_.1 ≠ s_.2) ∧ (w.heap.size ≤ s_.2) ∧ (w.heap.size ≤ s_.2) ∧ (gb260 ≠ s_.2) ∧ (s_.2 ≠ gb260) ∧ (gb261 ≠ s_.2) ∧ (s_.2 ≠ gb261) ∧ (Below w.heap.size w w')) ?_ ?_
       rotate_left
       ·intro hCont
        refine two_ (i := 10) (j := 11) (Ni := some 6) (Nj := some 7) (My.Mb 14 2047) (My.Mb 14 3071) rfl rfl rfl rfl (two_of HT_.out (by kernel_rfl)) (by decide) (by decide) (fun K hK => ?_) (fun K hK => ?_)
        ·skip
         refine box_step ?hg (N := 6) ?hd (cs := #[.int .i64 0, .int .i64 0]) (t := 62) ?hr ?_; (case hd => rfl); (case hg => rfl); (case hr => first | (go_simp; done) | (go_simp; rfl))
         intro gb267 hg w40 hbox hb
         have BK267 := My.am (hbox)
         have GW267 := My.nge hg (My.bl_ HB)
         have GE267 := My.nge hg (My.bl_ HB)
         replace HB := My.st HB hb
         obtain ⟨NB260_267, NB267_260, BK260⟩ := My.nb hg hb BK260
         obtain ⟨NB261_267, NB267_261, BK261⟩ := My.nb hg hb BK261
         clear hb hbox hg
         refine hK.out _ _ ⟨My.b_ BK260 0, My.b_ BK260 1, My.b_ BK260 2, My.b_ BK261 0, My.b_ BK261 1, My.b_ BK261 2, (My.up HB hw265_0), (My.up HB hw265_1), (My.up HB hw266_0), (My.up HB hw266_1)⟩ (fun hHeld => ?_)
         clear hK K
         refine My.nm 6 ?_
         refine one_ (i := 11) (N := some 7) (My.Mb 14 4095) rfl rfl (one_of HT_.out (by kernel_rfl)) (by decide) (fun K hK => ?_)
         refine box_step ?hg (N := 7) ?hd (cs := #[.int .i64 0, .int .i64 0]) (t := 62) ?hr ?_; (case hd => rfl); (case hg => rfl); (case hr => first | (go_simp; done) | (go_simp; rfl))
         intro gb268 hg w41 hbox hb
         have BK268 := My.am (hbox)
         have GW268 := My.nge hg (My.bl_ HB)
         have GE268 := My.nge hg (My.bl_ HB)
         replace HB := My.st HB hb
         obtain ⟨NB260_268, NB268_260, BK260⟩ := My.nb hg hb BK260
         obtain ⟨NB261_268, NB268_261, BK261⟩ := My.nb hg hb BK261
         obtain ⟨NB267_268, NB268_267, BK267⟩ := My.nb hg hb BK267
         clear hb hbox hg
         refine hK.out _ _ ⟨My.b_ BK260 0, My.b_ BK260 1, My.b_ BK260 2, My.b_ BK261 0, My.b_ BK261 1, My.b_ BK261 2, (My.up HB hw265_0), (My.up HB hw265_1), (My.up HB hw266_0), (My.up HB hw266_1)⟩ (fun hHeld => ?_)
         clear hK K
         refine My.nm 7 ?_
         exact norm_ (by simp only [putAll, Act.put, List.setIfInBounds_toArray, List.set_cons_zero, List.set_cons_succ]) (hCont (gb267, gb268) _ ⟨hHeld, (My.at_ BK260), (My.at_ BK261), (My.at_ BK267), (My.at_ BK268), GW267.out, GE267.out, NB260_267.out, NB267_260.out, NB261_267.out, NB267_261.out, NB268_267.out, NB267_268.out, GW268.out, GE268.out, NB260_268.out, NB268_260.out, NB261_268.out, NB268_261.out, (My.bl_ HB)⟩)
        skip
        refine box_step ?hg (N := 7) ?hd (cs := #[.int .i64 0, .int .i64 0]) (t := 62) ?hr ?_; (case hd => rfl); (case hg => rfl); (case hr => first | (go_simp; done) | (go_simp; rfl))
        intro gb268 hg w40 hbox hb
        have BK268 := My.am (hbox)
        have GW268 := My.nge hg (My.bl_ HB)
        have GE268 := My.nge hg (My.bl_ HB)
        replace HB := My.st HB hb
        obtain ⟨NB260_268, NB268_260, BK260⟩ := My.nb hg hb BK260
        obtain ⟨NB261_268, NB268_261, BK261⟩ := My.nb hg hb BK261
        clear hb hbox hg
        refine hK.out _ _ ⟨My.b_ BK260 0, My.b_ BK260 1, My.b_ BK260 2, My.b_ BK261 0, My.b_ BK261 1, My.b_ BK261 2, (My.up HB hw265_0), (My.up HB hw265_1), (My.up HB hw266_0), (My.up HB hw266_1)⟩ (fun hHeld => ?_)
        clear hK K
        refine My.nm 7 ?_
        refine one_ (i := 10) (N := some 6) (My.Mb 14 4095) rfl rfl (one_of HT_.out (by kernel_rfl)) (by decide) (fun K hK => ?_)
        refine box_step ?hg (N := 6) ?hd (cs := #[.int .i64 0, .int .i64 0]) (t := 62) ?hr ?_; (case hd => rfl); (case hg => rfl); (case hr => first | (go_simp; done) | (go_simp; rfl))
        intro gb267 hg w41 hbox hb
        have BK267 := My.am (hbox)
        have GW267 := My.nge hg (My.bl_ HB)
        have GE267 := My.nge hg (My.bl_ HB)
        replace HB := My.st HB hb
        obtain ⟨NB260_267, NB267_260, BK260⟩ := My.nb hg hb BK260
        obtain ⟨NB261_267, NB267_261, BK261⟩ := My.nb hg hb BK261
        obtain ⟨NB268_267, NB267_268, BK268⟩ := My.nb hg hb BK268
        clear hb hbox hg
        refine hK.out _ _ ⟨My.b_ BK260 0, My.b_ BK260 1, My.b_ BK260 2, My.b_ BK261 0, My.b_ BK261 1, My.b_ BK261 2, (My.up HB hw265_0), (My.up HB hw265_1), (My.up HB hw266_0), (My.up HB hw266_1)⟩ (fun hHeld => ?_)
        clear hK K
        refine My.nm 6 ?_
        exact norm_ (by simp only [putAll, Act.put, List.setIfInBounds_toArray, List.set_cons_zero, List.set_cons_succ]) (hCont (gb267, gb268) _ ⟨hHeld, (My.at_ BK260), (My.at_ BK261), (My.at_ BK267), (My.at_ BK268), GW267.out, GE267.out, NB260_267.out, NB267_260.out, NB261_267.out, NB267_261.out, NB268_267.out, NB267_268.out, GW268.out, GE268.out, NB260_268.out, NB268_260.out, NB261_268.out, NB268_261.out, (My.bl_ HB)⟩)
       rintro ⟨gb267, gb268⟩ w42 ⟨hS_, h0_, h1_, h2_, h3_, h4_, h5_, h6_, h7_, h8_, h9_, h10_, h11_, h12_, h13_, h14_, h15_, h16_, h17_, h18_⟩
       have n0_ : Aside0 (w42.heap[gb260]? = some (.cells #[.int .i64 a0_0, .int .i64 a0_1, .slice (some ad265) l0_2.length c0_2] 35 (0, 0))) := ⟨h0_⟩
       have n1_ : Aside0 (w42.heap[gb261]? = some (.cells #[.int .i64 a1_0, .int .i64 a1_1, .slice (some ad266) l1_2.length c1_2] 35 (0, 0))) := ⟨h1_⟩
       have n2_ : Aside0 (w42.heap[gb267]? = some (.cells #[.int .i64 0, .int .i64 0] 62 (0, 0))) := ⟨h2_⟩
       have n3_ : Aside0 (w42.heap[gb268]? = some (.cells #[.int .i64 0, .int .i64 0] 62 (0, 0))) := ⟨h3_⟩
       have n4_ : Aside0 (w.heap.size ≤ gb267) := ⟨h4_⟩
       have n5_ : Aside0 (w.heap.size ≤ gb267) := ⟨h5_⟩
       have n6_ : Aside0 (gb260 ≠ gb267) := ⟨h6_⟩
       have n7_ : Aside0 (gb267 ≠ gb260) := ⟨h7_⟩
       have n8_ : Aside0 (gb261 ≠ gb267) := ⟨h8_⟩
       have n9_ : Aside0 (gb267 ≠ gb261) := ⟨h9_⟩
       have n10_ : Aside0 (gb268 ≠ gb267) := ⟨h10_⟩
       have n11_ : Aside0 (gb267 ≠ gb268) := ⟨h11_⟩
       have n12_ : Aside0 (w.heap.size ≤ gb268) := ⟨h12_⟩
       have n13_ : Aside0 (w.heap.size ≤ gb268) := ⟨h13_⟩
       have n14_ : Aside0 (gb260 ≠ gb268) := ⟨h14_⟩
       have n15_ : Aside0 (gb268 ≠ gb260) := ⟨h15_⟩
       have n16_ : Aside0 (gb261 ≠ gb268) := ⟨h16_⟩
       have n17_ : Aside0 (gb268 ≠ gb261) := ⟨h17_⟩
       have n18_ : Aside0 (Below w.heap.size w w42) := ⟨h18_⟩
       clear BK260
       clear BK261
       clear HB
       clear h0_ h1_ h2_ h3_ h4_ h5_ h6_ h7_ h8_ h9_ h10_ h11_ h12_ h13_ h14_ h15_ h16_ h17_ h18_
       have BK260 := n0_
       have BK261 := n1_
       have BK267 := n2_
       have BK268 := n3_
       have GW267 := n4_
       have GE267 := n5_
       have NB260_267 := n6_
       have NB267_260 := n7_
       have NB261_267 := n8_
       have NB267_261 := n9_
       have NB268_267 := n10_
       have NB267_268 := n11_
       have GW268 := n12_
       have GE268 := n13_
       have NB260_268 := n14_
       have NB268_260 := n15_
       have NB261_268 := n16_
       have NB268_261 := n17_
       have HB := n18_
       clear n0_ n1_ n2_ n3_ n4_ n5_ n6_ n7_ n8_ n9_ n10_ n11_ n12_ n13_ n14_ n15_ n16_ n17_ n18_
       have hHeld : w42.cell? ⟨gb260, 0, none⟩ = some (.int .i64 a0_0) ∧ w42.cell? ⟨gb260, 1, none⟩ = some (.int .i64 a0_1) ∧ w42.cell? ⟨gb260, 2, none⟩ = some (.slice (some ad265) l0_2.length c0_2) ∧ w42.cell? ⟨gb261, 0, none⟩ = some (.int .i64 a1_0) ∧ w42.cell? ⟨gb261, 1, none⟩ = some (.int .i64 a1_1) ∧ w42.cell? ⟨gb261, 2, none⟩ = some (.slice (some ad266) l1_2.length c1_2) ∧ w42.cell? (ad265.add ((x5_1).toNat * 2)) = some (.int .i64 ((rd_T62 l0_2 x5_1).f0)) ∧ w42.cell? ⟨(ad265.add ((x5_1).toNat * 2)).block, (ad265.add ((x5_1).toNat * 2)).off + 1, none⟩ = some (.int .i64 ((rd_T62 l0_2 x5_1).f1)) ∧ w42.cell? (ad266.add ((x5_1).toNat * 2)) = some (.int .i64 ((rd_T62 l1_2 x5_1).f0)) ∧ w42.cell? ⟨(ad266.add ((x5_1).toNat * 2)).block, (ad266.add ((x5_1).toNat * 2)).off + 1, none⟩ = some (.int .i64 ((rd_T62 l1_2 x5_1).f1)) := hS_
       refine norm_ (a' := ?_) ?_ ?_
       rotate_left
       ·simp only [putAll, Act.put, List.setIfInBounds_toArray, List.set_cons_zero, List.set_cons_succ]
        rfl
       refine one_ (i := 12) (N := none) (My.Mb 14 8191) rfl rfl (one_of HT_.out (by kernel_rfl)) (by decide) (fun K hK => ?_)
       have hs43 : w42.cell? ⟨gb267, 0, none⟩ = some (.int .i64 0) := My.b_ BK267 0
       have hfs43 := blk_frozen BK267.out 0
       have hns43_0 := NB260_267.out
       have hns43_1 := NB261_267.out
       have hns43_3 := NB268_267.out
       have hms43_0 := NB267_260.out
       have hms43_1 := NB267_261.out
       have hms43_3 := NB267_268.out
       have hs44 : w42.cell? ⟨gb267, 1, none⟩ = some (.int .i64 0) := My.b_ BK267 1
       have hfs44 := blk_frozen BK267.out 1
       have hns44_0 := NB260_267.out
       have hns44_1 := NB261_267.out
       have hns44_3 := NB268_267.out
       have hms44_0 := NB267_260.out
       have hms44_1 := NB267_261.out
       have hms44_3 := NB267_268.out
       refine skip_ (w1 := ?_) (by rfl) rfl ?_ ?_
       rotate_left
       ·go_simp
        rfl
       refine hK.out _ _ ⟨(My.c2 NB260_267.out hHeld.1), (My.c2 NB260_267.out hHeld.2.1), (My.c2 NB260_267.out hHeld.2.2.1), (My.c2 NB261_267.out hHeld.2.2.2.1), (My.c2 NB261_267.out hHeld.2.2.2.2.1), (My.c2 NB261_267.out hHeld.2.2.2.2.2.1), (My.c2 (My.nw hw265_0 GW267) hHeld.2.2.2.2.2.2.1), (My.c2 (My.nw hw265_1 GW267) hHeld.2.2.2.2.2.2.2.1), (My.c2 (My.nw hw266_0 GW267) hHeld.2.2.2.2.2.2.2.2.1), (My.c2 (My.nw hw266_1 GW267) hHeld.2.2.2.2.2.2.2.2.2)⟩ (fun hHeld => ?_)
       clear hK K
       refine one_ (i := 13) (N := none) (My.Mb 14 16383) rfl rfl (one_of HT_.out (by kernel_rfl)) (by decide) (fun K hK => ?_)
       have hs45 : w42.cell? ⟨gb268, 0, none⟩ = some (.int .i64 0) := My.b_ BK268 0
       have hfs45 := blk_frozen BK268.out 0
       have hns45_0 := NB260_268.out
       have hns45_1 := NB261_268.out
       have hns45_2 := NB267_268.out
       have hms45_0 := NB268_260.out
       have hms45_1 := NB268_261.out
       have hms45_2 := NB268_267.out
       have hs46 : w42.cell? ⟨gb268, 1, none⟩ = some (.int .i64 0) := My.b_ BK268 1
       have hfs46 := blk_frozen BK268.out 1
       have hns46_0 := NB260_268.out
       have hns46_1 := NB261_268.out
       have hns46_2 := NB267_268.out
       have hms46_0 := NB268_260.out
       have hms46_1 := NB268_261.out
       have hms46_2 := NB268_267.out
       refine skip_ (w1 := ?_) (by rfl) rfl ?_ ?_
       rotate_left
       ·go_simp
        rfl
       refine hK.out _ _ ⟨(My.c2 NB260_268.out hHeld.1), (My.c2 NB260_268.out hHeld.2.1), (My.c2 NB260_268.out hHeld.2.2.1), (My.c2 NB261_268.out hHeld.2.2.2.1), (My.c2 NB261_268.out hHeld.2.2.2.2.1), (My.c2 NB261_268.out hHeld.2.2.2.2.2.1), (My.c2 (My.nw hw265_0 GW268) hHeld.2.2.2.2.2.2.1), (My.c2 (My.nw hw265_1 GW268) hHeld.2.2.2.2.2.2.2.1), (My.c2 (My.nw hw266_0 GW268) hHeld.2.2.2.2.2.2.2.2.1), (My.c2 (My.nw hw266_1 GW268) hHeld.2.2.2.2.2.2.2.2.2)⟩ (fun hHeld => ?_)
       clear hK K
       refine done_ (done_of HT_.out (by kernel_rfl)) ?_
       have hnb47 := NB267_260.out
       have hnc47 := NB260_267.out
       have hnb48 := NB267_261.out
       have hnc48 := NB261_267.out
       have hnb49 := NB267_268.out
       have hnc49 := NB268_267.out
       have hq50 := My.cz2 BK267
       have hnb51 := NB268_260.out
       have hnc51 := NB260_268.out
       have hnb52 := NB268_261.out
       have hnc52 := NB261_268.out
       have hq53 := My.cz2 BK268
       try go_wp2_with (first | ((with_reducible refine gate_callee (f := 56) rfl ?_); refine goesL_ (some 71) rfl rfl Try.func56 (by kernel_rfl) rfl #[.int .i64 ((rd_T62 l0_2 x5_1).f1), .int .i64 ((rd_T62 l1_2 x5_1).f1)] rfl My.gx ?_; (with_reducible refine (ententeref03_number.calls ((rd_T62 l0_2 x5_1).f1) ((rd_T62 l1_2 x5_1).f1) t269 _ A38.out).mono ?_); rintro e w' ⟨rfl, ⟨nd, rfl⟩⟩; refine ⟨_, rfl, ?_⟩))
       go_ret
       exact ⟨My.r2, (My.bl_ HB)⟩
  ·rw [if_neg c4] at H
   have c4b0 : (a0_1 == a1_1) = false := beq_eq_false_iff_ne.mpr c4
   have c4b1 : (a0_1 != a1_1) = true := bne_iff_ne.mpr c4
   replace H := Option.bind_eq_some_iff.mp H
   obtain ⟨t263, A740, H⟩ := H
   try dsimp only at H
   have A74 := My.am A740
   clear A740
   obtain rfl := Option.some.inj H
   go_enter Try.func48, Try.ntmps48
   go_wp2_with (first | ((with_reducible refine gate_dst (N := 2) rfl ?_); (try (refine gate_guard (by rfl) ?_; dsimp only)); refine My.bx 2 #[.int .i64 a0_0, .int .i64 a0_1, .slice A0_2 l0_2.length c0_2] 35 ?_; intro gb260 hg w75 hbox hb; have BK260 := My.am (hbox); have GE260 := My.nge hg (My.bl_ HB); replace HB := My.st HB hb; clear hb hbox hg) | ((with_reducible refine gate_dst (N := 3) rfl ?_); (try (refine gate_guard (by rfl) ?_; dsimp only)); refine My.bx 3 #[.int .i64 a1_0, .int .i64 a1_1, .slice A1_2 l1_2.length c1_2] 35 ?_; intro gb261 hg w76 hbox hb; have BK261 := My.am (hbox); have GE261 := My.nge hg (My.bl_ HB); replace HB := My.st HB hb; obtain ⟨NB260_261, NB261_260, BK260⟩ := My.nb hg hb BK260; clear hb hbox hg; have hnb77 := NB260_261.out; have hnc77 := NB261_260.out; have hq78 := My.cz3 BK260; have hq79 := My.cz3 BK261) | ((with_reducible refine gate_callee (f := 56) rfl ?_); refine goesL_ (some 27) rfl rfl Try.func56 (by kernel_rfl) rfl #[.int .i64 a0_1, .int .i64 a1_1] rfl My.gx ?_; (with_reducible refine (ententeref03_number.calls a0_1 a1_1 t263 _ A74.out).mono ?_); rintro e w' ⟨rfl, ⟨nd, rfl⟩⟩; refine ⟨_, rfl, ?_⟩))
   go_ret
   exact ⟨My.r2, (My.bl_ HB)⟩
 ·rw [if_neg c3] at H
  have c3b0 : (a0_0 == a1_0) = false := beq_eq_false_iff_ne.mpr c3
  have c3b1 : (a0_0 != a1_0) = true := bne_iff_ne.mpr c3
  replace H := Option.bind_eq_some_iff.mp H
  obtain ⟨t262, A800, H⟩ := H
  try dsimp only at H
  have A80 := My.am A800
  clear A800
  obtain rfl := Option.some.inj H
  go_enter Try.func48, Try.ntmps48
  go_wp2_with (first | ((with_reducible refine gate_dst (N := 2) rfl ?_); (try (refine gate_guard (by rfl) ?_; dsimp only)); refine My.bx 2 #[.int .i64 a0_0, .int .i64 a0_1, .slice A0_2 l0_2.length c0_2] 35 ?_; intro gb260 hg w81 hbox hb; have BK260 := My.am (hbox); have GE260 := My.nge hg (My.bl_ HB); replace HB := My.st HB hb; clear hb hbox hg) | ((with_reducible refine gate_dst (N := 3) rfl ?_); (try (refine gate_guard (by rfl) ?_; dsimp only)); refine My.bx 3 #[.int .i64 a1_0, .int .i64 a1_1, .slice A1_2 l1_2.length c1_2] 35 ?_; intro gb261 hg w82 hbox hb; have BK261 := My.am (hbox); have GE261 := My.nge hg (My.bl_ HB); replace HB := My.st HB hb; obtain ⟨NB260_261, NB261_260, BK260⟩ := My.nb hg hb BK260; clear hb hbox hg; have hnb83 := NB260_261.out; have hnc83 := NB261_260.out; have hq84 := My.cz3 BK260; have hq85 := My.cz3 BK261) | ((with_reducible refine gate_callee (f := 56) rfl ?_); refine goesL_ (some 17) rfl rfl Try.func56 (by kernel_rfl) rfl #[.int .i64 a0_0, .int .i64 a1_0] rfl My.gx ?_; (with_reducible refine (ententeref03_number.calls a0_0 a1_0 t262 _ A80.out).mono ?_); rintro e w' ⟨rfl, ⟨nd, rfl⟩⟩; refine ⟨_, rfl, ?_⟩))
  go_ret
  exact ⟨My.r2, (My.bl_ HB)⟩

end Go.Proofs.Ytcgmoeiknkdljaa.PA
