-- Written by a program of this session (wip/tools/mp.py over the kit's printer); Lean checks it.
import Derived.Test.YtikanbdhpafbiaaPZx0
import Derived.Test.YtikanbdhpafbiaaPZx4
import Derived.Test.YtikanbdhpafbiaaPZx5
import Derived.Test.YtikanbdhpafbiaaPZx7
import Derived.Test.YtikanbdhpafbiaaPZx8
import Derived.Test.YtikanbdhpafbiaaPZx9
import Derived.Test.YtikanbdhpafbiaaPZx12
namespace Go.Proofs.Ytikanbdhpafbiaa.PZ
open Go.RowKit Go.Proofs.YtikanbdhpafbiaaW.PrintWords Go.Proofs.YtikanbdhpafbiaaW.PrintLast Go.Proofs.YtikanbdhpafbiaaW.PrintMore
attribute [local go_sem] max2_int min2_int max_two min_two max_three min_three max_four min_four   -- for this text's walks alone
set_option linter.unusedVariables false
set_option maxHeartbeats 8000000
set_option maxRecDepth 100000
set_option linter.unusedSimpArgs false

attribute [local go_sem high] eqA64
/-! ### ledger_Do: function 12 -/
def ledger_Do.j0 : Nat → ByteArray → Bool → List (S51) → List (S64) → Int → ByteArray → Int → Option ((List (S51)) × (List (S64)) × Int)
 | 0, _, _, _, _, _, _, _ => none
 | k + 1, x1, x19, x247000, x247001, x248000, x248001, x248002 => if x19 = true then (some (([] : List (S51)), ([] : List (S64)), 2)) else ((act_Check.f k x248000 x248001 x248002).bind fun t251 => (if t251 = 0 then ((ledger_book_mark.f k x247000 x247001 x1).bind fun bt253 => (if bt253.2 = true then (if 0 ≤ bt253.1 then (if bt253.1 < (x247001.length : Int) then (if (!((((rd_T64 x247001 bt253.1).f0).toList) == x1.toList) || ((!(((rd_T64 x247001 bt253.1).f1.f0) == x248000) || (!((((rd_T64 x247001 bt253.1).f1.f1).toList) == x248001.toList) || (!(((rd_T64 x247001 bt253.1).f1.f2) == x248002)))) || (!(((rd_T64 x247001 bt253.1).f2) == 1)))) = true then (some (([] : List (S51)), ([] : List (S64)), 72)) else ((ledger_copied.f x247000 x247001).bind fun bt256 => (some (bt256.1, bt256.2, 0)))) else (none)) else (none)) else ((ledger_changed_act_Do.f k x247000 x247001 x1 x248000 x248001 x248002 1 0).bind fun bt262 => (some (bt262.1, bt262.2.1, bt262.2.2))))) else (some (([] : List (S51)), ([] : List (S64)), t251))))
def ledger_Do.f (k : Nat) (l0_0 : List (S51)) (l0_1 : List (S64)) (a1 : ByteArray) (a2_0 : Int) (a2_1 : ByteArray) (a2_2 : Int) : Option ((List (S51)) × (List (S64)) × Int) := (ledger_May.f k l0_0 l0_1).bind fun t249 => (if t249 = 0 then ((ledger_key.f a1).bind fun t250 => (ledger_Do.j0 k a1 (!t250) l0_0 l0_1 a2_0 a2_1 a2_2)) else (ledger_Do.j0 k a1 true l0_0 l0_1 a2_0 a2_1 a2_2))
theorem ledger_Do.mono_l : ∀ k, (∀ y0 y1 y2 y3 y4 y5 y6, LeO (ledger_Do.j0 k y0 y1 y2 y3 y4 y5 y6) (ledger_Do.j0 (k + 1) y0 y1 y2 y3 y4 y5 y6))
 | 0 => fun _ _ _ _ _ _ _ r h => by simp [ledger_Do.j0] at h
 | k + 1 => by
  have ih0 := ledger_Do.mono_l k
  intro y0 y1 y2 y3 y4 y5 y6
  unfold ledger_Do.j0
  repeat' (with_reducible first | exact ih0 _ _ _ _ _ _ _ | exact act_Check.mono _ _ _ _ | exact ledger_May.mono _ _ _ | exact ledger_book_mark.mono _ _ _ _ | exact ledger_changed_act_Do.mono _ _ _ _ _ _ _ _ _ | exact LeO.refl _ | exact LeO.none _ | apply LeO.ite | refine LeO.bind ?_ (fun _ => ?_))
theorem ledger_Do.mono : ∀ a0 a1 a2 a3 a4 a5 k, LeO (ledger_Do.f k a0 a1 a2 a3 a4 a5) (ledger_Do.f (k + 1) a0 a1 a2 a3 a4 a5) := by
 intro a0 a1 a2 a3 a4 a5 k
 have ih0 := ledger_Do.mono_l k
 unfold ledger_Do.f
 repeat' (with_reducible first | exact ih0 _ _ _ _ _ _ _ | exact act_Check.mono _ _ _ _ | exact ledger_May.mono _ _ _ | exact ledger_book_mark.mono _ _ _ _ | exact ledger_changed_act_Do.mono _ _ _ _ _ _ _ _ _ | exact LeO.refl _ | exact LeO.none _ | apply LeO.ite | refine LeO.bind ?_ (fun _ => ?_))
theorem ledger_Do.calls (k : Nat) (A0_0 : Option Addr) (c0_0 : Nat) (l0_0 : List (S51)) (A0_1 : Option Addr) (c0_1 : Nat) (l0_1 : List (S64)) (a1 : ByteArray) (a2_0 : Int) (a2_1 : ByteArray) (a2_2 : Int) (r1 : List (S51)) (r2 : List (S64)) (r3 : Int) (w : World) (hr0_0 : Kd.C k51 w A0_0 l0_0.length l0_0) (hc0_0 : l0_0.length ≤ c0_0) (hr0_1 : Kd.C k64 w A0_1 l0_1.length l0_1) (hc0_1 : l0_1.length ≤ c0_1) (h : ledger_Do.f k l0_0 l0_1 a1 a2_0 a2_1 a2_2 = some (r1, r2, r3)) :
  Calls Try.prog 12 #[.agg #[.slice A0_0 l0_0.length c0_0, .slice A0_1 l0_1.length c0_1], .string a1, .agg #[.int .i64 a2_0, .string a2_1, .int .i64 a2_2]] w fun e w' => ∃ v0_ v1_ : Value, e = .returned (.tuple #[.agg #[v0_, v1_], .int .i64 r3]) ∧ Kd.R k51 51 w' w.heap.size (fun _ => True) v0_ r1 ∧ Kd.R k64 64 w' w.heap.size (fun _ => True) v1_ r2 ∧ Below w.heap.size w w' := by
 have hu25 := Try.underlying25
 have hu27 := Try.underlying27
 have hu64 := Try.underlying64
 have hu71 := Try.underlying71
 have HR0_0 := My.am hr0_0
 have HC0_0 := My.am hc0_0
 clear hr0_0 hc0_0
 have HR0_1 := My.am hr0_1
 have HC0_1 := My.am hc0_1
 clear hr0_1 hc0_1
 have HB := My.am (Below.refl w.heap.size w)
 unfold ledger_Do.f at h
 have H := h
 clear h
 have HC4 := My.am H
 clear H
 go_enter Try.func12, Try.ntmps12
 go_upto_region 1 with (first | ((with_reducible refine gate_dst (N := 3) rfl ?_); refine My.bx 3 #[.slice A0_0 l0_0.length c0_0, .slice A0_1 l0_1.length c0_1] 25 ?_; intro gb246 hg w5 hbox hb; have BK246 := My.am (hbox); have GE246 := My.nge hg (My.bl_ HB); replace HB := My.st HB hb; clear hb hbox hg) | ((with_reducible refine gate_dst (N := 5) rfl ?_); refine My.bx 5 #[.int .i64 a2_0, .string a2_1, .int .i64 a2_2] 27 ?_; intro gb247 hg w6 hbox hb; have BK247 := My.am (hbox); have GE247 := My.nge hg (My.bl_ HB); replace HB := My.st HB hb; obtain ⟨NB246_247, NB247_246, BK246⟩ := My.nb hg hb BK246; clear hb hbox hg) | ((with_reducible refine gate_dst (N := 6) rfl ?_); refine My.bx 6 #[.slice none 0 0, .slice none 0 0] 25 ?_; intro gb248 hg w7 hbox hb; have BK248 := My.am (hbox); have GE248 := My.nge hg (My.bl_ HB); replace HB := My.st HB hb; obtain ⟨NB246_248, NB248_246, BK246⟩ := My.nb hg hb BK246; obtain ⟨NB247_248, NB248_247, BK247⟩ := My.nb hg hb BK247; clear hb hbox hg))
 repeat (go_quiet (first | ((with_reducible refine gate_dst (N := 3) rfl ?_); refine My.bx 3 #[.slice A0_0 l0_0.length c0_0, .slice A0_1 l0_1.length c0_1] 25 ?_; intro gb246 hg w5 hbox hb; have BK246 := My.am (hbox); have GE246 := My.nge hg (My.bl_ HB); replace HB := My.st HB hb; clear hb hbox hg) | ((with_reducible refine gate_dst (N := 5) rfl ?_); refine My.bx 5 #[.int .i64 a2_0, .string a2_1, .int .i64 a2_2] 27 ?_; intro gb247 hg w6 hbox hb; have BK247 := My.am (hbox); have GE247 := My.nge hg (My.bl_ HB); replace HB := My.st HB hb; obtain ⟨NB246_247, NB247_246, BK246⟩ := My.nb hg hb BK246; clear hb hbox hg) | ((with_reducible refine gate_dst (N := 6) rfl ?_); refine My.bx 6 #[.slice none 0 0, .slice none 0 0] 25 ?_; intro gb248 hg w7 hbox hb; have BK248 := My.am (hbox); have GE248 := My.nge hg (My.bl_ HB); replace HB := My.st HB hb; obtain ⟨NB246_248, NB248_246, BK246⟩ := My.nb hg hb BK246; obtain ⟨NB247_248, NB248_247, BK247⟩ := My.nb hg hb BK247; clear hb hbox hg)); go_upto_region 1 with (first | ((with_reducible refine gate_dst (N := 3) rfl ?_); refine My.bx 3 #[.slice A0_0 l0_0.length c0_0, .slice A0_1 l0_1.length c0_1] 25 ?_; intro gb246 hg w5 hbox hb; have BK246 := My.am (hbox); have GE246 := My.nge hg (My.bl_ HB); replace HB := My.st HB hb; clear hb hbox hg) | ((with_reducible refine gate_dst (N := 5) rfl ?_); refine My.bx 5 #[.int .i64 a2_0, .string a2_1, .int .i64 a2_2] 27 ?_; intro gb247 hg w6 hbox hb; have BK247 := My.am (hbox); have GE247 := My.nge hg (My.bl_ HB); replace HB := My.st HB hb; obtain ⟨NB246_247, NB247_246, BK246⟩ := My.nb hg hb BK246; clear hb hbox hg) | ((with_reducible refine gate_dst (N := 6) rfl ?_); refine My.bx 6 #[.slice none 0 0, .slice none 0 0] 25 ?_; intro gb248 hg w7 hbox hb; have BK248 := My.am (hbox); have GE248 := My.nge hg (My.bl_ HB); replace HB := My.st HB hb; obtain ⟨NB246_248, NB248_246, BK246⟩ := My.nb hg hb BK246; obtain ⟨NB247_248, NB248_247, BK247⟩ := My.nb hg hb BK247; clear hb hbox hg)))
 (try simp only [Act.put, List.setIfInBounds_toArray, List.set_cons_zero, List.set_cons_succ])
 go_cut [19] (fun v19 wc => ∃ (kq : Nat) (x19_3 : Bool), v19 = .bool x19_3 ∧ Aside0 (ledger_Do.j0 kq a1 x19_3 l0_0 l0_1 a2_0 a2_1 a2_2 = some (r1, r2, r3)) ∧ Aside0 (kq ≤ k) ∧ Aside0 (wc.heap[gb246]? = some (.cells #[(.slice A0_0 l0_0.length c0_0), (.slice A0_1 l0_1.length c0_1)] 25 (0, 0))) ∧ Aside0 (wc.heap[gb247]? = some (.cells #[.int .i64 a2_0, .string a2_1, .int .i64 a2_2] 27 (0, 0))) ∧ Aside0 (wc.heap[gb248]? = some (.cells #[(.slice none 0 0), (.slice none 0 0)] 25 (0, 0))) ∧ Aside0 (Below w.heap.size w wc))
 case first =>
  have H := HC4.out
  clear HC4
  replace H := Option.bind_eq_some_iff.mp H
  obtain ⟨t249, A80, H⟩ := H
  try dsimp only at H
  have A8 := My.am A80
  clear A80
  by_cases c9 : t249 = 0
  ·rw [if_pos c9] at H
   have c9b0 : (t249 == 0) = true := beq_iff_eq.mpr c9
   have c9b1 : (t249 != 0) = false := bne_eq_false_iff_eq.mpr c9
   clear c9
   (first | rw [c9b0] | (simp only [i64_w, i32_w]; rw [c9b0]) | skip)
   replace H := Option.bind_eq_some_iff.mp H
   obtain ⟨t250, A100, H⟩ := H
   try dsimp only at H
   have A10 := My.am A100
   clear A100
   have H' := My.am H
   clear H
   have hnb11 := NB246_247.out
   have hnc11 := NB247_246.out
   have hnb12 := NB246_248.out
   have hnc12 := NB248_246.out
   have hq13 := My.cz2 BK246
   go_wp2_with (first | (go_at_call 20; (with_reducible refine (ledger_May.calls k _ _ l0_0 _ _ l0_1 t249 _ ?side1 ?side2 ?side3 ?side4 A8.out).mono ?_); (case side1 => exact My.sd_ HR0_0 HB); (case side2 => exact HC0_0.out); (case side3 => exact My.sd_ HR0_1 HB); (case side4 => exact HC0_1.out); rintro e w14 ⟨rfl, hb⟩; replace BK246 := My.ab BK246 hb; replace BK247 := My.ab BK247 hb; replace BK248 := My.ab BK248 hb; replace HB := My.st HB hb; (try clear hb)) | (go_at_call 38; (with_reducible refine (ledger_key.calls a1 t250 _ A10.out).mono ?_); rintro e w' ⟨rfl, ⟨nd, rfl⟩⟩; (try first | exact ⟨rfl, _, World.drewN_drewN _ _ _⟩ | exact ⟨rfl, _, Eq.trans (World.drewN_drewN _ _ _) (congrArg (World.drewN _) (Nat.add_assoc _ _ _))⟩)))
   repeat (go_quiet (first | (go_at_call 20; (with_reducible refine (ledger_May.calls k _ _ l0_0 _ _ l0_1 t249 _ ?side1 ?side2 ?side3 ?side4 A8.out).mono ?_); (case side1 => exact My.sd_ HR0_0 HB); (case side2 => exact HC0_0.out); (case side3 => exact My.sd_ HR0_1 HB); (case side4 => exact HC0_1.out); rintro e w14 ⟨rfl, hb⟩; replace BK246 := My.ab BK246 hb; replace BK247 := My.ab BK247 hb; replace BK248 := My.ab BK248 hb; replace HB := My.st HB hb; (try clear hb)) | (go_at_call 38; (with_reducible refine (ledger_key.calls a1 t250 _ A10.out).mono ?_); rintro e w' ⟨rfl, ⟨nd, rfl⟩⟩; (try first | exact ⟨rfl, _, World.drewN_drewN _ _ _⟩ | exact ⟨rfl, _, Eq.trans (World.drewN_drewN _ _ _) (congrArg (World.drewN _) (Nat.add_assoc _ _ _))⟩))); try go_wp2_with (first | (go_at_call 20; (with_reducible refine (ledger_May.calls k _ _ l0_0 _ _ l0_1 t249 _ ?side1 ?side2 ?side3 ?side4 A8.out).mono ?_); (case side1 => exact My.sd_ HR0_0 HB); (case side2 => exact HC0_0.out); (case side3 => exact My.sd_ HR0_1 HB); (case side4 => exact HC0_1.out); rintro e w14 ⟨rfl, hb⟩; replace BK246 := My.ab BK246 hb; replace BK247 := My.ab BK247 hb; replace BK248 := My.ab BK248 hb; replace HB := My.st HB hb; (try clear hb)) | (go_at_call 38; (with_reducible refine (ledger_key.calls a1 t250 _ A10.out).mono ?_); rintro e w' ⟨rfl, ⟨nd, rfl⟩⟩; (try first | exact ⟨rfl, _, World.drewN_drewN _ _ _⟩ | exact ⟨rfl, _, Eq.trans (World.drewN_drewN _ _ _) (congrArg (World.drewN _) (Nat.add_assoc _ _ _))⟩))))
   go_meet
   case rel => exact ⟨_, (!t250), My.r1, H', ⟨My.r4⟩, ⟨(My.at_ BK246)⟩, ⟨(My.at_ BK247)⟩, ⟨(My.at_ BK248)⟩, ⟨(My.bl_ HB)⟩⟩
  ·rw [if_neg c9] at H
   have c9b0 : (t249 == 0) = false := beq_eq_false_iff_ne.mpr c9
   have c9b1 : (t249 != 0) = true := bne_iff_ne.mpr c9
   (first | rw [c9b0] | (simp only [i64_w, i32_w]; rw [c9b0]) | skip)
   have H' := My.am H
   clear H
   have hnb15 := NB246_247.out
   have hnc15 := NB247_246.out
   have hnb16 := NB246_248.out
   have hnc16 := NB248_246.out
   have hq17 := My.cz2 BK246
   go_wp2_with (first | (go_at_call 20; (with_reducible refine (ledger_May.calls k _ _ l0_0 _ _ l0_1 t249 _ ?side1 ?side2 ?side3 ?side4 A8.out).mono ?_); (case side1 => exact My.sd_ HR0_0 HB); (case side2 => exact HC0_0.out); (case side3 => exact My.sd_ HR0_1 HB); (case side4 => exact HC0_1.out); rintro e w18 ⟨rfl, hb⟩; replace BK246 := My.ab BK246 hb; replace BK247 := My.ab BK247 hb; replace BK248 := My.ab BK248 hb; replace HB := My.st HB hb; (try clear hb)))
   repeat (go_quiet (first | (go_at_call 20; (with_reducible refine (ledger_May.calls k _ _ l0_0 _ _ l0_1 t249 _ ?side1 ?side2 ?side3 ?side4 A8.out).mono ?_); (case side1 => exact My.sd_ HR0_0 HB); (case side2 => exact HC0_0.out); (case side3 => exact My.sd_ HR0_1 HB); (case side4 => exact HC0_1.out); rintro e w18 ⟨rfl, hb⟩; replace BK246 := My.ab BK246 hb; replace BK247 := My.ab BK247 hb; replace BK248 := My.ab BK248 hb; replace HB := My.st HB hb; (try clear hb))); try go_wp2_with (first | (go_at_call 20; (with_reducible refine (ledger_May.calls k _ _ l0_0 _ _ l0_1 t249 _ ?side1 ?side2 ?side3 ?side4 A8.out).mono ?_); (case side1 => exact My.sd_ HR0_0 HB); (case side2 => exact HC0_0.out); (case side3 => exact My.sd_ HR0_1 HB); (case side4 => exact HC0_1.out); rintro e w18 ⟨rfl, hb⟩; replace BK246 := My.ab BK246 hb; replace BK247 := My.ab BK247 hb; replace BK248 := My.ab BK248 hb; replace HB := My.st HB hb; (try clear hb))))
   go_meet
   case rel => exact ⟨_, (true), My.r1, H', ⟨My.r4⟩, ⟨(My.at_ BK246)⟩, ⟨(My.at_ BK247)⟩, ⟨(My.at_ BK248)⟩, ⟨(My.bl_ HB)⟩⟩
 case rest =>
  clear HC4
  obtain ⟨kq, x19_3, rfl, HA, HJ3, BK246, BK247, BK248, HB⟩ := hcut
  cases kq with
  | zero => exact absurd HA.out (by simp [ledger_Do.j0])
  | succ kj3 =>
   have H := HA.out
   clear HA
   simp only [ledger_Do.j0] at H
   by_cases c19 : x19_3 = true
   ·subst c19
    rw [if_pos rfl] at H
    simp only [Option.some.injEq, Prod.mk.injEq] at H
    obtain ⟨rfl, rfl, rfl⟩ := H
    have hnb20 := NB248_246.out
    have hnc20 := NB246_248.out
    have hnb21 := NB248_247.out
    have hnc21 := NB247_248.out
    have hq22 := My.cz2 BK248
    go_wp2
    repeat (go_quiet (fail); try go_wp2)
    refine bodyPost_ret (results_ct rfl _ _ gb248 25 #[.slice none 0 0, .slice none 0 0] (0, 0) _ rfl ((My.sv_ BK248)) Try.underlying25 rfl (by kernel_rfl)) rfl ?_
    exact ⟨_, _, My.r2, My.r3, My.r3, (My.bl_ HB)⟩
   replace c19 := Bool.eq_false_iff.mpr c19
   subst c19
   rw [if_neg (show ¬ (false = true) by decide)] at H
   replace H := Option.bind_eq_some_iff.mp H
   obtain ⟨t251, A230, H⟩ := H
   try dsimp only at H
   have A23 := My.am A230
   clear A230
   by_cases c24 : t251 = 0
   rotate_left
   ·rw [if_neg c24] at H
    have c24b0 : (t251 == 0) = false := beq_eq_false_iff_ne.mpr c24
    have c24b1 : (t251 != 0) = true := bne_iff_ne.mpr c24
    simp only [Option.some.injEq, Prod.mk.injEq] at H
    obtain ⟨rfl, rfl, rfl⟩ := H
    have hnb86 := NB247_246.out
    have hnc86 := NB246_247.out
    have hnb87 := NB247_248.out
    have hnc87 := NB248_247.out
    have hq88 := My.cz3 BK247
    go_wp2_with (first | (go_at_call 39; (with_reducible refine (act_Check.calls kj3 a2_0 a2_1 a2_2 t251 _ A23.out).mono ?_); rintro e w89 ⟨rfl, hb⟩; replace BK248 := My.ab BK248 hb; replace HB := My.st HB hb; (try clear hb); have hnb90 := NB248_246.out; have hnc90 := NB246_248.out; have hq91 := My.cz2 BK248))
    repeat (go_quiet (first | (go_at_call 39; (with_reducible refine (act_Check.calls kj3 a2_0 a2_1 a2_2 t251 _ A23.out).mono ?_); rintro e w89 ⟨rfl, hb⟩; replace BK248 := My.ab BK248 hb; replace HB := My.st HB hb; (try clear hb); have hnb90 := NB248_246.out; have hnc90 := NB246_248.out; have hq91 := My.cz2 BK248)); try go_wp2_with (first | (go_at_call 39; (with_reducible refine (act_Check.calls kj3 a2_0 a2_1 a2_2 t251 _ A23.out).mono ?_); rintro e w89 ⟨rfl, hb⟩; replace BK248 := My.ab BK248 hb; replace HB := My.st HB hb; (try clear hb); have hnb90 := NB248_246.out; have hnc90 := NB246_248.out; have hq91 := My.cz2 BK248)))
    refine bodyPost_ret (results_ct rfl _ _ gb248 25 #[.slice none 0 0, .slice none 0 0] (0, 0) _ rfl ((My.sv_ BK248)) Try.underlying25 rfl (by kernel_rfl)) rfl ?_
    exact ⟨_, _, My.r2, My.r3, My.r3, (My.bl_ HB)⟩

   rw [if_pos c24] at H
   have c24b0 : (t251 == 0) = true := beq_iff_eq.mpr c24
   have c24b1 : (t251 != 0) = false := bne_eq_false_iff_eq.mpr c24
   clear c24
   replace H := Option.bind_eq_some_iff.mp H
   obtain ⟨⟨t253, t254⟩, A250, H⟩ := H
   try dsimp only at H
   have A25 := My.am A250
   clear A250
   by_cases c26 : t254 = true
   rotate_left
   ·replace c26 := Bool.eq_false_iff.mpr c26
    subst c26
    rw [if_neg (show ¬ (false = true) by decide)] at H
    replace H := Option.bind_eq_some_iff.mp H
    obtain ⟨⟨t262, t265, t268⟩, A660, H⟩ := H
    try dsimp only at H
    have A66 := My.am A660
    clear A660
    simp only [Option.some.injEq, Prod.mk.injEq] at H
    obtain ⟨rfl, rfl, rfl⟩ := H
    have hnb67 := NB247_246.out
    have hnc67 := NB246_247.out
    have hnb68 := NB247_248.out
    have hnc68 := NB248_247.out
    have hq69 := My.cz3 BK247
    go_wp2_with (first | (go_at_call 39; (with_reducible refine (act_Check.calls kj3 a2_0 a2_1 a2_2 t251 _ A23.out).mono ?_); rintro e w70 ⟨rfl, hb⟩; replace BK246 := My.ab BK246 hb; replace BK247 := My.ab BK247 hb; replace BK248 := My.ab BK248 hb; replace HB := My.st HB hb; (try clear hb); have hq71 := My.cz3 BK247) | ((with_reducible refine gate_dst (N := 9) rfl ?_); refine My.bx 9 #[.string (⟨#[]⟩ : ByteArray), .int .i64 0, .string (⟨#[]⟩ : ByteArray), .int .i64 0, .int .i64 0] 64 ?_; intro gb252 hg w72 hbox hb; have BK252 := My.am (hbox); have GE252 := My.nge hg (My.bl_ HB); replace HB := My.st HB hb; obtain ⟨NB246_252, NB252_246, BK246⟩ := My.nb hg hb BK246; obtain ⟨NB247_252, NB252_247, BK247⟩ := My.nb hg hb BK247; obtain ⟨NB248_252, NB252_248, BK248⟩ := My.nb hg hb BK248; clear hb hbox hg; have hnb73 := NB252_246.out; have hnc73 := NB246_252.out; have hnb74 := NB252_247.out; have hnc74 := NB247_252.out; have hnb75 := NB252_248.out; have hnc75 := NB248_252.out; have hq76 := My.cz5 BK252; have hnb77 := NB246_248.out; have hnc77 := NB248_246.out; have hq78 := My.cz2 BK246) | (go_at_call 40; (with_reducible refine (ledger_book_mark.calls kj3 _ _ l0_0 _ _ l0_1 a1 t253 false _ ?side1 ?side2 ?side3 ?side4 A25.out).mono ?_); (case side1 => exact Kd.C_below HR0_0.out (My.bl_ HB)); (case side2 => exact HC0_0.out); (case side3 => exact Kd.C_below HR0_1.out (My.bl_ HB)); (case side4 => exact HC0_1.out); rintro e w79 ⟨rfl, hb⟩; replace BK246 := My.am (blk_below (g := gb246) (o := .cells #[.slice A0_0 l0_0.length c0_0, .slice A0_1 l0_1.length c0_1] 25 (0, 0)) ((My.sv_ BK246)) hb); replace BK247 := My.am (blk_below (g := gb247) (o := .cells #[.int .i64 a2_0, .string a2_1, .int .i64 a2_2] 27 (0, 0)) ((My.sv_ BK247)) hb); replace BK248 := My.am (blk_below (g := gb248) (o := .cells #[.slice none 0 0, .slice none 0 0] 25 (0, 0)) ((My.sv_ BK248)) hb); replace BK252 := My.am (blk_below (g := gb252) (o := .cells #[.string a1, .int .i64 a2_0, .string a2_1, .int .i64 a2_2, .int .i64 1] 64 (0, 0)) ((My.sv_ BK252)) hb); replace HB := My.st HB hb; (try clear hb); have hq80 := My.cz2 BK246; have hq81 := My.cz5 BK252) | (go_at_call 41; (with_reducible refine (ledger_changed_act_Do.calls kj3 _ _ l0_0 _ _ l0_1 a1 a2_0 a2_1 a2_2 1 0 t262 t265 t268 _ ?side1 ?side2 ?side3 ?side4 A66.out).mono ?_); (case side1 => exact My.sd_ HR0_0 HB); (case side2 => exact HC0_0.out); (case side3 => exact My.sd_ HR0_1 HB); (case side4 => exact HC0_1.out); rintro e w82 ⟨v263, v266, rfl, ho0, ho1, hb⟩; have HO264 := My.am (Kd.R_lower ho0 (below_size (My.bl_ HB))); have HO267 := My.am (Kd.R_lower (Kd.R_newB ho1 (My.at_ BK252)) (below_size (My.bl_ HB))); replace BK246 := My.ab BK246 hb; replace BK247 := My.ab BK247 hb; replace BK248 := My.ab BK248 hb; replace BK252 := My.ab BK252 hb; replace HB := My.st HB hb; (try clear hb); (try clear ho0); (try clear ho1); obtain ⟨Ao83, co83, eo83⟩ := Kd.R_slice HO264.out; subst eo83; have hq84 := My.cz2 BK248; obtain ⟨Ao85, co85, eo85⟩ := Kd.R_slice HO267.out; subst eo85))
    repeat (go_quiet (first | (go_at_call 39; (with_reducible refine (act_Check.calls kj3 a2_0 a2_1 a2_2 t251 _ A23.out).mono ?_); rintro e w70 ⟨rfl, hb⟩; replace BK246 := My.ab BK246 hb; replace BK247 := My.ab BK247 hb; replace BK248 := My.ab BK248 hb; replace HB := My.st HB hb; (try clear hb); have hq71 := My.cz3 BK247) | ((with_reducible refine gate_dst (N := 9) rfl ?_); refine My.bx 9 #[.string (⟨#[]⟩ : ByteArray), .int .i64 0, .string (⟨#[]⟩ : ByteArray), .int .i64 0, .int .i64 0] 64 ?_; intro gb252 hg w72 hbox hb; have BK252 := My.am (hbox); have GE252 := My.nge hg (My.bl_ HB); replace HB := My.st HB hb; obtain ⟨NB246_252, NB252_246, BK246⟩ := My.nb hg hb BK246; obtain ⟨NB247_252, NB252_247, BK247⟩ := My.nb hg hb BK247; obtain ⟨NB248_252, NB252_248, BK248⟩ := My.nb hg hb BK248; clear hb hbox hg; have hnb73 := NB252_246.out; have hnc73 := NB246_252.out; have hnb74 := NB252_247.out; have hnc74 := NB247_252.out; have hnb75 := NB252_248.out; have hnc75 := NB248_252.out; have hq76 := My.cz5 BK252; have hnb77 := NB246_248.out; have hnc77 := NB248_246.out; have hq78 := My.cz2 BK246) | (go_at_call 40; (with_reducible refine (ledger_book_mark.calls kj3 _ _ l0_0 _ _ l0_1 a1 t253 false _ ?side1 ?side2 ?side3 ?side4 A25.out).mono ?_); (case side1 => exact Kd.C_below HR0_0.out (My.bl_ HB)); (case side2 => exact HC0_0.out); (case side3 => exact Kd.C_below HR0_1.out (My.bl_ HB)); (case side4 => exact HC0_1.out); rintro e w79 ⟨rfl, hb⟩; replace BK246 := My.am (blk_below (g := gb246) (o := .cells #[.slice A0_0 l0_0.length c0_0, .slice A0_1 l0_1.length c0_1] 25 (0, 0)) ((My.sv_ BK246)) hb); replace BK247 := My.am (blk_below (g := gb247) (o := .cells #[.int .i64 a2_0, .string a2_1, .int .i64 a2_2] 27 (0, 0)) ((My.sv_ BK247)) hb); replace BK248 := My.am (blk_below (g := gb248) (o := .cells #[.slice none 0 0, .slice none 0 0] 25 (0, 0)) ((My.sv_ BK248)) hb); replace BK252 := My.am (blk_below (g := gb252) (o := .cells #[.string a1, .int .i64 a2_0, .string a2_1, .int .i64 a2_2, .int .i64 1] 64 (0, 0)) ((My.sv_ BK252)) hb); replace HB := My.st HB hb; (try clear hb); have hq80 := My.cz2 BK246; have hq81 := My.cz5 BK252) | (go_at_call 41; (with_reducible refine (ledger_changed_act_Do.calls kj3 _ _ l0_0 _ _ l0_1 a1 a2_0 a2_1 a2_2 1 0 t262 t265 t268 _ ?side1 ?side2 ?side3 ?side4 A66.out).mono ?_); (case side1 => exact My.sd_ HR0_0 HB); (case side2 => exact HC0_0.out); (case side3 => exact My.sd_ HR0_1 HB); (case side4 => exact HC0_1.out); rintro e w82 ⟨v263, v266, rfl, ho0, ho1, hb⟩; have HO264 := My.am (Kd.R_lower ho0 (below_size (My.bl_ HB))); have HO267 := My.am (Kd.R_lower (Kd.R_newB ho1 (My.at_ BK252)) (below_size (My.bl_ HB))); replace BK246 := My.ab BK246 hb; replace BK247 := My.ab BK247 hb; replace BK248 := My.ab BK248 hb; replace BK252 := My.ab BK252 hb; replace HB := My.st HB hb; (try clear hb); (try clear ho0); (try clear ho1); obtain ⟨Ao83, co83, eo83⟩ := Kd.R_slice HO264.out; subst eo83; have hq84 := My.cz2 BK248; obtain ⟨Ao85, co85, eo85⟩ := Kd.R_slice HO267.out; subst eo85)); try go_wp2_with (first | (go_at_call 39; (with_reducible refine (act_Check.calls kj3 a2_0 a2_1 a2_2 t251 _ A23.out).mono ?_); rintro e w70 ⟨rfl, hb⟩; replace BK246 := My.ab BK246 hb; replace BK247 := My.ab BK247 hb; replace BK248 := My.ab BK248 hb; replace HB := My.st HB hb; (try clear hb); have hq71 := My.cz3 BK247) | ((with_reducible refine gate_dst (N := 9) rfl ?_); refine My.bx 9 #[.string (⟨#[]⟩ : ByteArray), .int .i64 0, .string (⟨#[]⟩ : ByteArray), .int .i64 0, .int .i64 0] 64 ?_; intro gb252 hg w72 hbox hb; have BK252 := My.am (hbox); have GE252 := My.nge hg (My.bl_ HB); replace HB := My.st HB hb; obtain ⟨NB246_252, NB252_246, BK246⟩ := My.nb hg hb BK246; obtain ⟨NB247_252, NB252_247, BK247⟩ := My.nb hg hb BK247; obtain ⟨NB248_252, NB252_248, BK248⟩ := My.nb hg hb BK248; clear hb hbox hg; have hnb73 := NB252_246.out; have hnc73 := NB246_252.out; have hnb74 := NB252_247.out; have hnc74 := NB247_252.out; have hnb75 := NB252_248.out; have hnc75 := NB248_252.out; have hq76 := My.cz5 BK252; have hnb77 := NB246_248.out; have hnc77 := NB248_246.out; have hq78 := My.cz2 BK246) | (go_at_call 40; (with_reducible refine (ledger_book_mark.calls kj3 _ _ l0_0 _ _ l0_1 a1 t253 false _ ?side1 ?side2 ?side3 ?side4 A25.out).mono ?_); (case side1 => exact Kd.C_below HR0_0.out (My.bl_ HB)); (case side2 => exact HC0_0.out); (case side3 => exact Kd.C_below HR0_1.out (My.bl_ HB)); (case side4 => exact HC0_1.out); rintro e w79 ⟨rfl, hb⟩; replace BK246 := My.am (blk_below (g := gb246) (o := .cells #[.slice A0_0 l0_0.length c0_0, .slice A0_1 l0_1.length c0_1] 25 (0, 0)) ((My.sv_ BK246)) hb); replace BK247 := My.am (blk_below (g := gb247) (o := .cells #[.int .i64 a2_0, .string a2_1, .int .i64 a2_2] 27 (0, 0)) ((My.sv_ BK247)) hb); replace BK248 := My.am (blk_below (g := gb248) (o := .cells #[.slice none 0 0, .slice none 0 0] 25 (0, 0)) ((My.sv_ BK248)) hb); replace BK252 := My.am (blk_below (g := gb252) (o := .cells #[.string a1, .int .i64 a2_0, .string a2_1, .int .i64 a2_2, .int .i64 1] 64 (0, 0)) ((My.sv_ BK252)) hb); replace HB := My.st HB hb; (try clear hb); have hq80 := My.cz2 BK246; have hq81 := My.cz5 BK252) | (go_at_call 41; (with_reducible refine (ledger_changed_act_Do.calls kj3 _ _ l0_0 _ _ l0_1 a1 a2_0 a2_1 a2_2 1 0 t262 t265 t268 _ ?side1 ?side2 ?side3 ?side4 A66.out).mono ?_); (case side1 => exact My.sd_ HR0_0 HB); (case side2 => exact HC0_0.out); (case side3 => exact My.sd_ HR0_1 HB); (case side4 => exact HC0_1.out); rintro e w82 ⟨v263, v266, rfl, ho0, ho1, hb⟩; have HO264 := My.am (Kd.R_lower ho0 (below_size (My.bl_ HB))); have HO267 := My.am (Kd.R_lower (Kd.R_newB ho1 (My.at_ BK252)) (below_size (My.bl_ HB))); replace BK247 := My.ab BK247 hb; replace BK248 := My.ab BK248 hb; replace HB := My.st HB hb; (try clear hb); (try clear ho0); (try clear ho1); obtain ⟨Ao83, co83, eo83⟩ := Kd.R_slice HO264.out; subst eo83; have hq84 := My.cz2 BK248; obtain ⟨Ao85, co85, eo85⟩ := Kd.R_slice HO267.out; subst eo85)))
    refine bodyPost_ret (results_ct rfl _ _ gb248 25 #[.slice Ao83 t262.length co83, .slice Ao85 t265.length co85] (0, 0) _ rfl ((My.sv_ BK248)) Try.underlying25 rfl (by kernel_rfl)) rfl ?_
    exact ⟨_, _, My.r2, by (with_reducible repeat (first | apply Kd.R_alloc | apply Kd.R_drewN | apply Kd.R_drew)); exact Kd.R_mono (Kd.R_far (p := ⟨gb248, 1, none⟩) (Kd.R_far (p := ⟨gb248, 0, none⟩) (Kd.R_types HO264.out BK248.out (by decide)) (fun _ hk => hk.2) (.slice Ao83 t262.length co83)) (fun _ hk => hk.2) (.slice Ao85 t265.length co85)) (fun _ hk => trivial), by (with_reducible repeat (first | apply Kd.R_alloc | apply Kd.R_drewN | apply Kd.R_drew)); exact Kd.R_mono (Kd.R_far (p := ⟨gb248, 1, none⟩) (Kd.R_far (p := ⟨gb248, 0, none⟩) (Kd.R_types HO267.out BK248.out (by decide)) (fun _ hk => hk.2) (.slice Ao83 t262.length co83)) (fun _ hk => hk.2) (.slice Ao85 t265.length co85)) (fun _ hk => trivial), (My.bl_ HB)⟩
   subst c26
   rw [if_pos rfl] at H
   replace H := My.ds H
   obtain ⟨c27b0, H⟩ := H
   replace H := My.ds H
   obtain ⟨c28b0, H⟩ := H
   by_cases c29 : (!((((rd_T64 l0_1 t253).f0).toList) == a1.toList) || ((!(((rd_T64 l0_1 t253).f1.f0) == a2_0) || (!((((rd_T64 l0_1 t253).f1.f1).toList) == a2_1.toList) || (!(((rd_T64 l0_1 t253).f1.f2) == a2_2)))) || (!(((rd_T64 l0_1 t253).f2) == 1)))) = true
   ·rw [if_pos c29] at H
    have c29b0 : (!((((rd_T64 l0_1 t253).f0).toList) == a1.toList) || ((!(((rd_T64 l0_1 t253).f1.f0) == a2_0) || (!((((rd_T64 l0_1 t253).f1.f1).toList) == a2_1.toList) || (!(((rd_T64 l0_1 t253).f1.f2) == a2_2)))) || (!(((rd_T64 l0_1 t253).f2) == 1)))) = true := c29
    clear c29
    simp only [Option.some.injEq, Prod.mk.injEq] at H
    obtain ⟨rfl, rfl, rfl⟩ := H
    have hnb30 := NB247_246.out
    have hnc30 := NB246_247.out
    have hnb31 := NB247_248.out
    have hnc31 := NB248_247.out
    have hq32 := My.cz3 BK247
    go_wp2_with (first | (go_at_call 39; (with_reducible refine (act_Check.calls kj3 a2_0 a2_1 a2_2 t251 _ A23.out).mono ?_); rintro e w33 ⟨rfl, hb⟩; replace BK246 := My.ab BK246 hb; replace BK247 := My.ab BK247 hb; replace BK248 := My.ab BK248 hb; replace HB := My.st HB hb; (try clear hb); have hq34 := My.cz3 BK247) | ((with_reducible refine gate_dst (N := 9) rfl ?_); refine My.bx 9 #[.string (⟨#[]⟩ : ByteArray), .int .i64 0, .string (⟨#[]⟩ : ByteArray), .int .i64 0, .int .i64 0] 64 ?_; intro gb252 hg w35 hbox hb; have BK252 := My.am (hbox); have GE252 := My.nge hg (My.bl_ HB); replace HB := My.st HB hb; obtain ⟨NB246_252, NB252_246, BK246⟩ := My.nb hg hb BK246; obtain ⟨NB247_252, NB252_247, BK247⟩ := My.nb hg hb BK247; obtain ⟨NB248_252, NB252_248, BK248⟩ := My.nb hg hb BK248; clear hb hbox hg; have hnb36 := NB252_246.out; have hnc36 := NB246_252.out; have hnb37 := NB252_247.out; have hnc37 := NB247_252.out; have hnb38 := NB252_248.out; have hnc38 := NB248_252.out; have hq39 := My.cz5 BK252; have hnb40 := NB246_248.out; have hnc40 := NB248_246.out; have hq41 := My.cz2 BK246) | (go_at_call 40; (with_reducible refine (ledger_book_mark.calls kj3 _ _ l0_0 _ _ l0_1 a1 t253 true _ ?side1 ?side2 ?side3 ?side4 A25.out).mono ?_); (case side1 => exact Kd.C_below HR0_0.out (My.bl_ HB)); (case side2 => exact HC0_0.out); (case side3 => exact Kd.C_below HR0_1.out (My.bl_ HB)); (case side4 => exact HC0_1.out); rintro e w42 ⟨rfl, hb⟩; replace BK246 := My.am (blk_below (g := gb246) (o := .cells #[.slice A0_0 l0_0.length c0_0, .slice A0_1 l0_1.length c0_1] 25 (0, 0)) ((My.sv_ BK246)) hb); replace BK247 := My.am (blk_below (g := gb247) (o := .cells #[.int .i64 a2_0, .string a2_1, .int .i64 a2_2] 27 (0, 0)) ((My.sv_ BK247)) hb); replace BK248 := My.am (blk_below (g := gb248) (o := .cells #[.slice none 0 0, .slice none 0 0] 25 (0, 0)) ((My.sv_ BK248)) hb); replace BK252 := My.am (blk_below (g := gb252) (o := .cells #[.string a1, .int .i64 a2_0, .string a2_1, .int .i64 a2_2, .int .i64 1] 64 (0, 0)) ((My.sv_ BK252)) hb); replace HB := My.st HB hb; (try clear hb); have hq43 := My.cz2 BK246; have p255 : 0 ≤ (t253 : Int) := My.as_; have q255 : t253 < (l0_1.length : Int) := My.as_; obtain ⟨ad255, e255, hx255_0, hx255_1, hx255_2, hx255_3, hx255_4⟩ := My.up5 HB (at_T64 HR0_1.out t253 p255 q255); cases e255; replace p255 := eq_true p255; replace q255 := eq_true q255; have hq44 := My.cz5 BK252; have hq45 := My.cz2 BK248))
    repeat (go_quiet (first | (go_at_call 39; (with_reducible refine (act_Check.calls kj3 a2_0 a2_1 a2_2 t251 _ A23.out).mono ?_); rintro e w33 ⟨rfl, hb⟩; replace BK246 := My.ab BK246 hb; replace BK247 := My.ab BK247 hb; replace BK248 := My.ab BK248 hb; replace HB := My.st HB hb; (try clear hb); have hq34 := My.cz3 BK247) | ((with_reducible refine gate_dst (N := 9) rfl ?_); refine My.bx 9 #[.string (⟨#[]⟩ : ByteArray), .int .i64 0, .string (⟨#[]⟩ : ByteArray), .int .i64 0, .int .i64 0] 64 ?_; intro gb252 hg w35 hbox hb; have BK252 := My.am (hbox); have GE252 := My.nge hg (My.bl_ HB); replace HB := My.st HB hb; obtain ⟨NB246_252, NB252_246, BK246⟩ := My.nb hg hb BK246; obtain ⟨NB247_252, NB252_247, BK247⟩ := My.nb hg hb BK247; obtain ⟨NB248_252, NB252_248, BK248⟩ := My.nb hg hb BK248; clear hb hbox hg; have hnb36 := NB252_246.out; have hnc36 := NB246_252.out; have hnb37 := NB252_247.out; have hnc37 := NB247_252.out; have hnb38 := NB252_248.out; have hnc38 := NB248_252.out; have hq39 := My.cz5 BK252; have hnb40 := NB246_248.out; have hnc40 := NB248_246.out; have hq41 := My.cz2 BK246) | (go_at_call 40; (with_reducible refine (ledger_book_mark.calls kj3 _ _ l0_0 _ _ l0_1 a1 t253 true _ ?side1 ?side2 ?side3 ?side4 A25.out).mono ?_); (case side1 => exact Kd.C_below HR0_0.out (My.bl_ HB)); (case side2 => exact HC0_0.out); (case side3 => exact Kd.C_below HR0_1.out (My.bl_ HB)); (case side4 => exact HC0_1.out); rintro e w42 ⟨rfl, hb⟩; replace BK246 := My.am (blk_below (g := gb246) (o := .cells #[.slice A0_0 l0_0.length c0_0, .slice A0_1 l0_1.length c0_1] 25 (0, 0)) ((My.sv_ BK246)) hb); replace BK247 := My.am (blk_below (g := gb247) (o := .cells #[.int .i64 a2_0, .string a2_1, .int .i64 a2_2] 27 (0, 0)) ((My.sv_ BK247)) hb); replace BK248 := My.am (blk_below (g := gb248) (o := .cells #[.slice none 0 0, .slice none 0 0] 25 (0, 0)) ((My.sv_ BK248)) hb); replace BK252 := My.am (blk_below (g := gb252) (o := .cells #[.string a1, .int .i64 a2_0, .string a2_1, .int .i64 a2_2, .int .i64 1] 64 (0, 0)) ((My.sv_ BK252)) hb); replace HB := My.st HB hb; (try clear hb); have hq43 := My.cz2 BK246; have p255 : 0 ≤ (t253 : Int) := My.as_; have q255 : t253 < (l0_1.length : Int) := My.as_; obtain ⟨ad255, e255, hx255_0, hx255_1, hx255_2, hx255_3, hx255_4⟩ := My.up5 HB (at_T64 HR0_1.out t253 p255 q255); cases e255; replace p255 := eq_true p255; replace q255 := eq_true q255; have hq44 := My.cz5 BK252; have hq45 := My.cz2 BK248)); try go_wp2_with (first | (go_at_call 39; (with_reducible refine (act_Check.calls kj3 a2_0 a2_1 a2_2 t251 _ A23.out).mono ?_); rintro e w33 ⟨rfl, hb⟩; replace BK246 := My.ab BK246 hb; replace BK247 := My.ab BK247 hb; replace BK248 := My.ab BK248 hb; replace HB := My.st HB hb; (try clear hb); have hq34 := My.cz3 BK247) | ((with_reducible refine gate_dst (N := 9) rfl ?_); refine My.bx 9 #[.string (⟨#[]⟩ : ByteArray), .int .i64 0, .string (⟨#[]⟩ : ByteArray), .int .i64 0, .int .i64 0] 64 ?_; intro gb252 hg w35 hbox hb; have BK252 := My.am (hbox); have GE252 := My.nge hg (My.bl_ HB); replace HB := My.st HB hb; obtain ⟨NB246_252, NB252_246, BK246⟩ := My.nb hg hb BK246; obtain ⟨NB247_252, NB252_247, BK247⟩ := My.nb hg hb BK247; obtain ⟨NB248_252, NB252_248, BK248⟩ := My.nb hg hb BK248; clear hb hbox hg; have hnb36 := NB252_246.out; have hnc36 := NB246_252.out; have hnb37 := NB252_247.out; have hnc37 := NB247_252.out; have hnb38 := NB252_248.out; have hnc38 := NB248_252.out; have hq39 := My.cz5 BK252; have hnb40 := NB246_248.out; have hnc40 := NB248_246.out; have hq41 := My.cz2 BK246) | (go_at_call 40; (with_reducible refine (ledger_book_mark.calls kj3 _ _ l0_0 _ _ l0_1 a1 t253 true _ ?side1 ?side2 ?side3 ?side4 A25.out).mono ?_); (case side1 => exact Kd.C_below HR0_0.out (My.bl_ HB)); (case side2 => exact HC0_0.out); (case side3 => exact Kd.C_below HR0_1.out (My.bl_ HB)); (case side4 => exact HC0_1.out); rintro e w42 ⟨rfl, hb⟩; replace BK246 := My.am (blk_below (g := gb246) (o := .cells #[.slice A0_0 l0_0.length c0_0, .slice A0_1 l0_1.length c0_1] 25 (0, 0)) ((My.sv_ BK246)) hb); replace BK247 := My.am (blk_below (g := gb247) (o := .cells #[.int .i64 a2_0, .string a2_1, .int .i64 a2_2] 27 (0, 0)) ((My.sv_ BK247)) hb); replace BK248 := My.am (blk_below (g := gb248) (o := .cells #[.slice none 0 0, .slice none 0 0] 25 (0, 0)) ((My.sv_ BK248)) hb); replace BK252 := My.am (blk_below (g := gb252) (o := .cells #[.string a1, .int .i64 a2_0, .string a2_1, .int .i64 a2_2, .int .i64 1] 64 (0, 0)) ((My.sv_ BK252)) hb); replace HB := My.st HB hb; (try clear hb); have hq43 := My.cz2 BK246; have p255 : 0 ≤ (t253 : Int) := My.as_; have q255 : t253 < (l0_1.length : Int) := My.as_; obtain ⟨ad255, e255, hx255_0, hx255_1, hx255_2, hx255_3, hx255_4⟩ := My.up5 HB (at_T64 HR0_1.out t253 p255 q255); cases e255; replace p255 := eq_true p255; replace q255 := eq_true q255; have hq44 := My.cz5 BK252; have hq45 := My.cz2 BK248)))
    refine bodyPost_ret (results_ct rfl _ _ gb248 25 #[.slice none 0 0, .slice none 0 0] (0, 0) _ rfl ((My.sv_ BK248)) Try.underlying25 rfl (by kernel_rfl)) rfl ?_
    exact ⟨_, _, My.r2, My.r3, My.r3, (My.bl_ HB)⟩
   rw [if_neg c29] at H
   have c29b0 : (!((((rd_T64 l0_1 t253).f0).toList) == a1.toList) || ((!(((rd_T64 l0_1 t253).f1.f0) == a2_0) || (!((((rd_T64 l0_1 t253).f1.f1).toList) == a2_1.toList) || (!(((rd_T64 l0_1 t253).f1.f2) == a2_2)))) || (!(((rd_T64 l0_1 t253).f2) == 1)))) = false := by simpa using c29
   clear c29
   replace H := Option.bind_eq_some_iff.mp H
   obtain ⟨⟨t256, t259⟩, A460, H⟩ := H
   try dsimp only at H
   have A46 := My.am A460
   clear A460
   simp only [Option.some.injEq, Prod.mk.injEq] at H
   obtain ⟨rfl, rfl, rfl⟩ := H
   have hnb47 := NB247_246.out
   have hnc47 := NB246_247.out
   have hnb48 := NB247_248.out
   have hnc48 := NB248_247.out
   have hq49 := My.cz3 BK247
   go_wp2_with (first | (go_at_call 39; (with_reducible refine (act_Check.calls kj3 a2_0 a2_1 a2_2 t251 _ A23.out).mono ?_); rintro e w50 ⟨rfl, hb⟩; replace BK246 := My.ab BK246 hb; replace BK247 := My.ab BK247 hb; replace BK248 := My.ab BK248 hb; replace HB := My.st HB hb; (try clear hb); have hq51 := My.cz3 BK247) | ((with_reducible refine gate_dst (N := 9) rfl ?_); refine My.bx 9 #[.string (⟨#[]⟩ : ByteArray), .int .i64 0, .string (⟨#[]⟩ : ByteArray), .int .i64 0, .int .i64 0] 64 ?_; intro gb252 hg w52 hbox hb; have BK252 := My.am (hbox); have GE252 := My.nge hg (My.bl_ HB); replace HB := My.st HB hb; obtain ⟨NB246_252, NB252_246, BK246⟩ := My.nb hg hb BK246; obtain ⟨NB247_252, NB252_247, BK247⟩ := My.nb hg hb BK247; obtain ⟨NB248_252, NB252_248, BK248⟩ := My.nb hg hb BK248; clear hb hbox hg; have hnb53 := NB252_246.out; have hnc53 := NB246_252.out; have hnb54 := NB252_247.out; have hnc54 := NB247_252.out; have hnb55 := NB252_248.out; have hnc55 := NB248_252.out; have hq56 := My.cz5 BK252; have hnb57 := NB246_248.out; have hnc57 := NB248_246.out; have hq58 := My.cz2 BK246) | (go_at_call 40; (with_reducible refine (ledger_book_mark.calls kj3 _ _ l0_0 _ _ l0_1 a1 t253 true _ ?side1 ?side2 ?side3 ?side4 A25.out).mono ?_); (case side1 => exact Kd.C_below HR0_0.out (My.bl_ HB)); (case side2 => exact HC0_0.out); (case side3 => exact Kd.C_below HR0_1.out (My.bl_ HB)); (case side4 => exact HC0_1.out); rintro e w59 ⟨rfl, hb⟩; replace BK246 := My.am (blk_below (g := gb246) (o := .cells #[.slice A0_0 l0_0.length c0_0, .slice A0_1 l0_1.length c0_1] 25 (0, 0)) ((My.sv_ BK246)) hb); replace BK247 := My.am (blk_below (g := gb247) (o := .cells #[.int .i64 a2_0, .string a2_1, .int .i64 a2_2] 27 (0, 0)) ((My.sv_ BK247)) hb); replace BK248 := My.am (blk_below (g := gb248) (o := .cells #[.slice none 0 0, .slice none 0 0] 25 (0, 0)) ((My.sv_ BK248)) hb); replace BK252 := My.am (blk_below (g := gb252) (o := .cells #[.string a1, .int .i64 a2_0, .string a2_1, .int .i64 a2_2, .int .i64 1] 64 (0, 0)) ((My.sv_ BK252)) hb); replace HB := My.st HB hb; (try clear hb); have hq60 := My.cz2 BK246; have p255 : 0 ≤ (t253 : Int) := My.as_; have q255 : t253 < (l0_1.length : Int) := My.as_; obtain ⟨ad255, e255, hx255_0, hx255_1, hx255_2, hx255_3, hx255_4⟩ := My.up5 HB (at_T64 HR0_1.out t253 p255 q255); cases e255; replace p255 := eq_true p255; replace q255 := eq_true q255; have hq61 := My.cz5 BK252) | (go_at_call 33; (with_reducible refine (ledger_copied.calls _ _ l0_0 _ _ l0_1 t256 t259 _ ?side1 ?side2 ?side3 ?side4 A46.out).mono ?_); (case side1 => exact My.sd_ HR0_0 HB); (case side2 => exact HC0_0.out); (case side3 => exact My.sd_ HR0_1 HB); (case side4 => exact HC0_1.out); rintro e w62 ⟨v257, v260, rfl, ho0, ho1, hb⟩; have HO258 := My.am (Kd.R_lower ho0 (below_size (My.bl_ HB))); have HO261 := My.am (Kd.R_lower (Kd.R_newB ho1 (My.at_ BK252)) (below_size (My.bl_ HB))); replace BK246 := My.ab BK246 hb; replace BK247 := My.ab BK247 hb; replace BK248 := My.ab BK248 hb; replace BK252 := My.ab BK252 hb; replace HB := My.st HB hb; (try clear hb); (try clear ho0); (try clear ho1); obtain ⟨Ao63, co63, eo63⟩ := Kd.R_slice HO258.out; subst eo63; have hq64 := My.cz2 BK248; obtain ⟨Ao65, co65, eo65⟩ := Kd.R_slice HO261.out; subst eo65))
   repeat (go_quiet (first | (go_at_call 39; (with_reducible refine (act_Check.calls kj3 a2_0 a2_1 a2_2 t251 _ A23.out).mono ?_); rintro e w50 ⟨rfl, hb⟩; replace BK246 := My.ab BK246 hb; replace BK247 := My.ab BK247 hb; replace BK248 := My.ab BK248 hb; replace HB := My.st HB hb; (try clear hb); have hq51 := My.cz3 BK247) | ((with_reducible refine gate_dst (N := 9) rfl ?_); refine My.bx 9 #[.string (⟨#[]⟩ : ByteArray), .int .i64 0, .string (⟨#[]⟩ : ByteArray), .int .i64 0, .int .i64 0] 64 ?_; intro gb252 hg w52 hbox hb; have BK252 := My.am (hbox); have GE252 := My.nge hg (My.bl_ HB); replace HB := My.st HB hb; obtain ⟨NB246_252, NB252_246, BK246⟩ := My.nb hg hb BK246; obtain ⟨NB247_252, NB252_247, BK247⟩ := My.nb hg hb BK247; obtain ⟨NB248_252, NB252_248, BK248⟩ := My.nb hg hb BK248; clear hb hbox hg; have hnb53 := NB252_246.out; have hnc53 := NB246_252.out; have hnb54 := NB252_247.out; have hnc54 := NB247_252.out; have hnb55 := NB252_248.out; have hnc55 := NB248_252.out; have hq56 := My.cz5 BK252; have hnb57 := NB246_248.out; have hnc57 := NB248_246.out; have hq58 := My.cz2 BK246) | (go_at_call 40; (with_reducible refine (ledger_book_mark.calls kj3 _ _ l0_0 _ _ l0_1 a1 t253 true _ ?side1 ?side2 ?side3 ?side4 A25.out).mono ?_); (case side1 => exact Kd.C_below HR0_0.out (My.bl_ HB)); (case side2 => exact HC0_0.out); (case side3 => exact Kd.C_below HR0_1.out (My.bl_ HB)); (case side4 => exact HC0_1.out); rintro e w59 ⟨rfl, hb⟩; replace BK246 := My.am (blk_below (g := gb246) (o := .cells #[.slice A0_0 l0_0.length c0_0, .slice A0_1 l0_1.length c0_1] 25 (0, 0)) ((My.sv_ BK246)) hb); replace BK247 := My.am (blk_below (g := gb247) (o := .cells #[.int .i64 a2_0, .string a2_1, .int .i64 a2_2] 27 (0, 0)) ((My.sv_ BK247)) hb); replace BK248 := My.am (blk_below (g := gb248) (o := .cells #[.slice none 0 0, .slice none 0 0] 25 (0, 0)) ((My.sv_ BK248)) hb); replace BK252 := My.am (blk_below (g := gb252) (o := .cells #[.string a1, .int .i64 a2_0, .string a2_1, .int .i64 a2_2, .int .i64 1] 64 (0, 0)) ((My.sv_ BK252)) hb); replace HB := My.st HB hb; (try clear hb); have hq60 := My.cz2 BK246; have p255 : 0 ≤ (t253 : Int) := My.as_; have q255 : t253 < (l0_1.length : Int) := My.as_; obtain ⟨ad255, e255, hx255_0, hx255_1, hx255_2, hx255_3, hx255_4⟩ := My.up5 HB (at_T64 HR0_1.out t253 p255 q255); cases e255; replace p255 := eq_true p255; replace q255 := eq_true q255; have hq61 := My.cz5 BK252) | (go_at_call 33; (with_reducible refine (ledger_copied.calls _ _ l0_0 _ _ l0_1 t256 t259 _ ?side1 ?side2 ?side3 ?side4 A46.out).mono ?_); (case side1 => exact My.sd_ HR0_0 HB); (case side2 => exact HC0_0.out); (case side3 => exact My.sd_ HR0_1 HB); (case side4 => exact HC0_1.out); rintro e w62 ⟨v257, v260, rfl, ho0, ho1, hb⟩; have HO258 := My.am (Kd.R_lower ho0 (below_size (My.bl_ HB))); have HO261 := My.am (Kd.R_lower (Kd.R_newB ho1 (My.at_ BK252)) (below_size (My.bl_ HB))); replace BK246 := My.ab BK246 hb; replace BK247 := My.ab BK247 hb; replace BK248 := My.ab BK248 hb; replace BK252 := My.ab BK252 hb; replace HB := My.st HB hb; (try clear hb); (try clear ho0); (try clear ho1); obtain ⟨Ao63, co63, eo63⟩ := Kd.R_slice HO258.out; subst eo63; have hq64 := My.cz2 BK248; obtain ⟨Ao65, co65, eo65⟩ := Kd.R_slice HO261.out; subst eo65)); try go_wp2_with (first | (go_at_call 39; (with_reducible refine (act_Check.calls kj3 a2_0 a2_1 a2_2 t251 _ A23.out).mono ?_); rintro e w50 ⟨rfl, hb⟩; replace BK246 := My.ab BK246 hb; replace BK247 := My.ab BK247 hb; replace BK248 := My.ab BK248 hb; replace HB := My.st HB hb; (try clear hb); have hq51 := My.cz3 BK247) | ((with_reducible refine gate_dst (N := 9) rfl ?_); refine My.bx 9 #[.string (⟨#[]⟩ : ByteArray), .int .i64 0, .string (⟨#[]⟩ : ByteArray), .int .i64 0, .int .i64 0] 64 ?_; intro gb252 hg w52 hbox hb; have BK252 := My.am (hbox); have GE252 := My.nge hg (My.bl_ HB); replace HB := My.st HB hb; obtain ⟨NB246_252, NB252_246, BK246⟩ := My.nb hg hb BK246; obtain ⟨NB247_252, NB252_247, BK247⟩ := My.nb hg hb BK247; obtain ⟨NB248_252, NB252_248, BK248⟩ := My.nb hg hb BK248; clear hb hbox hg; have hnb53 := NB252_246.out; have hnc53 := NB246_252.out; have hnb54 := NB252_247.out; have hnc54 := NB247_252.out; have hnb55 := NB252_248.out; have hnc55 := NB248_252.out; have hq56 := My.cz5 BK252; have hnb57 := NB246_248.out; have hnc57 := NB248_246.out; have hq58 := My.cz2 BK246) | (go_at_call 40; (with_reducible refine (ledger_book_mark.calls kj3 _ _ l0_0 _ _ l0_1 a1 t253 true _ ?side1 ?side2 ?side3 ?side4 A25.out).mono ?_); (case side1 => exact Kd.C_below HR0_0.out (My.bl_ HB)); (case side2 => exact HC0_0.out); (case side3 => exact Kd.C_below HR0_1.out (My.bl_ HB)); (case side4 => exact HC0_1.out); rintro e w59 ⟨rfl, hb⟩; replace BK246 := My.am (blk_below (g := gb246) (o := .cells #[.slice A0_0 l0_0.length c0_0, .slice A0_1 l0_1.length c0_1] 25 (0, 0)) ((My.sv_ BK246)) hb); replace BK247 := My.am (blk_below (g := gb247) (o := .cells #[.int .i64 a2_0, .string a2_1, .int .i64 a2_2] 27 (0, 0)) ((My.sv_ BK247)) hb); replace BK248 := My.am (blk_below (g := gb248) (o := .cells #[.slice none 0 0, .slice none 0 0] 25 (0, 0)) ((My.sv_ BK248)) hb); replace BK252 := My.am (blk_below (g := gb252) (o := .cells #[.string a1, .int .i64 a2_0, .string a2_1, .int .i64 a2_2, .int .i64 1] 64 (0, 0)) ((My.sv_ BK252)) hb); replace HB := My.st HB hb; (try clear hb); have hq60 := My.cz2 BK246; have p255 : 0 ≤ (t253 : Int) := My.as_; have q255 : t253 < (l0_1.length : Int) := My.as_; obtain ⟨ad255, e255, hx255_0, hx255_1, hx255_2, hx255_3, hx255_4⟩ := My.up5 HB (at_T64 HR0_1.out t253 p255 q255); cases e255; replace p255 := eq_true p255; replace q255 := eq_true q255; have hq61 := My.cz5 BK252) | (go_at_call 33; (with_reducible refine (ledger_copied.calls _ _ l0_0 _ _ l0_1 t256 t259 _ ?side1 ?side2 ?side3 ?side4 A46.out).mono ?_); (case side1 => exact My.sd_ HR0_0 HB); (case side2 => exact HC0_0.out); (case side3 => exact My.sd_ HR0_1 HB); (case side4 => exact HC0_1.out); rintro e w62 ⟨v257, v260, rfl, ho0, ho1, hb⟩; have HO258 := My.am (Kd.R_lower ho0 (below_size (My.bl_ HB))); have HO261 := My.am (Kd.R_lower (Kd.R_newB ho1 (My.at_ BK252)) (below_size (My.bl_ HB))); replace BK246 := My.ab BK246 hb; replace BK247 := My.ab BK247 hb; replace BK248 := My.ab BK248 hb; replace BK252 := My.ab BK252 hb; replace HB := My.st HB hb; (try clear hb); (try clear ho0); (try clear ho1); obtain ⟨Ao63, co63, eo63⟩ := Kd.R_slice HO258.out; subst eo63; have hq64 := My.cz2 BK248; obtain ⟨Ao65, co65, eo65⟩ := Kd.R_slice HO261.out; subst eo65)))
   refine bodyPost_ret (results_ct rfl _ _ gb248 25 #[.slice Ao63 t256.length co63, .slice Ao65 t259.length co65] (0, 0) _ rfl ((My.sv_ BK248)) Try.underlying25 rfl (by kernel_rfl)) rfl ?_
   exact ⟨_, _, My.r2, by (with_reducible repeat (first | apply Kd.R_alloc | apply Kd.R_drewN | apply Kd.R_drew)); exact Kd.R_mono (Kd.R_far (p := ⟨gb248, 1, none⟩) (Kd.R_far (p := ⟨gb248, 0, none⟩) (Kd.R_types HO258.out BK248.out (by decide)) (fun _ hk => hk.2) (.slice Ao63 t256.length co63)) (fun _ hk => hk.2) (.slice Ao65 t259.length co65)) (fun _ hk => trivial), by (with_reducible repeat (first | apply Kd.R_alloc | apply Kd.R_drewN | apply Kd.R_drew)); exact Kd.R_mono (Kd.R_far (p := ⟨gb248, 1, none⟩) (Kd.R_far (p := ⟨gb248, 0, none⟩) (Kd.R_types HO261.out BK248.out (by decide)) (fun _ hk => hk.2) (.slice Ao63 t256.length co63)) (fun _ hk => hk.2) (.slice Ao65 t259.length co65)) (fun _ hk => trivial), (My.bl_ HB)⟩
/-! ### pot_Undo: function 74 -/
def pot_Undo.f (k : Nat) (a0_0 : Int) (a0_1 : Int) (a0_2 : Int) (a1 : Bool) (a2 : Int) : Option (Int × Int × Int × Int) := if a1 = true then ((pot_moved.f k a0_0 a0_1 a0_2 a2 a0_2 1 0 (-1)).bind fun bt271 => (some (bt271.1, bt271.2.1, bt271.2.2.1, bt271.2.2.2))) else ((pot_moved.f k a0_0 a0_1 a0_2 a2 a0_1 (-1) (-1) 0).bind fun bt275 => (some (bt275.1, bt275.2.1, bt275.2.2.1, bt275.2.2.2)))
theorem pot_Undo.mono : ∀ a0 a1 a2 a3 a4 k, LeO (pot_Undo.f k a0 a1 a2 a3 a4) (pot_Undo.f (k + 1) a0 a1 a2 a3 a4) := by
 intro a0 a1 a2 a3 a4 k
 unfold pot_Undo.f
 repeat' (with_reducible first | exact pot_moved.mono _ _ _ _ _ _ _ _ _ | exact LeO.refl _ | exact LeO.none _ | apply LeO.ite | refine LeO.bind ?_ (fun _ => ?_))
theorem pot_Undo.calls (k : Nat) (a0_0 : Int) (a0_1 : Int) (a0_2 : Int) (a1 : Bool) (a2 : Int) (r1 : Int) (r2 : Int) (r3 : Int) (r4 : Int) (w : World) (h : pot_Undo.f k a0_0 a0_1 a0_2 a1 a2 = some (r1, r2, r3, r4)) :
  Calls Try.prog 74 #[.agg #[.int .i64 a0_0, .int .i64 a0_1, .int .i64 a0_2], .bool a1, .int .i64 a2] w fun e w' => e = .returned (.tuple #[.agg #[.int .i64 r1, .int .i64 r2, .int .i64 r3], .int .i64 r4]) ∧ Below w.heap.size w w' := by
 have hu49 := Try.underlying49
 have HB := My.am (Below.refl w.heap.size w)
 unfold pot_Undo.f at h
 have H := h
 clear h
 by_cases c4 : a1 = true
 ·subst c4
  rw [if_pos rfl] at H
  replace H := Option.bind_eq_some_iff.mp H
  obtain ⟨⟨t271, t272, t273, t274⟩, A50, H⟩ := H
  try dsimp only at H
  have A5 := My.am A50
  clear A50
  simp only [Option.some.injEq, Prod.mk.injEq] at H
  obtain ⟨rfl, rfl, rfl, rfl⟩ := H
  go_enter Try.func74, Try.ntmps74
  go_wp2_with (first | ((with_reducible refine gate_dst (N := 3) rfl ?_); refine My.bx 3 #[.int .i64 a0_0, .int .i64 a0_1, .int .i64 a0_2] 49 ?_; intro gb269 hg w6 hbox hb; have BK269 := My.am (hbox); have GE269 := My.nge hg (My.bl_ HB); replace HB := My.st HB hb; clear hb hbox hg) | ((with_reducible refine gate_dst (N := 6) rfl ?_); refine My.bx 6 #[.int .i64 0, .int .i64 0, .int .i64 0] 49 ?_; intro gb270 hg w7 hbox hb; have BK270 := My.am (hbox); have GE270 := My.nge hg (My.bl_ HB); replace HB := My.st HB hb; obtain ⟨NB269_270, NB270_269, BK269⟩ := My.nb hg hb BK269; clear hb hbox hg; have hnb8 := NB269_270.out; have hnc8 := NB270_269.out; have hq9 := My.cz3 BK269) | ((with_reducible refine gate_callee (f := 85) rfl ?_); refine goesL_ (some 13) rfl rfl Try.func85 (by kernel_rfl) rfl #[.agg #[.int .i64 a0_0, .int .i64 a0_1, .int .i64 a0_2], .int .i64 a2, .int .i64 a0_2, .int .i64 1, .int .i64 0, .int .i64 (-1)] rfl My.gx ?_; (with_reducible refine (pot_moved.calls k a0_0 a0_1 a0_2 a2 a0_2 1 0 (-1) t271 t272 t273 t274 _ A5.out).mono ?_); rintro e w10 ⟨rfl, hb⟩; refine ⟨_, rfl, ?_⟩; replace BK269 := My.ab BK269 hb; replace BK270 := My.ab BK270 hb; replace HB := My.st HB hb; (try clear hb); have hq11 := My.cz3 BK270))
  refine bodyPost_ret (results_ct rfl _ _ gb270 49 #[.int .i64 t271, .int .i64 t272, .int .i64 t273] (0, 0) _ rfl ((My.sv_ BK270)) Try.underlying49 rfl (by kernel_rfl)) rfl ?_
  exact ⟨My.r2, (My.bl_ HB)⟩
 ·replace c4 := Bool.eq_false_iff.mpr c4
  subst c4
  rw [if_neg (show ¬ (false = true) by decide)] at H
  replace H := Option.bind_eq_some_iff.mp H
  obtain ⟨⟨t275, t276, t277, t278⟩, A120, H⟩ := H
  try dsimp only at H
  have A12 := My.am A120
  clear A120
  simp only [Option.some.injEq, Prod.mk.injEq] at H
  obtain ⟨rfl, rfl, rfl, rfl⟩ := H
  go_enter Try.func74, Try.ntmps74
  go_wp2_with (first | ((with_reducible refine gate_dst (N := 3) rfl ?_); refine My.bx 3 #[.int .i64 a0_0, .int .i64 a0_1, .int .i64 a0_2] 49 ?_; intro gb269 hg w13 hbox hb; have BK269 := My.am (hbox); have GE269 := My.nge hg (My.bl_ HB); replace HB := My.st HB hb; clear hb hbox hg) | ((with_reducible refine gate_dst (N := 6) rfl ?_); refine My.bx 6 #[.int .i64 0, .int .i64 0, .int .i64 0] 49 ?_; intro gb270 hg w14 hbox hb; have BK270 := My.am (hbox); have GE270 := My.nge hg (My.bl_ HB); replace HB := My.st HB hb; obtain ⟨NB269_270, NB270_269, BK269⟩ := My.nb hg hb BK269; clear hb hbox hg; have hnb15 := NB269_270.out; have hnc15 := NB270_269.out; have hq16 := My.cz3 BK269) | ((with_reducible refine gate_callee (f := 85) rfl ?_); refine goesL_ (some 20) rfl rfl Try.func85 (by kernel_rfl) rfl #[.agg #[.int .i64 a0_0, .int .i64 a0_1, .int .i64 a0_2], .int .i64 a2, .int .i64 a0_1, .int .i64 (-1), .int .i64 (-1), .int .i64 0] rfl My.gx ?_; (with_reducible refine (pot_moved.calls k a0_0 a0_1 a0_2 a2 a0_1 (-1) (-1) 0 t275 t276 t277 t278 _ A12.out).mono ?_); rintro e w17 ⟨rfl, hb⟩; refine ⟨_, rfl, ?_⟩; replace BK270 := My.ab BK270 hb; replace HB := My.st HB hb; (try clear hb); have hq18 := My.cz3 BK270))
  refine bodyPost_ret (results_ct rfl _ _ gb270 49 #[.int .i64 t275, .int .i64 t276, .int .i64 t277] (0, 0) _ rfl ((My.sv_ BK270)) Try.underlying49 rfl (by kernel_rfl)) rfl ?_
  exact ⟨My.r2, (My.bl_ HB)⟩

end Go.Proofs.Ytikanbdhpafbiaa.PZ
