-- Written by a program of this session (wip/tools/mp.py over the kit's printer); Lean checks it.
import Derived.Test.YtikanbdhpafbiaaPOx0
import Derived.Test.YtikanbdhpafbiaaPOx4
import Derived.Test.YtikanbdhpafbiaaPOx6
import Derived.Test.YtikanbdhpafbiaaPOx7
import Derived.Test.YtikanbdhpafbiaaPOx8
import Derived.Test.YtikanbdhpafbiaaPOx11
namespace Go.Proofs.Ytikanbdhpafbiaa.PO
open Go.RowKit Go.Proofs.YtikanbdhpafbiaaW.PrintWords Go.Proofs.YtikanbdhpafbiaaW.PrintLast Go.Proofs.YtikanbdhpafbiaaW.PrintMore
attribute [local go_sem] max2_int min2_int max_two min_two max_three min_three max_four min_four   -- for this text's walks alone
set_option linter.unusedVariables false
set_option maxHeartbeats 8000000
set_option maxRecDepth 100000
set_option linter.unusedSimpArgs false

attribute [local go_sem high] eqA64
/-! ### ledger_Do: function 12 -/
def ledger_Do.j0 : Nat → ByteArray → Bool → List (S51) → List (S64) → Int → ByteArray → Int → Option ((List (S51)) × (List (S64)) × Int)
 | 0, _, _, _, _, _, _, _ => none
 | k + 1, x1, x19, x245000, x245001, x246000, x246001, x246002 => if x19 = true then (some (([] : List (S51)), ([] : List (S64)), 2)) else ((act_Check.f k x246000 x246001 x246002).bind fun t249 => (if t249 = 0 then ((ledger_book_mark.f k x245000 x245001 x1).bind fun bt251 => (if bt251.2 = true then (if 0 ≤ bt251.1 then (if bt251.1 < (x245001.length : Int) then (if (!((((rd_T64 x245001 bt251.1).f0).toList) == x1.toList) || ((!(((rd_T64 x245001 bt251.1).f1.f0) == x246000) || (!((((rd_T64 x245001 bt251.1).f1.f1).toList) == x246001.toList) || (!(((rd_T64 x245001 bt251.1).f1.f2) == x246002)))) || (!(((rd_T64 x245001 bt251.1).f2) == 1)))) = true then (some (([] : List (S51)), ([] : List (S64)), 72)) else ((ledger_copied.f x245000 x245001).bind fun bt254 => (some (bt254.1, bt254.2, 0)))) else (none)) else (none)) else ((ledger_changed_act_Do.f k x245000 x245001 x1 x246000 x246001 x246002 1 0).bind fun bt260 => (some (bt260.1, bt260.2.1, bt260.2.2))))) else (some (([] : List (S51)), ([] : List (S64)), t249))))
def ledger_Do.f (k : Nat) (l0_0 : List (S51)) (l0_1 : List (S64)) (a1 : ByteArray) (a2_0 : Int) (a2_1 : ByteArray) (a2_2 : Int) : Option ((List (S51)) × (List (S64)) × Int) := (ledger_May.f k l0_0 l0_1).bind fun t247 => (if t247 = 0 then ((ledger_key.f a1).bind fun t248 => (ledger_Do.j0 k a1 (!t248) l0_0 l0_1 a2_0 a2_1 a2_2)) else (ledger_Do.j0 k a1 true l0_0 l0_1 a2_0 a2_1 a2_2))
theorem ledger_Do.mono_l : ∀ k, (∀ y0 y1 y2 y3 y4 y5 y6, LeO (ledger_Do.j0 k y0 y1 y2 y3 y4 y5 y6) (ledger_Do.j0 (k + 1) y0 y1 y2 y3 y4 y5 y6))
 | 0 => fun _ _ _ _ _ _ _ r h => by simp [ledger_Do.j0] at h
 | k + 1 => by
  have ih0 := ledger_Do.mono_l k
  intro y0 y1 y2 y3 y4 y5 y6
  unfold ledger_Do.j0
  repeat' (with_reducible first | exact ih0 _ _ _ _ _ _ _ | exact act_Check.mono _ _ _ _ | exact ledger_May.mono _ _ _ | exact ledger_book_mark.mono _ _ _ _ | exact ledger_changed_act_Do.mono _ _ _ _ _ _ _ _ _ | exact LeO.refl _ | exact LeO.none _ | apply LeO.ite | refine LeO.bind ?_ (fun _ => ?_))
theorem ledger_Do.mono : ∀ a0 a1 a2 a3 a4 a5 k, LeO (ledger_Do.f k a0 a1 a2 a3 a4 a5) (ledger_Do.f (k + 1) a0 a1 a2 a3 a4 a5) := by
 intro a0 a1 a2 a3 a4 a5 k
 have ih0 := ledger_Do.mono_l k
 unfold ledger_Do.f
 repeat' (with_reducible first | exact ih0 _ _ _ _ _ _ _ | exact act_Check.mono _ _ _ _ | exact ledger_May.mono _ _ _ | exact ledger_book_mark.mono _ _ _ _ | exact ledger_changed_act_Do.mono _ _ _ _ _ _ _ _ _ | exact LeO.refl _ | exact LeO.none _ | apply LeO.ite | refine LeO.bind ?_ (fun _ => ?_))
theorem ledger_Do.calls (k : Nat) (A0_0 : Option Addr) (c0_0 : Nat) (l0_0 : List (S51)) (A0_1 : Option Addr) (c0_1 : Nat) (l0_1 : List (S64)) (a1 : ByteArray) (a2_0 : Int) (a2_1 : ByteArray) (a2_2 : Int) (r1 : List (S51)) (r2 : List (S64)) (r3 : Int) (w : World) (hr0_0 : Kd.C k51 w A0_0 l0_0.length l0_0) (hc0_0 : l0_0.length ≤ c0_0) (hr0_1 : Kd.C k64 w A0_1 l0_1.length l0_1) (hc0_1 : l0_1.length ≤ c0_1) (h : ledger_Do.f k l0_0 l0_1 a1 a2_0 a2_1 a2_2 = some (r1, r2, r3)) :
  Calls Try.prog 12 #[.agg #[.slice A0_0 l0_0.length c0_0, .slice A0_1 l0_1.length c0_1], .string a1, .agg #[.int .i64 a2_0, .string a2_1, .int .i64 a2_2]] w fun e w' => ∃ v0_ v1_ : Value, e = .returned (.tuple #[.agg #[v0_, v1_], .int .i64 r3]) ∧ Kd.R k51 51 w' w.heap.size (fun _ => True) v0_ r1 ∧ Kd.R k64 64 w' w.heap.size (fun _ => True) v1_ r2 ∧ Below w.heap.size w w' := by
 have hu25 := Try.underlying25
 have hu27 := Try.underlying27
 have hu64 := Try.underlying64
 have hu71 := Try.underlying71
 have HR0_0 := My.am hr0_0
 have HC0_0 := My.am hc0_0
 clear hr0_0 hc0_0
 have HR0_1 := My.am hr0_1
 have HC0_1 := My.am hc0_1
 clear hr0_1 hc0_1
 have HB := My.am (Below.refl w.heap.size w)
 unfold ledger_Do.f at h
 have H := h
 clear h
 have HC4 := My.am H
 clear H
 go_enter Try.func12, Try.ntmps12
 go_upto_region 1 with (first | ((with_reducible refine gate_dst (N := 3) rfl ?_); refine My.bx 3 #[.slice A0_0 l0_0.length c0_0, .slice A0_1 l0_1.length c0_1] 25 ?_; intro gb244 hg w5 hbox hb; have BK244 := My.am (hbox); have GE244 := My.nge hg (My.bl_ HB); replace HB := My.st HB hb; clear hb hbox hg) | ((with_reducible refine gate_dst (N := 5) rfl ?_); refine My.bx 5 #[.int .i64 a2_0, .string a2_1, .int .i64 a2_2] 27 ?_; intro gb245 hg w6 hbox hb; have BK245 := My.am (hbox); have GE245 := My.nge hg (My.bl_ HB); replace HB := My.st HB hb; obtain ⟨NB244_245, NB245_244, BK244⟩ := My.nb hg hb BK244; clear hb hbox hg) | ((with_reducible refine gate_dst (N := 6) rfl ?_); refine My.bx 6 #[.slice none 0 0, .slice none 0 0] 25 ?_; intro gb246 hg w7 hbox hb; have BK246 := My.am (hbox); have GE246 := My.nge hg (My.bl_ HB); replace HB := My.st HB hb; obtain ⟨NB244_246, NB246_244, BK244⟩ := My.nb hg hb BK244; obtain ⟨NB245_246, NB246_245, BK245⟩ := My.nb hg hb BK245; clear hb hbox hg))
 repeat (go_quiet (first | ((with_reducible refine gate_dst (N := 3) rfl ?_); refine My.bx 3 #[.slice A0_0 l0_0.length c0_0, .slice A0_1 l0_1.length c0_1] 25 ?_; intro gb244 hg w5 hbox hb; have BK244 := My.am (hbox); have GE244 := My.nge hg (My.bl_ HB); replace HB := My.st HB hb; clear hb hbox hg) | ((with_reducible refine gate_dst (N := 5) rfl ?_); refine My.bx 5 #[.int .i64 a2_0, .string a2_1, .int .i64 a2_2] 27 ?_; intro gb245 hg w6 hbox hb; have BK245 := My.am (hbox); have GE245 := My.nge hg (My.bl_ HB); replace HB := My.st HB hb; obtain ⟨NB244_245, NB245_244, BK244⟩ := My.nb hg hb BK244; clear hb hbox hg) | ((with_reducible refine gate_dst (N := 6) rfl ?_); refine My.bx 6 #[.slice none 0 0, .slice none 0 0] 25 ?_; intro gb246 hg w7 hbox hb; have BK246 := My.am (hbox); have GE246 := My.nge hg (My.bl_ HB); replace HB := My.st HB hb; obtain ⟨NB244_246, NB246_244, BK244⟩ := My.nb hg hb BK244; obtain ⟨NB245_246, NB246_245, BK245⟩ := My.nb hg hb BK245; clear hb hbox hg)); go_upto_region 1 with (first | ((with_reducible refine gate_dst (N := 3) rfl ?_); refine My.bx 3 #[.slice A0_0 l0_0.length c0_0, .slice A0_1 l0_1.length c0_1] 25 ?_; intro gb244 hg w5 hbox hb; have BK244 := My.am (hbox); have GE244 := My.nge hg (My.bl_ HB); replace HB := My.st HB hb; clear hb hbox hg) | ((with_reducible refine gate_dst (N := 5) rfl ?_); refine My.bx 5 #[.int .i64 a2_0, .string a2_1, .int .i64 a2_2] 27 ?_; intro gb245 hg w6 hbox hb; have BK245 := My.am (hbox); have GE245 := My.nge hg (My.bl_ HB); replace HB := My.st HB hb; obtain ⟨NB244_245, NB245_244, BK244⟩ := My.nb hg hb BK244; clear hb hbox hg) | ((with_reducible refine gate_dst (N := 6) rfl ?_); refine My.bx 6 #[.slice none 0 0, .slice none 0 0] 25 ?_; intro gb246 hg w7 hbox hb; have BK246 := My.am (hbox); have GE246 := My.nge hg (My.bl_ HB); replace HB := My.st HB hb; obtain ⟨NB244_246, NB246_244, BK244⟩ := My.nb hg hb BK244; obtain ⟨NB245_246, NB246_245, BK245⟩ := My.nb hg hb BK245; clear hb hbox hg)))
 (try simp only [Act.put, List.setIfInBounds_toArray, List.set_cons_zero, List.set_cons_succ])
 go_cut [19] (fun v19 wc => ∃ (kq : Nat) (x19_3 : Bool), v19 = .bool x19_3 ∧ Aside0 (ledger_Do.j0 kq a1 x19_3 l0_0 l0_1 a2_0 a2_1 a2_2 = some (r1, r2, r3)) ∧ Aside0 (kq ≤ k) ∧ Aside0 (wc.heap[gb244]? = some (.cells #[(.slice A0_0 l0_0.length c0_0), (.slice A0_1 l0_1.length c0_1)] 25 (0, 0))) ∧ Aside0 (wc.heap[gb245]? = some (.cells #[.int .i64 a2_0, .string a2_1, .int .i64 a2_2] 27 (0, 0))) ∧ Aside0 (wc.heap[gb246]? = some (.cells #[(.slice none 0 0), (.slice none 0 0)] 25 (0, 0))) ∧ Aside0 (Below w.heap.size w wc))
 case first =>
  have H := HC4.out
  clear HC4
  replace H := Option.bind_eq_some_iff.mp H
  obtain ⟨t247, A80, H⟩ := H
  try dsimp only at H
  have A8 := My.am A80
  clear A80
  by_cases c9 : t247 = 0
  ·rw [if_pos c9] at H
   have c9b0 : (t247 == 0) = true := beq_iff_eq.mpr c9
   have c9b1 : (t247 != 0) = false := bne_eq_false_iff_eq.mpr c9
   clear c9
   (first | rw [c9b0] | (simp only [i64_w, i32_w]; rw [c9b0]) | skip)
   replace H := Option.bind_eq_some_iff.mp H
   obtain ⟨t248, A100, H⟩ := H
   try dsimp only at H
   have A10 := My.am A100
   clear A100
   have H' := My.am H
   clear H
   have hnb11 := NB244_245.out
   have hnc11 := NB245_244.out
   have hnb12 := NB244_246.out
   have hnc12 := NB246_244.out
   have hq13 := My.cz2 BK244
   go_wp2_with (first | (go_at_call 20; (with_reducible refine (ledger_May.calls k _ _ l0_0 _ _ l0_1 t247 _ ?side1 ?side2 ?side3 ?side4 A8.out).mono ?_); (case side1 => exact My.sd_ HR0_0 HB); (case side2 => exact HC0_0.out); (case side3 => exact My.sd_ HR0_1 HB); (case side4 => exact HC0_1.out); rintro e w14 ⟨rfl, hb⟩; replace BK244 := My.ab BK244 hb; replace BK245 := My.ab BK245 hb; replace BK246 := My.ab BK246 hb; replace HB := My.st HB hb; (try clear hb)) | (go_at_call 38; (with_reducible refine (ledger_key.calls a1 t248 _ A10.out).mono ?_); rintro e w' ⟨rfl, ⟨nd, rfl⟩⟩; (try first | exact ⟨rfl, _, World.drewN_drewN _ _ _⟩ | exact ⟨rfl, _, Eq.trans (World.drewN_drewN _ _ _) (congrArg (World.drewN _) (Nat.add_assoc _ _ _))⟩)))
   repeat (go_quiet (first | (go_at_call 20; (with_reducible refine (ledger_May.calls k _ _ l0_0 _ _ l0_1 t247 _ ?side1 ?side2 ?side3 ?side4 A8.out).mono ?_); (case side1 => exact My.sd_ HR0_0 HB); (case side2 => exact HC0_0.out); (case side3 => exact My.sd_ HR0_1 HB); (case side4 => exact HC0_1.out); rintro e w14 ⟨rfl, hb⟩; replace BK244 := My.ab BK244 hb; replace BK245 := My.ab BK245 hb; replace BK246 := My.ab BK246 hb; replace HB := My.st HB hb; (try clear hb)) | (go_at_call 38; (with_reducible refine (ledger_key.calls a1 t248 _ A10.out).mono ?_); rintro e w' ⟨rfl, ⟨nd, rfl⟩⟩; (try first | exact ⟨rfl, _, World.drewN_drewN _ _ _⟩ | exact ⟨rfl, _, Eq.trans (World.drewN_drewN _ _ _) (congrArg (World.drewN _) (Nat.add_assoc _ _ _))⟩))); try go_wp2_with (first | (go_at_call 20; (with_reducible refine (ledger_May.calls k _ _ l0_0 _ _ l0_1 t247 _ ?side1 ?side2 ?side3 ?side4 A8.out).mono ?_); (case side1 => exact My.sd_ HR0_0 HB); (case side2 => exact HC0_0.out); (case side3 => exact My.sd_ HR0_1 HB); (case side4 => exact HC0_1.out); rintro e w14 ⟨rfl, hb⟩; replace BK244 := My.ab BK244 hb; replace BK245 := My.ab BK245 hb; replace BK246 := My.ab BK246 hb; replace HB := My.st HB hb; (try clear hb)) | (go_at_call 38; (with_reducible refine (ledger_key.calls a1 t248 _ A10.out).mono ?_); rintro e w' ⟨rfl, ⟨nd, rfl⟩⟩; (try first | exact ⟨rfl, _, World.drewN_drewN _ _ _⟩ | exact ⟨rfl, _, Eq.trans (World.drewN_drewN _ _ _) (congrArg (World.drewN _) (Nat.add_assoc _ _ _))⟩))))
   go_meet
   case rel => exact ⟨_, (!t248), My.r1, H', ⟨My.r4⟩, ⟨(My.at_ BK244)⟩, ⟨(My.at_ BK245)⟩, ⟨(My.at_ BK246)⟩, ⟨(My.bl_ HB)⟩⟩
  ·rw [if_neg c9] at H
   have c9b0 : (t247 == 0) = false := beq_eq_false_iff_ne.mpr c9
   have c9b1 : (t247 != 0) = true := bne_iff_ne.mpr c9
   (first | rw [c9b0] | (simp only [i64_w, i32_w]; rw [c9b0]) | skip)
   have H' := My.am H
   clear H
   have hnb15 := NB244_245.out
   have hnc15 := NB245_244.out
   have hnb16 := NB244_246.out
   have hnc16 := NB246_244.out
   have hq17 := My.cz2 BK244
   go_wp2_with (first | (go_at_call 20; (with_reducible refine (ledger_May.calls k _ _ l0_0 _ _ l0_1 t247 _ ?side1 ?side2 ?side3 ?side4 A8.out).mono ?_); (case side1 => exact My.sd_ HR0_0 HB); (case side2 => exact HC0_0.out); (case side3 => exact My.sd_ HR0_1 HB); (case side4 => exact HC0_1.out); rintro e w18 ⟨rfl, hb⟩; replace BK244 := My.ab BK244 hb; replace BK245 := My.ab BK245 hb; replace BK246 := My.ab BK246 hb; replace HB := My.st HB hb; (try clear hb)))
   repeat (go_quiet (first | (go_at_call 20; (with_reducible refine (ledger_May.calls k _ _ l0_0 _ _ l0_1 t247 _ ?side1 ?side2 ?side3 ?side4 A8.out).mono ?_); (case side1 => exact My.sd_ HR0_0 HB); (case side2 => exact HC0_0.out); (case side3 => exact My.sd_ HR0_1 HB); (case side4 => exact HC0_1.out); rintro e w18 ⟨rfl, hb⟩; replace BK244 := My.ab BK244 hb; replace BK245 := My.ab BK245 hb; replace BK246 := My.ab BK246 hb; replace HB := My.st HB hb; (try clear hb))); try go_wp2_with (first | (go_at_call 20; (with_reducible refine (ledger_May.calls k _ _ l0_0 _ _ l0_1 t247 _ ?side1 ?side2 ?side3 ?side4 A8.out).mono ?_); (case side1 => exact My.sd_ HR0_0 HB); (case side2 => exact HC0_0.out); (case side3 => exact My.sd_ HR0_1 HB); (case side4 => exact HC0_1.out); rintro e w18 ⟨rfl, hb⟩; replace BK244 := My.ab BK244 hb; replace BK245 := My.ab BK245 hb; replace BK246 := My.ab BK246 hb; replace HB := My.st HB hb; (try clear hb))))
   go_meet
   case rel => exact ⟨_, (true), My.r1, H', ⟨My.r4⟩, ⟨(My.at_ BK244)⟩, ⟨(My.at_ BK245)⟩, ⟨(My.at_ BK246)⟩, ⟨(My.bl_ HB)⟩⟩
 case rest =>
  clear HC4
  obtain ⟨kq, x19_3, rfl, HA, HJ3, BK244, BK245, BK246, HB⟩ := hcut
  cases kq with
  | zero => exact absurd HA.out (by simp [ledger_Do.j0])
  | succ kj3 =>
   have H := HA.out
   clear HA
   simp only [ledger_Do.j0] at H
   by_cases c19 : x19_3 = true
   ·subst c19
    rw [if_pos rfl] at H
    simp only [Option.some.injEq, Prod.mk.injEq] at H
    obtain ⟨rfl, rfl, rfl⟩ := H
    have hnb20 := NB246_244.out
    have hnc20 := NB244_246.out
    have hnb21 := NB246_245.out
    have hnc21 := NB245_246.out
    have hq22 := My.cz2 BK246
    go_wp2
    repeat (go_quiet (fail); try go_wp2)
    refine bodyPost_ret (results_ct rfl _ _ gb246 25 #[.slice none 0 0, .slice none 0 0] (0, 0) _ rfl ((My.sv_ BK246)) Try.underlying25 rfl (by kernel_rfl)) rfl ?_
    exact ⟨_, _, My.r2, My.r3, My.r3, (My.bl_ HB)⟩
   replace c19 := Bool.eq_false_iff.mpr c19
   subst c19
   rw [if_neg (show ¬ (false = true) by decide)] at H
   replace H := Option.bind_eq_some_iff.mp H
   obtain ⟨t249, A230, H⟩ := H
   try dsimp only at H
   have A23 := My.am A230
   clear A230
   by_cases c24 : t249 = 0
   rotate_left
   ·rw [if_neg c24] at H
    have c24b0 : (t249 == 0) = false := beq_eq_false_iff_ne.mpr c24
    have c24b1 : (t249 != 0) = true := bne_iff_ne.mpr c24
    simp only [Option.some.injEq, Prod.mk.injEq] at H
    obtain ⟨rfl, rfl, rfl⟩ := H
    have hnb86 := NB245_244.out
    have hnc86 := NB244_245.out
    have hnb87 := NB245_246.out
    have hnc87 := NB246_245.out
    have hq88 := My.cz3 BK245
    go_wp2_with (first | (go_at_call 39; (with_reducible refine (act_Check.calls kj3 a2_0 a2_1 a2_2 t249 _ A23.out).mono ?_); rintro e w89 ⟨rfl, hb⟩; replace BK246 := My.ab BK246 hb; replace HB := My.st HB hb; (try clear hb); have hnb90 := NB246_244.out; have hnc90 := NB244_246.out; have hq91 := My.cz2 BK246))
    repeat (go_quiet (first | (go_at_call 39; (with_reducible refine (act_Check.calls kj3 a2_0 a2_1 a2_2 t249 _ A23.out).mono ?_); rintro e w89 ⟨rfl, hb⟩; replace BK246 := My.ab BK246 hb; replace HB := My.st HB hb; (try clear hb); have hnb90 := NB246_244.out; have hnc90 := NB244_246.out; have hq91 := My.cz2 BK246)); try go_wp2_with (first | (go_at_call 39; (with_reducible refine (act_Check.calls kj3 a2_0 a2_1 a2_2 t249 _ A23.out).mono ?_); rintro e w89 ⟨rfl, hb⟩; replace BK246 := My.ab BK246 hb; replace HB := My.st HB hb; (try clear hb); have hnb90 := NB246_244.out; have hnc90 := NB244_246.out; have hq91 := My.cz2 BK246)))
    refine bodyPost_ret (results_ct rfl _ _ gb246 25 #[.slice none 0 0, .slice none 0 0] (0, 0) _ rfl ((My.sv_ BK246)) Try.underlying25 rfl (by kernel_rfl)) rfl ?_
    exact ⟨_, _, My.r2, My.r3, My.r3, (My.bl_ HB)⟩

   rw [if_pos c24] at H
   have c24b0 : (t249 == 0) = true := beq_iff_eq.mpr c24
   have c24b1 : (t249 != 0) = false := bne_eq_false_iff_eq.mpr c24
   clear c24
   replace H := Option.bind_eq_some_iff.mp H
   obtain ⟨⟨t251, t252⟩, A250, H⟩ := H
   try dsimp only at H
   have A25 := My.am A250
   clear A250
   by_cases c26 : t252 = true
   rotate_left
   ·replace c26 := Bool.eq_false_iff.mpr c26
    subst c26
    rw [if_neg (show ¬ (false = true) by decide)] at H
    replace H := Option.bind_eq_some_iff.mp H
    obtain ⟨⟨t260, t263, t266⟩, A660, H⟩ := H
    try dsimp only at H
    have A66 := My.am A660
    clear A660
    simp only [Option.some.injEq, Prod.mk.injEq] at H
    obtain ⟨rfl, rfl, rfl⟩ := H
    have hnb67 := NB245_244.out
    have hnc67 := NB244_245.out
    have hnb68 := NB245_246.out
    have hnc68 := NB246_245.out
    have hq69 := My.cz3 BK245
    go_wp2_with (first | (go_at_call 39; (with_reducible refine (act_Check.calls kj3 a2_0 a2_1 a2_2 t249 _ A23.out).mono ?_); rintro e w70 ⟨rfl, hb⟩; replace BK244 := My.ab BK244 hb; replace BK245 := My.ab BK245 hb; replace BK246 := My.ab BK246 hb; replace HB := My.st HB hb; (try clear hb); have hq71 := My.cz3 BK245) | ((with_reducible refine gate_dst (N := 9) rfl ?_); refine My.bx 9 #[.string (⟨#[]⟩ : ByteArray), .int .i64 0, .string (⟨#[]⟩ : ByteArray), .int .i64 0, .int .i64 0] 64 ?_; intro gb250 hg w72 hbox hb; have BK250 := My.am (hbox); have GE250 := My.nge hg (My.bl_ HB); replace HB := My.st HB hb; obtain ⟨NB244_250, NB250_244, BK244⟩ := My.nb hg hb BK244; obtain ⟨NB245_250, NB250_245, BK245⟩ := My.nb hg hb BK245; obtain ⟨NB246_250, NB250_246, BK246⟩ := My.nb hg hb BK246; clear hb hbox hg; have hnb73 := NB250_244.out; have hnc73 := NB244_250.out; have hnb74 := NB250_245.out; have hnc74 := NB245_250.out; have hnb75 := NB250_246.out; have hnc75 := NB246_250.out; have hq76 := My.cz5 BK250; have hnb77 := NB244_246.out; have hnc77 := NB246_244.out; have hq78 := My.cz2 BK244) | (go_at_call 40; (with_reducible refine (ledger_book_mark.calls kj3 _ _ l0_0 _ _ l0_1 a1 t251 false _ ?side1 ?side2 ?side3 ?side4 A25.out).mono ?_); (case side1 => exact Kd.C_below HR0_0.out (My.bl_ HB)); (case side2 => exact HC0_0.out); (case side3 => exact Kd.C_below HR0_1.out (My.bl_ HB)); (case side4 => exact HC0_1.out); rintro e w79 ⟨rfl, hb⟩; replace BK244 := My.am (blk_below (g := gb244) (o := .cells #[.slice A0_0 l0_0.length c0_0, .slice A0_1 l0_1.length c0_1] 25 (0, 0)) ((My.sv_ BK244)) hb); replace BK245 := My.am (blk_below (g := gb245) (o := .cells #[.int .i64 a2_0, .string a2_1, .int .i64 a2_2] 27 (0, 0)) ((My.sv_ BK245)) hb); replace BK246 := My.am (blk_below (g := gb246) (o := .cells #[.slice none 0 0, .slice none 0 0] 25 (0, 0)) ((My.sv_ BK246)) hb); replace BK250 := My.am (blk_below (g := gb250) (o := .cells #[.string a1, .int .i64 a2_0, .string a2_1, .int .i64 a2_2, .int .i64 1] 64 (0, 0)) ((My.sv_ BK250)) hb); replace HB := My.st HB hb; (try clear hb); have hq80 := My.cz2 BK244; have hq81 := My.cz5 BK250) | (go_at_call 41; (with_reducible refine (ledger_changed_act_Do.calls kj3 _ _ l0_0 _ _ l0_1 a1 a2_0 a2_1 a2_2 1 0 t260 t263 t266 _ ?side1 ?side2 ?side3 ?side4 A66.out).mono ?_); (case side1 => exact My.sd_ HR0_0 HB); (case side2 => exact HC0_0.out); (case side3 => exact My.sd_ HR0_1 HB); (case side4 => exact HC0_1.out); rintro e w82 ⟨v261, v264, rfl, ho0, ho1, hb⟩; have HO262 := My.am (Kd.R_lower ho0 (below_size (My.bl_ HB))); have HO265 := My.am (Kd.R_lower (Kd.R_newB ho1 (My.at_ BK250)) (below_size (My.bl_ HB))); replace BK244 := My.ab BK244 hb; replace BK245 := My.ab BK245 hb; replace BK246 := My.ab BK246 hb; replace BK250 := My.ab BK250 hb; replace HB := My.st HB hb; (try clear hb); (try clear ho0); (try clear ho1); obtain ⟨Ao83, co83, eo83⟩ := Kd.R_slice HO262.out; subst eo83; have hq84 := My.cz2 BK246; obtain ⟨Ao85, co85, eo85⟩ := Kd.R_slice HO265.out; subst eo85))
    repeat (go_quiet (first | (go_at_call 39; (with_reducible refine (act_Check.calls kj3 a2_0 a2_1 a2_2 t249 _ A23.out).mono ?_); rintro e w70 ⟨rfl, hb⟩; replace BK244 := My.ab BK244 hb; replace BK245 := My.ab BK245 hb; replace BK246 := My.ab BK246 hb; replace HB := My.st HB hb; (try clear hb); have hq71 := My.cz3 BK245) | ((with_reducible refine gate_dst (N := 9) rfl ?_); refine My.bx 9 #[.string (⟨#[]⟩ : ByteArray), .int .i64 0, .string (⟨#[]⟩ : ByteArray), .int .i64 0, .int .i64 0] 64 ?_; intro gb250 hg w72 hbox hb; have BK250 := My.am (hbox); have GE250 := My.nge hg (My.bl_ HB); replace HB := My.st HB hb; obtain ⟨NB244_250, NB250_244, BK244⟩ := My.nb hg hb BK244; obtain ⟨NB245_250, NB250_245, BK245⟩ := My.nb hg hb BK245; obtain ⟨NB246_250, NB250_246, BK246⟩ := My.nb hg hb BK246; clear hb hbox hg; have hnb73 := NB250_244.out; have hnc73 := NB244_250.out; have hnb74 := NB250_245.out; have hnc74 := NB245_250.out; have hnb75 := NB250_246.out; have hnc75 := NB246_250.out; have hq76 := My.cz5 BK250; have hnb77 := NB244_246.out; have hnc77 := NB246_244.out; have hq78 := My.cz2 BK244) | (go_at_call 40; (with_reducible refine (ledger_book_mark.calls kj3 _ _ l0_0 _ _ l0_1 a1 t251 false _ ?side1 ?side2 ?side3 ?side4 A25.out).mono ?_); (case side1 => exact Kd.C_below HR0_0.out (My.bl_ HB)); (case side2 => exact HC0_0.out); (case side3 => exact Kd.C_below HR0_1.out (My.bl_ HB)); (case side4 => exact HC0_1.out); rintro e w79 ⟨rfl, hb⟩; replace BK244 := My.am (blk_below (g := gb244) (o := .cells #[.slice A0_0 l0_0.length c0_0, .slice A0_1 l0_1.length c0_1] 25 (0, 0)) ((My.sv_ BK244)) hb); replace BK245 := My.am (blk_below (g := gb245) (o := .cells #[.int .i64 a2_0, .string a2_1, .int .i64 a2_2] 27 (0, 0)) ((My.sv_ BK245)) hb); replace BK246 := My.am (blk_below (g := gb246) (o := .cells #[.slice none 0 0, .slice none 0 0] 25 (0, 0)) ((My.sv_ BK246)) hb); replace BK250 := My.am (blk_below (g := gb250) (o := .cells #[.string a1, .int .i64 a2_0, .string a2_1, .int .i64 a2_2, .int .i64 1] 64 (0, 0)) ((My.sv_ BK250)) hb); replace HB := My.st HB hb; (try clear hb); have hq80 := My.cz2 BK244; have hq81 := My.cz5 BK250) | (go_at_call 41; (with_reducible refine (ledger_changed_act_Do.calls kj3 _ _ l0_0 _ _ l0_1 a1 a2_0 a2_1 a2_2 1 0 t260 t263 t266 _ ?side1 ?side2 ?side3 ?side4 A66.out).mono ?_); (case side1 => exact My.sd_ HR0_0 HB); (case side2 => exact HC0_0.out); (case side3 => exact My.sd_ HR0_1 HB); (case side4 => exact HC0_1.out); rintro e w82 ⟨v261, v264, rfl, ho0, ho1, hb⟩; have HO262 := My.am (Kd.R_lower ho0 (below_size (My.bl_ HB))); have HO265 := My.am (Kd.R_lower (Kd.R_newB ho1 (My.at_ BK250)) (below_size (My.bl_ HB))); replace BK244 := My.ab BK244 hb; replace BK245 := My.ab BK245 hb; replace BK246 := My.ab BK246 hb; replace BK250 := My.ab BK250 hb; replace HB := My.st HB hb; (try clear hb); (try clear ho0); (try clear ho1); obtain ⟨Ao83, co83, eo83⟩ := Kd.R_slice HO262.out; subst eo83; have hq84 := My.cz2 BK246; obtain ⟨Ao85, co85, eo85⟩ := Kd.R_slice HO265.out; subst eo85)); try go_wp2_with (first | (go_at_call 39; (with_reducible refine (act_Check.calls kj3 a2_0 a2_1 a2_2 t249 _ A23.out).mono ?_); rintro e w70 ⟨rfl, hb⟩; replace BK244 := My.ab BK244 hb; replace BK245 := My.ab BK245 hb; replace BK246 := My.ab BK246 hb; replace HB := My.st HB hb; (try clear hb); have hq71 := My.cz3 BK245) | ((with_reducible refine gate_dst (N := 9) rfl ?_); refine My.bx 9 #[.string (⟨#[]⟩ : ByteArray), .int .i64 0, .string (⟨#[]⟩ : ByteArray), .int .i64 0, .int .i64 0] 64 ?_; intro gb250 hg w72 hbox hb; have BK250 := My.am (hbox); have GE250 := My.nge hg (My.bl_ HB); replace HB := My.st HB hb; obtain ⟨NB244_250, NB250_244, BK244⟩ := My.nb hg hb BK244; obtain ⟨NB245_250, NB250_245, BK245⟩ := My.nb hg hb BK245; obtain ⟨NB246_250, NB250_246, BK246⟩ := My.nb hg hb BK246; clear hb hbox hg; have hnb73 := NB250_244.out; have hnc73 := NB244_250.out; have hnb74 := NB250_245.out; have hnc74 := NB245_250.out; have hnb75 := NB250_246.out; have hnc75 := NB246_250.out; have hq76 := My.cz5 BK250; have hnb77 := NB244_246.out; have hnc77 := NB246_244.out; have hq78 := My.cz2 BK244) | (go_at_call 40; (with_reducible refine (ledger_book_mark.calls kj3 _ _ l0_0 _ _ l0_1 a1 t251 false _ ?side1 ?side2 ?side3 ?side4 A25.out).mono ?_); (case side1 => exact Kd.C_below HR0_0.out (My.bl_ HB)); (case side2 => exact HC0_0.out); (case side3 => exact Kd.C_below HR0_1.out (My.bl_ HB)); (case side4 => exact HC0_1.out); rintro e w79 ⟨rfl, hb⟩; replace BK244 := My.am (blk_below (g := gb244) (o := .cells #[.slice A0_0 l0_0.length c0_0, .slice A0_1 l0_1.length c0_1] 25 (0, 0)) ((My.sv_ BK244)) hb); replace BK245 := My.am (blk_below (g := gb245) (o := .cells #[.int .i64 a2_0, .string a2_1, .int .i64 a2_2] 27 (0, 0)) ((My.sv_ BK245)) hb); replace BK246 := My.am (blk_below (g := gb246) (o := .cells #[.slice none 0 0, .slice none 0 0] 25 (0, 0)) ((My.sv_ BK246)) hb); replace BK250 := My.am (blk_below (g := gb250) (o := .cells #[.string a1, .int .i64 a2_0, .string a2_1, .int .i64 a2_2, .int .i64 1] 64 (0, 0)) ((My.sv_ BK250)) hb); replace HB := My.st HB hb; (try clear hb); have hq80 := My.cz2 BK244; have hq81 := My.cz5 BK250) | (go_at_call 41; (with_reducible refine (ledger_changed_act_Do.calls kj3 _ _ l0_0 _ _ l0_1 a1 a2_0 a2_1 a2_2 1 0 t260 t263 t266 _ ?side1 ?side2 ?side3 ?side4 A66.out).mono ?_); (case side1 => exact My.sd_ HR0_0 HB); (case side2 => exact HC0_0.out); (case side3 => exact My.sd_ HR0_1 HB); (case side4 => exact HC0_1.out); rintro e w82 ⟨v261, v264, rfl, ho0, ho1, hb⟩; have HO262 := My.am (Kd.R_lower ho0 (below_size (My.bl_ HB))); have HO265 := My.am (Kd.R_lower (Kd.R_newB ho1 (My.at_ BK250)) (below_size (My.bl_ HB))); replace BK245 := My.ab BK245 hb; replace BK246 := My.ab BK246 hb; replace HB := My.st HB hb; (try clear hb); (try clear ho0); (try clear ho1); obtain ⟨Ao83, co83, eo83⟩ := Kd.R_slice HO262.out; subst eo83; have hq84 := My.cz2 BK246; obtain ⟨Ao85, co85, eo85⟩ := Kd.R_slice HO265.out; subst eo85)))
    refine bodyPost_ret (results_ct rfl _ _ gb246 25 #[.slice Ao83 t260.length co83, .slice Ao85 t263.length co85] (0, 0) _ rfl ((My.sv_ BK246)) Try.underlying25 rfl (by kernel_rfl)) rfl ?_
    exact ⟨_, _, My.r2, My.dR (Kd.R_mono (Kd.R_far (p := ⟨gb246, 1, none⟩) (Kd.R_far (p := ⟨gb246, 0, none⟩) (Kd.R_types HO262.out BK246.out (by decide)) (fun _ hk => hk.2) (.slice Ao83 t260.length co83)) (fun _ hk => hk.2) (.slice Ao85 t263.length co85)) (fun _ hk => trivial)), My.dR (Kd.R_mono (Kd.R_far (p := ⟨gb246, 1, none⟩) (Kd.R_far (p := ⟨gb246, 0, none⟩) (Kd.R_types HO265.out BK246.out (by decide)) (fun _ hk => hk.2) (.slice Ao83 t260.length co83)) (fun _ hk => hk.2) (.slice Ao85 t263.length co85)) (fun _ hk => trivial)), (My.bl_ HB)⟩
   subst c26
   rw [if_pos rfl] at H
   replace H := My.ds H
   obtain ⟨c27b0, H⟩ := H
   replace H := My.ds H
   obtain ⟨c28b0, H⟩ := H
   by_cases c29 : (!((((rd_T64 l0_1 t251).f0).toList) == a1.toList) || ((!(((rd_T64 l0_1 t251).f1.f0) == a2_0) || (!((((rd_T64 l0_1 t251).f1.f1).toList) == a2_1.toList) || (!(((rd_T64 l0_1 t251).f1.f2) == a2_2)))) || (!(((rd_T64 l0_1 t251).f2) == 1)))) = true
   ·rw [if_pos c29] at H
    have c29b0 : (!((((rd_T64 l0_1 t251).f0).toList) == a1.toList) || ((!(((rd_T64 l0_1 t251).f1.f0) == a2_0) || (!((((rd_T64 l0_1 t251).f1.f1).toList) == a2_1.toList) || (!(((rd_T64 l0_1 t251).f1.f2) == a2_2)))) || (!(((rd_T64 l0_1 t251).f2) == 1)))) = true := c29
    clear c29
    simp only [Option.some.injEq, Prod.mk.injEq] at H
    obtain ⟨rfl, rfl, rfl⟩ := H
    have hnb30 := NB245_244.out
    have hnc30 := NB244_245.out
    have hnb31 := NB245_246.out
    have hnc31 := NB246_245.out
    have hq32 := My.cz3 BK245
    go_wp2_with (first | (go_at_call 39; (with_reducible refine (act_Check.calls kj3 a2_0 a2_1 a2_2 t249 _ A23.out).mono ?_); rintro e w33 ⟨rfl, hb⟩; replace BK244 := My.ab BK244 hb; replace BK245 := My.ab BK245 hb; replace BK246 := My.ab BK246 hb; replace HB := My.st HB hb; (try clear hb); have hq34 := My.cz3 BK245) | ((with_reducible refine gate_dst (N := 9) rfl ?_); refine My.bx 9 #[.string (⟨#[]⟩ : ByteArray), .int .i64 0, .string (⟨#[]⟩ : ByteArray), .int .i64 0, .int .i64 0] 64 ?_; intro gb250 hg w35 hbox hb; have BK250 := My.am (hbox); have GE250 := My.nge hg (My.bl_ HB); replace HB := My.st HB hb; obtain ⟨NB244_250, NB250_244, BK244⟩ := My.nb hg hb BK244; obtain ⟨NB245_250, NB250_245, BK245⟩ := My.nb hg hb BK245; obtain ⟨NB246_250, NB250_246, BK246⟩ := My.nb hg hb BK246; clear hb hbox hg; have hnb36 := NB250_244.out; have hnc36 := NB244_250.out; have hnb37 := NB250_245.out; have hnc37 := NB245_250.out; have hnb38 := NB250_246.out; have hnc38 := NB246_250.out; have hq39 := My.cz5 BK250; have hnb40 := NB244_246.out; have hnc40 := NB246_244.out; have hq41 := My.cz2 BK244) | (go_at_call 40; (with_reducible refine (ledger_book_mark.calls kj3 _ _ l0_0 _ _ l0_1 a1 t251 true _ ?side1 ?side2 ?side3 ?side4 A25.out).mono ?_); (case side1 => exact Kd.C_below HR0_0.out (My.bl_ HB)); (case side2 => exact HC0_0.out); (case side3 => exact Kd.C_below HR0_1.out (My.bl_ HB)); (case side4 => exact HC0_1.out); rintro e w42 ⟨rfl, hb⟩; replace BK244 := My.am (blk_below (g := gb244) (o := .cells #[.slice A0_0 l0_0.length c0_0, .slice A0_1 l0_1.length c0_1] 25 (0, 0)) ((My.sv_ BK244)) hb); replace BK245 := My.am (blk_below (g := gb245) (o := .cells #[.int .i64 a2_0, .string a2_1, .int .i64 a2_2] 27 (0, 0)) ((My.sv_ BK245)) hb); replace BK246 := My.am (blk_below (g := gb246) (o := .cells #[.slice none 0 0, .slice none 0 0] 25 (0, 0)) ((My.sv_ BK246)) hb); replace BK250 := My.am (blk_below (g := gb250) (o := .cells #[.string a1, .int .i64 a2_0, .string a2_1, .int .i64 a2_2, .int .i64 1] 64 (0, 0)) ((My.sv_ BK250)) hb); replace HB := My.st HB hb; (try clear hb); have hq43 := My.cz2 BK244; have p253 : 0 ≤ (t251 : Int) := My.as_; have q253 : t251 < (l0_1.length : Int) := My.as_; obtain ⟨ad253, e253, hx253_0, hx253_1, hx253_2, hx253_3, hx253_4⟩ := My.up5 HB (at_T64 HR0_1.out t251 p253 q253); cases e253; replace p253 := eq_true p253; replace q253 := eq_true q253; have hq44 := My.cz5 BK250; have hq45 := My.cz2 BK246))
    repeat (go_quiet (first | (go_at_call 39; (with_reducible refine (act_Check.calls kj3 a2_0 a2_1 a2_2 t249 _ A23.out).mono ?_); rintro e w33 ⟨rfl, hb⟩; replace BK244 := My.ab BK244 hb; replace BK245 := My.ab BK245 hb; replace BK246 := My.ab BK246 hb; replace HB := My.st HB hb; (try clear hb); have hq34 := My.cz3 BK245) | ((with_reducible refine gate_dst (N := 9) rfl ?_); refine My.bx 9 #[.string (⟨#[]⟩ : ByteArray), .int .i64 0, .string (⟨#[]⟩ : ByteArray), .int .i64 0, .int .i64 0] 64 ?_; intro gb250 hg w35 hbox hb; have BK250 := My.am (hbox); have GE250 := My.nge hg (My.bl_ HB); replace HB := My.st HB hb; obtain ⟨NB244_250, NB250_244, BK244⟩ := My.nb hg hb BK244; obtain ⟨NB245_250, NB250_245, BK245⟩ := My.nb hg hb BK245; obtain ⟨NB246_250, NB250_246, BK246⟩ := My.nb hg hb BK246; clear hb hbox hg; have hnb36 := NB250_244.out; have hnc36 := NB244_250.out; have hnb37 := NB250_245.out; have hnc37 := NB245_250.out; have hnb38 := NB250_246.out; have hnc38 := NB246_250.out; have hq39 := My.cz5 BK250; have hnb40 := NB244_246.out; have hnc40 := NB246_244.out; have hq41 := My.cz2 BK244) | (go_at_call 40; (with_reducible refine (ledger_book_mark.calls kj3 _ _ l0_0 _ _ l0_1 a1 t251 true _ ?side1 ?side2 ?side3 ?side4 A25.out).mono ?_); (case side1 => exact Kd.C_below HR0_0.out (My.bl_ HB)); (case side2 => exact HC0_0.out); (case side3 => exact Kd.C_below HR0_1.out (My.bl_ HB)); (case side4 => exact HC0_1.out); rintro e w42 ⟨rfl, hb⟩; replace BK244 := My.am (blk_below (g := gb244) (o := .cells #[.slice A0_0 l0_0.length c0_0, .slice A0_1 l0_1.length c0_1] 25 (0, 0)) ((My.sv_ BK244)) hb); replace BK245 := My.am (blk_below (g := gb245) (o := .cells #[.int .i64 a2_0, .string a2_1, .int .i64 a2_2] 27 (0, 0)) ((My.sv_ BK245)) hb); replace BK246 := My.am (blk_below (g := gb246) (o := .cells #[.slice none 0 0, .slice none 0 0] 25 (0, 0)) ((My.sv_ BK246)) hb); replace BK250 := My.am (blk_below (g := gb250) (o := .cells #[.string a1, .int .i64 a2_0, .string a2_1, .int .i64 a2_2, .int .i64 1] 64 (0, 0)) ((My.sv_ BK250)) hb); replace HB := My.st HB hb; (try clear hb); have hq43 := My.cz2 BK244; have p253 : 0 ≤ (t251 : Int) := My.as_; have q253 : t251 < (l0_1.length : Int) := My.as_; obtain ⟨ad253, e253, hx253_0, hx253_1, hx253_2, hx253_3, hx253_4⟩ := My.up5 HB (at_T64 HR0_1.out t251 p253 q253); cases e253; replace p253 := eq_true p253; replace q253 := eq_true q253; have hq44 := My.cz5 BK250; have hq45 := My.cz2 BK246)); try go_wp2_with (first | (go_at_call 39; (with_reducible refine (act_Check.calls kj3 a2_0 a2_1 a2_2 t249 _ A23.out).mono ?_); rintro e w33 ⟨rfl, hb⟩; replace BK244 := My.ab BK244 hb; replace BK245 := My.ab BK245 hb; replace BK246 := My.ab BK246 hb; replace HB := My.st HB hb; (try clear hb); have hq34 := My.cz3 BK245) | ((with_reducible refine gate_dst (N := 9) rfl ?_); refine My.bx 9 #[.string (⟨#[]⟩ : ByteArray), .int .i64 0, .string (⟨#[]⟩ : ByteArray), .int .i64 0, .int .i64 0] 64 ?_; intro gb250 hg w35 hbox hb; have BK250 := My.am (hbox); have GE250 := My.nge hg (My.bl_ HB); replace HB := My.st HB hb; obtain ⟨NB244_250, NB250_244, BK244⟩ := My.nb hg hb BK244; obtain ⟨NB245_250, NB250_245, BK245⟩ := My.nb hg hb BK245; obtain ⟨NB246_250, NB250_246, BK246⟩ := My.nb hg hb BK246; clear hb hbox hg; have hnb36 := NB250_244.out; have hnc36 := NB244_250.out; have hnb37 := NB250_245.out; have hnc37 := NB245_250.out; have hnb38 := NB250_246.out; have hnc38 := NB246_250.out; have hq39 := My.cz5 BK250; have hnb40 := NB244_246.out; have hnc40 := NB246_244.out; have hq41 := My.cz2 BK244) | (go_at_call 40; (with_reducible refine (ledger_book_mark.calls kj3 _ _ l0_0 _ _ l0_1 a1 t251 true _ ?side1 ?side2 ?side3 ?side4 A25.out).mono ?_); (case side1 => exact Kd.C_below HR0_0.out (My.bl_ HB)); (case side2 => exact HC0_0.out); (case side3 => exact Kd.C_below HR0_1.out (My.bl_ HB)); (case side4 => exact HC0_1.out); rintro e w42 ⟨rfl, hb⟩; replace BK244 := My.am (blk_below (g := gb244) (o := .cells #[.slice A0_0 l0_0.length c0_0, .slice A0_1 l0_1.length c0_1] 25 (0, 0)) ((My.sv_ BK244)) hb); replace BK245 := My.am (blk_below (g := gb245) (o := .cells #[.int .i64 a2_0, .string a2_1, .int .i64 a2_2] 27 (0, 0)) ((My.sv_ BK245)) hb); replace BK246 := My.am (blk_below (g := gb246) (o := .cells #[.slice none 0 0, .slice none 0 0] 25 (0, 0)) ((My.sv_ BK246)) hb); replace BK250 := My.am (blk_below (g := gb250) (o := .cells #[.string a1, .int .i64 a2_0, .string a2_1, .int .i64 a2_2, .int .i64 1] 64 (0, 0)) ((My.sv_ BK250)) hb); replace HB := My.st HB hb; (try clear hb); have hq43 := My.cz2 BK244; have p253 : 0 ≤ (t251 : Int) := My.as_; have q253 : t251 < (l0_1.length : Int) := My.as_; obtain ⟨ad253, e253, hx253_0, hx253_1, hx253_2, hx253_3, hx253_4⟩ := My.up5 HB (at_T64 HR0_1.out t251 p253 q253); cases e253; replace p253 := eq_true p253; replace q253 := eq_true q253; have hq44 := My.cz5 BK250; have hq45 := My.cz2 BK246)))
    refine bodyPost_ret (results_ct rfl _ _ gb246 25 #[.slice none 0 0, .slice none 0 0] (0, 0) _ rfl ((My.sv_ BK246)) Try.underlying25 rfl (by kernel_rfl)) rfl ?_
    exact ⟨_, _, My.r2, My.r3, My.r3, (My.bl_ HB)⟩
   rw [if_neg c29] at H
   have c29b0 : (!((((rd_T64 l0_1 t251).f0).toList) == a1.toList) || ((!(((rd_T64 l0_1 t251).f1.f0) == a2_0) || (!((((rd_T64 l0_1 t251).f1.f1).toList) == a2_1.toList) || (!(((rd_T64 l0_1 t251).f1.f2) == a2_2)))) || (!(((rd_T64 l0_1 t251).f2) == 1)))) = false := by simpa using c29
   clear c29
   replace H := Option.bind_eq_some_iff.mp H
   obtain ⟨⟨t254, t257⟩, A460, H⟩ := H
   try dsimp only at H
   have A46 := My.am A460
   clear A460
   simp only [Option.some.injEq, Prod.mk.injEq] at H
   obtain ⟨rfl, rfl, rfl⟩ := H
   have hnb47 := NB245_244.out
   have hnc47 := NB244_245.out
   have hnb48 := NB245_246.out
   have hnc48 := NB246_245.out
   have hq49 := My.cz3 BK245
   go_wp2_with (first | (go_at_call 39; (with_reducible refine (act_Check.calls kj3 a2_0 a2_1 a2_2 t249 _ A23.out).mono ?_); rintro e w50 ⟨rfl, hb⟩; replace BK244 := My.ab BK244 hb; replace BK245 := My.ab BK245 hb; replace BK246 := My.ab BK246 hb; replace HB := My.st HB hb; (try clear hb); have hq51 := My.cz3 BK245) | ((with_reducible refine gate_dst (N := 9) rfl ?_); refine My.bx 9 #[.string (⟨#[]⟩ : ByteArray), .int .i64 0, .string (⟨#[]⟩ : ByteArray), .int .i64 0, .int .i64 0] 64 ?_; intro gb250 hg w52 hbox hb; have BK250 := My.am (hbox); have GE250 := My.nge hg (My.bl_ HB); replace HB := My.st HB hb; obtain ⟨NB244_250, NB250_244, BK244⟩ := My.nb hg hb BK244; obtain ⟨NB245_250, NB250_245, BK245⟩ := My.nb hg hb BK245; obtain ⟨NB246_250, NB250_246, BK246⟩ := My.nb hg hb BK246; clear hb hbox hg; have hnb53 := NB250_244.out; have hnc53 := NB244_250.out; have hnb54 := NB250_245.out; have hnc54 := NB245_250.out; have hnb55 := NB250_246.out; have hnc55 := NB246_250.out; have hq56 := My.cz5 BK250; have hnb57 := NB244_246.out; have hnc57 := NB246_244.out; have hq58 := My.cz2 BK244) | (go_at_call 40; (with_reducible refine (ledger_book_mark.calls kj3 _ _ l0_0 _ _ l0_1 a1 t251 true _ ?side1 ?side2 ?side3 ?side4 A25.out).mono ?_); (case side1 => exact Kd.C_below HR0_0.out (My.bl_ HB)); (case side2 => exact HC0_0.out); (case side3 => exact Kd.C_below HR0_1.out (My.bl_ HB)); (case side4 => exact HC0_1.out); rintro e w59 ⟨rfl, hb⟩; replace BK244 := My.am (blk_below (g := gb244) (o := .cells #[.slice A0_0 l0_0.length c0_0, .slice A0_1 l0_1.length c0_1] 25 (0, 0)) ((My.sv_ BK244)) hb); replace BK245 := My.am (blk_below (g := gb245) (o := .cells #[.int .i64 a2_0, .string a2_1, .int .i64 a2_2] 27 (0, 0)) ((My.sv_ BK245)) hb); replace BK246 := My.am (blk_below (g := gb246) (o := .cells #[.slice none 0 0, .slice none 0 0] 25 (0, 0)) ((My.sv_ BK246)) hb); replace BK250 := My.am (blk_below (g := gb250) (o := .cells #[.string a1, .int .i64 a2_0, .string a2_1, .int .i64 a2_2, .int .i64 1] 64 (0, 0)) ((My.sv_ BK250)) hb); replace HB := My.st HB hb; (try clear hb); have hq60 := My.cz2 BK244; have p253 : 0 ≤ (t251 : Int) := My.as_; have q253 : t251 < (l0_1.length : Int) := My.as_; obtain ⟨ad253, e253, hx253_0, hx253_1, hx253_2, hx253_3, hx253_4⟩ := My.up5 HB (at_T64 HR0_1.out t251 p253 q253); cases e253; replace p253 := eq_true p253; replace q253 := eq_true q253; have hq61 := My.cz5 BK250) | (go_at_call 33; (with_reducible refine (ledger_copied.calls _ _ l0_0 _ _ l0_1 t254 t257 _ ?side1 ?side2 ?side3 ?side4 A46.out).mono ?_); (case side1 => exact My.sd_ HR0_0 HB); (case side2 => exact HC0_0.out); (case side3 => exact My.sd_ HR0_1 HB); (case side4 => exact HC0_1.out); rintro e w62 ⟨v255, v258, rfl, ho0, ho1, hb⟩; have HO256 := My.am (Kd.R_lower ho0 (below_size (My.bl_ HB))); have HO259 := My.am (Kd.R_lower (Kd.R_newB ho1 (My.at_ BK250)) (below_size (My.bl_ HB))); replace BK244 := My.ab BK244 hb; replace BK245 := My.ab BK245 hb; replace BK246 := My.ab BK246 hb; replace BK250 := My.ab BK250 hb; replace HB := My.st HB hb; (try clear hb); (try clear ho0); (try clear ho1); obtain ⟨Ao63, co63, eo63⟩ := Kd.R_slice HO256.out; subst eo63; have hq64 := My.cz2 BK246; obtain ⟨Ao65, co65, eo65⟩ := Kd.R_slice HO259.out; subst eo65))
   repeat (go_quiet (first | (go_at_call 39; (with_reducible refine (act_Check.calls kj3 a2_0 a2_1 a2_2 t249 _ A23.out).mono ?_); rintro e w50 ⟨rfl, hb⟩; replace BK244 := My.ab BK244 hb; replace BK245 := My.ab BK245 hb; replace BK246 := My.ab BK246 hb; replace HB := My.st HB hb; (try clear hb); have hq51 := My.cz3 BK245) | ((with_reducible refine gate_dst (N := 9) rfl ?_); refine My.bx 9 #[.string (⟨#[]⟩ : ByteArray), .int .i64 0, .string (⟨#[]⟩ : ByteArray), .int .i64 0, .int .i64 0] 64 ?_; intro gb250 hg w52 hbox hb; have BK250 := My.am (hbox); have GE250 := My.nge hg (My.bl_ HB); replace HB := My.st HB hb; obtain ⟨NB244_250, NB250_244, BK244⟩ := My.nb hg hb BK244; obtain ⟨NB245_250, NB250_245, BK245⟩ := My.nb hg hb BK245; obtain ⟨NB246_250, NB250_246, BK246⟩ := My.nb hg hb BK246; clear hb hbox hg; have hnb53 := NB250_244.out; have hnc53 := NB244_250.out; have hnb54 := NB250_245.out; have hnc54 := NB245_250.out; have hnb55 := NB250_246.out; have hnc55 := NB246_250.out; have hq56 := My.cz5 BK250; have hnb57 := NB244_246.out; have hnc57 := NB246_244.out; have hq58 := My.cz2 BK244) | (go_at_call 40; (with_reducible refine (ledger_book_mark.calls kj3 _ _ l0_0 _ _ l0_1 a1 t251 true _ ?side1 ?side2 ?side3 ?side4 A25.out).mono ?_); (case side1 => exact Kd.C_below HR0_0.out (My.bl_ HB)); (case side2 => exact HC0_0.out); (case side3 => exact Kd.C_below HR0_1.out (My.bl_ HB)); (case side4 => exact HC0_1.out); rintro e w59 ⟨rfl, hb⟩; replace BK244 := My.am (blk_below (g := gb244) (o := .cells #[.slice A0_0 l0_0.length c0_0, .slice A0_1 l0_1.length c0_1] 25 (0, 0)) ((My.sv_ BK244)) hb); replace BK245 := My.am (blk_below (g := gb245) (o := .cells #[.int .i64 a2_0, .string a2_1, .int .i64 a2_2] 27 (0, 0)) ((My.sv_ BK245)) hb); replace BK246 := My.am (blk_below (g := gb246) (o := .cells #[.slice none 0 0, .slice none 0 0] 25 (0, 0)) ((My.sv_ BK246)) hb); replace BK250 := My.am (blk_below (g := gb250) (o := .cells #[.string a1, .int .i64 a2_0, .string a2_1, .int .i64 a2_2, .int .i64 1] 64 (0, 0)) ((My.sv_ BK250)) hb); replace HB := My.st HB hb; (try clear hb); have hq60 := My.cz2 BK244; have p253 : 0 ≤ (t251 : Int) := My.as_; have q253 : t251 < (l0_1.length : Int) := My.as_; obtain ⟨ad253, e253, hx253_0, hx253_1, hx253_2, hx253_3, hx253_4⟩ := My.up5 HB (at_T64 HR0_1.out t251 p253 q253); cases e253; replace p253 := eq_true p253; replace q253 := eq_true q253; have hq61 := My.cz5 BK250) | (go_at_call 33; (with_reducible refine (ledger_copied.calls _ _ l0_0 _ _ l0_1 t254 t257 _ ?side1 ?side2 ?side3 ?side4 A46.out).mono ?_); (case side1 => exact My.sd_ HR0_0 HB); (case side2 => exact HC0_0.out); (case side3 => exact My.sd_ HR0_1 HB); (case side4 => exact HC0_1.out); rintro e w62 ⟨v255, v258, rfl, ho0, ho1, hb⟩; have HO256 := My.am (Kd.R_lower ho0 (below_size (My.bl_ HB))); have HO259 := My.am (Kd.R_lower (Kd.R_newB ho1 (My.at_ BK250)) (below_size (My.bl_ HB))); replace BK244 := My.ab BK244 hb; replace BK245 := My.ab BK245 hb; replace BK246 := My.ab BK246 hb; replace BK250 := My.ab BK250 hb; replace HB := My.st HB hb; (try clear hb); (try clear ho0); (try clear ho1); obtain ⟨Ao63, co63, eo63⟩ := Kd.R_slice HO256.out; subst eo63; have hq64 := My.cz2 BK246; obtain ⟨Ao65, co65, eo65⟩ := Kd.R_slice HO259.out; subst eo65)); try go_wp2_with (first | (go_at_call 39; (with_reducible refine (act_Check.calls kj3 a2_0 a2_1 a2_2 t249 _ A23.out).mono ?_); rintro e w50 ⟨rfl, hb⟩; replace BK244 := My.ab BK244 hb; replace BK245 := My.ab BK245 hb; replace BK246 := My.ab BK246 hb; replace HB := My.st HB hb; (try clear hb); have hq51 := My.cz3 BK245) | ((with_reducible refine gate_dst (N := 9) rfl ?_); refine My.bx 9 #[.string (⟨#[]⟩ : ByteArray), .int .i64 0, .string (⟨#[]⟩ : ByteArray), .int .i64 0, .int .i64 0] 64 ?_; intro gb250 hg w52 hbox hb; have BK250 := My.am (hbox); have GE250 := My.nge hg (My.bl_ HB); replace HB := My.st HB hb; obtain ⟨NB244_250, NB250_244, BK244⟩ := My.nb hg hb BK244; obtain ⟨NB245_250, NB250_245, BK245⟩ := My.nb hg hb BK245; obtain ⟨NB246_250, NB250_246, BK246⟩ := My.nb hg hb BK246; clear hb hbox hg; have hnb53 := NB250_244.out; have hnc53 := NB244_250.out; have hnb54 := NB250_245.out; have hnc54 := NB245_250.out; have hnb55 := NB250_246.out; have hnc55 := NB246_250.out; have hq56 := My.cz5 BK250; have hnb57 := NB244_246.out; have hnc57 := NB246_244.out; have hq58 := My.cz2 BK244) | (go_at_call 40; (with_reducible refine (ledger_book_mark.calls kj3 _ _ l0_0 _ _ l0_1 a1 t251 true _ ?side1 ?side2 ?side3 ?side4 A25.out).mono ?_); (case side1 => exact Kd.C_below HR0_0.out (My.bl_ HB)); (case side2 => exact HC0_0.out); (case side3 => exact Kd.C_below HR0_1.out (My.bl_ HB)); (case side4 => exact HC0_1.out); rintro e w59 ⟨rfl, hb⟩; replace BK244 := My.am (blk_below (g := gb244) (o := .cells #[.slice A0_0 l0_0.length c0_0, .slice A0_1 l0_1.length c0_1] 25 (0, 0)) ((My.sv_ BK244)) hb); replace BK245 := My.am (blk_below (g := gb245) (o := .cells #[.int .i64 a2_0, .string a2_1, .int .i64 a2_2] 27 (0, 0)) ((My.sv_ BK245)) hb); replace BK246 := My.am (blk_below (g := gb246) (o := .cells #[.slice none 0 0, .slice none 0 0] 25 (0, 0)) ((My.sv_ BK246)) hb); replace BK250 := My.am (blk_below (g := gb250) (o := .cells #[.string a1, .int .i64 a2_0, .string a2_1, .int .i64 a2_2, .int .i64 1] 64 (0, 0)) ((My.sv_ BK250)) hb); replace HB := My.st HB hb; (try clear hb); have hq60 := My.cz2 BK244; have p253 : 0 ≤ (t251 : Int) := My.as_; have q253 : t251 < (l0_1.length : Int) := My.as_; obtain ⟨ad253, e253, hx253_0, hx253_1, hx253_2, hx253_3, hx253_4⟩ := My.up5 HB (at_T64 HR0_1.out t251 p253 q253); cases e253; replace p253 := eq_true p253; replace q253 := eq_true q253; have hq61 := My.cz5 BK250) | (go_at_call 33; (with_reducible refine (ledger_copied.calls _ _ l0_0 _ _ l0_1 t254 t257 _ ?side1 ?side2 ?side3 ?side4 A46.out).mono ?_); (case side1 => exact My.sd_ HR0_0 HB); (case side2 => exact HC0_0.out); (case side3 => exact My.sd_ HR0_1 HB); (case side4 => exact HC0_1.out); rintro e w62 ⟨v255, v258, rfl, ho0, ho1, hb⟩; have HO256 := My.am (Kd.R_lower ho0 (below_size (My.bl_ HB))); have HO259 := My.am (Kd.R_lower (Kd.R_newB ho1 (My.at_ BK250)) (below_size (My.bl_ HB))); replace BK244 := My.ab BK244 hb; replace BK245 := My.ab BK245 hb; replace BK246 := My.ab BK246 hb; replace BK250 := My.ab BK250 hb; replace HB := My.st HB hb; (try clear hb); (try clear ho0); (try clear ho1); obtain ⟨Ao63, co63, eo63⟩ := Kd.R_slice HO256.out; subst eo63; have hq64 := My.cz2 BK246; obtain ⟨Ao65, co65, eo65⟩ := Kd.R_slice HO259.out; subst eo65)))
   refine bodyPost_ret (results_ct rfl _ _ gb246 25 #[.slice Ao63 t254.length co63, .slice Ao65 t257.length co65] (0, 0) _ rfl ((My.sv_ BK246)) Try.underlying25 rfl (by kernel_rfl)) rfl ?_
   exact ⟨_, _, My.r2, My.dR (Kd.R_mono (Kd.R_far (p := ⟨gb246, 1, none⟩) (Kd.R_far (p := ⟨gb246, 0, none⟩) (Kd.R_types HO256.out BK246.out (by decide)) (fun _ hk => hk.2) (.slice Ao63 t254.length co63)) (fun _ hk => hk.2) (.slice Ao65 t257.length co65)) (fun _ hk => trivial)), My.dR (Kd.R_mono (Kd.R_far (p := ⟨gb246, 1, none⟩) (Kd.R_far (p := ⟨gb246, 0, none⟩) (Kd.R_types HO259.out BK246.out (by decide)) (fun _ hk => hk.2) (.slice Ao63 t254.length co63)) (fun _ hk => hk.2) (.slice Ao65 t257.length co65)) (fun _ hk => trivial)), (My.bl_ HB)⟩
/-! ### pot_Undo: function 74 -/
def pot_Undo.f (k : Nat) (a0_0 : Int) (a0_1 : Int) (a0_2 : Int) (a1 : Bool) (a2 : Int) : Option (Int × Int × Int × Int) := if a1 = true then ((pot_moved.f k a0_0 a0_1 a0_2 a2 a0_2 1 0 (-1)).bind fun bt269 => (some (bt269.1, bt269.2.1, bt269.2.2.1, bt269.2.2.2))) else ((pot_moved.f k a0_0 a0_1 a0_2 a2 a0_1 (-1) (-1) 0).bind fun bt273 => (some (bt273.1, bt273.2.1, bt273.2.2.1, bt273.2.2.2)))
theorem pot_Undo.mono : ∀ a0 a1 a2 a3 a4 k, LeO (pot_Undo.f k a0 a1 a2 a3 a4) (pot_Undo.f (k + 1) a0 a1 a2 a3 a4) := by
 intro a0 a1 a2 a3 a4 k
 unfold pot_Undo.f
 repeat' (with_reducible first | exact pot_moved.mono _ _ _ _ _ _ _ _ _ | exact LeO.refl _ | exact LeO.none _ | apply LeO.ite | refine LeO.bind ?_ (fun _ => ?_))
theorem pot_Undo.calls (k : Nat) (a0_0 : Int) (a0_1 : Int) (a0_2 : Int) (a1 : Bool) (a2 : Int) (r1 : Int) (r2 : Int) (r3 : Int) (r4 : Int) (w : World) (h : pot_Undo.f k a0_0 a0_1 a0_2 a1 a2 = some (r1, r2, r3, r4)) :
  Calls Try.prog 74 #[.agg #[.int .i64 a0_0, .int .i64 a0_1, .int .i64 a0_2], .bool a1, .int .i64 a2] w fun e w' => e = .returned (.tuple #[.agg #[.int .i64 r1, .int .i64 r2, .int .i64 r3], .int .i64 r4]) ∧ Below w.heap.size w w' := by
 have hu49 := Try.underlying49
 have HB := My.am (Below.refl w.heap.size w)
 unfold pot_Undo.f at h
 have H := h
 clear h
 by_cases c4 : a1 = true
 ·subst c4
  rw [if_pos rfl] at H
  replace H := Option.bind_eq_some_iff.mp H
  obtain ⟨⟨t269, t270, t271, t272⟩, A50, H⟩ := H
  try dsimp only at H
  have A5 := My.am A50
  clear A50
  simp only [Option.some.injEq, Prod.mk.injEq] at H
  obtain ⟨rfl, rfl, rfl, rfl⟩ := H
  go_enter Try.func74, Try.ntmps74
  go_wp2_with (first | ((with_reducible refine gate_dst (N := 3) rfl ?_); refine My.bx 3 #[.int .i64 a0_0, .int .i64 a0_1, .int .i64 a0_2] 49 ?_; intro gb267 hg w6 hbox hb; have BK267 := My.am (hbox); have GE267 := My.nge hg (My.bl_ HB); replace HB := My.st HB hb; clear hb hbox hg) | ((with_reducible refine gate_dst (N := 6) rfl ?_); refine My.bx 6 #[.int .i64 0, .int .i64 0, .int .i64 0] 49 ?_; intro gb268 hg w7 hbox hb; have BK268 := My.am (hbox); have GE268 := My.nge hg (My.bl_ HB); replace HB := My.st HB hb; obtain ⟨NB267_268, NB268_267, BK267⟩ := My.nb hg hb BK267; clear hb hbox hg; have hnb8 := NB267_268.out; have hnc8 := NB268_267.out; have hq9 := My.cz3 BK267) | ((with_reducible refine gate_callee (f := 85) rfl ?_); refine goesL_ (some 13) rfl rfl Try.func85 (by kernel_rfl) rfl #[.agg #[.int .i64 a0_0, .int .i64 a0_1, .int .i64 a0_2], .int .i64 a2, .int .i64 a0_2, .int .i64 1, .int .i64 0, .int .i64 (-1)] rfl My.gx ?_; (with_reducible refine (pot_moved.calls k a0_0 a0_1 a0_2 a2 a0_2 1 0 (-1) t269 t270 t271 t272 _ A5.out).mono ?_); rintro e w10 ⟨rfl, hb⟩; refine ⟨_, rfl, ?_⟩; replace BK267 := My.ab BK267 hb; replace BK268 := My.ab BK268 hb; replace HB := My.st HB hb; (try clear hb); have hq11 := My.cz3 BK268))
  refine bodyPost_ret (results_ct rfl _ _ gb268 49 #[.int .i64 t269, .int .i64 t270, .int .i64 t271] (0, 0) _ rfl ((My.sv_ BK268)) Try.underlying49 rfl (by kernel_rfl)) rfl ?_
  exact ⟨My.r2, (My.bl_ HB)⟩
 ·replace c4 := Bool.eq_false_iff.mpr c4
  subst c4
  rw [if_neg (show ¬ (false = true) by decide)] at H
  replace H := Option.bind_eq_some_iff.mp H
  obtain ⟨⟨t273, t274, t275, t276⟩, A120, H⟩ := H
  try dsimp only at H
  have A12 := My.am A120
  clear A120
  simp only [Option.some.injEq, Prod.mk.injEq] at H
  obtain ⟨rfl, rfl, rfl, rfl⟩ := H
  go_enter Try.func74, Try.ntmps74
  go_wp2_with (first | ((with_reducible refine gate_dst (N := 3) rfl ?_); refine My.bx 3 #[.int .i64 a0_0, .int .i64 a0_1, .int .i64 a0_2] 49 ?_; intro gb267 hg w13 hbox hb; have BK267 := My.am (hbox); have GE267 := My.nge hg (My.bl_ HB); replace HB := My.st HB hb; clear hb hbox hg) | ((with_reducible refine gate_dst (N := 6) rfl ?_); refine My.bx 6 #[.int .i64 0, .int .i64 0, .int .i64 0] 49 ?_; intro gb268 hg w14 hbox hb; have BK268 := My.am (hbox); have GE268 := My.nge hg (My.bl_ HB); replace HB := My.st HB hb; obtain ⟨NB267_268, NB268_267, BK267⟩ := My.nb hg hb BK267; clear hb hbox hg; have hnb15 := NB267_268.out; have hnc15 := NB268_267.out; have hq16 := My.cz3 BK267) | ((with_reducible refine gate_callee (f := 85) rfl ?_); refine goesL_ (some 20) rfl rfl Try.func85 (by kernel_rfl) rfl #[.agg #[.int .i64 a0_0, .int .i64 a0_1, .int .i64 a0_2], .int .i64 a2, .int .i64 a0_1, .int .i64 (-1), .int .i64 (-1), .int .i64 0] rfl My.gx ?_; (with_reducible refine (pot_moved.calls k a0_0 a0_1 a0_2 a2 a0_1 (-1) (-1) 0 t273 t274 t275 t276 _ A12.out).mono ?_); rintro e w17 ⟨rfl, hb⟩; refine ⟨_, rfl, ?_⟩; replace BK268 := My.ab BK268 hb; replace HB := My.st HB hb; (try clear hb); have hq18 := My.cz3 BK268))
  refine bodyPost_ret (results_ct rfl _ _ gb268 49 #[.int .i64 t273, .int .i64 t274, .int .i64 t275] (0, 0) _ rfl ((My.sv_ BK268)) Try.underlying49 rfl (by kernel_rfl)) rfl ?_
  exact ⟨My.r2, (My.bl_ HB)⟩

end Go.Proofs.Ytikanbdhpafbiaa.PO
