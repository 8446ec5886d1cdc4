-- Written by a program of this session (wip/tools/mp.py over the kit's printer); Lean checks it.
import Derived.Test.YtcgmoeiknkdljaaPAx0
import Derived.Test.YtcgmoeiknkdljaaPAx13
namespace Go.Proofs.Ytcgmoeiknkdljaa.PA
open Go.RowKit Go.Proofs.YtcgmoeiknkdljaaW.PrintWords Go.Proofs.YtcgmoeiknkdljaaW.PrintLast Go.Proofs.YtcgmoeiknkdljaaW.PrintMore
attribute [local go_sem] max2_int min2_int max_two min_two max_three min_three max_four min_four   -- for this text's walks alone
set_option linter.unusedVariables false
set_option maxHeartbeats 8000000
set_option maxRecDepth 100000
set_option linter.unusedSimpArgs false

/-! ### ententeref03_Same: function 44 -/
def ententeref03_Same.f (k : Nat) (a0_0 : Int) (a0_1 : Int) (l0_2 : List (S62)) (a1_0 : Int) (a1_1 : Int) (l1_2 : List (S62)) : Option (Bool) := (ententeref03_Cmp.f k a0_0 a0_1 l0_2 a1_0 a1_1 l1_2).bind fun t273 => (some (t273 == 0))
theorem ententeref03_Same.mono : ∀ a0 a1 a2 a3 a4 a5 k, LeO (ententeref03_Same.f k a0 a1 a2 a3 a4 a5) (ententeref03_Same.f (k + 1) a0 a1 a2 a3 a4 a5) := by
 intro a0 a1 a2 a3 a4 a5 k
 unfold ententeref03_Same.f
 repeat' (with_reducible first | exact ententeref03_Cmp.mono _ _ _ _ _ _ _ | exact LeO.refl _ | exact LeO.none _ | apply LeO.ite | refine LeO.bind ?_ (fun _ => ?_))
theorem ententeref03_Same.calls (k : Nat) (a0_0 : Int) (a0_1 : Int) (A0_2 : Option Addr) (c0_2 : Nat) (l0_2 : List (S62)) (a1_0 : Int) (a1_1 : Int) (A1_2 : Option Addr) (c1_2 : Nat) (l1_2 : List (S62)) (r : Bool) (w : World) (hr0_2 : Kd.C k62 w A0_2 l0_2.length l0_2) (hc0_2 : l0_2.length ≤ c0_2) (hr1_2 : Kd.C k62 w A1_2 l1_2.length l1_2) (hc1_2 : l1_2.length ≤ c1_2) (h : ententeref03_Same.f k a0_0 a0_1 l0_2 a1_0 a1_1 l1_2 = some r) :
  Calls Try.prog 44 #[.agg #[.int .i64 a0_0, .int .i64 a0_1, .slice A0_2 l0_2.length c0_2], .agg #[.int .i64 a1_0, .int .i64 a1_1, .slice A1_2 l1_2.length c1_2]] w fun e w' => e = .returned (.bool r) ∧ Below w.heap.size w w' := by
 have hu35 := Try.underlying35
 have HR0_2 := My.am hr0_2
 have HC0_2 := My.am hc0_2
 clear hr0_2 hc0_2
 have HR1_2 := My.am hr1_2
 have HC1_2 := My.am hc1_2
 clear hr1_2 hc1_2
 have HB := My.am (Below.refl w.heap.size w)
 unfold ententeref03_Same.f at h
 have H := h
 clear h
 replace H := Option.bind_eq_some_iff.mp H
 obtain ⟨t273, A30, H⟩ := H
 try dsimp only at H
 have A3 := My.am A30
 clear A30
 obtain rfl := Option.some.inj H
 go_enter Try.func44, Try.ntmps44
 go_wp2_with (first | ((with_reducible refine gate_dst (N := 2) rfl ?_); refine My.bx 2 #[.int .i64 a0_0, .int .i64 a0_1, .slice A0_2 l0_2.length c0_2] 35 ?_; intro gb271 hg w4 hbox hb; have BK271 := My.am (hbox); have GE271 := My.nge hg (My.bl_ HB); replace HB := My.st HB hb; clear hb hbox hg) | ((with_reducible refine gate_dst (N := 3) rfl ?_); refine My.bx 3 #[.int .i64 a1_0, .int .i64 a1_1, .slice A1_2 l1_2.length c1_2] 35 ?_; intro gb272 hg w5 hbox hb; have BK272 := My.am (hbox); have GE272 := My.nge hg (My.bl_ HB); replace HB := My.st HB hb; obtain ⟨NB271_272, NB272_271, BK271⟩ := My.nb hg hb BK271; clear hb hbox hg; have hnb6 := NB271_272.out; have hnc6 := NB272_271.out; have hq7 := My.cz3 BK271; have hq8 := My.cz3 BK272) | ((with_reducible refine gate_callee (f := 48) rfl ?_); refine goesL_ (some 7) rfl rfl Try.func48 (by kernel_rfl) rfl #[.agg #[.int .i64 a0_0, .int .i64 a0_1, .slice A0_2 l0_2.length c0_2], .agg #[.int .i64 a1_0, .int .i64 a1_1, .slice A1_2 l1_2.length c1_2]] rfl My.gx ?_; (with_reducible refine (ententeref03_Cmp.calls k a0_0 a0_1 _ _ l0_2 a1_0 a1_1 _ _ l1_2 t273 _ ?side1 ?side2 ?side3 ?side4 A3.out).mono ?_); (case side1 => exact My.sd_ HR0_2 HB); (case side2 => exact HC0_2.out); (case side3 => exact My.sd_ HR1_2 HB); (case side4 => exact HC1_2.out); rintro e w9 ⟨rfl, hb⟩; refine ⟨_, rfl, ?_⟩; replace HB := My.st HB hb; (try clear hb)))
 go_ret
 exact ⟨My.r2, (My.bl_ HB)⟩

/-! ### ententeref13_SameNote: function 31 -/
def ententeref13_SameNote.f (k : Nat) (a0_0 : Int) (a0_1 : Int) (a0_2 : Int) (l0_3 : List (S62)) (a0_4 : ByteArray) (a0_5 : Int) (a1_0 : Int) (a1_1 : Int) (a1_2 : Int) (l1_3 : List (S62)) (a1_4 : ByteArray) (a1_5 : Int) : Option (Bool) := if a0_0 = a1_0 then ((ententeref03_Same.f k a0_1 a0_2 l0_3 a1_1 a1_2 l1_3).bind fun t276 => (if t276 = true then (if a0_4.toList = a1_4.toList then (some (a0_5 == a1_5)) else (some false)) else (some false))) else (some false)
theorem ententeref13_SameNote.mono : ∀ a0 a1 a2 a3 a4 a5 a6 a7 a8 a9 a10 a11 k, LeO (ententeref13_SameNote.f k a0 a1 a2 a3 a4 a5 a6 a7 a8 a9 a10 a11) (ententeref13_SameNote.f (k + 1) a0 a1 a2 a3 a4 a5 a6 a7 a8 a9 a10 a11) := by
 intro a0 a1 a2 a3 a4 a5 a6 a7 a8 a9 a10 a11 k
 unfold ententeref13_SameNote.f
 repeat' (with_reducible first | exact ententeref03_Same.mono _ _ _ _ _ _ _ | exact LeO.refl _ | exact LeO.none _ | apply LeO.ite | refine LeO.bind ?_ (fun _ => ?_))
theorem ententeref13_SameNote.calls (k : Nat) (a0_0 : Int) (a0_1 : Int) (a0_2 : Int) (A0_3 : Option Addr) (c0_3 : Nat) (l0_3 : List (S62)) (a0_4 : ByteArray) (a0_5 : Int) (a1_0 : Int) (a1_1 : Int) (a1_2 : Int) (A1_3 : Option Addr) (c1_3 : Nat) (l1_3 : List (S62)) (a1_4 : ByteArray) (a1_5 : Int) (r : Bool) (w : World) (hr0_3 : Kd.C k62 w A0_3 l0_3.length l0_3) (hc0_3 : l0_3.length ≤ c0_3) (hr1_3 : Kd.C k62 w A1_3 l1_3.length l1_3) (hc1_3 : l1_3.length ≤ c1_3) (h : ententeref13_SameNote.f k a0_0 a0_1 a0_2 l0_3 a0_4 a0_5 a1_0 a1_1 a1_2 l1_3 a1_4 a1_5 = some r) :
  Calls Try.prog 31 #[.agg #[.int .i64 a0_0, .int .i64 a0_1, .int .i64 a0_2, .slice A0_3 l0_3.length c0_3, .string a0_4, .int .i64 a0_5], .agg #[.int .i64 a1_0, .int .i64 a1_1, .int .i64 a1_2, .slice A1_3 l1_3.length c1_3, .string a1_4, .int .i64 a1_5]] w fun e w' => e = .returned (.bool r) ∧ Below w.heap.size w w' := by
 have hu37 := Try.underlying37
 have hu35 := Try.underlying35
 have HR0_3 := My.am hr0_3
 have HC0_3 := My.am hc0_3
 clear hr0_3 hc0_3
 have HR1_3 := My.am hr1_3
 have HC1_3 := My.am hc1_3
 clear hr1_3 hc1_3
 have HB := My.am (Below.refl w.heap.size w)
 unfold ententeref13_SameNote.f at h
 have H := h
 clear h
 by_cases c3 : a0_0 = a1_0
 ·rw [if_pos c3] at H
  have c3b0 : (a0_0 == a1_0) = true := beq_iff_eq.mpr c3
  have c3b1 : (a0_0 != a1_0) = false := bne_eq_false_iff_eq.mpr c3
  clear c3
  replace H := Option.bind_eq_some_iff.mp H
  obtain ⟨t276, A40, H⟩ := H
  try dsimp only at H
  have A4 := My.am A40
  clear A40
  by_cases c5 : t276 = true
  ·subst c5
   rw [if_pos rfl] at H
   by_cases c6 : a0_4.toList = a1_4.toList
   ·rw [if_pos c6] at H
    have c6b0 : (a0_4.toList == a1_4.toList) = true := beq_iff_eq.mpr c6
    have c6b1 : (a0_4.toList != a1_4.toList) = false := bne_eq_false_iff_eq.mpr c6
    clear c6
    obtain rfl := Option.some.inj H
    go_enter Try.func31, Try.ntmps31
    go_wp2_with (first | ((with_reducible refine gate_dst (N := 2) rfl ?_); refine My.bx 2 #[.int .i64 a0_0, .int .i64 a0_1, .int .i64 a0_2, .slice A0_3 l0_3.length c0_3, .string a0_4, .int .i64 a0_5] 37 ?_; intro gb274 hg w7 hbox hb; have BK274 := My.am (hbox); have GE274 := My.nge hg (My.bl_ HB); replace HB := My.st HB hb; clear hb hbox hg) | ((with_reducible refine gate_dst (N := 3) rfl ?_); refine My.bx 3 #[.int .i64 a1_0, .int .i64 a1_1, .int .i64 a1_2, .slice A1_3 l1_3.length c1_3, .string a1_4, .int .i64 a1_5] 37 ?_; intro gb275 hg w8 hbox hb; have BK275 := My.am (hbox); have GE275 := My.nge hg (My.bl_ HB); replace HB := My.st HB hb; obtain ⟨NB274_275, NB275_274, BK274⟩ := My.nb hg hb BK274; clear hb hbox hg; have hnb9 := NB274_275.out; have hnc9 := NB275_274.out; have hq10 := My.cz6 BK274; have hq11 := My.cz6 BK275) | (go_at_call 44; (with_reducible refine (ententeref03_Same.calls k a0_1 a0_2 _ _ l0_3 a1_1 a1_2 _ _ l1_3 true _ ?side1 ?side2 ?side3 ?side4 A4.out).mono ?_); (case side1 => exact My.sd_ HR0_3 HB); (case side2 => exact HC0_3.out); (case side3 => exact My.sd_ HR1_3 HB); (case side4 => exact HC1_3.out); rintro e w12 ⟨rfl, hb⟩; replace BK274 := My.ab BK274 hb; replace BK275 := My.ab BK275 hb; replace HB := My.st HB hb; (try clear hb); have hq13 := My.cz6 BK274; have hq14 := My.cz6 BK275))
    go_ret
    exact ⟨My.r2, (My.bl_ HB)⟩
   rw [if_neg c6] at H
   have c6b0 : (a0_4.toList == a1_4.toList) = false := beq_eq_false_iff_ne.mpr c6
   have c6b1 : (a0_4.toList != a1_4.toList) = true := bne_iff_ne.mpr c6
   obtain rfl := Option.some.inj H
   go_enter Try.func31, Try.ntmps31
   go_wp2_with (first | ((with_reducible refine gate_dst (N := 2) rfl ?_); refine My.bx 2 #[.int .i64 a0_0, .int .i64 a0_1, .int .i64 a0_2, .slice A0_3 l0_3.length c0_3, .string a0_4, .int .i64 a0_5] 37 ?_; intro gb274 hg w15 hbox hb; have BK274 := My.am (hbox); have GE274 := My.nge hg (My.bl_ HB); replace HB := My.st HB hb; clear hb hbox hg) | ((with_reducible refine gate_dst (N := 3) rfl ?_); refine My.bx 3 #[.int .i64 a1_0, .int .i64 a1_1, .int .i64 a1_2, .slice A1_3 l1_3.length c1_3, .string a1_4, .int .i64 a1_5] 37 ?_; intro gb275 hg w16 hbox hb; have BK275 := My.am (hbox); have GE275 := My.nge hg (My.bl_ HB); replace HB := My.st HB hb; obtain ⟨NB274_275, NB275_274, BK274⟩ := My.nb hg hb BK274; clear hb hbox hg; have hnb17 := NB274_275.out; have hnc17 := NB275_274.out; have hq18 := My.cz6 BK274; have hq19 := My.cz6 BK275) | (go_at_call 44; (with_reducible refine (ententeref03_Same.calls k a0_1 a0_2 _ _ l0_3 a1_1 a1_2 _ _ l1_3 true _ ?side1 ?side2 ?side3 ?side4 A4.out).mono ?_); (case side1 => exact My.sd_ HR0_3 HB); (case side2 => exact HC0_3.out); (case side3 => exact My.sd_ HR1_3 HB); (case side4 => exact HC1_3.out); rintro e w20 ⟨rfl, hb⟩; replace BK274 := My.ab BK274 hb; replace BK275 := My.ab BK275 hb; replace HB := My.st HB hb; (try clear hb); have hq21 := My.cz6 BK274; have hq22 := My.cz6 BK275))
   go_ret
   exact ⟨My.r2, (My.bl_ HB)⟩
  ·replace c5 := Bool.eq_false_iff.mpr c5
   subst c5
   rw [if_neg (show ¬ (false = true) by decide)] at H
   obtain rfl := Option.some.inj H
   go_enter Try.func31, Try.ntmps31
   go_wp2_with (first | ((with_reducible refine gate_dst (N := 2) rfl ?_); refine My.bx 2 #[.int .i64 a0_0, .int .i64 a0_1, .int .i64 a0_2, .slice A0_3 l0_3.length c0_3, .string a0_4, .int .i64 a0_5] 37 ?_; intro gb274 hg w23 hbox hb; have BK274 := My.am (hbox); have GE274 := My.nge hg (My.bl_ HB); replace HB := My.st HB hb; clear hb hbox hg) | ((with_reducible refine gate_dst (N := 3) rfl ?_); refine My.bx 3 #[.int .i64 a1_0, .int .i64 a1_1, .int .i64 a1_2, .slice A1_3 l1_3.length c1_3, .string a1_4, .int .i64 a1_5] 37 ?_; intro gb275 hg w24 hbox hb; have BK275 := My.am (hbox); have GE275 := My.nge hg (My.bl_ HB); replace HB := My.st HB hb; obtain ⟨NB274_275, NB275_274, BK274⟩ := My.nb hg hb BK274; clear hb hbox hg; have hnb25 := NB274_275.out; have hnc25 := NB275_274.out; have hq26 := My.cz6 BK274; have hq27 := My.cz6 BK275) | (go_at_call 44; (with_reducible refine (ententeref03_Same.calls k a0_1 a0_2 _ _ l0_3 a1_1 a1_2 _ _ l1_3 false _ ?side1 ?side2 ?side3 ?side4 A4.out).mono ?_); (case side1 => exact My.sd_ HR0_3 HB); (case side2 => exact HC0_3.out); (case side3 => exact My.sd_ HR1_3 HB); (case side4 => exact HC1_3.out); rintro e w28 ⟨rfl, hb⟩; replace BK274 := My.ab BK274 hb; replace BK275 := My.ab BK275 hb; replace HB := My.st HB hb; (try clear hb)))
   go_ret
   exact ⟨My.r2, (My.bl_ HB)⟩
 ·rw [if_neg c3] at H
  have c3b0 : (a0_0 == a1_0) = false := beq_eq_false_iff_ne.mpr c3
  have c3b1 : (a0_0 != a1_0) = true := bne_iff_ne.mpr c3
  obtain rfl := Option.some.inj H
  go_enter Try.func31, Try.ntmps31
  go_wp2_with (first | ((with_reducible refine gate_dst (N := 2) rfl ?_); refine My.bx 2 #[.int .i64 a0_0, .int .i64 a0_1, .int .i64 a0_2, .slice A0_3 l0_3.length c0_3, .string a0_4, .int .i64 a0_5] 37 ?_; intro gb274 hg w29 hbox hb; have BK274 := My.am (hbox); have GE274 := My.nge hg (My.bl_ HB); replace HB := My.st HB hb; clear hb hbox hg) | ((with_reducible refine gate_dst (N := 3) rfl ?_); refine My.bx 3 #[.int .i64 a1_0, .int .i64 a1_1, .int .i64 a1_2, .slice A1_3 l1_3.length c1_3, .string a1_4, .int .i64 a1_5] 37 ?_; intro gb275 hg w30 hbox hb; have BK275 := My.am (hbox); have GE275 := My.nge hg (My.bl_ HB); replace HB := My.st HB hb; obtain ⟨NB274_275, NB275_274, BK274⟩ := My.nb hg hb BK274; clear hb hbox hg; have hnb31 := NB274_275.out; have hnc31 := NB275_274.out; have hq32 := My.cz6 BK274; have hq33 := My.cz6 BK275))
  go_ret
  exact ⟨My.r2, (My.bl_ HB)⟩

/-! ### ententeref19_among: function 30 -/
def ententeref19_among.l0 : Nat → List (S46) → Int → Int → Int → Int → List (S62) → ByteArray → Int → Option (Bool)
 | 0, _, _, _, _, _, _, _, _ => none
 | k + 1, x0, x5, x278000, x278001, x278002, x278003, x278004, x278005 => if x5 < (x0.length : Int) then (if 0 ≤ x5 then ((ententeref13_SameNote.f k ((rd_T46 x0 x5).f3.f0) ((rd_T46 x0 x5).f3.f1.f0) ((rd_T46 x0 x5).f3.f1.f1) ((rd_T46 x0 x5).f3.f1.f2) ((rd_T46 x0 x5).f3.f2) ((rd_T46 x0 x5).f3.f3) x278000 x278001 x278002 x278003 x278004 x278005).bind fun t279 => (if t279 = true then (some true) else (ententeref19_among.l0 k x0 (wrap64 (x5 + 1)) x278000 x278001 x278002 x278003 x278004 x278005))) else (none)) else (some false)
def ententeref19_among.f (k : Nat) (l0 : List (S46)) (a1_0 : Int) (a1_1 : Int) (a1_2 : Int) (l1_3 : List (S62)) (a1_4 : ByteArray) (a1_5 : Int) : Option (Bool) := ententeref19_among.l0 k l0 0 a1_0 a1_1 a1_2 l1_3 a1_4 a1_5
theorem ententeref19_among.mono_l : ∀ k, (∀ y0 y1 y2 y3 y4 y5 y6 y7, LeO (ententeref19_among.l0 k y0 y1 y2 y3 y4 y5 y6 y7) (ententeref19_among.l0 (k + 1) y0 y1 y2 y3 y4 y5 y6 y7))
 | 0 => fun _ _ _ _ _ _ _ _ r h => by simp [ententeref19_among.l0] at h
 | k + 1 => by
  have ih0 := ententeref19_among.mono_l k
  intro y0 y1 y2 y3 y4 y5 y6 y7
  unfold ententeref19_among.l0
  repeat' (with_reducible first | exact ih0 _ _ _ _ _ _ _ _ | exact ententeref13_SameNote.mono _ _ _ _ _ _ _ _ _ _ _ _ _ | exact LeO.refl _ | exact LeO.none _ | apply LeO.ite | refine LeO.bind ?_ (fun _ => ?_))
theorem ententeref19_among.mono : ∀ a0 a1 a2 a3 a4 a5 a6 k, LeO (ententeref19_among.f k a0 a1 a2 a3 a4 a5 a6) (ententeref19_among.f (k + 1) a0 a1 a2 a3 a4 a5 a6) := by
 intro a0 a1 a2 a3 a4 a5 a6 k
 have ih0 := ententeref19_among.mono_l k
 unfold ententeref19_among.f
 repeat' (with_reducible first | exact ih0 _ _ _ _ _ _ _ _ | exact ententeref13_SameNote.mono _ _ _ _ _ _ _ _ _ _ _ _ _ | exact LeO.refl _ | exact LeO.none _ | apply LeO.ite | refine LeO.bind ?_ (fun _ => ?_))
theorem ententeref19_among.calls (k : Nat) (A0 : Option Addr) (c0 : Nat) (l0 : List (S46)) (a1_0 : Int) (a1_1 : Int) (a1_2 : Int) (A1_3 : Option Addr) (c1_3 : Nat) (l1_3 : List (S62)) (a1_4 : ByteArray) (a1_5 : Int) (r : Bool) (w : World) (hr0 : Kd.C k46 w A0 l0.length l0) (hc0 : l0.length ≤ c0) (hr1_3 : Kd.C k62 w A1_3 l1_3.length l1_3) (hc1_3 : l1_3.length ≤ c1_3) (h : ententeref19_among.f k l0 a1_0 a1_1 a1_2 l1_3 a1_4 a1_5 = some r) :
  Calls Try.prog 30 #[.slice A0 l0.length c0, .agg #[.int .i64 a1_0, .int .i64 a1_1, .int .i64 a1_2, .slice A1_3 l1_3.length c1_3, .string a1_4, .int .i64 a1_5]] w fun e w' => e = .returned (.bool r) ∧ Below w.heap.size w w' := by
 have hu37 := Try.underlying37
 have HR0 := My.am hr0
 have HC0 := My.am hc0
 clear hr0 hc0
 have HR1_3 := My.am hr1_3
 have HC1_3 := My.am hc1_3
 clear hr1_3 hc1_3
 have HB := My.am (Below.refl w.heap.size w)
 unfold ententeref19_among.f at h
 have H := h
 clear h
 have H' := My.am H
 clear H
 go_enter Try.func30, Try.ntmps30
 go_wp2_with (first | ((with_reducible refine gate_dst (N := 3) rfl ?_); refine My.bx 3 #[.int .i64 a1_0, .int .i64 a1_1, .int .i64 a1_2, .slice A1_3 l1_3.length c1_3, .string a1_4, .int .i64 a1_5] 37 ?_; intro gb277 hg w3 hbox hb; have BK277 := My.am (hbox); have GE277 := My.nge hg (My.bl_ HB); replace HB := My.st HB hb; clear hb hbox hg))
 go_loopg [5] k (fun kq v5 w' => ∃ (x5_1 : Int), v5 = .int .i64 x5_1 ∧ Aside0 (ententeref19_among.l0 kq l0 x5_1 a1_0 a1_1 a1_2 l1_3 a1_4 a1_5 = some r) ∧ Aside0 (kq ≤ k) ∧ Aside0 (w'.heap[gb277]? = some (.cells #[.int .i64 a1_0, .int .i64 a1_1, .int .i64 a1_2, (.slice A1_3 l1_3.length c1_3), .string a1_4, .int .i64 a1_5] 37 (0, 0))) ∧ Aside0 (Below w.heap.size w w'))
 case atStart => exact ⟨(0), My.r1, H', ⟨Nat.le_refl _⟩, ⟨(My.at_ BK277)⟩, ⟨(My.bl_ HB)⟩⟩
 case round =>
  clear H'
  obtain ⟨x5_1, rfl, HA, HK1, BK277, HB⟩ := hrel
  cases gk with
  | zero => exact absurd HA.out (by simp [ententeref19_among.l0])
  | succ k1 =>
   have H := HA.out
   clear HA
   simp only [ententeref19_among.l0] at H
   by_cases c4 : x5_1 < (l0.length : Int)
   rotate_left
   ·rw [if_neg c4] at H
    have c4b0 := decide_eq_false c4
    clear c4
    obtain rfl := Option.some.inj H
    go_wp2
    go_ret
    exact ⟨My.r2, (My.bl_ HB)⟩

   rw [if_pos c4] at H
   have c4b0 := decide_eq_true c4
   clear c4
   replace H := My.ds H
   obtain ⟨c5b0, H⟩ := H
   replace H := Option.bind_eq_some_iff.mp H
   obtain ⟨t279, A60, H⟩ := H
   try dsimp only at H
   have A6 := My.am A60
   clear A60
   by_cases c7 : t279 = true
   ·subst c7
    rw [if_pos rfl] at H
    obtain rfl := Option.some.inj H
    try go_wp2
    replace BK277 := My.am (blk_drew BK277.out)
    replace HB := My.am (below_drew1 HB.out)
    have p278 : 0 ≤ (x5_1 : Int) := My.as_
    have q278 : x5_1 < (l0.length : Int) := My.as_
    obtain ⟨ad278, A278_6, c278_6, e278, hx278_0, hx278_1, hx278_2, hx278_3, hx278_4, hx278_5, hx278_6, hx278_7, hx278_8, hl278_6, hi278_6⟩ := at_T46 HR0.out x5_1 p278 q278
    have hw278_8 := hx278_8
    have hw278_7 := hx278_7
    have hw278_6 := hx278_6
    have hw278_5 := hx278_5
    have hw278_4 := hx278_4
    have hw278_3 := hx278_3
    have hw278_2 := hx278_2
    have hw278_1 := hx278_1
    have hw278_0 := hx278_0
    cases e278
    replace hx278_0 := My.up HB hx278_0
    replace hx278_1 := My.up HB hx278_1
    replace hx278_2 := My.up HB hx278_2
    replace hx278_3 := My.up HB hx278_3
    replace hx278_4 := My.up HB hx278_4
    replace hx278_5 := My.up HB hx278_5
    replace hx278_6 := My.up HB hx278_6
    replace hx278_7 := My.up HB hx278_7
    replace hx278_8 := My.up HB hx278_8
    have HR278_6 := My.am hi278_6
    have HC278_6 := My.am hl278_6
    clear hi278_6 hl278_6
    replace p278 := eq_true p278
    replace q278 := eq_true q278
    refine start_ (n := 7) (S := fun w' => w'.cell? ⟨gb277, 0, none⟩ = some (.int .i64 a1_0) ∧ w'.cell? ⟨gb277, 1, none⟩ = some (.int .i64 a1_1) ∧ w'.cell? ⟨gb277, 2, none⟩ = some (.int .i64 a1_2) ∧ w'.cell? ⟨gb277, 3, none⟩ = some (.slice A1_3 l1_3.length c1_3) ∧ w'.cell? ⟨gb277, 4, none⟩ = some (.string a1_4) ∧ w'.cell? ⟨gb277, 5, none⟩ = some (.int .i64 a1_5) ∧ w'.cell? (ad278.add ((x5_1).toNat * 9)) = some (.int .i64 ((rd_T46 l0 x5_1).f0)) ∧ w'.cell? ⟨(ad278.add ((x5_1).toNat * 9)).block, (ad278.add ((x5_1).toNat * 9)).off + 1, none⟩ = some (.int .i64 ((rd_T46 l0 x5_1).f1)) ∧ w'.cell? ⟨(ad278.add ((x5_1).toNat * 9)).block, (ad278.add ((x5_1).toNat * 9)).off + 2, none⟩ = some (.int .i64 ((rd_T46 l0 x5_1).f2)) ∧ w'.cell? ⟨(ad278.add ((x5_1).toNat * 9)).block, (ad278.add ((x5_1).toNat * 9)).off + 3, none⟩ = some (.int .i64 ((rd_T46 l0 x5_1).f3.f0)) ∧ w'.cell? ⟨(ad278.add ((x5_1).toNat * 9)).block, (ad278.add ((x5_1).toNat * 9)).off + 4, none⟩ = some (.int .i64 ((rd_T46 l0 x5_1).f3.f1.f0)) ∧ w'.cell? ⟨(ad278.add ((x5_1).toNat * 9)).block, (ad278.add ((x5_1).toNat * 9)).off + 5, none⟩ = some (.int .i64 ((rd_T46 l0 x5_1).f3.f1.f1)) ∧ w'.cell? ⟨(ad278.add ((x5_1).toNat * 9)).block, (ad278.add ((x5_1).toNat * 9)).off + 6, none⟩ = some (.slice A278_6 ((rd_T46 l0 x5_1).f3.f1.f2).length c278_6) ∧ w'.cell? ⟨(ad278.add ((x5_1).toNat * 9)).block, (ad278.add ((x5_1).toNat * 9)).off + 7, none⟩ = some (.string ((rd_T46 l0 x5_1).f3.f2)) ∧ w'.cell? ⟨(ad278.add ((x5_1).toNat * 9)).block, (ad278.add ((x5_1).toNat * 9)).off + 8, none⟩ = some (.int .i64 ((rd_T46 l0 x5_1).f3.f3))) (ds := []) #[false, false, false, false, false, false, false] (by kernel_rfl) rfl rfl ⟨My.b_ BK277 0, My.b_ BK277 1, My.b_ BK277 2, My.b_ BK277 3, My.b_ BK277 4, My.b_ BK277 5, (My.up HB hw278_0), (My.up HB hw278_1), (My.up HB hw278_2), (My.up HB hw278_3), (My.up HB hw278_4), (My.up HB hw278_5), (My.up HB hw278_6), (My.up HB hw278_7), (My.up HB hw278_8)⟩ (fun hHeld => ?_)
    generalize wr.drew = w8 at BK277 HB HR278_6 hx278_0 hx278_1 hx278_2 hx278_3 hx278_4 hx278_5 hx278_6 hx278_7 hx278_8 hHeld ⊢
    refine pure_ (i := 0) (N := some 12) (v := ?_) (a' := ?_) #[true, false, false, false, false, false, false] rfl rfl (by kernel_rfl) (fun _ _ _ h => h) (Or.inl ⟨by rfl, ?_⟩) ?_ ?_
    rotate_left
    ·intro w'
     go_simp
     with_reducible rfl
    rotate_left
    ·simp only [Act.put, List.setIfInBounds_toArray, List.set_cons_zero, List.set_cons_succ, i64_w, i32_w]
     rfl
    refine pure_ (i := 1) (N := some 13) (v := ?_) (a' := ?_) #[true, true, false, false, false, false, false] rfl rfl (by kernel_rfl) (fun _ _ _ h => h) (Or.inl ⟨by rfl, ?_⟩) ?_ ?_
    rotate_left
    ·intro w'
     go_simp
     with_reducible rfl
    rotate_left
    ·simp only [Act.put, List.setIfInBounds_toArray, List.set_cons_zero, List.set_cons_succ, i64_w, i32_w]
     rfl
    refine pure_ (i := 2) (N := some 14) (v := ?_) (a' := ?_) #[true, true, true, false, false, false, false] rfl rfl (by kernel_rfl) (fun _ _ _ h => h) (Or.inl ⟨by rfl, ?_⟩) ?_ ?_
    rotate_left
    ·intro w'
     go_simp
     with_reducible rfl
    rotate_left
    ·simp only [Act.put, List.setIfInBounds_toArray, List.set_cons_zero, List.set_cons_succ, i64_w, i32_w]
     rfl
    refine pure_ (i := 3) (N := some 15) (v := ?_) (a' := ?_) #[true, true, true, true, false, false, false] rfl rfl (by kernel_rfl) (fun _ _ _ h => h) (Or.inl ⟨by rfl, ?_⟩) ?_ ?_
    rotate_left
    ·intro w'
     go_simp
     with_reducible rfl
    rotate_left
    ·simp only [Act.put, List.setIfInBounds_toArray, List.set_cons_zero, List.set_cons_succ, i64_w, i32_w]
     rfl
    refine take_ (i := 4) (N := some 16) (v := ?_) (a' := ?_) #[true, true, true, true, true, false, false] rfl rfl (by kernel_rfl) (fun _ _ _ h => h) (Or.inl ⟨by rfl, ?_⟩) hHeld ?_ ?_
    rotate_left
    ·rintro w' ⟨s0, s1, s2, s3, s4, s5, s6, s7, s8, s9, s10, s11, s12, s13, s14⟩
     go_simp
     with_reducible rfl
    rotate_left
    ·simp only [Act.put, List.setIfInBounds_toArray, List.set_cons_zero, List.set_cons_succ, i64_w, i32_w]
     rfl
    refine take_ (i := 5) (N := some 17) (v := ?_) (a' := ?_) #[true, true, true, true, true, true, false] rfl rfl (by kernel_rfl) (fun _ _ _ h => h) (Or.inl ⟨by rfl, ?_⟩) hHeld ?_ ?_
    rotate_left
    ·rintro w' ⟨s0, s1, s2, s3, s4, s5, s6, s7, s8, s9, s10, s11, s12, s13, s14⟩
     go_simp
     with_reducible rfl
    rotate_left
    ·simp only [Act.put, List.setIfInBounds_toArray, List.set_cons_zero, List.set_cons_succ, i64_w, i32_w]
     rfl
    refine one_ (i := 6) (N := some 18) #[true, true, true, true, true, true, true] rfl rfl (by kernel_rfl) (by decide) (fun K hK => ?_)
    refine goes_ Try.func31 (by kernel_rfl) rfl #[.agg #[.int .i64 ((rd_T46 l0 x5_1).f3.f0), .int .i64 ((rd_T46 l0 x5_1).f3.f1.f0), .int .i64 ((rd_T46 l0 x5_1).f3.f1.f1), .slice A278_6 ((rd_T46 l0 x5_1).f3.f1.f2).length c278_6, .string ((rd_T46 l0 x5_1).f3.f2), .int .i64 ((rd_T46 l0 x5_1).f3.f3)], .agg #[.int .i64 a1_0, .int .i64 a1_1, .int .i64 a1_2, .slice A1_3 l1_3.length c1_3, .string a1_4, .int .i64 a1_5]] (by rfl) rfl rfl My.gx ?_
    with_reducible refine (ententeref13_SameNote.calls k1 ((rd_T46 l0 x5_1).f3.f0) ((rd_T46 l0 x5_1).f3.f1.f0) ((rd_T46 l0 x5_1).f3.f1.f1) _ _ ((rd_T46 l0 x5_1).f3.f1.f2) ((rd_T46 l0 x5_1).f3.f2) ((rd_T46 l0 x5_1).f3.f3) a1_0 a1_1 a1_2 _ _ l1_3 a1_4 a1_5 true _ ?side1 ?side2 ?side3 ?side4 A6.out).mono ?_
    (case side1 => exact My.sd_ HR278_6 HB)
    (case side2 => exact HC278_6.out)
    (case side3 => exact My.sd_ HR1_3 HB)
    (case side4 => exact HC1_3.out)
    rintro e w9 ⟨rfl, hb⟩
    refine ⟨_, rfl, ?_⟩
    replace BK277 := My.ab BK277 hb
    replace HB := My.st HB hb
    (try clear hb)
    (try clear hb2)
    (try clear hk)
    (try clear hi)
    refine hK.out _ _ ⟨My.b_ BK277 0, My.b_ BK277 1, My.b_ BK277 2, My.b_ BK277 3, My.b_ BK277 4, My.b_ BK277 5, (My.up HB hw278_0), (My.up HB hw278_1), (My.up HB hw278_2), (My.up HB hw278_3), (My.up HB hw278_4), (My.up HB hw278_5), (My.up HB hw278_6), (My.up HB hw278_7), (My.up HB hw278_8)⟩ (fun hHeld => ?_)
    clear hK K
    refine My.nm 18 ?_
    refine done_ (by kernel_rfl) ?_
    try go_wp2
    go_ret
    exact ⟨My.r2, (My.bl_ HB)⟩
   replace c7 := Bool.eq_false_iff.mpr c7
   subst c7
   rw [if_neg (show ¬ (false = true) by decide)] at H
   have H' := My.am H
   clear H
   try go_wp2
   replace BK277 := My.am (blk_drew BK277.out)
   replace HB := My.am (below_drew1 HB.out)
   have p278 : 0 ≤ (x5_1 : Int) := My.as_
   have q278 : x5_1 < (l0.length : Int) := My.as_
   obtain ⟨ad278, A278_6, c278_6, e278, hx278_0, hx278_1, hx278_2, hx278_3, hx278_4, hx278_5, hx278_6, hx278_7, hx278_8, hl278_6, hi278_6⟩ := at_T46 HR0.out x5_1 p278 q278
   have hw278_8 := hx278_8
   have hw278_7 := hx278_7
   have hw278_6 := hx278_6
   have hw278_5 := hx278_5
   have hw278_4 := hx278_4
   have hw278_3 := hx278_3
   have hw278_2 := hx278_2
   have hw278_1 := hx278_1
   have hw278_0 := hx278_0
   cases e278
   replace hx278_0 := My.up HB hx278_0
   replace hx278_1 := My.up HB hx278_1
   replace hx278_2 := My.up HB hx278_2
   replace hx278_3 := My.up HB hx278_3
   replace hx278_4 := My.up HB hx278_4
   replace hx278_5 := My.up HB hx278_5
   replace hx278_6 := My.up HB hx278_6
   replace hx278_7 := My.up HB hx278_7
   replace hx278_8 := My.up HB hx278_8
   have HR278_6 := My.am hi278_6
   have HC278_6 := My.am hl278_6
   clear hi278_6 hl278_6
   replace p278 := eq_true p278
   replace q278 := eq_true q278
   refine start_ (n := 7) (S := fun w' => w'.cell? ⟨gb277, 0, none⟩ = some (.int .i64 a1_0) ∧ w'.cell? ⟨gb277, 1, none⟩ = some (.int .i64 a1_1) ∧ w'.cell? ⟨gb277, 2, none⟩ = some (.int .i64 a1_2) ∧ w'.cell? ⟨gb277, 3, none⟩ = some (.slice A1_3 l1_3.length c1_3) ∧ w'.cell? ⟨gb277, 4, none⟩ = some (.string a1_4) ∧ w'.cell? ⟨gb277, 5, none⟩ = some (.int .i64 a1_5) ∧ w'.cell? (ad278.add ((x5_1).toNat * 9)) = some (.int .i64 ((rd_T46 l0 x5_1).f0)) ∧ w'.cell? ⟨(ad278.add ((x5_1).toNat * 9)).block, (ad278.add ((x5_1).toNat * 9)).off + 1, none⟩ = some (.int .i64 ((rd_T46 l0 x5_1).f1)) ∧ w'.cell? ⟨(ad278.add ((x5_1).toNat * 9)).block, (ad278.add ((x5_1).toNat * 9)).off + 2, none⟩ = some (.int .i64 ((rd_T46 l0 x5_1).f2)) ∧ w'.cell? ⟨(ad278.add ((x5_1).toNat * 9)).block, (ad278.add ((x5_1).toNat * 9)).off + 3, none⟩ = some (.int .i64 ((rd_T46 l0 x5_1).f3.f0)) ∧ w'.cell? ⟨(ad278.add ((x5_1).toNat * 9)).block, (ad278.add ((x5_1).toNat * 9)).off + 4, none⟩ = some (.int .i64 ((rd_T46 l0 x5_1).f3.f1.f0)) ∧ w'.cell? ⟨(ad278.add ((x5_1).toNat * 9)).block, (ad278.add ((x5_1).toNat * 9)).off + 5, none⟩ = some (.int .i64 ((rd_T46 l0 x5_1).f3.f1.f1)) ∧ w'.cell? ⟨(ad278.add ((x5_1).toNat * 9)).block, (ad278.add ((x5_1).toNat * 9)).off + 6, none⟩ = some (.slice A278_6 ((rd_T46 l0 x5_1).f3.f1.f2).length c278_6) ∧ w'.cell? ⟨(ad278.add ((x5_1).toNat * 9)).block, (ad278.add ((x5_1).toNat * 9)).off + 7, none⟩ = some (.string ((rd_T46 l0 x5_1).f3.f2)) ∧ w'.cell? ⟨(ad278.add ((x5_1).toNat * 9)).block, (ad278.add ((x5_1).toNat * 9)).off + 8, none⟩ = some (.int .i64 ((rd_T46 l0 x5_1).f3.f3))) (ds := []) #[false, false, false, false, false, false, false] (by kernel_rfl) rfl rfl ⟨My.b_ BK277 0, My.b_ BK277 1, My.b_ BK277 2, My.b_ BK277 3, My.b_ BK277 4, My.b_ BK277 5, (My.up HB hw278_0), (My.up HB hw278_1), (My.up HB hw278_2), (My.up HB hw278_3), (My.up HB hw278_4), (My.up HB hw278_5), (My.up HB hw278_6), (My.up HB hw278_7), (My.up HB hw278_8)⟩ (fun hHeld => ?_)
   generalize wr.drew = w10 at BK277 HB HR278_6 hx278_0 hx278_1 hx278_2 hx278_3 hx278_4 hx278_5 hx278_6 hx278_7 hx278_8 hHeld ⊢
   refine pure_ (i := 0) (N := some 12) (v := ?_) (a' := ?_) #[true, false, false, false, false, false, false] rfl rfl (by kernel_rfl) (fun _ _ _ h => h) (Or.inl ⟨by rfl, ?_⟩) ?_ ?_
   rotate_left
   ·intro w'
    go_simp
    with_reducible rfl
   rotate_left
   ·simp only [Act.put, List.setIfInBounds_toArray, List.set_cons_zero, List.set_cons_succ, i64_w, i32_w]
    rfl
   refine pure_ (i := 1) (N := some 13) (v := ?_) (a' := ?_) #[true, true, false, false, false, false, false] rfl rfl (by kernel_rfl) (fun _ _ _ h => h) (Or.inl ⟨by rfl, ?_⟩) ?_ ?_
   rotate_left
   ·intro w'
    go_simp
    with_reducible rfl
   rotate_left
   ·simp only [Act.put, List.setIfInBounds_toArray, List.set_cons_zero, List.set_cons_succ, i64_w, i32_w]
    rfl
   refine pure_ (i := 2) (N := some 14) (v := ?_) (a' := ?_) #[true, true, true, false, false, false, false] rfl rfl (by kernel_rfl) (fun _ _ _ h => h) (Or.inl ⟨by rfl, ?_⟩) ?_ ?_
   rotate_left
   ·intro w'
    go_simp
    with_reducible rfl
   rotate_left
   ·simp only [Act.put, List.setIfInBounds_toArray, List.set_cons_zero, List.set_cons_succ, i64_w, i32_w]
    rfl
   refine pure_ (i := 3) (N := some 15) (v := ?_) (a' := ?_) #[true, true, true, true, false, false, false] rfl rfl (by kernel_rfl) (fun _ _ _ h => h) (Or.inl ⟨by rfl, ?_⟩) ?_ ?_
   rotate_left
   ·intro w'
    go_simp
    with_reducible rfl
   rotate_left
   ·simp only [Act.put, List.setIfInBounds_toArray, List.set_cons_zero, List.set_cons_succ, i64_w, i32_w]
    rfl
   refine take_ (i := 4) (N := some 16) (v := ?_) (a' := ?_) #[true, true, true, true, true, false, false] rfl rfl (by kernel_rfl) (fun _ _ _ h => h) (Or.inl ⟨by rfl, ?_⟩) hHeld ?_ ?_
   rotate_left
   ·rintro w' ⟨s0, s1, s2, s3, s4, s5, s6, s7, s8, s9, s10, s11, s12, s13, s14⟩
    go_simp
    with_reducible rfl
   rotate_left
   ·simp only [Act.put, List.setIfInBounds_toArray, List.set_cons_zero, List.set_cons_succ, i64_w, i32_w]
    rfl
   refine take_ (i := 5) (N := some 17) (v := ?_) (a' := ?_) #[true, true, true, true, true, true, false] rfl rfl (by kernel_rfl) (fun _ _ _ h => h) (Or.inl ⟨by rfl, ?_⟩) hHeld ?_ ?_
   rotate_left
   ·rintro w' ⟨s0, s1, s2, s3, s4, s5, s6, s7, s8, s9, s10, s11, s12, s13, s14⟩
    go_simp
    with_reducible rfl
   rotate_left
   ·simp only [Act.put, List.setIfInBounds_toArray, List.set_cons_zero, List.set_cons_succ, i64_w, i32_w]
    rfl
   refine one_ (i := 6) (N := some 18) #[true, true, true, true, true, true, true] rfl rfl (by kernel_rfl) (by decide) (fun K hK => ?_)
   refine goes_ Try.func31 (by kernel_rfl) rfl #[.agg #[.int .i64 ((rd_T46 l0 x5_1).f3.f0), .int .i64 ((rd_T46 l0 x5_1).f3.f1.f0), .int .i64 ((rd_T46 l0 x5_1).f3.f1.f1), .slice A278_6 ((rd_T46 l0 x5_1).f3.f1.f2).length c278_6, .string ((rd_T46 l0 x5_1).f3.f2), .int .i64 ((rd_T46 l0 x5_1).f3.f3)], .agg #[.int .i64 a1_0, .int .i64 a1_1, .int .i64 a1_2, .slice A1_3 l1_3.length c1_3, .string a1_4, .int .i64 a1_5]] (by rfl) rfl rfl My.gx ?_
   with_reducible refine (ententeref13_SameNote.calls k1 ((rd_T46 l0 x5_1).f3.f0) ((rd_T46 l0 x5_1).f3.f1.f0) ((rd_T46 l0 x5_1).f3.f1.f1) _ _ ((rd_T46 l0 x5_1).f3.f1.f2) ((rd_T46 l0 x5_1).f3.f2) ((rd_T46 l0 x5_1).f3.f3) a1_0 a1_1 a1_2 _ _ l1_3 a1_4 a1_5 false _ ?side1 ?side2 ?side3 ?side4 A6.out).mono ?_
   (case side1 => exact My.sd_ HR278_6 HB)
   (case side2 => exact HC278_6.out)
   (case side3 => exact My.sd_ HR1_3 HB)
   (case side4 => exact HC1_3.out)
   rintro e w11 ⟨rfl, hb⟩
   refine ⟨_, rfl, ?_⟩
   replace BK277 := My.ab BK277 hb
   replace HB := My.st HB hb
   (try clear hb)
   (try clear hb2)
   (try clear hk)
   (try clear hi)
   refine hK.out _ _ ⟨My.b_ BK277 0, My.b_ BK277 1, My.b_ BK277 2, My.b_ BK277 3, My.b_ BK277 4, My.b_ BK277 5, (My.up HB hw278_0), (My.up HB hw278_1), (My.up HB hw278_2), (My.up HB hw278_3), (My.up HB hw278_4), (My.up HB hw278_5), (My.up HB hw278_6), (My.up HB hw278_7), (My.up HB hw278_8)⟩ (fun hHeld => ?_)
   clear hK K
   refine My.nm 18 ?_
   refine done_ (by kernel_rfl) ?_
   try go_wp2
   go_roundg k1
   case measure => have := HK1.out; omega
   case rel => exact ⟨(wrap64 (x5_1 + 1)), My.r1, H', ⟨by have := HK1.out; omega⟩, ⟨(My.at_ BK277)⟩, ⟨(My.bl_ HB)⟩⟩
end Go.Proofs.Ytcgmoeiknkdljaa.PA
