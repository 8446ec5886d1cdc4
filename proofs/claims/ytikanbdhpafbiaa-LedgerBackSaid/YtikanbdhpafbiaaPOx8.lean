-- Written by a program of this session (wip/tools/mp.py over the kit's printer); Lean checks it.
import Derived.Test.YtikanbdhpafbiaaPOx0
import Derived.Test.YtikanbdhpafbiaaPOx4
import Derived.Test.YtikanbdhpafbiaaPOx7
namespace Go.Proofs.Ytikanbdhpafbiaa.PO
open Go.RowKit Go.Proofs.YtikanbdhpafbiaaW.PrintWords Go.Proofs.YtikanbdhpafbiaaW.PrintLast Go.Proofs.YtikanbdhpafbiaaW.PrintMore
attribute [local go_sem] max2_int min2_int max_two min_two max_three min_three max_four min_four   -- for this text's walks alone
set_option linter.unusedVariables false
set_option maxHeartbeats 8000000
set_option maxRecDepth 100000
set_option linter.unusedSimpArgs false

/-! ### api_Mark_string: function 68 -/
def api_Mark_string.l0 : Nat → List (S64) → ByteArray → Int → Int → Int → Option (Int × Bool)
 | 0, _, _, _, _, _ => none
 | k + 1, x0, x1, x8, x9, x10 => if x9 < x10 then (if 0 ≤ (wrap64 ((IntKind.u64.wrap (wrap64 (x9 + x10))) / 2)) then (if (wrap64 ((IntKind.u64.wrap (wrap64 (x9 + x10))) / 2)) < (x0.length : Int) then ((ledger_book_mark_1.f ((rd_T64 x0 (wrap64 ((IntKind.u64.wrap (wrap64 (x9 + x10))) / 2))).f0) ((rd_T64 x0 (wrap64 ((IntKind.u64.wrap (wrap64 (x9 + x10))) / 2))).f1.f0) ((rd_T64 x0 (wrap64 ((IntKind.u64.wrap (wrap64 (x9 + x10))) / 2))).f1.f1) ((rd_T64 x0 (wrap64 ((IntKind.u64.wrap (wrap64 (x9 + x10))) / 2))).f1.f2) ((rd_T64 x0 (wrap64 ((IntKind.u64.wrap (wrap64 (x9 + x10))) / 2))).f2) x1).bind fun t163 => (if t163 < 0 then (api_Mark_string.l0 k x0 x1 x8 (wrap64 ((wrap64 ((IntKind.u64.wrap (wrap64 (x9 + x10))) / 2)) + 1)) x10) else (api_Mark_string.l0 k x0 x1 x8 x9 (wrap64 ((IntKind.u64.wrap (wrap64 (x9 + x10))) / 2))))) else (none)) else (none)) else (if x9 < x8 then (if 0 ≤ x9 then (if x9 < (x0.length : Int) then ((ledger_book_mark_1.f ((rd_T64 x0 x9).f0) ((rd_T64 x0 x9).f1.f0) ((rd_T64 x0 x9).f1.f1) ((rd_T64 x0 x9).f1.f2) ((rd_T64 x0 x9).f2) x1).bind fun t165 => (some (x9, (t165 == 0)))) else (none)) else (none)) else (some (x9, false)))
def api_Mark_string.f (k : Nat) (l0 : List (S64)) (a1 : ByteArray) (a2 : Int) : Option (Int × Bool) := api_Mark_string.l0 k l0 a1 (l0.length : Int) 0 (l0.length : Int)
theorem api_Mark_string.mono_l : ∀ k, (∀ y0 y1 y2 y3 y4, LeO (api_Mark_string.l0 k y0 y1 y2 y3 y4) (api_Mark_string.l0 (k + 1) y0 y1 y2 y3 y4))
 | 0 => fun _ _ _ _ _ r h => by simp [api_Mark_string.l0] at h
 | k + 1 => by
  have ih0 := api_Mark_string.mono_l k
  intro y0 y1 y2 y3 y4
  unfold api_Mark_string.l0
  repeat' (with_reducible first | exact ih0 _ _ _ _ _ | exact LeO.refl _ | exact LeO.none _ | apply LeO.ite | refine LeO.bind ?_ (fun _ => ?_))
theorem api_Mark_string.mono : ∀ a0 a1 a2 k, LeO (api_Mark_string.f k a0 a1 a2) (api_Mark_string.f (k + 1) a0 a1 a2) := by
 intro a0 a1 a2 k
 have ih0 := api_Mark_string.mono_l k
 unfold api_Mark_string.f
 repeat' (with_reducible first | exact ih0 _ _ _ _ _ | exact LeO.refl _ | exact LeO.none _ | apply LeO.ite | refine LeO.bind ?_ (fun _ => ?_))
theorem api_Mark_string.calls (k : Nat) (A0 : Option Addr) (c0 : Nat) (l0 : List (S64)) (a1 : ByteArray) (a2 : Int) (r1 : Int) (r2 : Bool) (w : World) (hr0 : Kd.C k64 w A0 l0.length l0) (hc0 : l0.length ≤ c0) (h : api_Mark_string.f k l0 a1 a2 = some (r1, r2)) :
  Calls Try.prog 68 #[.slice A0 l0.length c0, .string a1, .func (.func 69) #[] #[]] w fun e w' => e = .returned (.tuple #[.int .i64 r1, .bool r2]) ∧ Below w.heap.size w w' := by
 have hu64 := Try.underlying64
 have HR0 := My.am hr0
 have HC0 := My.am hc0
 clear hr0 hc0
 have HB := My.am (Below.refl w.heap.size w)
 unfold api_Mark_string.f at h
 have H := h
 clear h
 have H' := My.am H
 clear H
 go_enter Try.func68, Try.ntmps68
 go_wp2
 go_loopg [9, 10] k (fun kq v9 v10 w' => ∃ (x9_1 : Int) (x10_1 : Int), v9 = .int .i64 x9_1 ∧ v10 = .int .i64 x10_1 ∧ Aside0 (api_Mark_string.l0 kq l0 a1 (l0.length : Int) x9_1 x10_1 = some (r1, r2)) ∧ Aside0 (kq ≤ k) ∧ Aside0 (Below w.heap.size w w'))
 case atStart => exact ⟨(0), ((l0.length : Int)), My.r1, My.r1, H', ⟨Nat.le_refl _⟩, ⟨(My.bl_ HB)⟩⟩
 case round =>
  clear H'
  obtain ⟨x9_1, x10_1, rfl, rfl, HA, HK1, HB⟩ := hrel
  cases gk with
  | zero => exact absurd HA.out (by simp [api_Mark_string.l0])
  | succ k1 =>
   have H := HA.out
   clear HA
   simp only [api_Mark_string.l0] at H
   by_cases c4 : x9_1 < x10_1
   ·rw [if_pos c4] at H
    have c4b0 := decide_eq_true c4
    clear c4
    obtain ⟨ji5, hji5⟩ : ∃ j_ : Int, (wrap64 ((IntKind.u64.wrap (wrap64 (x9_1 + x10_1))) / 2)) = j_ := ⟨_, rfl⟩
    replace H : (if 0 ≤ (ji5) then (if (ji5) < (l0.length : Int) then ((ledger_book_mark_1.f ((rd_T64 l0 (ji5)).f0) ((rd_T64 l0 (ji5)).f1.f0) ((rd_T64 l0 (ji5)).f1.f1) ((rd_T64 l0 (ji5)).f1.f2) ((rd_T64 l0 (ji5)).f2) a1).bind fun t163 => (if t163 < 0 then (api_Mark_string.l0 k1 l0 a1 (l0.length : Int) (wrap64 ((ji5) + 1)) x10_1) else (api_Mark_string.l0 k1 l0 a1 (l0.length : Int) x9_1 ji5))) else (none)) else (none)) = some (r1, r2) := by first | (rw [hji5] at H; exact H) | (simp only [hji5] at H ⊢; exact H)
    have hji5w : (IntKind.i64.wrap ((IntKind.u64.wrap (wrap64 (x9_1 + x10_1))) / 2)) = ji5 := (i64_w _).trans hji5
    replace H := My.ds H
    obtain ⟨c6b0, H⟩ := H
    replace H := My.ds H
    obtain ⟨c7b0, H⟩ := H
    replace H := Option.bind_eq_some_iff.mp H
    obtain ⟨t163, A80, H⟩ := H
    try dsimp only at H
    have A8 := My.am A80
    clear A80
    by_cases c9 : t163 < 0
    ·rw [if_pos c9] at H
     have c9b0 := decide_eq_true c9
     clear c9
     have H' := My.am H
     clear H
     have p162 : 0 ≤ ((ji5) : Int) := My.as_
     have q162 : (ji5) < (l0.length : Int) := My.as_
     obtain ⟨ad162, e162, hx162_0, hx162_1, hx162_2, hx162_3, hx162_4⟩ := My.up5 HB (at_T64 HR0.out (ji5) p162 q162)
     cases e162
     replace p162 := eq_true p162
     replace q162 := eq_true q162
     go_wp2_with (first | ((with_reducible refine gate_dst (N := 30) rfl ?_); refine My.goesV_ (f := 69) (first := #[]) (cap := #[]) (some 30) rfl rfl Try.func69 (by kernel_rfl) rfl #[.agg #[.string ((rd_T64 l0 (ji5)).f0), .int .i64 ((rd_T64 l0 (ji5)).f1.f0), .string ((rd_T64 l0 (ji5)).f1.f1), .int .i64 ((rd_T64 l0 (ji5)).f1.f2), .int .i64 ((rd_T64 l0 (ji5)).f2)], .string a1] rfl rfl (by simp only [List.map_toArray, List.map_cons, List.map_nil, Array.empty_append, Array.append_empty]; first | done | rfl | (simp [Act.eval]; done)) ?_; (with_reducible refine (ledger_book_mark_1.calls ((rd_T64 l0 (ji5)).f0) ((rd_T64 l0 (ji5)).f1.f0) ((rd_T64 l0 (ji5)).f1.f1) ((rd_T64 l0 (ji5)).f1.f2) ((rd_T64 l0 (ji5)).f2) a1 t163 _ A8.out).mono ?_); rintro e w10 ⟨rfl, hb⟩; refine ⟨_, rfl, ?_⟩; replace HB := My.st HB hb; (try clear hb)))
     go_roundg k1
     case measure => have := HK1.out; omega
     case rel => exact ⟨(wrap64 ((ji5) + 1)), (x10_1), (by first | rfl | (simp; done) | (simp only [← hji5] <;> (first | rfl | simp)) | (simp [*]; done)), My.r1, H', ⟨by have := HK1.out; omega⟩, ⟨(My.bl_ HB)⟩⟩
    rw [if_neg c9] at H
    have c9b0 := decide_eq_false c9
    clear c9
    have H' := My.am H
    clear H
    have p162 : 0 ≤ ((ji5) : Int) := My.as_
    have q162 : (ji5) < (l0.length : Int) := My.as_
    obtain ⟨ad162, e162, hx162_0, hx162_1, hx162_2, hx162_3, hx162_4⟩ := My.up5 HB (at_T64 HR0.out (ji5) p162 q162)
    cases e162
    replace p162 := eq_true p162
    replace q162 := eq_true q162
    go_wp2_with (first | ((with_reducible refine gate_dst (N := 30) rfl ?_); refine My.goesV_ (f := 69) (first := #[]) (cap := #[]) (some 30) rfl rfl Try.func69 (by kernel_rfl) rfl #[.agg #[.string ((rd_T64 l0 (ji5)).f0), .int .i64 ((rd_T64 l0 (ji5)).f1.f0), .string ((rd_T64 l0 (ji5)).f1.f1), .int .i64 ((rd_T64 l0 (ji5)).f1.f2), .int .i64 ((rd_T64 l0 (ji5)).f2)], .string a1] rfl rfl (by simp only [List.map_toArray, List.map_cons, List.map_nil, Array.empty_append, Array.append_empty]; first | done | rfl | (simp [Act.eval]; done)) ?_; (with_reducible refine (ledger_book_mark_1.calls ((rd_T64 l0 (ji5)).f0) ((rd_T64 l0 (ji5)).f1.f0) ((rd_T64 l0 (ji5)).f1.f1) ((rd_T64 l0 (ji5)).f1.f2) ((rd_T64 l0 (ji5)).f2) a1 t163 _ A8.out).mono ?_); rintro e w11 ⟨rfl, hb⟩; refine ⟨_, rfl, ?_⟩; replace HB := My.st HB hb; (try clear hb)))
    go_roundg k1
    case measure => have := HK1.out; omega
    case rel => exact ⟨(x9_1), (ji5), My.r1, (by first | rfl | (simp; done) | (simp only [← hji5] <;> (first | rfl | simp)) | (simp [*]; done)), H', ⟨by have := HK1.out; omega⟩, ⟨(My.bl_ HB)⟩⟩
   rw [if_neg c4] at H
   have c4b0 := decide_eq_false c4
   clear c4
   by_cases c12 : x9_1 < (l0.length : Int)
   rotate_left
   ·rw [if_neg c12] at H
    have c12b0 := decide_eq_false c12
    clear c12
    simp only [Option.some.injEq, Prod.mk.injEq] at H
    obtain ⟨rfl, rfl⟩ := H
    go_wp2
    go_ret2
    exact ⟨My.r2, (My.bl_ HB)⟩

   rw [if_pos c12] at H
   have c12b0 := decide_eq_true c12
   clear c12
   replace H := My.ds H
   obtain ⟨c13b0, H⟩ := H
   replace H := My.ds H
   obtain ⟨c14b0, H⟩ := H
   replace H := Option.bind_eq_some_iff.mp H
   obtain ⟨t165, A150, H⟩ := H
   try dsimp only at H
   have A15 := My.am A150
   clear A150
   simp only [Option.some.injEq, Prod.mk.injEq] at H
   obtain ⟨rfl, rfl⟩ := H
   have p164 : 0 ≤ (x9_1 : Int) := My.as_
   have q164 : x9_1 < (l0.length : Int) := My.as_
   obtain ⟨ad164, e164, hx164_0, hx164_1, hx164_2, hx164_3, hx164_4⟩ := My.up5 HB (at_T64 HR0.out x9_1 p164 q164)
   cases e164
   replace p164 := eq_true p164
   replace q164 := eq_true q164
   go_wp2_with (first | (go_at_call 69; (with_reducible refine (ledger_book_mark_1.calls ((rd_T64 l0 x9_1).f0) ((rd_T64 l0 x9_1).f1.f0) ((rd_T64 l0 x9_1).f1.f1) ((rd_T64 l0 x9_1).f1.f2) ((rd_T64 l0 x9_1).f2) a1 t165 _ A15.out).mono ?_); rintro e w16 ⟨rfl, hb⟩; replace HB := My.st HB hb; (try clear hb)))
   go_ret2
   exact ⟨My.r2, (My.bl_ HB)⟩
/-! ### ledger_book_mark: function 40 -/
def ledger_book_mark.f (k : Nat) (l0_0 : List (S51)) (l0_1 : List (S64)) (a1 : ByteArray) : Option (Int × Bool) := (api_Mark_string.f k l0_1 a1 0).bind fun bt167 => (some (bt167.1, bt167.2))
theorem ledger_book_mark.mono : ∀ a0 a1 a2 k, LeO (ledger_book_mark.f k a0 a1 a2) (ledger_book_mark.f (k + 1) a0 a1 a2) := by
 intro a0 a1 a2 k
 unfold ledger_book_mark.f
 repeat' (with_reducible first | exact api_Mark_string.mono _ _ _ _ | exact LeO.refl _ | exact LeO.none _ | apply LeO.ite | refine LeO.bind ?_ (fun _ => ?_))
theorem ledger_book_mark.calls (k : Nat) (A0_0 : Option Addr) (c0_0 : Nat) (l0_0 : List (S51)) (A0_1 : Option Addr) (c0_1 : Nat) (l0_1 : List (S64)) (a1 : ByteArray) (r1 : Int) (r2 : Bool) (w : World) (hr0_0 : Kd.C k51 w A0_0 l0_0.length l0_0) (hc0_0 : l0_0.length ≤ c0_0) (hr0_1 : Kd.C k64 w A0_1 l0_1.length l0_1) (hc0_1 : l0_1.length ≤ c0_1) (h : ledger_book_mark.f k l0_0 l0_1 a1 = some (r1, r2)) :
  Calls Try.prog 40 #[.agg #[.slice A0_0 l0_0.length c0_0, .slice A0_1 l0_1.length c0_1], .string a1] w fun e w' => e = .returned (.tuple #[.int .i64 r1, .bool r2]) ∧ Below w.heap.size w w' := by
 have hu71 := Try.underlying71
 have HR0_0 := My.am hr0_0
 have HC0_0 := My.am hc0_0
 clear hr0_0 hc0_0
 have HR0_1 := My.am hr0_1
 have HC0_1 := My.am hc0_1
 clear hr0_1 hc0_1
 have HB := My.am (Below.refl w.heap.size w)
 unfold ledger_book_mark.f at h
 have H := h
 clear h
 replace H := Option.bind_eq_some_iff.mp H
 obtain ⟨⟨t167, t168⟩, A30, H⟩ := H
 try dsimp only at H
 have A3 := My.am A30
 clear A30
 simp only [Option.some.injEq, Prod.mk.injEq] at H
 obtain ⟨rfl, rfl⟩ := H
 go_enter Try.func40, Try.ntmps40
 go_wp2_with (first | ((with_reducible refine gate_dst (N := 2) rfl ?_); refine My.bx 2 #[.slice A0_0 l0_0.length c0_0, .slice A0_1 l0_1.length c0_1] 71 ?_; intro gb166 hg w4 hbox hb; have BK166 := My.am (hbox); have GE166 := My.nge hg (My.bl_ HB); replace HB := My.st HB hb; clear hb hbox hg; have hq5 := My.cz2 BK166) | ((with_reducible refine gate_callee (f := 68) rfl ?_); refine goesL_ (some 10) rfl rfl Try.func68 (by kernel_rfl) rfl #[.slice A0_1 l0_1.length c0_1, .string a1, .func (.func 69) #[] #[]] rfl My.gx ?_; (with_reducible refine (api_Mark_string.calls k _ _ l0_1 a1 0 t167 t168 _ ?side1 ?side2 A3.out).mono ?_); (case side1 => exact My.sd_ HR0_1 HB); (case side2 => exact HC0_1.out); rintro e w6 ⟨rfl, hb⟩; refine ⟨_, rfl, ?_⟩; replace HB := My.st HB hb; (try clear hb)))
 go_ret2
 exact ⟨My.r2, (My.bl_ HB)⟩

/-! ### pot_moved: function 85 -/
def pot_moved.j0 : Nat → Int → Int → Int → Int → Int → Bool → Int → Int → Int → Option (Int × Int × Int × Int)
 | 0, _, _, _, _, _, _, _, _, _ => none
 | k + 1, x1, x2, x3, x4, x5, x14, x170000, x170001, x170002 => if x14 = true then (some (0, 0, 0, 2)) else (if x1 > x2 then (some (0, 0, 0, 50)) else (some (wrap64 (x170000 + (wrap64 (x3 * x1))), wrap64 (x170001 + (wrap64 (x4 * x1))), wrap64 (x170002 + (wrap64 (x5 * x1))), 0)))
def pot_moved.f (k : Nat) (a0_0 : Int) (a0_1 : Int) (a0_2 : Int) (a1 : Int) (a2 : Int) (a3 : Int) (a4 : Int) (a5 : Int) : Option (Int × Int × Int × Int) := (pot_Check.f a0_0 a0_1 a0_2).bind fun t171 => (if t171 = 0 then (if a1 < 1 then (pot_moved.j0 k a1 a2 a3 a4 a5 true a0_0 a0_1 a0_2) else ((cash_Fits.f a1).bind fun t172 => (pot_moved.j0 k a1 a2 a3 a4 a5 (!t172) a0_0 a0_1 a0_2))) else (pot_moved.j0 k a1 a2 a3 a4 a5 true a0_0 a0_1 a0_2))
theorem pot_moved.mono_l : ∀ k, (∀ y0 y1 y2 y3 y4 y5 y6 y7 y8, LeO (pot_moved.j0 k y0 y1 y2 y3 y4 y5 y6 y7 y8) (pot_moved.j0 (k + 1) y0 y1 y2 y3 y4 y5 y6 y7 y8))
 | 0 => fun _ _ _ _ _ _ _ _ _ r h => by simp [pot_moved.j0] at h
 | k + 1 => by
  have ih0 := pot_moved.mono_l k
  intro y0 y1 y2 y3 y4 y5 y6 y7 y8
  unfold pot_moved.j0
  repeat' (with_reducible first | exact ih0 _ _ _ _ _ _ _ _ _ | exact LeO.refl _ | exact LeO.none _ | apply LeO.ite | refine LeO.bind ?_ (fun _ => ?_))
theorem pot_moved.mono : ∀ a0 a1 a2 a3 a4 a5 a6 a7 k, LeO (pot_moved.f k a0 a1 a2 a3 a4 a5 a6 a7) (pot_moved.f (k + 1) a0 a1 a2 a3 a4 a5 a6 a7) := by
 intro a0 a1 a2 a3 a4 a5 a6 a7 k
 have ih0 := pot_moved.mono_l k
 unfold pot_moved.f
 repeat' (with_reducible first | exact ih0 _ _ _ _ _ _ _ _ _ | exact LeO.refl _ | exact LeO.none _ | apply LeO.ite | refine LeO.bind ?_ (fun _ => ?_))
theorem pot_moved.calls (k : Nat) (a0_0 : Int) (a0_1 : Int) (a0_2 : Int) (a1 : Int) (a2 : Int) (a3 : Int) (a4 : Int) (a5 : Int) (r1 : Int) (r2 : Int) (r3 : Int) (r4 : Int) (w : World) (h : pot_moved.f k a0_0 a0_1 a0_2 a1 a2 a3 a4 a5 = some (r1, r2, r3, r4)) :
  Calls Try.prog 85 #[.agg #[.int .i64 a0_0, .int .i64 a0_1, .int .i64 a0_2], .int .i64 a1, .int .i64 a2, .int .i64 a3, .int .i64 a4, .int .i64 a5] w fun e w' => e = .returned (.tuple #[.agg #[.int .i64 r1, .int .i64 r2, .int .i64 r3], .int .i64 r4]) ∧ Below w.heap.size w w' := by
 have hu49 := Try.underlying49
 have HB := My.am (Below.refl w.heap.size w)
 unfold pot_moved.f at h
 have H := h
 clear h
 have HC7 := My.am H
 clear H
 go_enter Try.func85, Try.ntmps85
 go_upto_region 1 with (first | ((with_reducible refine gate_dst (N := 6) rfl ?_); refine My.bx 6 #[.int .i64 a0_0, .int .i64 a0_1, .int .i64 a0_2] 49 ?_; intro gb169 hg w8 hbox hb; have BK169 := My.am (hbox); have GE169 := My.nge hg (My.bl_ HB); replace HB := My.st HB hb; clear hb hbox hg) | ((with_reducible refine gate_dst (N := 12) rfl ?_); refine My.bx 12 #[.int .i64 0, .int .i64 0, .int .i64 0] 49 ?_; intro gb170 hg w9 hbox hb; have BK170 := My.am (hbox); have GE170 := My.nge hg (My.bl_ HB); replace HB := My.st HB hb; obtain ⟨NB169_170, NB170_169, BK169⟩ := My.nb hg hb BK169; clear hb hbox hg))
 (try simp only [Act.put, List.setIfInBounds_toArray, List.set_cons_zero, List.set_cons_succ])
 go_cut [14] (fun v14 wc => ∃ (kq : Nat) (x14_6 : Bool), v14 = .bool x14_6 ∧ Aside0 (pot_moved.j0 kq a1 a2 a3 a4 a5 x14_6 a0_0 a0_1 a0_2 = some (r1, r2, r3, r4)) ∧ Aside0 (kq ≤ k) ∧ Aside0 (wc.heap[gb169]? = some (.cells #[.int .i64 a0_0, .int .i64 a0_1, .int .i64 a0_2] 49 (0, 0))) ∧ Aside0 (wc.heap[gb170]? = some (.cells #[.int .i64 0, .int .i64 0, .int .i64 0] 49 (0, 0))) ∧ Aside0 (Below w.heap.size w wc))
 case first =>
  have H := HC7.out
  clear HC7
  replace H := Option.bind_eq_some_iff.mp H
  obtain ⟨t171, A100, H⟩ := H
  try dsimp only at H
  have A10 := My.am A100
  clear A100
  by_cases c11 : t171 = 0
  ·rw [if_pos c11] at H
   have c11b0 : (t171 == 0) = true := beq_iff_eq.mpr c11
   have c11b1 : (t171 != 0) = false := bne_eq_false_iff_eq.mpr c11
   clear c11
   (first | rw [c11b0] | (simp only [i64_w, i32_w]; rw [c11b0]) | skip)
   by_cases c12 : a1 < 1
   ·rw [if_pos c12] at H
    have c12b0 := decide_eq_true c12
    clear c12
    have H' := My.am H
    clear H
    have hnb13 := NB169_170.out
    have hnc13 := NB170_169.out
    have hq14 := My.cz3 BK169
    go_wp2_with (first | ((with_reducible refine gate_callee (f := 76) rfl ?_); refine goesL_ (some 16) rfl rfl Try.func76 (by kernel_rfl) rfl #[.agg #[.int .i64 a0_0, .int .i64 a0_1, .int .i64 a0_2]] rfl My.gx ?_; (with_reducible refine (pot_Check.calls a0_0 a0_1 a0_2 t171 _ A10.out).mono ?_); rintro e w15 ⟨rfl, hb⟩; refine ⟨_, rfl, ?_⟩; replace BK169 := My.ab BK169 hb; replace BK170 := My.ab BK170 hb; replace HB := My.st HB hb; (try clear hb)))
    go_meet
    case rel => exact ⟨_, (true), My.r1, H', ⟨My.r4⟩, ⟨(My.at_ BK169)⟩, ⟨(My.at_ BK170)⟩, ⟨(My.bl_ HB)⟩⟩
   rw [if_neg c12] at H
   have c12b0 := decide_eq_false c12
   clear c12
   replace H := Option.bind_eq_some_iff.mp H
   obtain ⟨t172, A160, H⟩ := H
   try dsimp only at H
   have A16 := My.am A160
   clear A160
   have H' := My.am H
   clear H
   have hnb17 := NB169_170.out
   have hnc17 := NB170_169.out
   have hq18 := My.cz3 BK169
   go_wp2_with (first | ((with_reducible refine gate_callee (f := 76) rfl ?_); refine goesL_ (some 16) rfl rfl Try.func76 (by kernel_rfl) rfl #[.agg #[.int .i64 a0_0, .int .i64 a0_1, .int .i64 a0_2]] rfl My.gx ?_; (with_reducible refine (pot_Check.calls a0_0 a0_1 a0_2 t171 _ A10.out).mono ?_); rintro e w19 ⟨rfl, hb⟩; refine ⟨_, rfl, ?_⟩; replace BK169 := My.ab BK169 hb; replace BK170 := My.ab BK170 hb; replace HB := My.st HB hb; (try clear hb)) | (go_at_call 31; (with_reducible refine (cash_Fits.calls a1 t172 _ A16.out).mono ?_); rintro e w' ⟨rfl, ⟨nd, rfl⟩⟩))
   go_meet
   case rel => exact ⟨_, (!t172), My.r1, H', ⟨My.r4⟩, ⟨(My.at_ BK169)⟩, ⟨(My.at_ BK170)⟩, ⟨(My.bl_ HB)⟩⟩
  ·rw [if_neg c11] at H
   have c11b0 : (t171 == 0) = false := beq_eq_false_iff_ne.mpr c11
   have c11b1 : (t171 != 0) = true := bne_iff_ne.mpr c11
   (first | rw [c11b0] | (simp only [i64_w, i32_w]; rw [c11b0]) | skip)
   have H' := My.am H
   clear H
   have hnb20 := NB169_170.out
   have hnc20 := NB170_169.out
   have hq21 := My.cz3 BK169
   go_wp2_with (first | ((with_reducible refine gate_callee (f := 76) rfl ?_); refine goesL_ (some 16) rfl rfl Try.func76 (by kernel_rfl) rfl #[.agg #[.int .i64 a0_0, .int .i64 a0_1, .int .i64 a0_2]] rfl My.gx ?_; (with_reducible refine (pot_Check.calls a0_0 a0_1 a0_2 t171 _ A10.out).mono ?_); rintro e w22 ⟨rfl, hb⟩; refine ⟨_, rfl, ?_⟩; replace BK169 := My.ab BK169 hb; replace BK170 := My.ab BK170 hb; replace HB := My.st HB hb; (try clear hb)))
   go_meet
   case rel => exact ⟨_, (true), My.r1, H', ⟨My.r4⟩, ⟨(My.at_ BK169)⟩, ⟨(My.at_ BK170)⟩, ⟨(My.bl_ HB)⟩⟩
 case rest =>
  clear HC7
  obtain ⟨kq, x14_6, rfl, HA, HJ6, BK169, BK170, HB⟩ := hcut
  cases kq with
  | zero => exact absurd HA.out (by simp [pot_moved.j0])
  | succ kj6 =>
   have H := HA.out
   clear HA
   simp only [pot_moved.j0] at H
   by_cases c23 : x14_6 = true
   ·subst c23
    rw [if_pos rfl] at H
    simp only [Option.some.injEq, Prod.mk.injEq] at H
    obtain ⟨rfl, rfl, rfl, rfl⟩ := H
    have hnb24 := NB170_169.out
    have hnc24 := NB169_170.out
    have hq25 := My.cz3 BK170
    go_wp2
    refine bodyPost_ret (results_ct rfl _ _ gb170 49 #[.int .i64 0, .int .i64 0, .int .i64 0] (0, 0) _ rfl ((My.sv_ BK170)) Try.underlying49 rfl (by kernel_rfl)) rfl ?_
    exact ⟨My.r2, (My.bl_ HB)⟩
   replace c23 := Bool.eq_false_iff.mpr c23
   subst c23
   rw [if_neg (show ¬ (false = true) by decide)] at H
   by_cases c26 : a1 > a2
   ·rw [if_pos c26] at H
    have c26b0 : decide (a2 < a1) = true := decide_eq_true c26
    clear c26
    simp only [Option.some.injEq, Prod.mk.injEq] at H
    obtain ⟨rfl, rfl, rfl, rfl⟩ := H
    have hnb27 := NB170_169.out
    have hnc27 := NB169_170.out
    have hq28 := My.cz3 BK170
    go_wp2
    refine bodyPost_ret (results_ct rfl _ _ gb170 49 #[.int .i64 0, .int .i64 0, .int .i64 0] (0, 0) _ rfl ((My.sv_ BK170)) Try.underlying49 rfl (by kernel_rfl)) rfl ?_
    exact ⟨My.r2, (My.bl_ HB)⟩
   rw [if_neg c26] at H
   have c26b0 : decide (a2 < a1) = false := decide_eq_false c26
   clear c26
   simp only [Option.some.injEq, Prod.mk.injEq] at H
   obtain ⟨rfl, rfl, rfl, rfl⟩ := H
   have hnb29 := NB169_170.out
   have hnc29 := NB170_169.out
   have hq30 := My.cz3 BK169
   have hq31 := My.cz3 BK170
   go_wp2
   refine bodyPost_ret (results_ct rfl _ _ gb170 49 #[.int .i64 (wrap64 (a0_0 + (wrap64 (a3 * a1)))), .int .i64 (wrap64 (a0_1 + (wrap64 (a4 * a1)))), .int .i64 (wrap64 (a0_2 + (wrap64 (a5 * a1))))] (0, 0) _ rfl ((My.sv_ BK170)) Try.underlying49 rfl (by kernel_rfl)) rfl ?_
   exact ⟨My.r2, (My.bl_ HB)⟩

/-! ### pot_Free: function 86 -/
def pot_Free.f (a0_0 : Int) (a0_1 : Int) (a0_2 : Int) : Option (Int) := (pot_Check.f a0_0 a0_1 a0_2).bind fun t174 => (if t174 = 0 then (some (wrap64 (a0_0 - a0_1))) else (some 0))
theorem pot_Free.calls (a0_0 : Int) (a0_1 : Int) (a0_2 : Int) (r : Int) (w : World) (h : pot_Free.f a0_0 a0_1 a0_2 = some r) :
  Calls Try.prog 86 #[.agg #[.int .i64 a0_0, .int .i64 a0_1, .int .i64 a0_2]] w fun e w' => e = .returned (.int .i64 r) ∧ Below w.heap.size w w' := by
 have hu49 := Try.underlying49
 have HB := My.am (Below.refl w.heap.size w)
 unfold pot_Free.f at h
 have H := h
 clear h
 replace H := Option.bind_eq_some_iff.mp H
 obtain ⟨t174, A20, H⟩ := H
 try dsimp only at H
 have A2 := My.am A20
 clear A20
 by_cases c3 : t174 = 0
 ·rw [if_pos c3] at H
  have c3b0 : (t174 == 0) = true := beq_iff_eq.mpr c3
  have c3b1 : (t174 != 0) = false := bne_eq_false_iff_eq.mpr c3
  clear c3
  obtain rfl := Option.some.inj H
  go_enter Try.func86, Try.ntmps86
  go_wp2_with (first | ((with_reducible refine gate_dst (N := 1) rfl ?_); refine My.bx 1 #[.int .i64 a0_0, .int .i64 a0_1, .int .i64 a0_2] 49 ?_; intro gb173 hg w4 hbox hb; have BK173 := My.am (hbox); have GE173 := My.nge hg (My.bl_ HB); replace HB := My.st HB hb; clear hb hbox hg; have hq5 := My.cz3 BK173) | ((with_reducible refine gate_callee (f := 76) rfl ?_); refine goesL_ (some 4) rfl rfl Try.func76 (by kernel_rfl) rfl #[.agg #[.int .i64 a0_0, .int .i64 a0_1, .int .i64 a0_2]] rfl My.gx ?_; (with_reducible refine (pot_Check.calls a0_0 a0_1 a0_2 t174 _ A2.out).mono ?_); rintro e w6 ⟨rfl, hb⟩; refine ⟨_, rfl, ?_⟩; replace BK173 := My.ab BK173 hb; replace HB := My.st HB hb; (try clear hb); have hq7 := My.cz3 BK173))
  go_ret
  exact ⟨My.r2, (My.bl_ HB)⟩
 ·rw [if_neg c3] at H
  have c3b0 : (t174 == 0) = false := beq_eq_false_iff_ne.mpr c3
  have c3b1 : (t174 != 0) = true := bne_iff_ne.mpr c3
  obtain rfl := Option.some.inj H
  go_enter Try.func86, Try.ntmps86
  go_wp2_with (first | ((with_reducible refine gate_dst (N := 1) rfl ?_); refine My.bx 1 #[.int .i64 a0_0, .int .i64 a0_1, .int .i64 a0_2] 49 ?_; intro gb173 hg w8 hbox hb; have BK173 := My.am (hbox); have GE173 := My.nge hg (My.bl_ HB); replace HB := My.st HB hb; clear hb hbox hg; have hq9 := My.cz3 BK173) | ((with_reducible refine gate_callee (f := 76) rfl ?_); refine goesL_ (some 4) rfl rfl Try.func76 (by kernel_rfl) rfl #[.agg #[.int .i64 a0_0, .int .i64 a0_1, .int .i64 a0_2]] rfl My.gx ?_; (with_reducible refine (pot_Check.calls a0_0 a0_1 a0_2 t174 _ A2.out).mono ?_); rintro e w10 ⟨rfl, hb⟩; refine ⟨_, rfl, ?_⟩; replace HB := My.st HB hb; (try clear hb)))
  go_ret
  exact ⟨My.r2, (My.bl_ HB)⟩

/-! ### pot_Room: function 87 -/
def pot_Room.f (a0_0 : Int) (a0_1 : Int) (a0_2 : Int) : Option (Int) := (pot_Check.f a0_0 a0_1 a0_2).bind fun t176 => (if t176 = 0 then (some (wrap64 ((wrap64 (1000000000000000 - a0_0)) - a0_2))) else (some 0))
theorem pot_Room.calls (a0_0 : Int) (a0_1 : Int) (a0_2 : Int) (r : Int) (w : World) (h : pot_Room.f a0_0 a0_1 a0_2 = some r) :
  Calls Try.prog 87 #[.agg #[.int .i64 a0_0, .int .i64 a0_1, .int .i64 a0_2]] w fun e w' => e = .returned (.int .i64 r) ∧ Below w.heap.size w w' := by
 have hu49 := Try.underlying49
 have HB := My.am (Below.refl w.heap.size w)
 unfold pot_Room.f at h
 have H := h
 clear h
 replace H := Option.bind_eq_some_iff.mp H
 obtain ⟨t176, A20, H⟩ := H
 try dsimp only at H
 have A2 := My.am A20
 clear A20
 by_cases c3 : t176 = 0
 ·rw [if_pos c3] at H
  have c3b0 : (t176 == 0) = true := beq_iff_eq.mpr c3
  have c3b1 : (t176 != 0) = false := bne_eq_false_iff_eq.mpr c3
  clear c3
  obtain rfl := Option.some.inj H
  go_enter Try.func87, Try.ntmps87
  go_wp2_with (first | ((with_reducible refine gate_dst (N := 1) rfl ?_); refine My.bx 1 #[.int .i64 a0_0, .int .i64 a0_1, .int .i64 a0_2] 49 ?_; intro gb175 hg w4 hbox hb; have BK175 := My.am (hbox); have GE175 := My.nge hg (My.bl_ HB); replace HB := My.st HB hb; clear hb hbox hg; have hq5 := My.cz3 BK175) | ((with_reducible refine gate_callee (f := 76) rfl ?_); refine goesL_ (some 4) rfl rfl Try.func76 (by kernel_rfl) rfl #[.agg #[.int .i64 a0_0, .int .i64 a0_1, .int .i64 a0_2]] rfl My.gx ?_; (with_reducible refine (pot_Check.calls a0_0 a0_1 a0_2 t176 _ A2.out).mono ?_); rintro e w6 ⟨rfl, hb⟩; refine ⟨_, rfl, ?_⟩; replace BK175 := My.ab BK175 hb; replace HB := My.st HB hb; (try clear hb); have hq7 := My.cz3 BK175))
  go_ret
  exact ⟨My.r2, (My.bl_ HB)⟩
 ·rw [if_neg c3] at H
  have c3b0 : (t176 == 0) = false := beq_eq_false_iff_ne.mpr c3
  have c3b1 : (t176 != 0) = true := bne_iff_ne.mpr c3
  obtain rfl := Option.some.inj H
  go_enter Try.func87, Try.ntmps87
  go_wp2_with (first | ((with_reducible refine gate_dst (N := 1) rfl ?_); refine My.bx 1 #[.int .i64 a0_0, .int .i64 a0_1, .int .i64 a0_2] 49 ?_; intro gb175 hg w8 hbox hb; have BK175 := My.am (hbox); have GE175 := My.nge hg (My.bl_ HB); replace HB := My.st HB hb; clear hb hbox hg; have hq9 := My.cz3 BK175) | ((with_reducible refine gate_callee (f := 76) rfl ?_); refine goesL_ (some 4) rfl rfl Try.func76 (by kernel_rfl) rfl #[.agg #[.int .i64 a0_0, .int .i64 a0_1, .int .i64 a0_2]] rfl My.gx ?_; (with_reducible refine (pot_Check.calls a0_0 a0_1 a0_2 t176 _ A2.out).mono ?_); rintro e w10 ⟨rfl, hb⟩; refine ⟨_, rfl, ?_⟩; replace HB := My.st HB hb; (try clear hb)))
  go_ret
  exact ⟨My.r2, (My.bl_ HB)⟩

/-! ### pot_Do: function 72 -/
def pot_Do.f (k : Nat) (a0_0 : Int) (a0_1 : Int) (a0_2 : Int) (a1 : Bool) (a2 : Int) : Option (Int × Int × Int × Int) := if a1 = true then ((pot_Free.f a0_0 a0_1 a0_2).bind fun t179 => ((pot_moved.f k a0_0 a0_1 a0_2 a2 t179 (-1) 0 1).bind fun bt180 => (some (bt180.1, bt180.2.1, bt180.2.2.1, bt180.2.2.2)))) else ((pot_Room.f a0_0 a0_1 a0_2).bind fun t184 => ((pot_moved.f k a0_0 a0_1 a0_2 a2 t184 1 1 0).bind fun bt185 => (some (bt185.1, bt185.2.1, bt185.2.2.1, bt185.2.2.2))))
theorem pot_Do.mono : ∀ a0 a1 a2 a3 a4 k, LeO (pot_Do.f k a0 a1 a2 a3 a4) (pot_Do.f (k + 1) a0 a1 a2 a3 a4) := by
 intro a0 a1 a2 a3 a4 k
 unfold pot_Do.f
 repeat' (with_reducible first | exact pot_moved.mono _ _ _ _ _ _ _ _ _ | exact LeO.refl _ | exact LeO.none _ | apply LeO.ite | refine LeO.bind ?_ (fun _ => ?_))
def pot_Do.T2 : Bool × List (List Nat × List Nat) := (true, [([], []), ([], []), ([], []), ([2], [2]), ([0, 1, 3, 3], [0, 1, 3]), ([4], [4]), ([4], [4]), ([5, 4, 0, 1, 2, 3, 4, 5, 6], [5]), ([6, 7, 0, 1, 2, 3, 4, 5, 6, 7], [6])])
def pot_Do.B2 : List Nat := [0, 0, 0, 4, 15, 31, 31, 127, 255]
theorem pot_Do.tab2 : rtab .any (opsOf Try.f72 2) = pot_Do.T2 := by kernel_rfl
theorem pot_Do.bits2 : waitsOk pot_Do.T2.2 pot_Do.B2 = true := by kernel_rfl
def pot_Do.T3 : Bool × List (List Nat × List Nat) := (true, [([], []), ([], []), ([], []), ([2], [2]), ([0, 1, 3, 3], [0, 1, 3]), ([4], [4]), ([4], [4]), ([5, 4, 0, 1, 2, 3, 4, 5, 6], [5]), ([6, 7, 0, 1, 2, 3, 4, 5, 6, 7], [6])])
def pot_Do.B3 : List Nat := [0, 0, 0, 4, 15, 31, 31, 127, 255]
theorem pot_Do.tab3 : rtab .any (opsOf Try.f72 3) = pot_Do.T3 := by kernel_rfl
theorem pot_Do.bits3 : waitsOk pot_Do.T3.2 pot_Do.B3 = true := by kernel_rfl
theorem pot_Do.calls (k : Nat) (a0_0 : Int) (a0_1 : Int) (a0_2 : Int) (a1 : Bool) (a2 : Int) (r1 : Int) (r2 : Int) (r3 : Int) (r4 : Int) (w : World) (h : pot_Do.f k a0_0 a0_1 a0_2 a1 a2 = some (r1, r2, r3, r4)) :
  Calls Try.prog 72 #[.agg #[.int .i64 a0_0, .int .i64 a0_1, .int .i64 a0_2], .bool a1, .int .i64 a2] w fun e w' => e = .returned (.tuple #[.agg #[.int .i64 r1, .int .i64 r2, .int .i64 r3], .int .i64 r4]) ∧ Below w.heap.size w w' := by
 have hu49 := Try.underlying49
 have HB := My.am (Below.refl w.heap.size w)
 unfold pot_Do.f at h
 have H := h
 clear h
 by_cases c4 : a1 = true
 ·subst c4
  rw [if_pos rfl] at H
  replace H := Option.bind_eq_some_iff.mp H
  obtain ⟨t179, A50, H⟩ := H
  try dsimp only at H
  have A5 := My.am A50
  clear A50
  replace H := Option.bind_eq_some_iff.mp H
  obtain ⟨⟨t180, t181, t182, t183⟩, A60, H⟩ := H
  try dsimp only at H
  have A6 := My.am A60
  clear A60
  simp only [Option.some.injEq, Prod.mk.injEq] at H
  obtain ⟨rfl, rfl, rfl, rfl⟩ := H
  go_enter Try.func72, Try.ntmps72
  try go_wp2_with (first | ((with_reducible refine gate_dst (N := 3) rfl ?_); refine My.bx 3 #[.int .i64 a0_0, .int .i64 a0_1, .int .i64 a0_2] 49 ?_; intro gb177 hg w7 hbox hb; have BK177 := My.am (hbox); have GE177 := My.nge hg (My.bl_ HB); replace HB := My.st HB hb; clear hb hbox hg) | ((with_reducible refine gate_dst (N := 6) rfl ?_); refine My.bx 6 #[.int .i64 0, .int .i64 0, .int .i64 0] 49 ?_; intro gb178 hg w8 hbox hb; have BK178 := My.am (hbox); have GE178 := My.nge hg (My.bl_ HB); replace HB := My.st HB hb; obtain ⟨NB177_178, NB178_177, BK177⟩ := My.nb hg hb BK177; clear hb hbox hg))
  replace BK177 := My.am (blk_drew BK177.out)
  replace BK178 := My.am (blk_drew BK178.out)
  replace HB := My.am (below_drew1 HB.out)
  refine start_ (n := 9) (S := fun w' => w'.cell? ⟨gb177, 0, none⟩ = some (.int .i64 a0_0) ∧ w'.cell? ⟨gb177, 1, none⟩ = some (.int .i64 a0_1) ∧ w'.cell? ⟨gb177, 2, none⟩ = some (.int .i64 a0_2)) (ds := []) #[false, false, false, false, false, false, false, false, false] (by kernel_rfl) rfl rfl ⟨My.b_ BK177 0, My.b_ BK177 1, My.b_ BK177 2⟩ (fun hHeld => ?_); refine with_tabW pot_Do.tab2 pot_Do.bits2 (fun HT_ HW_ => ?_)
  generalize w8.drew = w9 at BK177 BK178 HB hHeld ⊢
  refine My.pv_ 1 10 9 2 HT_.out ?_
  refine My.tv_ 0 9 9 3 HT_.out HW_.out hHeld rfl rfl (by rintro w' ⟨s0, s1, s2⟩; go_simp; with_reducible rfl) ?_
  refine My.ta_ 2 11 9 HT_.out HW_.out hHeld rfl rfl (by rintro w' ⟨s0, s1, s2⟩; go_simp; with_reducible rfl) ?_
  refine one_ (i := 3) (N := some 12) (My.Mb 9 15) rfl rfl (one_of HT_.out (by kernel_rfl)) (by decide) (fun K hK => ?_)
  refine goes_ Try.func86 (by kernel_rfl) rfl #[.agg #[.int .i64 a0_0, .int .i64 a0_1, .int .i64 a0_2]] (by rfl) rfl rfl My.gx ?_
  with_reducible refine (pot_Free.calls a0_0 a0_1 a0_2 t179 _ A5.out).mono ?_
  rintro e w10 ⟨rfl, hb⟩
  refine ⟨_, rfl, ?_⟩
  replace BK177 := My.ab BK177 hb
  replace BK178 := My.ab BK178 hb
  replace HB := My.st HB hb
  (try clear hb)
  (try clear hb2)
  (try clear hk)
  (try clear hi)
  refine hK.out _ _ ⟨My.b_ BK177 0, My.b_ BK177 1, My.b_ BK177 2⟩ (fun hHeld => ?_)
  clear hK K
  refine My.nm 12 ?_
  refine one_ (i := 4) (N := some 13) (My.Mb 9 31) rfl rfl (one_of HT_.out (by kernel_rfl)) (by decide) (fun K hK => ?_)
  refine goes_ Try.func85 (by kernel_rfl) rfl #[.agg #[.int .i64 a0_0, .int .i64 a0_1, .int .i64 a0_2], .int .i64 a2, .int .i64 t179, .int .i64 (-1), .int .i64 0, .int .i64 1] (by rfl) rfl rfl My.gx ?_
  with_reducible refine (pot_moved.calls k a0_0 a0_1 a0_2 a2 t179 (-1) 0 1 t180 t181 t182 t183 _ A6.out).mono ?_
  rintro e w11 ⟨rfl, hb⟩
  refine ⟨_, rfl, ?_⟩
  replace BK177 := My.ab BK177 hb
  replace BK178 := My.ab BK178 hb
  replace HB := My.st HB hb
  (try clear hb)
  (try clear hb2)
  (try clear hk)
  (try clear hi)
  refine hK.out _ _ ⟨My.b_ BK177 0, My.b_ BK177 1, My.b_ BK177 2⟩ (fun hHeld => ?_)
  clear hK K
  refine My.nm 13 ?_
  refine My.pu_ 5 14 9 HT_.out ?_
  refine My.pu_ 6 15 9 HT_.out ?_
  refine one_ (i := 7) (N := none) (My.Mb 9 255) rfl rfl (one_of HT_.out (by kernel_rfl)) (by decide) (fun K hK => ?_)
  have hs12 : w11.cell? ⟨gb178, 0, none⟩ = some (.int .i64 0) := My.b_ BK178 0
  have hfs12 := blk_frozen BK178.out 0
  have hns12_0 := NB177_178.out
  have hms12_0 := NB178_177.out
  have hs13 : w11.cell? ⟨gb178, 1, none⟩ = some (.int .i64 0) := My.b_ BK178 1
  have hfs13 := blk_frozen BK178.out 1
  have hns13_0 := NB177_178.out
  have hms13_0 := NB178_177.out
  have hs14 : w11.cell? ⟨gb178, 2, none⟩ = some (.int .i64 0) := My.b_ BK178 2
  have hfs14 := blk_frozen BK178.out 2
  have hns14_0 := NB177_178.out
  have hms14_0 := NB178_177.out
  refine skip_ (w1 := ?_) (by rfl) rfl ?_ ?_
  rotate_left
  ·go_simp
   rfl
  refine hK.out _ _ ⟨(My.c3 NB177_178.out hHeld.1), (My.c3 NB177_178.out hHeld.2.1), (My.c3 NB177_178.out hHeld.2.2)⟩ (fun hHeld => ?_)
  clear hK K
  refine My.pu_ 8 7 9 HT_.out ?_
  refine done_ (done_of HT_.out (by kernel_rfl)) ?_
  try go_wp2
  refine bodyPost_ret (results_ct rfl _ _ gb178 49 #[.int .i64 t180, .int .i64 t181, .int .i64 t182] (0, 0) _ rfl ((My.sv_ BK178)) Try.underlying49 rfl (by kernel_rfl)) rfl ?_
  exact ⟨My.r2, (My.bl_ HB)⟩
 ·replace c4 := Bool.eq_false_iff.mpr c4
  subst c4
  rw [if_neg (show ¬ (false = true) by decide)] at H
  replace H := Option.bind_eq_some_iff.mp H
  obtain ⟨t184, A150, H⟩ := H
  try dsimp only at H
  have A15 := My.am A150
  clear A150
  replace H := Option.bind_eq_some_iff.mp H
  obtain ⟨⟨t185, t186, t187, t188⟩, A160, H⟩ := H
  try dsimp only at H
  have A16 := My.am A160
  clear A160
  simp only [Option.some.injEq, Prod.mk.injEq] at H
  obtain ⟨rfl, rfl, rfl, rfl⟩ := H
  go_enter Try.func72, Try.ntmps72
  try go_wp2_with (first | ((with_reducible refine gate_dst (N := 3) rfl ?_); refine My.bx 3 #[.int .i64 a0_0, .int .i64 a0_1, .int .i64 a0_2] 49 ?_; intro gb177 hg w17 hbox hb; have BK177 := My.am (hbox); have GE177 := My.nge hg (My.bl_ HB); replace HB := My.st HB hb; clear hb hbox hg) | ((with_reducible refine gate_dst (N := 6) rfl ?_); refine My.bx 6 #[.int .i64 0, .int .i64 0, .int .i64 0] 49 ?_; intro gb178 hg w18 hbox hb; have BK178 := My.am (hbox); have GE178 := My.nge hg (My.bl_ HB); replace HB := My.st HB hb; obtain ⟨NB177_178, NB178_177, BK177⟩ := My.nb hg hb BK177; clear hb hbox hg))
  replace BK177 := My.am (blk_drew BK177.out)
  replace BK178 := My.am (blk_drew BK178.out)
  replace HB := My.am (below_drew1 HB.out)
  refine start_ (n := 9) (S := fun w' => w'.cell? ⟨gb177, 0, none⟩ = some (.int .i64 a0_0) ∧ w'.cell? ⟨gb177, 1, none⟩ = some (.int .i64 a0_1) ∧ w'.cell? ⟨gb177, 2, none⟩ = some (.int .i64 a0_2)) (ds := []) #[false, false, false, false, false, false, false, false, false] (by kernel_rfl) rfl rfl ⟨My.b_ BK177 0, My.b_ BK177 1, My.b_ BK177 2⟩ (fun hHeld => ?_); refine with_tabW pot_Do.tab3 pot_Do.bits3 (fun HT_ HW_ => ?_)
  generalize w18.drew = w19 at BK177 BK178 HB hHeld ⊢
  refine My.pv_ 1 17 9 2 HT_.out ?_
  refine My.tv_ 0 16 9 3 HT_.out HW_.out hHeld rfl rfl (by rintro w' ⟨s0, s1, s2⟩; go_simp; with_reducible rfl) ?_
  refine My.ta_ 2 18 9 HT_.out HW_.out hHeld rfl rfl (by rintro w' ⟨s0, s1, s2⟩; go_simp; with_reducible rfl) ?_
  refine one_ (i := 3) (N := some 19) (My.Mb 9 15) rfl rfl (one_of HT_.out (by kernel_rfl)) (by decide) (fun K hK => ?_)
  refine goes_ Try.func87 (by kernel_rfl) rfl #[.agg #[.int .i64 a0_0, .int .i64 a0_1, .int .i64 a0_2]] (by rfl) rfl rfl My.gx ?_
  with_reducible refine (pot_Room.calls a0_0 a0_1 a0_2 t184 _ A15.out).mono ?_
  rintro e w20 ⟨rfl, hb⟩
  refine ⟨_, rfl, ?_⟩
  replace BK177 := My.ab BK177 hb
  replace BK178 := My.ab BK178 hb
  replace HB := My.st HB hb
  (try clear hb)
  (try clear hb2)
  (try clear hk)
  (try clear hi)
  refine hK.out _ _ ⟨My.b_ BK177 0, My.b_ BK177 1, My.b_ BK177 2⟩ (fun hHeld => ?_)
  clear hK K
  refine My.nm 19 ?_
  refine one_ (i := 4) (N := some 20) (My.Mb 9 31) rfl rfl (one_of HT_.out (by kernel_rfl)) (by decide) (fun K hK => ?_)
  refine goes_ Try.func85 (by kernel_rfl) rfl #[.agg #[.int .i64 a0_0, .int .i64 a0_1, .int .i64 a0_2], .int .i64 a2, .int .i64 t184, .int .i64 1, .int .i64 1, .int .i64 0] (by rfl) rfl rfl My.gx ?_
  with_reducible refine (pot_moved.calls k a0_0 a0_1 a0_2 a2 t184 1 1 0 t185 t186 t187 t188 _ A16.out).mono ?_
  rintro e w21 ⟨rfl, hb⟩
  refine ⟨_, rfl, ?_⟩
  replace BK177 := My.ab BK177 hb
  replace BK178 := My.ab BK178 hb
  replace HB := My.st HB hb
  (try clear hb)
  (try clear hb2)
  (try clear hk)
  (try clear hi)
  refine hK.out _ _ ⟨My.b_ BK177 0, My.b_ BK177 1, My.b_ BK177 2⟩ (fun hHeld => ?_)
  clear hK K
  refine My.nm 20 ?_
  refine My.pu_ 5 21 9 HT_.out ?_
  refine My.pu_ 6 22 9 HT_.out ?_
  refine one_ (i := 7) (N := none) (My.Mb 9 255) rfl rfl (one_of HT_.out (by kernel_rfl)) (by decide) (fun K hK => ?_)
  have hs22 : w21.cell? ⟨gb178, 0, none⟩ = some (.int .i64 0) := My.b_ BK178 0
  have hfs22 := blk_frozen BK178.out 0
  have hns22_0 := NB177_178.out
  have hms22_0 := NB178_177.out
  have hs23 : w21.cell? ⟨gb178, 1, none⟩ = some (.int .i64 0) := My.b_ BK178 1
  have hfs23 := blk_frozen BK178.out 1
  have hns23_0 := NB177_178.out
  have hms23_0 := NB178_177.out
  have hs24 : w21.cell? ⟨gb178, 2, none⟩ = some (.int .i64 0) := My.b_ BK178 2
  have hfs24 := blk_frozen BK178.out 2
  have hns24_0 := NB177_178.out
  have hms24_0 := NB178_177.out
  refine skip_ (w1 := ?_) (by rfl) rfl ?_ ?_
  rotate_left
  ·go_simp
   rfl
  refine hK.out _ _ ⟨(My.c3 NB177_178.out hHeld.1), (My.c3 NB177_178.out hHeld.2.1), (My.c3 NB177_178.out hHeld.2.2)⟩ (fun hHeld => ?_)
  clear hK K
  refine My.pu_ 8 7 9 HT_.out ?_
  refine done_ (done_of HT_.out (by kernel_rfl)) ?_
  try go_wp2
  refine bodyPost_ret (results_ct rfl _ _ gb178 49 #[.int .i64 t185, .int .i64 t186, .int .i64 t187] (0, 0) _ rfl ((My.sv_ BK178)) Try.underlying49 rfl (by kernel_rfl)) rfl ?_
  exact ⟨My.r2, (My.bl_ HB)⟩

end Go.Proofs.Ytikanbdhpafbiaa.PO
