-- Written by a program of this session (wip/tools/mp.py over the kit's printer); Lean checks it.
import Derived.Test.YtikanbdhpafbiaaPZx0
namespace Go.Proofs.Ytikanbdhpafbiaa.PZ
open Go.RowKit Go.Proofs.YtikanbdhpafbiaaW.PrintWords Go.Proofs.YtikanbdhpafbiaaW.PrintLast Go.Proofs.YtikanbdhpafbiaaW.PrintMore
attribute [local go_sem] max2_int min2_int max_two min_two max_three min_three max_four min_four   -- for this text's walks alone
set_option linter.unusedVariables false
set_option maxHeartbeats 8000000
set_option maxRecDepth 100000
set_option linter.unusedSimpArgs false

/-! ### ententelaw07_small: function 8 -/
mutual
def ententelaw07_small.j0 : Nat → Bool → List (S51) → List (S64) → Option (Bool)
 | 0, _, _, _ => none
 | k + 1, x25, x102000, x102001 => if x25 = true then (some false) else (ententelaw07_small.l0 k 0 x102000 x102001)
def ententelaw07_small.l0 : Nat → Int → List (S51) → List (S64) → Option (Bool)
 | 0, _, _, _ => none
 | k + 1, x3, x102000, x102001 => if x3 < (x102001.length : Int) then (if 0 ≤ x3 then (if (((rd_T64 x102001 x3).f0).size : Int) > 1000 then (some false) else (ententelaw07_small.l0 k (wrap64 (x3 + 1)) x102000 x102001)) else (none)) else (some true)
end
def ententelaw07_small.f (k : Nat) (l0_0 : List (S51)) (l0_1 : List (S64)) : Option (Bool) := if (l0_0.length : Int) > 100 then (ententelaw07_small.j0 k true l0_0 l0_1) else (if (l0_1.length : Int) > 150 then (if (l0_1.length : Int) ≤ 500 then (ententelaw07_small.j0 k true l0_0 l0_1) else (ententelaw07_small.j0 k (decide ((l0_1.length : Int) > 1000)) l0_0 l0_1)) else (ententelaw07_small.j0 k (decide ((l0_1.length : Int) > 1000)) l0_0 l0_1))
theorem ententelaw07_small.mono_l : ∀ k, (∀ y0 y1 y2, LeO (ententelaw07_small.j0 k y0 y1 y2) (ententelaw07_small.j0 (k + 1) y0 y1 y2)) ∧ (∀ y0 y1 y2, LeO (ententelaw07_small.l0 k y0 y1 y2) (ententelaw07_small.l0 (k + 1) y0 y1 y2))
 | 0 => ⟨fun _ _ _ r h => by simp [ententelaw07_small.j0] at h, fun _ _ _ r h => by simp [ententelaw07_small.l0] at h⟩
 | k + 1 => by
  obtain ⟨ih0, ih1⟩ := ententelaw07_small.mono_l k
  refine ⟨?_, ?_⟩
  ·intro y0 y1 y2
   unfold ententelaw07_small.j0
   repeat' (with_reducible first | exact ih0 _ _ _ | exact ih1 _ _ _ | exact LeO.refl _ | exact LeO.none _ | apply LeO.ite | refine LeO.bind ?_ (fun _ => ?_))
  intro y0 y1 y2
  unfold ententelaw07_small.l0
  repeat' (with_reducible first | exact ih0 _ _ _ | exact ih1 _ _ _ | exact LeO.refl _ | exact LeO.none _ | apply LeO.ite | refine LeO.bind ?_ (fun _ => ?_))
theorem ententelaw07_small.mono : ∀ a0 a1 k, LeO (ententelaw07_small.f k a0 a1) (ententelaw07_small.f (k + 1) a0 a1) := by
 intro a0 a1 k
 obtain ⟨ih0, ih1⟩ := ententelaw07_small.mono_l k
 unfold ententelaw07_small.f
 repeat' (with_reducible first | exact ih0 _ _ _ | exact ih1 _ _ _ | exact LeO.refl _ | exact LeO.none _ | apply LeO.ite | refine LeO.bind ?_ (fun _ => ?_))
theorem ententelaw07_small.calls (k : Nat) (A0_0 : Option Addr) (c0_0 : Nat) (l0_0 : List (S51)) (A0_1 : Option Addr) (c0_1 : Nat) (l0_1 : List (S64)) (r : Bool) (w : World) (hr0_0 : Kd.C k51 w A0_0 l0_0.length l0_0) (hc0_0 : l0_0.length ≤ c0_0) (hr0_1 : Kd.C k64 w A0_1 l0_1.length l0_1) (hc0_1 : l0_1.length ≤ c0_1) (h : ententelaw07_small.f k l0_0 l0_1 = some r) :
  Calls Try.prog 8 #[.agg #[.slice A0_0 l0_0.length c0_0, .slice A0_1 l0_1.length c0_1]] w fun e w' => e = .returned (.bool r) ∧ Below w.heap.size w w' := by
 have hu25 := Try.underlying25
 have HR0_0 := My.am hr0_0
 have HC0_0 := My.am hc0_0
 clear hr0_0 hc0_0
 have HR0_1 := My.am hr0_1
 have HC0_1 := My.am hc0_1
 clear hr0_1 hc0_1
 have HB := My.am (Below.refl w.heap.size w)
 unfold ententelaw07_small.f at h
 have H := h
 clear h
 have HC2 := My.am H
 clear H
 go_enter Try.func8, Try.ntmps8
 go_upto_region 1 with (first | ((with_reducible refine gate_dst (N := 1) rfl ?_); (try (refine gate_guard (by rfl) ?_; dsimp only)); refine My.bx 1 #[.slice A0_0 l0_0.length c0_0, .slice A0_1 l0_1.length c0_1] 25 ?_; intro gb101 hg w3 hbox hb; have BK101 := My.am (hbox); have GE101 := My.nge hg (My.bl_ HB); replace HB := My.st HB hb; clear hb hbox hg))
 (try simp only [Act.put, List.setIfInBounds_toArray, List.set_cons_zero, List.set_cons_succ])
 go_cut [25] (fun v25 wc => ∃ (kq : Nat) (x25_1 : Bool), v25 = .bool x25_1 ∧ Aside0 (ententelaw07_small.j0 kq x25_1 l0_0 l0_1 = some r) ∧ Aside0 (kq ≤ k) ∧ Aside0 (wc.heap[gb101]? = some (.cells #[(.slice A0_0 l0_0.length c0_0), (.slice A0_1 l0_1.length c0_1)] 25 (0, 0))) ∧ Aside0 (Below w.heap.size w wc))
 case first =>
  have H := HC2.out
  clear HC2
  by_cases c4 : (l0_0.length : Int) > 100
  ·rw [if_pos c4] at H
   have c4b0 : decide (100 < (l0_0.length : Int)) = true := decide_eq_true c4
   have c4b1 : decide (100 < l0_0.length) = true := decide_eq_true (by omega)
   clear c4
   (first | rw [c4b0] | (simp only [i64_w, i32_w]; rw [c4b0]) | skip)
   have H' := My.am H
   clear H
   have hq5 := My.cz2 BK101
   go_wp2
   go_meet
   case rel => exact ⟨_, (true), My.r1, H', ⟨My.r4⟩, ⟨(My.at_ BK101)⟩, ⟨(My.bl_ HB)⟩⟩
  ·rw [if_neg c4] at H
   have c4b0 : decide (100 < (l0_0.length : Int)) = false := decide_eq_false c4
   have c4b1 : decide (100 < l0_0.length) = false := decide_eq_false (by omega)
   clear c4
   (first | rw [c4b0] | (simp only [i64_w, i32_w]; rw [c4b0]) | skip)
   by_cases c6 : (l0_1.length : Int) > 150
   ·rw [if_pos c6] at H
    have c6b0 : decide (150 < (l0_1.length : Int)) = true := decide_eq_true c6
    have c6b1 : decide (150 < l0_1.length) = true := decide_eq_true (by omega)
    clear c6
    by_cases c7 : (l0_1.length : Int) ≤ 500
    ·rw [if_pos c7] at H
     have c7b0 := decide_eq_true c7
     have c7b1 : decide (l0_1.length ≤ 500) = true := decide_eq_true (by omega)
     clear c7
     have H' := My.am H
     clear H
     have hq8 := My.cz2 BK101
     go_wp2
     go_meet
     case rel => exact ⟨_, (true), My.r1, H', ⟨My.r4⟩, ⟨(My.at_ BK101)⟩, ⟨(My.bl_ HB)⟩⟩
    rw [if_neg c7] at H
    have c7b0 := decide_eq_false c7
    have c7b1 : decide (l0_1.length ≤ 500) = false := decide_eq_false (by omega)
    clear c7
    have H' := My.am H
    clear H
    have hq9 := My.cz2 BK101
    go_wp2
    go_meet
    case rel => exact ⟨_, (decide ((l0_1.length : Int) > 1000)), My.r1, H', ⟨My.r4⟩, ⟨(My.at_ BK101)⟩, ⟨(My.bl_ HB)⟩⟩
   rw [if_neg c6] at H
   have c6b0 : decide (150 < (l0_1.length : Int)) = false := decide_eq_false c6
   have c6b1 : decide (150 < l0_1.length) = false := decide_eq_false (by omega)
   clear c6
   have H' := My.am H
   clear H
   have hq10 := My.cz2 BK101
   go_wp2
   go_meet
   case rel => exact ⟨_, (decide ((l0_1.length : Int) > 1000)), My.r1, H', ⟨My.r4⟩, ⟨(My.at_ BK101)⟩, ⟨(My.bl_ HB)⟩⟩
 case rest =>
  clear HC2
  obtain ⟨kq, x25_1, rfl, HA, HJ1, BK101, HB⟩ := hcut
  cases kq with
  | zero => exact absurd HA.out (by simp [ententelaw07_small.j0])
  | succ kj1 =>
   have H := HA.out
   clear HA
   simp only [ententelaw07_small.j0] at H
   by_cases c11 : x25_1 = true
   ·subst c11
    rw [if_pos rfl] at H
    obtain rfl := Option.some.inj H
    go_wp2
    go_ret
    exact ⟨My.r2, (My.bl_ HB)⟩
   replace c11 := Bool.eq_false_iff.mpr c11
   subst c11
   rw [if_neg (show ¬ (false = true) by decide)] at H
   have H' := My.am H
   clear H
   go_wp2
   go_loopg [3] kj1 (fun kq v3 w' => ∃ (x3_2 : Int), v3 = .int .i64 x3_2 ∧ Aside0 (ententelaw07_small.l0 kq x3_2 l0_0 l0_1 = some r) ∧ Aside0 (kq ≤ kj1) ∧ Aside0 (w'.heap[gb101]? = some (.cells #[(.slice A0_0 l0_0.length c0_0), (.slice A0_1 l0_1.length c0_1)] 25 (0, 0))) ∧ Aside0 (Below w.heap.size w w'))
   case atStart => exact ⟨(0), My.r1, H', ⟨Nat.le_refl _⟩, ⟨(My.at_ BK101)⟩, ⟨(My.bl_ HB)⟩⟩
   case round =>
    clear H'
    try clear c11
    obtain ⟨x3_2, rfl, HA, HK2, BK101, HB⟩ := hrel
    cases gk with
    | zero => exact absurd HA.out (by simp [ententelaw07_small.l0])
    | succ k2 =>
     have H := HA.out
     clear HA
     simp only [ententelaw07_small.l0] at H
     by_cases c12 : x3_2 < (l0_1.length : Int)
     rotate_left
     ·rw [if_neg c12] at H
      have c12b0 := decide_eq_false c12
      clear c12
      obtain rfl := Option.some.inj H
      have hq17 := My.cz2 BK101
      go_wp2
      go_ret
      exact ⟨My.r2, (My.bl_ HB)⟩

     rw [if_pos c12] at H
     have c12b0 := decide_eq_true c12
     clear c12
     replace H := My.ds H
     obtain ⟨c13b0, H⟩ := H
     by_cases c14 : (((rd_T64 l0_1 x3_2).f0).size : Int) > 1000
     ·rw [if_pos c14] at H
      have c14b0 : decide (1000 < (((rd_T64 l0_1 x3_2).f0).size : Int)) = true := decide_eq_true c14
      have c14b1 : decide (1000 < ((rd_T64 l0_1 x3_2).f0).size) = true := decide_eq_true (by omega)
      clear c14
      obtain rfl := Option.some.inj H
      have hq15 := My.cz2 BK101
      have p102 : 0 ≤ (x3_2 : Int) := My.as_
      have q102 : x3_2 < (l0_1.length : Int) := My.as_
      obtain ⟨ad102, e102, hx102_0, hx102_1, hx102_2, hx102_3, hx102_4⟩ := My.up5 HB (at_T64 HR0_1.out x3_2 p102 q102)
      cases e102
      replace p102 := eq_true p102
      replace q102 := eq_true q102
      go_wp2
      go_ret
      exact ⟨My.r2, (My.bl_ HB)⟩
     rw [if_neg c14] at H
     have c14b0 : decide (1000 < (((rd_T64 l0_1 x3_2).f0).size : Int)) = false := decide_eq_false c14
     have c14b1 : decide (1000 < ((rd_T64 l0_1 x3_2).f0).size) = false := decide_eq_false (by omega)
     clear c14
     have H' := My.am H
     clear H
     have hq16 := My.cz2 BK101
     have p102 : 0 ≤ (x3_2 : Int) := My.as_
     have q102 : x3_2 < (l0_1.length : Int) := My.as_
     obtain ⟨ad102, e102, hx102_0, hx102_1, hx102_2, hx102_3, hx102_4⟩ := My.up5 HB (at_T64 HR0_1.out x3_2 p102 q102)
     cases e102
     replace p102 := eq_true p102
     replace q102 := eq_true q102
     go_wp2
     go_roundg k2
     case measure => have := HJ1.out; have := HK2.out; omega
     case rel => exact ⟨(wrap64 (x3_2 + 1)), My.r1, H', ⟨by have := HJ1.out; have := HK2.out; omega⟩, ⟨(My.at_ BK101)⟩, ⟨(My.bl_ HB)⟩⟩
-- NOT PRINTED: function 93 (bytealg_abigen_runtime_cmpstring)

-- NOT PRINTED: function 81 (bytealg_CompareString)

/-! ### strings_Compare: function 63 -/

def strings_Compare.f (a b : ByteArray) : Option Int := some (Lib.compareBytes a.data.toList b.data.toList)
set_option maxHeartbeats 1000000 in
theorem strings_Compare.calls (a0 a1 : ByteArray) (r : Int) (w : World) (h : strings_Compare.f a0 a1 = some r) : Calls Try.prog 63 #[.string a0, .string a1] w fun e w' => e = .returned (.int .i64 r) ∧ Below w.heap.size w w' := by
 obtain rfl := Option.some.inj h
 clear h
 go_enter Try.func63, Try.ntmps63
 go_wp2
 rw [run_callFunc_extern Try.func93 (by kernel_rfl) (by kernel_rfl) (by kernel_rfl) (e := Extern.BytealgCompare.compare) (by kernel_rfl), Lib.run_compareString]
 simp only [Result.andThen]
 rw [Oper.upon_value]
 go_wp2
 go_ret
 exact ⟨rfl, Below.refl _ _⟩


/-! ### ledger_book_account_1: function 62 -/
def ledger_book_account_1.f (a0_0 : ByteArray) (a0_1 : Int) (a0_2 : Int) (a0_3 : Int) (a0_4 : Int) (a0_5 : Int) (a0_6 : Int) (a1 : ByteArray) : Option (Int) := (strings_Compare.f a0_0 a1).bind fun t104 => (some t104)
theorem ledger_book_account_1.calls (a0_0 : ByteArray) (a0_1 : Int) (a0_2 : Int) (a0_3 : Int) (a0_4 : Int) (a0_5 : Int) (a0_6 : Int) (a1 : ByteArray) (r : Int) (w : World) (h : ledger_book_account_1.f a0_0 a0_1 a0_2 a0_3 a0_4 a0_5 a0_6 a1 = some r) :
  Calls Try.prog 62 #[.agg #[.string a0_0, .int .i64 a0_1, .int .i64 a0_2, .int .i64 a0_3, .int .i64 a0_4, .int .i64 a0_5, .int .i64 a0_6], .string a1] w fun e w' => e = .returned (.int .i64 r) ∧ Below w.heap.size w w' := by
 have hu51 := Try.underlying51
 have HB := My.am (Below.refl w.heap.size w)
 unfold ledger_book_account_1.f at h
 have H := h
 clear h
 replace H := Option.bind_eq_some_iff.mp H
 obtain ⟨t104, A30, H⟩ := H
 try dsimp only at H
 have A3 := My.am A30
 clear A30
 obtain rfl := Option.some.inj H
 go_enter Try.func62, Try.ntmps62
 go_wp2_with (first | ((with_reducible refine gate_dst (N := 2) rfl ?_); refine My.bx 2 #[.string a0_0, .int .i64 a0_1, .int .i64 a0_2, .int .i64 a0_3, .int .i64 a0_4, .int .i64 a0_5, .int .i64 a0_6] 51 ?_; intro gb103 hg w4 hbox hb; have BK103 := My.am (hbox); have GE103 := My.nge hg (My.bl_ HB); replace HB := My.st HB hb; clear hb hbox hg; have hq5 := My.cz7 BK103) | ((with_reducible refine gate_callee (f := 63) rfl ?_); refine goesL_ (some 8) rfl rfl Try.func63 (by kernel_rfl) rfl #[.string a0_0, .string a1] rfl My.gx ?_; (with_reducible refine (strings_Compare.calls a0_0 a1 t104 _ A3.out).mono ?_); rintro e w6 ⟨rfl, hb⟩; refine ⟨_, rfl, ?_⟩; replace HB := My.st HB hb; (try clear hb)))
 go_ret
 exact ⟨My.r2, (My.bl_ HB)⟩

/-! ### api_Account_string: function 61 -/
def api_Account_string.l0 : Nat → List (S51) → ByteArray → Int → Int → Int → Option (Int × Bool)
 | 0, _, _, _, _, _ => none
 | k + 1, x0, x1, x8, x9, x10 => if x9 < x10 then (if 0 ≤ (wrap64 ((IntKind.u64.wrap (wrap64 (x9 + x10))) / 2)) then (if (wrap64 ((IntKind.u64.wrap (wrap64 (x9 + x10))) / 2)) < (x0.length : Int) then ((ledger_book_account_1.f ((rd_T51 x0 (wrap64 ((IntKind.u64.wrap (wrap64 (x9 + x10))) / 2))).f0) ((rd_T51 x0 (wrap64 ((IntKind.u64.wrap (wrap64 (x9 + x10))) / 2))).f1.f0) ((rd_T51 x0 (wrap64 ((IntKind.u64.wrap (wrap64 (x9 + x10))) / 2))).f1.f1) ((rd_T51 x0 (wrap64 ((IntKind.u64.wrap (wrap64 (x9 + x10))) / 2))).f1.f2) ((rd_T51 x0 (wrap64 ((IntKind.u64.wrap (wrap64 (x9 + x10))) / 2))).f2.f0) ((rd_T51 x0 (wrap64 ((IntKind.u64.wrap (wrap64 (x9 + x10))) / 2))).f2.f1) ((rd_T51 x0 (wrap64 ((IntKind.u64.wrap (wrap64 (x9 + x10))) / 2))).f2.f2) x1).bind fun t106 => (if t106 < 0 then (api_Account_string.l0 k x0 x1 x8 (wrap64 ((wrap64 ((IntKind.u64.wrap (wrap64 (x9 + x10))) / 2)) + 1)) x10) else (api_Account_string.l0 k x0 x1 x8 x9 (wrap64 ((IntKind.u64.wrap (wrap64 (x9 + x10))) / 2))))) else (none)) else (none)) else (if x9 < x8 then (if 0 ≤ x9 then (if x9 < (x0.length : Int) then ((ledger_book_account_1.f ((rd_T51 x0 x9).f0) ((rd_T51 x0 x9).f1.f0) ((rd_T51 x0 x9).f1.f1) ((rd_T51 x0 x9).f1.f2) ((rd_T51 x0 x9).f2.f0) ((rd_T51 x0 x9).f2.f1) ((rd_T51 x0 x9).f2.f2) x1).bind fun t108 => (some (x9, (t108 == 0)))) else (none)) else (none)) else (some (x9, false)))
def api_Account_string.f (k : Nat) (l0 : List (S51)) (a1 : ByteArray) (a2 : Int) : Option (Int × Bool) := api_Account_string.l0 k l0 a1 (l0.length : Int) 0 (l0.length : Int)
theorem api_Account_string.mono_l : ∀ k, (∀ y0 y1 y2 y3 y4, LeO (api_Account_string.l0 k y0 y1 y2 y3 y4) (api_Account_string.l0 (k + 1) y0 y1 y2 y3 y4))
 | 0 => fun _ _ _ _ _ r h => by simp [api_Account_string.l0] at h
 | k + 1 => by
  have ih0 := api_Account_string.mono_l k
  intro y0 y1 y2 y3 y4
  unfold api_Account_string.l0
  repeat' (with_reducible first | exact ih0 _ _ _ _ _ | exact LeO.refl _ | exact LeO.none _ | apply LeO.ite | refine LeO.bind ?_ (fun _ => ?_))
theorem api_Account_string.mono : ∀ a0 a1 a2 k, LeO (api_Account_string.f k a0 a1 a2) (api_Account_string.f (k + 1) a0 a1 a2) := by
 intro a0 a1 a2 k
 have ih0 := api_Account_string.mono_l k
 unfold api_Account_string.f
 repeat' (with_reducible first | exact ih0 _ _ _ _ _ | exact LeO.refl _ | exact LeO.none _ | apply LeO.ite | refine LeO.bind ?_ (fun _ => ?_))
theorem api_Account_string.calls (k : Nat) (A0 : Option Addr) (c0 : Nat) (l0 : List (S51)) (a1 : ByteArray) (a2 : Int) (r1 : Int) (r2 : Bool) (w : World) (hr0 : Kd.C k51 w A0 l0.length l0) (hc0 : l0.length ≤ c0) (h : api_Account_string.f k l0 a1 a2 = some (r1, r2)) :
  Calls Try.prog 61 #[.slice A0 l0.length c0, .string a1, .func (.func 62) #[] #[]] w fun e w' => e = .returned (.tuple #[.int .i64 r1, .bool r2]) ∧ Below w.heap.size w w' := by
 have hu51 := Try.underlying51
 have HR0 := My.am hr0
 have HC0 := My.am hc0
 clear hr0 hc0
 have HB := My.am (Below.refl w.heap.size w)
 unfold api_Account_string.f at h
 have H := h
 clear h
 have H' := My.am H
 clear H
 go_enter Try.func61, Try.ntmps61
 go_wp2
 go_loopg [9, 10] k (fun kq v9 v10 w' => ∃ (x9_1 : Int) (x10_1 : Int), v9 = .int .i64 x9_1 ∧ v10 = .int .i64 x10_1 ∧ Aside0 (api_Account_string.l0 kq l0 a1 (l0.length : Int) x9_1 x10_1 = some (r1, r2)) ∧ Aside0 (kq ≤ k) ∧ Aside0 (Below w.heap.size w w'))
 case atStart => exact ⟨(0), ((l0.length : Int)), My.r1, My.r1, H', ⟨Nat.le_refl _⟩, ⟨(My.bl_ HB)⟩⟩
 case round =>
  clear H'
  obtain ⟨x9_1, x10_1, rfl, rfl, HA, HK1, HB⟩ := hrel
  cases gk with
  | zero => exact absurd HA.out (by simp [api_Account_string.l0])
  | succ k1 =>
   have H := HA.out
   clear HA
   simp only [api_Account_string.l0] at H
   by_cases c4 : x9_1 < x10_1
   rotate_left
   ·rw [if_neg c4] at H
    have c4b0 := decide_eq_false c4
    clear c4
    by_cases c12 : x9_1 < (l0.length : Int)
    rotate_left
    ·rw [if_neg c12] at H
     have c12b0 := decide_eq_false c12
     clear c12
     simp only [Option.some.injEq, Prod.mk.injEq] at H
     obtain ⟨rfl, rfl⟩ := H
     go_wp2
     go_ret2
     exact ⟨My.r2, (My.bl_ HB)⟩

    rw [if_pos c12] at H
    have c12b0 := decide_eq_true c12
    clear c12
    replace H := My.ds H
    obtain ⟨c13b0, H⟩ := H
    replace H := My.ds H
    obtain ⟨c14b0, H⟩ := H
    replace H := Option.bind_eq_some_iff.mp H
    obtain ⟨t108, A150, H⟩ := H
    try dsimp only at H
    have A15 := My.am A150
    clear A150
    simp only [Option.some.injEq, Prod.mk.injEq] at H
    obtain ⟨rfl, rfl⟩ := H
    have p107 : 0 ≤ (x9_1 : Int) := My.as_
    have q107 : x9_1 < (l0.length : Int) := My.as_
    obtain ⟨ad107, e107, hx107_0, hx107_1, hx107_2, hx107_3, hx107_4, hx107_5, hx107_6⟩ := My.up7 HB (at_T51 HR0.out x9_1 p107 q107)
    cases e107
    replace p107 := eq_true p107
    replace q107 := eq_true q107
    go_wp2_with (first | (go_at_call 62; (with_reducible refine (ledger_book_account_1.calls ((rd_T51 l0 x9_1).f0) ((rd_T51 l0 x9_1).f1.f0) ((rd_T51 l0 x9_1).f1.f1) ((rd_T51 l0 x9_1).f1.f2) ((rd_T51 l0 x9_1).f2.f0) ((rd_T51 l0 x9_1).f2.f1) ((rd_T51 l0 x9_1).f2.f2) a1 t108 _ A15.out).mono ?_); rintro e w16 ⟨rfl, hb⟩; replace HB := My.st HB hb; (try clear hb)))
    go_ret2
    exact ⟨My.r2, (My.bl_ HB)⟩
   rw [if_pos c4] at H
   have c4b0 := decide_eq_true c4
   clear c4
   obtain ⟨ji5, hji5⟩ : ∃ j_ : Int, (wrap64 ((IntKind.u64.wrap (wrap64 (x9_1 + x10_1))) / 2)) = j_ := ⟨_, rfl⟩
   replace H : (if 0 ≤ (ji5) then (if (ji5) < (l0.length : Int) then ((ledger_book_account_1.f ((rd_T51 l0 (ji5)).f0) ((rd_T51 l0 (ji5)).f1.f0) ((rd_T51 l0 (ji5)).f1.f1) ((rd_T51 l0 (ji5)).f1.f2) ((rd_T51 l0 (ji5)).f2.f0) ((rd_T51 l0 (ji5)).f2.f1) ((rd_T51 l0 (ji5)).f2.f2) a1).bind fun t106 => (if t106 < 0 then (api_Account_string.l0 k1 l0 a1 (l0.length : Int) (wrap64 ((ji5) + 1)) x10_1) else (api_Account_string.l0 k1 l0 a1 (l0.length : Int) x9_1 ji5))) else (none)) else (none)) = some (r1, r2) := by first | (rw [hji5] at H; exact H) | (simp only [hji5] at H ⊢; exact H)
   have hji5w : (IntKind.i64.wrap ((IntKind.u64.wrap (wrap64 (x9_1 + x10_1))) / 2)) = ji5 := (i64_w _).trans hji5
   replace H := My.ds H
   obtain ⟨c6b0, H⟩ := H
   replace H := My.ds H
   obtain ⟨c7b0, H⟩ := H
   replace H := Option.bind_eq_some_iff.mp H
   obtain ⟨t106, A80, H⟩ := H
   try dsimp only at H
   have A8 := My.am A80
   clear A80
   by_cases c9 : t106 < 0
   ·rw [if_pos c9] at H
    have c9b0 := decide_eq_true c9
    clear c9
    have H' := My.am H
    clear H
    have p105 : 0 ≤ ((ji5) : Int) := My.as_
    have q105 : (ji5) < (l0.length : Int) := My.as_
    obtain ⟨ad105, e105, hx105_0, hx105_1, hx105_2, hx105_3, hx105_4, hx105_5, hx105_6⟩ := My.up7 HB (at_T51 HR0.out (ji5) p105 q105)
    cases e105
    replace p105 := eq_true p105
    replace q105 := eq_true q105
    go_wp2_with (first | ((with_reducible refine gate_dst (N := 30) rfl ?_); refine My.goesV_ (f := 62) (first := #[]) (cap := #[]) (some 30) rfl rfl Try.func62 (by kernel_rfl) rfl #[.agg #[.string ((rd_T51 l0 (ji5)).f0), .int .i64 ((rd_T51 l0 (ji5)).f1.f0), .int .i64 ((rd_T51 l0 (ji5)).f1.f1), .int .i64 ((rd_T51 l0 (ji5)).f1.f2), .int .i64 ((rd_T51 l0 (ji5)).f2.f0), .int .i64 ((rd_T51 l0 (ji5)).f2.f1), .int .i64 ((rd_T51 l0 (ji5)).f2.f2)], .string a1] rfl rfl (by simp only [List.map_toArray, List.map_cons, List.map_nil, Array.empty_append, Array.append_empty]; first | done | rfl | (simp [Act.eval]; done)) ?_; (with_reducible refine (ledger_book_account_1.calls ((rd_T51 l0 (ji5)).f0) ((rd_T51 l0 (ji5)).f1.f0) ((rd_T51 l0 (ji5)).f1.f1) ((rd_T51 l0 (ji5)).f1.f2) ((rd_T51 l0 (ji5)).f2.f0) ((rd_T51 l0 (ji5)).f2.f1) ((rd_T51 l0 (ji5)).f2.f2) a1 t106 _ A8.out).mono ?_); rintro e w10 ⟨rfl, hb⟩; refine ⟨_, rfl, ?_⟩; replace HB := My.st HB hb; (try clear hb)))
    go_roundg k1
    case measure => have := HK1.out; omega
    case rel => exact ⟨(wrap64 ((ji5) + 1)), (x10_1), (by first | rfl | (simp; done) | (simp only [← hji5] <;> (first | rfl | simp)) | (simp [*]; done)), My.r1, H', ⟨by have := HK1.out; omega⟩, ⟨(My.bl_ HB)⟩⟩
   rw [if_neg c9] at H
   have c9b0 := decide_eq_false c9
   clear c9
   have H' := My.am H
   clear H
   have p105 : 0 ≤ ((ji5) : Int) := My.as_
   have q105 : (ji5) < (l0.length : Int) := My.as_
   obtain ⟨ad105, e105, hx105_0, hx105_1, hx105_2, hx105_3, hx105_4, hx105_5, hx105_6⟩ := My.up7 HB (at_T51 HR0.out (ji5) p105 q105)
   cases e105
   replace p105 := eq_true p105
   replace q105 := eq_true q105
   go_wp2_with (first | ((with_reducible refine gate_dst (N := 30) rfl ?_); refine My.goesV_ (f := 62) (first := #[]) (cap := #[]) (some 30) rfl rfl Try.func62 (by kernel_rfl) rfl #[.agg #[.string ((rd_T51 l0 (ji5)).f0), .int .i64 ((rd_T51 l0 (ji5)).f1.f0), .int .i64 ((rd_T51 l0 (ji5)).f1.f1), .int .i64 ((rd_T51 l0 (ji5)).f1.f2), .int .i64 ((rd_T51 l0 (ji5)).f2.f0), .int .i64 ((rd_T51 l0 (ji5)).f2.f1), .int .i64 ((rd_T51 l0 (ji5)).f2.f2)], .string a1] rfl rfl (by simp only [List.map_toArray, List.map_cons, List.map_nil, Array.empty_append, Array.append_empty]; first | done | rfl | (simp [Act.eval]; done)) ?_; (with_reducible refine (ledger_book_account_1.calls ((rd_T51 l0 (ji5)).f0) ((rd_T51 l0 (ji5)).f1.f0) ((rd_T51 l0 (ji5)).f1.f1) ((rd_T51 l0 (ji5)).f1.f2) ((rd_T51 l0 (ji5)).f2.f0) ((rd_T51 l0 (ji5)).f2.f1) ((rd_T51 l0 (ji5)).f2.f2) a1 t106 _ A8.out).mono ?_); rintro e w11 ⟨rfl, hb⟩; refine ⟨_, rfl, ?_⟩; replace HB := My.st HB hb; (try clear hb)))
   go_roundg k1
   case measure => have := HK1.out; omega
   case rel => exact ⟨(x9_1), (ji5), My.r1, (by first | rfl | (simp; done) | (simp only [← hji5] <;> (first | rfl | simp)) | (simp [*]; done)), H', ⟨by have := HK1.out; omega⟩, ⟨(My.bl_ HB)⟩⟩
/-! ### ledger_book_account: function 32 -/
def ledger_book_account.f (k : Nat) (l0_0 : List (S51)) (l0_1 : List (S64)) (a1 : ByteArray) : Option (Int × Bool) := (api_Account_string.f k l0_0 a1 0).bind fun bt110 => (some (bt110.1, bt110.2))
theorem ledger_book_account.mono : ∀ a0 a1 a2 k, LeO (ledger_book_account.f k a0 a1 a2) (ledger_book_account.f (k + 1) a0 a1 a2) := by
 intro a0 a1 a2 k
 unfold ledger_book_account.f
 repeat' (with_reducible first | exact api_Account_string.mono _ _ _ _ | exact LeO.refl _ | exact LeO.none _ | apply LeO.ite | refine LeO.bind ?_ (fun _ => ?_))
theorem ledger_book_account.calls (k : Nat) (A0_0 : Option Addr) (c0_0 : Nat) (l0_0 : List (S51)) (A0_1 : Option Addr) (c0_1 : Nat) (l0_1 : List (S64)) (a1 : ByteArray) (r1 : Int) (r2 : Bool) (w : World) (hr0_0 : Kd.C k51 w A0_0 l0_0.length l0_0) (hc0_0 : l0_0.length ≤ c0_0) (hr0_1 : Kd.C k64 w A0_1 l0_1.length l0_1) (hc0_1 : l0_1.length ≤ c0_1) (h : ledger_book_account.f k l0_0 l0_1 a1 = some (r1, r2)) :
  Calls Try.prog 32 #[.agg #[.slice A0_0 l0_0.length c0_0, .slice A0_1 l0_1.length c0_1], .string a1] w fun e w' => e = .returned (.tuple #[.int .i64 r1, .bool r2]) ∧ Below w.heap.size w w' := by
 have hu71 := Try.underlying71
 have HR0_0 := My.am hr0_0
 have HC0_0 := My.am hc0_0
 clear hr0_0 hc0_0
 have HR0_1 := My.am hr0_1
 have HC0_1 := My.am hc0_1
 clear hr0_1 hc0_1
 have HB := My.am (Below.refl w.heap.size w)
 unfold ledger_book_account.f at h
 have H := h
 clear h
 replace H := Option.bind_eq_some_iff.mp H
 obtain ⟨⟨t110, t111⟩, A30, H⟩ := H
 try dsimp only at H
 have A3 := My.am A30
 clear A30
 simp only [Option.some.injEq, Prod.mk.injEq] at H
 obtain ⟨rfl, rfl⟩ := H
 go_enter Try.func32, Try.ntmps32
 go_wp2_with (first | ((with_reducible refine gate_dst (N := 2) rfl ?_); refine My.bx 2 #[.slice A0_0 l0_0.length c0_0, .slice A0_1 l0_1.length c0_1] 71 ?_; intro gb109 hg w4 hbox hb; have BK109 := My.am (hbox); have GE109 := My.nge hg (My.bl_ HB); replace HB := My.st HB hb; clear hb hbox hg; have hq5 := My.cz2 BK109) | ((with_reducible refine gate_callee (f := 61) rfl ?_); refine goesL_ (some 10) rfl rfl Try.func61 (by kernel_rfl) rfl #[.slice A0_0 l0_0.length c0_0, .string a1, .func (.func 62) #[] #[]] rfl My.gx ?_; (with_reducible refine (api_Account_string.calls k _ _ l0_0 a1 0 t110 t111 _ ?side1 ?side2 A3.out).mono ?_); (case side1 => exact My.sd_ HR0_0 HB); (case side2 => exact HC0_0.out); rintro e w6 ⟨rfl, hb⟩; refine ⟨_, rfl, ?_⟩; replace HB := My.st HB hb; (try clear hb)))
 go_ret2
 exact ⟨My.r2, (My.bl_ HB)⟩

/-! ### ledger_key: function 38 -/
def ledger_key.f (a0 : ByteArray) : Option (Bool) := if a0.toList = ([] : List UInt8) then (some false) else (some (decide ((a0.size : Int) ≤ 100)))
theorem ledger_key.calls (a0 : ByteArray) (r : Bool) (w : World) (h : ledger_key.f a0 = some r) :
  Calls Try.prog 38 #[.string a0] w fun e w' => e = .returned (.bool r) ∧ Drawn0 w w' := by
 unfold ledger_key.f at h
 have H := h
 clear h
 by_cases c2 : a0.toList = ([] : List UInt8)
 ·rw [if_pos c2] at H
  have c2b0 : (a0.toList == ([] : List UInt8)) = true := beq_iff_eq.mpr c2
  have c2b1 : (a0.toList != ([] : List UInt8)) = false := bne_eq_false_iff_eq.mpr c2
  clear c2
  obtain rfl := Option.some.inj H
  go_enter Try.func38, Try.ntmps38
  go_wp2
  go_ret
  exact ⟨by first | rfl | (simp; done) | (simp [*]; done), by repeat (first | exact Drawn0.refl _ | apply Drawn0.step)⟩
 ·rw [if_neg c2] at H
  have c2b0 : (a0.toList == ([] : List UInt8)) = false := beq_eq_false_iff_ne.mpr c2
  have c2b1 : (a0.toList != ([] : List UInt8)) = true := bne_iff_ne.mpr c2
  obtain rfl := Option.some.inj H
  go_enter Try.func38, Try.ntmps38
  go_wp2
  go_ret
  exact ⟨by first | rfl | (simp; done) | (simp [*]; done), by repeat (first | exact Drawn0.refl _ | apply Drawn0.step)⟩

end Go.Proofs.Ytikanbdhpafbiaa.PZ
