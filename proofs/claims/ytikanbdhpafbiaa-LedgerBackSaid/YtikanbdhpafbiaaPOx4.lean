-- Written by a program of this session (wip/tools/mp.py over the kit's printer); Lean checks it.
import Derived.Test.YtikanbdhpafbiaaPOx0
namespace Go.Proofs.Ytikanbdhpafbiaa.PO
open Go.RowKit Go.Proofs.YtikanbdhpafbiaaW.PrintWords Go.Proofs.YtikanbdhpafbiaaW.PrintLast Go.Proofs.YtikanbdhpafbiaaW.PrintMore
attribute [local go_sem] max2_int min2_int max_two min_two max_three min_three max_four min_four   -- for this text's walks alone
set_option linter.unusedVariables false
set_option maxHeartbeats 8000000
set_option maxRecDepth 100000
set_option linter.unusedSimpArgs false

-- NOT PRINTED: function 93 (bytealg_abigen_runtime_cmpstring)

-- NOT PRINTED: function 81 (bytealg_CompareString)

/-! ### strings_Compare: function 63 -/

def strings_Compare.f (a b : ByteArray) : Option Int := some (Lib.compareBytes a.data.toList b.data.toList)
set_option maxHeartbeats 1000000 in
theorem strings_Compare.calls (a0 a1 : ByteArray) (r : Int) (w : World) (h : strings_Compare.f a0 a1 = some r) : Calls Try.prog 63 #[.string a0, .string a1] w fun e w' => e = .returned (.int .i64 r) ∧ Below w.heap.size w w' := by
 obtain rfl := Option.some.inj h
 clear h
 go_enter Try.func63, Try.ntmps63
 go_wp2
 rw [run_callFunc_extern Try.func93 (by kernel_rfl) (by kernel_rfl) (by kernel_rfl) (e := Extern.BytealgCompare.compare) (by kernel_rfl), Lib.run_compareString]
 simp only [Result.andThen]
 rw [Oper.upon_value]
 go_wp2
 go_ret
 exact ⟨rfl, Below.refl _ _⟩


/-! ### ledger_book_account_1: function 62 -/
def ledger_book_account_1.f (a0_0 : ByteArray) (a0_1 : Int) (a0_2 : Int) (a0_3 : Int) (a0_4 : Int) (a0_5 : Int) (a0_6 : Int) (a1 : ByteArray) : Option (Int) := (strings_Compare.f a0_0 a1).bind fun t102 => (some t102)
theorem ledger_book_account_1.calls (a0_0 : ByteArray) (a0_1 : Int) (a0_2 : Int) (a0_3 : Int) (a0_4 : Int) (a0_5 : Int) (a0_6 : Int) (a1 : ByteArray) (r : Int) (w : World) (h : ledger_book_account_1.f a0_0 a0_1 a0_2 a0_3 a0_4 a0_5 a0_6 a1 = some r) :
  Calls Try.prog 62 #[.agg #[.string a0_0, .int .i64 a0_1, .int .i64 a0_2, .int .i64 a0_3, .int .i64 a0_4, .int .i64 a0_5, .int .i64 a0_6], .string a1] w fun e w' => e = .returned (.int .i64 r) ∧ Below w.heap.size w w' := by
 have hu51 := Try.underlying51
 have HB := My.am (Below.refl w.heap.size w)
 unfold ledger_book_account_1.f at h
 have H := h
 clear h
 replace H := Option.bind_eq_some_iff.mp H
 obtain ⟨t102, A30, H⟩ := H
 try dsimp only at H
 have A3 := My.am A30
 clear A30
 obtain rfl := Option.some.inj H
 go_enter Try.func62, Try.ntmps62
 go_wp2_with (first | ((with_reducible refine gate_dst (N := 2) rfl ?_); refine My.bx 2 #[.string a0_0, .int .i64 a0_1, .int .i64 a0_2, .int .i64 a0_3, .int .i64 a0_4, .int .i64 a0_5, .int .i64 a0_6] 51 ?_; intro gb101 hg w4 hbox hb; have BK101 := My.am (hbox); have GE101 := My.nge hg (My.bl_ HB); replace HB := My.st HB hb; clear hb hbox hg; have hq5 := My.cz7 BK101) | ((with_reducible refine gate_callee (f := 63) rfl ?_); refine goesL_ (some 8) rfl rfl Try.func63 (by kernel_rfl) rfl #[.string a0_0, .string a1] rfl My.gx ?_; (with_reducible refine (strings_Compare.calls a0_0 a1 t102 _ A3.out).mono ?_); rintro e w6 ⟨rfl, hb⟩; refine ⟨_, rfl, ?_⟩; replace HB := My.st HB hb; (try clear hb)))
 go_ret
 exact ⟨My.r2, (My.bl_ HB)⟩

/-! ### api_Account_string: function 61 -/
def api_Account_string.l0 : Nat → List (S51) → ByteArray → Int → Int → Int → Option (Int × Bool)
 | 0, _, _, _, _, _ => none
 | k + 1, x0, x1, x8, x9, x10 => if x9 < x10 then (if 0 ≤ (wrap64 ((IntKind.u64.wrap (wrap64 (x9 + x10))) / 2)) then (if (wrap64 ((IntKind.u64.wrap (wrap64 (x9 + x10))) / 2)) < (x0.length : Int) then ((ledger_book_account_1.f ((rd_T51 x0 (wrap64 ((IntKind.u64.wrap (wrap64 (x9 + x10))) / 2))).f0) ((rd_T51 x0 (wrap64 ((IntKind.u64.wrap (wrap64 (x9 + x10))) / 2))).f1.f0) ((rd_T51 x0 (wrap64 ((IntKind.u64.wrap (wrap64 (x9 + x10))) / 2))).f1.f1) ((rd_T51 x0 (wrap64 ((IntKind.u64.wrap (wrap64 (x9 + x10))) / 2))).f1.f2) ((rd_T51 x0 (wrap64 ((IntKind.u64.wrap (wrap64 (x9 + x10))) / 2))).f2.f0) ((rd_T51 x0 (wrap64 ((IntKind.u64.wrap (wrap64 (x9 + x10))) / 2))).f2.f1) ((rd_T51 x0 (wrap64 ((IntKind.u64.wrap (wrap64 (x9 + x10))) / 2))).f2.f2) x1).bind fun t104 => (if t104 < 0 then (api_Account_string.l0 k x0 x1 x8 (wrap64 ((wrap64 ((IntKind.u64.wrap (wrap64 (x9 + x10))) / 2)) + 1)) x10) else (api_Account_string.l0 k x0 x1 x8 x9 (wrap64 ((IntKind.u64.wrap (wrap64 (x9 + x10))) / 2))))) else (none)) else (none)) else (if x9 < x8 then (if 0 ≤ x9 then (if x9 < (x0.length : Int) then ((ledger_book_account_1.f ((rd_T51 x0 x9).f0) ((rd_T51 x0 x9).f1.f0) ((rd_T51 x0 x9).f1.f1) ((rd_T51 x0 x9).f1.f2) ((rd_T51 x0 x9).f2.f0) ((rd_T51 x0 x9).f2.f1) ((rd_T51 x0 x9).f2.f2) x1).bind fun t106 => (some (x9, (t106 == 0)))) else (none)) else (none)) else (some (x9, false)))
def api_Account_string.f (k : Nat) (l0 : List (S51)) (a1 : ByteArray) (a2 : Int) : Option (Int × Bool) := api_Account_string.l0 k l0 a1 (l0.length : Int) 0 (l0.length : Int)
theorem api_Account_string.mono_l : ∀ k, (∀ y0 y1 y2 y3 y4, LeO (api_Account_string.l0 k y0 y1 y2 y3 y4) (api_Account_string.l0 (k + 1) y0 y1 y2 y3 y4))
 | 0 => fun _ _ _ _ _ r h => by simp [api_Account_string.l0] at h
 | k + 1 => by
  have ih0 := api_Account_string.mono_l k
  intro y0 y1 y2 y3 y4
  unfold api_Account_string.l0
  repeat' (with_reducible first | exact ih0 _ _ _ _ _ | exact LeO.refl _ | exact LeO.none _ | apply LeO.ite | refine LeO.bind ?_ (fun _ => ?_))
theorem api_Account_string.mono : ∀ a0 a1 a2 k, LeO (api_Account_string.f k a0 a1 a2) (api_Account_string.f (k + 1) a0 a1 a2) := by
 intro a0 a1 a2 k
 have ih0 := api_Account_string.mono_l k
 unfold api_Account_string.f
 repeat' (with_reducible first | exact ih0 _ _ _ _ _ | exact LeO.refl _ | exact LeO.none _ | apply LeO.ite | refine LeO.bind ?_ (fun _ => ?_))
theorem api_Account_string.calls (k : Nat) (A0 : Option Addr) (c0 : Nat) (l0 : List (S51)) (a1 : ByteArray) (a2 : Int) (r1 : Int) (r2 : Bool) (w : World) (hr0 : Kd.C k51 w A0 l0.length l0) (hc0 : l0.length ≤ c0) (h : api_Account_string.f k l0 a1 a2 = some (r1, r2)) :
  Calls Try.prog 61 #[.slice A0 l0.length c0, .string a1, .func (.func 62) #[] #[]] w fun e w' => e = .returned (.tuple #[.int .i64 r1, .bool r2]) ∧ Below w.heap.size w w' := by
 have hu51 := Try.underlying51
 have HR0 := My.am hr0
 have HC0 := My.am hc0
 clear hr0 hc0
 have HB := My.am (Below.refl w.heap.size w)
 unfold api_Account_string.f at h
 have H := h
 clear h
 have H' := My.am H
 clear H
 go_enter Try.func61, Try.ntmps61
 go_wp2
 go_loopg [9, 10] k (fun kq v9 v10 w' => ∃ (x9_1 : Int) (x10_1 : Int), v9 = .int .i64 x9_1 ∧ v10 = .int .i64 x10_1 ∧ Aside0 (api_Account_string.l0 kq l0 a1 (l0.length : Int) x9_1 x10_1 = some (r1, r2)) ∧ Aside0 (kq ≤ k) ∧ Aside0 (Below w.heap.size w w'))
 case atStart => exact ⟨(0), ((l0.length : Int)), My.r1, My.r1, H', ⟨Nat.le_refl _⟩, ⟨(My.bl_ HB)⟩⟩
 case round =>
  clear H'
  obtain ⟨x9_1, x10_1, rfl, rfl, HA, HK1, HB⟩ := hrel
  cases gk with
  | zero => exact absurd HA.out (by simp [api_Account_string.l0])
  | succ k1 =>
   have H := HA.out
   clear HA
   simp only [api_Account_string.l0] at H
   by_cases c4 : x9_1 < x10_1
   rotate_left
   ·rw [if_neg c4] at H
    have c4b0 := decide_eq_false c4
    clear c4
    by_cases c12 : x9_1 < (l0.length : Int)
    rotate_left
    ·rw [if_neg c12] at H
     have c12b0 := decide_eq_false c12
     clear c12
     simp only [Option.some.injEq, Prod.mk.injEq] at H
     obtain ⟨rfl, rfl⟩ := H
     go_wp2
     go_ret2
     exact ⟨My.r2, (My.bl_ HB)⟩

    rw [if_pos c12] at H
    have c12b0 := decide_eq_true c12
    clear c12
    replace H := My.ds H
    obtain ⟨c13b0, H⟩ := H
    replace H := My.ds H
    obtain ⟨c14b0, H⟩ := H
    replace H := Option.bind_eq_some_iff.mp H
    obtain ⟨t106, A150, H⟩ := H
    try dsimp only at H
    have A15 := My.am A150
    clear A150
    simp only [Option.some.injEq, Prod.mk.injEq] at H
    obtain ⟨rfl, rfl⟩ := H
    have p105 : 0 ≤ (x9_1 : Int) := My.as_
    have q105 : x9_1 < (l0.length : Int) := My.as_
    obtain ⟨ad105, e105, hx105_0, hx105_1, hx105_2, hx105_3, hx105_4, hx105_5, hx105_6⟩ := My.up7 HB (at_T51 HR0.out x9_1 p105 q105)
    cases e105
    replace p105 := eq_true p105
    replace q105 := eq_true q105
    go_wp2_with (first | (go_at_call 62; (with_reducible refine (ledger_book_account_1.calls ((rd_T51 l0 x9_1).f0) ((rd_T51 l0 x9_1).f1.f0) ((rd_T51 l0 x9_1).f1.f1) ((rd_T51 l0 x9_1).f1.f2) ((rd_T51 l0 x9_1).f2.f0) ((rd_T51 l0 x9_1).f2.f1) ((rd_T51 l0 x9_1).f2.f2) a1 t106 _ A15.out).mono ?_); rintro e w16 ⟨rfl, hb⟩; replace HB := My.st HB hb; (try clear hb)))
    go_ret2
    exact ⟨My.r2, (My.bl_ HB)⟩
   rw [if_pos c4] at H
   have c4b0 := decide_eq_true c4
   clear c4
   obtain ⟨ji5, hji5⟩ : ∃ j_ : Int, (wrap64 ((IntKind.u64.wrap (wrap64 (x9_1 + x10_1))) / 2)) = j_ := ⟨_, rfl⟩
   replace H : (if 0 ≤ (ji5) then (if (ji5) < (l0.length : Int) then ((ledger_book_account_1.f ((rd_T51 l0 (ji5)).f0) ((rd_T51 l0 (ji5)).f1.f0) ((rd_T51 l0 (ji5)).f1.f1) ((rd_T51 l0 (ji5)).f1.f2) ((rd_T51 l0 (ji5)).f2.f0) ((rd_T51 l0 (ji5)).f2.f1) ((rd_T51 l0 (ji5)).f2.f2) a1).bind fun t104 => (if t104 < 0 then (api_Account_string.l0 k1 l0 a1 (l0.length : Int) (wrap64 ((ji5) + 1)) x10_1) else (api_Account_string.l0 k1 l0 a1 (l0.length : Int) x9_1 ji5))) else (none)) else (none)) = some (r1, r2) := by first | (rw [hji5] at H; exact H) | (simp only [hji5] at H ⊢; exact H)
   have hji5w : (IntKind.i64.wrap ((IntKind.u64.wrap (wrap64 (x9_1 + x10_1))) / 2)) = ji5 := (i64_w _).trans hji5
   replace H := My.ds H
   obtain ⟨c6b0, H⟩ := H
   replace H := My.ds H
   obtain ⟨c7b0, H⟩ := H
   replace H := Option.bind_eq_some_iff.mp H
   obtain ⟨t104, A80, H⟩ := H
   try dsimp only at H
   have A8 := My.am A80
   clear A80
   by_cases c9 : t104 < 0
   ·rw [if_pos c9] at H
    have c9b0 := decide_eq_true c9
    clear c9
    have H' := My.am H
    clear H
    have p103 : 0 ≤ ((ji5) : Int) := My.as_
    have q103 : (ji5) < (l0.length : Int) := My.as_
    obtain ⟨ad103, e103, hx103_0, hx103_1, hx103_2, hx103_3, hx103_4, hx103_5, hx103_6⟩ := My.up7 HB (at_T51 HR0.out (ji5) p103 q103)
    cases e103
    replace p103 := eq_true p103
    replace q103 := eq_true q103
    go_wp2_with (first | ((with_reducible refine gate_dst (N := 30) rfl ?_); refine My.goesV_ (f := 62) (first := #[]) (cap := #[]) (some 30) rfl rfl Try.func62 (by kernel_rfl) rfl #[.agg #[.string ((rd_T51 l0 (ji5)).f0), .int .i64 ((rd_T51 l0 (ji5)).f1.f0), .int .i64 ((rd_T51 l0 (ji5)).f1.f1), .int .i64 ((rd_T51 l0 (ji5)).f1.f2), .int .i64 ((rd_T51 l0 (ji5)).f2.f0), .int .i64 ((rd_T51 l0 (ji5)).f2.f1), .int .i64 ((rd_T51 l0 (ji5)).f2.f2)], .string a1] rfl rfl (by simp only [List.map_toArray, List.map_cons, List.map_nil, Array.empty_append, Array.append_empty]; first | done | rfl | (simp [Act.eval]; done)) ?_; (with_reducible refine (ledger_book_account_1.calls ((rd_T51 l0 (ji5)).f0) ((rd_T51 l0 (ji5)).f1.f0) ((rd_T51 l0 (ji5)).f1.f1) ((rd_T51 l0 (ji5)).f1.f2) ((rd_T51 l0 (ji5)).f2.f0) ((rd_T51 l0 (ji5)).f2.f1) ((rd_T51 l0 (ji5)).f2.f2) a1 t104 _ A8.out).mono ?_); rintro e w10 ⟨rfl, hb⟩; refine ⟨_, rfl, ?_⟩; replace HB := My.st HB hb; (try clear hb)))
    go_roundg k1
    case measure => have := HK1.out; omega
    case rel => exact ⟨(wrap64 ((ji5) + 1)), (x10_1), (by first | rfl | (simp; done) | (simp only [← hji5] <;> (first | rfl | simp)) | (simp [*]; done)), My.r1, H', ⟨by have := HK1.out; omega⟩, ⟨(My.bl_ HB)⟩⟩
   rw [if_neg c9] at H
   have c9b0 := decide_eq_false c9
   clear c9
   have H' := My.am H
   clear H
   have p103 : 0 ≤ ((ji5) : Int) := My.as_
   have q103 : (ji5) < (l0.length : Int) := My.as_
   obtain ⟨ad103, e103, hx103_0, hx103_1, hx103_2, hx103_3, hx103_4, hx103_5, hx103_6⟩ := My.up7 HB (at_T51 HR0.out (ji5) p103 q103)
   cases e103
   replace p103 := eq_true p103
   replace q103 := eq_true q103
   go_wp2_with (first | ((with_reducible refine gate_dst (N := 30) rfl ?_); refine My.goesV_ (f := 62) (first := #[]) (cap := #[]) (some 30) rfl rfl Try.func62 (by kernel_rfl) rfl #[.agg #[.string ((rd_T51 l0 (ji5)).f0), .int .i64 ((rd_T51 l0 (ji5)).f1.f0), .int .i64 ((rd_T51 l0 (ji5)).f1.f1), .int .i64 ((rd_T51 l0 (ji5)).f1.f2), .int .i64 ((rd_T51 l0 (ji5)).f2.f0), .int .i64 ((rd_T51 l0 (ji5)).f2.f1), .int .i64 ((rd_T51 l0 (ji5)).f2.f2)], .string a1] rfl rfl (by simp only [List.map_toArray, List.map_cons, List.map_nil, Array.empty_append, Array.append_empty]; first | done | rfl | (simp [Act.eval]; done)) ?_; (with_reducible refine (ledger_book_account_1.calls ((rd_T51 l0 (ji5)).f0) ((rd_T51 l0 (ji5)).f1.f0) ((rd_T51 l0 (ji5)).f1.f1) ((rd_T51 l0 (ji5)).f1.f2) ((rd_T51 l0 (ji5)).f2.f0) ((rd_T51 l0 (ji5)).f2.f1) ((rd_T51 l0 (ji5)).f2.f2) a1 t104 _ A8.out).mono ?_); rintro e w11 ⟨rfl, hb⟩; refine ⟨_, rfl, ?_⟩; replace HB := My.st HB hb; (try clear hb)))
   go_roundg k1
   case measure => have := HK1.out; omega
   case rel => exact ⟨(x9_1), (ji5), My.r1, (by first | rfl | (simp; done) | (simp only [← hji5] <;> (first | rfl | simp)) | (simp [*]; done)), H', ⟨by have := HK1.out; omega⟩, ⟨(My.bl_ HB)⟩⟩
/-! ### ledger_book_account: function 32 -/
def ledger_book_account.f (k : Nat) (l0_0 : List (S51)) (l0_1 : List (S64)) (a1 : ByteArray) : Option (Int × Bool) := (api_Account_string.f k l0_0 a1 0).bind fun bt108 => (some (bt108.1, bt108.2))
theorem ledger_book_account.mono : ∀ a0 a1 a2 k, LeO (ledger_book_account.f k a0 a1 a2) (ledger_book_account.f (k + 1) a0 a1 a2) := by
 intro a0 a1 a2 k
 unfold ledger_book_account.f
 repeat' (with_reducible first | exact api_Account_string.mono _ _ _ _ | exact LeO.refl _ | exact LeO.none _ | apply LeO.ite | refine LeO.bind ?_ (fun _ => ?_))
theorem ledger_book_account.calls (k : Nat) (A0_0 : Option Addr) (c0_0 : Nat) (l0_0 : List (S51)) (A0_1 : Option Addr) (c0_1 : Nat) (l0_1 : List (S64)) (a1 : ByteArray) (r1 : Int) (r2 : Bool) (w : World) (hr0_0 : Kd.C k51 w A0_0 l0_0.length l0_0) (hc0_0 : l0_0.length ≤ c0_0) (hr0_1 : Kd.C k64 w A0_1 l0_1.length l0_1) (hc0_1 : l0_1.length ≤ c0_1) (h : ledger_book_account.f k l0_0 l0_1 a1 = some (r1, r2)) :
  Calls Try.prog 32 #[.agg #[.slice A0_0 l0_0.length c0_0, .slice A0_1 l0_1.length c0_1], .string a1] w fun e w' => e = .returned (.tuple #[.int .i64 r1, .bool r2]) ∧ Below w.heap.size w w' := by
 have hu71 := Try.underlying71
 have HR0_0 := My.am hr0_0
 have HC0_0 := My.am hc0_0
 clear hr0_0 hc0_0
 have HR0_1 := My.am hr0_1
 have HC0_1 := My.am hc0_1
 clear hr0_1 hc0_1
 have HB := My.am (Below.refl w.heap.size w)
 unfold ledger_book_account.f at h
 have H := h
 clear h
 replace H := Option.bind_eq_some_iff.mp H
 obtain ⟨⟨t108, t109⟩, A30, H⟩ := H
 try dsimp only at H
 have A3 := My.am A30
 clear A30
 simp only [Option.some.injEq, Prod.mk.injEq] at H
 obtain ⟨rfl, rfl⟩ := H
 go_enter Try.func32, Try.ntmps32
 go_wp2_with (first | ((with_reducible refine gate_dst (N := 2) rfl ?_); refine My.bx 2 #[.slice A0_0 l0_0.length c0_0, .slice A0_1 l0_1.length c0_1] 71 ?_; intro gb107 hg w4 hbox hb; have BK107 := My.am (hbox); have GE107 := My.nge hg (My.bl_ HB); replace HB := My.st HB hb; clear hb hbox hg; have hq5 := My.cz2 BK107) | ((with_reducible refine gate_callee (f := 61) rfl ?_); refine goesL_ (some 10) rfl rfl Try.func61 (by kernel_rfl) rfl #[.slice A0_0 l0_0.length c0_0, .string a1, .func (.func 62) #[] #[]] rfl My.gx ?_; (with_reducible refine (api_Account_string.calls k _ _ l0_0 a1 0 t108 t109 _ ?side1 ?side2 A3.out).mono ?_); (case side1 => exact My.sd_ HR0_0 HB); (case side2 => exact HC0_0.out); rintro e w6 ⟨rfl, hb⟩; refine ⟨_, rfl, ?_⟩; replace HB := My.st HB hb; (try clear hb)))
 go_ret2
 exact ⟨My.r2, (My.bl_ HB)⟩

/-! ### ledger_key: function 38 -/
def ledger_key.f (a0 : ByteArray) : Option (Bool) := if a0.toList = ([] : List UInt8) then (some false) else (some (decide ((a0.size : Int) ≤ 100)))
theorem ledger_key.calls (a0 : ByteArray) (r : Bool) (w : World) (h : ledger_key.f a0 = some r) :
  Calls Try.prog 38 #[.string a0] w fun e w' => e = .returned (.bool r) ∧ Drawn0 w w' := by
 unfold ledger_key.f at h
 have H := h
 clear h
 by_cases c2 : a0.toList = ([] : List UInt8)
 ·rw [if_pos c2] at H
  have c2b0 : (a0.toList == ([] : List UInt8)) = true := beq_iff_eq.mpr c2
  have c2b1 : (a0.toList != ([] : List UInt8)) = false := bne_eq_false_iff_eq.mpr c2
  clear c2
  obtain rfl := Option.some.inj H
  go_enter Try.func38, Try.ntmps38
  go_wp2
  go_ret
  exact ⟨by first | rfl | (simp; done) | (simp [*]; done), by repeat (first | exact Drawn0.refl _ | apply Drawn0.step)⟩
 ·rw [if_neg c2] at H
  have c2b0 : (a0.toList == ([] : List UInt8)) = false := beq_eq_false_iff_ne.mpr c2
  have c2b1 : (a0.toList != ([] : List UInt8)) = true := bne_iff_ne.mpr c2
  obtain rfl := Option.some.inj H
  go_enter Try.func38, Try.ntmps38
  go_wp2
  go_ret
  exact ⟨by first | rfl | (simp; done) | (simp [*]; done), by repeat (first | exact Drawn0.refl _ | apply Drawn0.step)⟩

/-! ### act_Name: function 30 -/
mutual
def act_Name.j0 : Nat → ByteArray → Bool → Option (Bool)
 | 0, _, _ => none
 | k + 1, x0, x21 => if x21 = true then (some false) else (act_Name.l0 k x0 (x0.size : Int) 0)
def act_Name.l0 : Nat → ByteArray → Int → Int → Option (Bool)
 | 0, _, _, _ => none
 | k + 1, x0, x23, x24 => if x24 < x23 then (if 0 ≤ x24 then (if x24 < (x0.size : Int) then (if (bt x0 x24) < 97 then (if (bt x0 x24) < 48 then (some false) else (if (bt x0 x24) > 57 then (some false) else (act_Name.l0 k x0 x23 (wrap64 (x24 + 1))))) else (if (bt x0 x24) > 122 then (if (bt x0 x24) < 48 then (some false) else (if (bt x0 x24) > 57 then (some false) else (act_Name.l0 k x0 x23 (wrap64 (x24 + 1))))) else (act_Name.l0 k x0 x23 (wrap64 (x24 + 1))))) else (none)) else (none)) else (some true)
end
def act_Name.f (k : Nat) (a0 : ByteArray) : Option (Bool) := if a0.toList = ([] : List UInt8) then (act_Name.j0 k a0 true) else (if (a0.size : Int) > 16 then (act_Name.j0 k a0 true) else (if 0 < (a0.size : Int) then (if (bt a0 0) < 97 then (act_Name.j0 k a0 true) else (act_Name.j0 k a0 (decide ((bt a0 0) > 122)))) else (none)))
theorem act_Name.mono_l : ∀ k, (∀ y0 y1, LeO (act_Name.j0 k y0 y1) (act_Name.j0 (k + 1) y0 y1)) ∧ (∀ y0 y1 y2, LeO (act_Name.l0 k y0 y1 y2) (act_Name.l0 (k + 1) y0 y1 y2))
 | 0 => ⟨fun _ _ r h => by simp [act_Name.j0] at h, fun _ _ _ r h => by simp [act_Name.l0] at h⟩
 | k + 1 => by
  obtain ⟨ih0, ih1⟩ := act_Name.mono_l k
  refine ⟨?_, ?_⟩
  ·intro y0 y1
   unfold act_Name.j0
   repeat' (with_reducible first | exact ih0 _ _ | exact ih1 _ _ _ | exact LeO.refl _ | exact LeO.none _ | apply LeO.ite | refine LeO.bind ?_ (fun _ => ?_))
  intro y0 y1 y2
  unfold act_Name.l0
  repeat' (with_reducible first | exact ih0 _ _ | exact ih1 _ _ _ | exact LeO.refl _ | exact LeO.none _ | apply LeO.ite | refine LeO.bind ?_ (fun _ => ?_))
theorem act_Name.mono : ∀ a0 k, LeO (act_Name.f k a0) (act_Name.f (k + 1) a0) := by
 intro a0 k
 obtain ⟨ih0, ih1⟩ := act_Name.mono_l k
 unfold act_Name.f
 repeat' (with_reducible first | exact ih0 _ _ | exact ih1 _ _ _ | exact LeO.refl _ | exact LeO.none _ | apply LeO.ite | refine LeO.bind ?_ (fun _ => ?_))
theorem act_Name.calls (k : Nat) (a0 : ByteArray) (r : Bool) (w : World) (h : act_Name.f k a0 = some r) :
  Calls Try.prog 30 #[.string a0] w fun e w' => e = .returned (.bool r) ∧ Drawn0 w w' := by
 unfold act_Name.f at h
 have H := h
 clear h
 have HC2 := My.am H
 clear H
 go_enter Try.func30, Try.ntmps30
 go_upto_region 1 with (fail)
 go_cut [21] (fun v21 wc => ∃ (kq : Nat) (x21_1 : Bool), v21 = .bool x21_1 ∧ Aside0 (act_Name.j0 kq a0 x21_1 = some r) ∧ Aside0 (kq ≤ k) ∧ Drawn0 w wc)
 case first =>
  have H := HC2.out
  clear HC2
  by_cases c3 : a0.toList = ([] : List UInt8)
  ·rw [if_pos c3] at H
   have c3b0 : (a0.toList == ([] : List UInt8)) = true := beq_iff_eq.mpr c3
   have c3b1 : (a0.toList != ([] : List UInt8)) = false := bne_eq_false_iff_eq.mpr c3
   clear c3
   (first | rw [c3b0] | (simp only [i64_w, i32_w]; rw [c3b0]) | skip)
   have H' := My.am H
   clear H
   go_wp2
   go_meet
   case rel => exact ⟨_, (true), My.r1, H', ⟨My.r4⟩, by repeat (first | exact Drawn0.refl _ | apply Drawn0.step)⟩
  ·rw [if_neg c3] at H
   have c3b0 : (a0.toList == ([] : List UInt8)) = false := beq_eq_false_iff_ne.mpr c3
   have c3b1 : (a0.toList != ([] : List UInt8)) = true := bne_iff_ne.mpr c3
   (first | rw [c3b0] | (simp only [i64_w, i32_w]; rw [c3b0]) | skip)
   by_cases c4 : (a0.size : Int) > 16
   ·rw [if_pos c4] at H
    have c4b0 : decide (16 < (a0.size : Int)) = true := decide_eq_true c4
    have c4b1 : decide (16 < a0.size) = true := decide_eq_true (by omega)
    clear c4
    have H' := My.am H
    clear H
    go_wp2
    go_meet
    case rel => exact ⟨_, (true), My.r1, H', ⟨My.r4⟩, by repeat (first | exact Drawn0.refl _ | apply Drawn0.step)⟩
   rw [if_neg c4] at H
   have c4b0 : decide (16 < (a0.size : Int)) = false := decide_eq_false c4
   have c4b1 : decide (16 < a0.size) = false := decide_eq_false (by omega)
   clear c4
   by_cases c5 : 0 < (a0.size : Int)
   rotate_left
   ·exact My.nn c5 H
   rw [if_pos c5] at H
   have c5b0 := decide_eq_true c5
   have c5b1 : decide (0 < a0.size) = true := decide_eq_true (by omega)
   clear c5
   by_cases c7 : (bt a0 0) < 97
   ·rw [if_pos c7] at H
    have c7b0 := decide_eq_true c7
    clear c7
    have H' := My.am H
    clear H
    have p6 : 0 ≤ (0 : Int) := (by omega)
    have q6 : 0 < a0.size := (by have : (0 : Int) < (a0.size : Int) := My.as_; omega)
    have hx6 : ∀ h : 0 < a0.size, ((a0[0]'h).toNat : Int) = bt a0 0 := bt_at a0 0
    clear p6
    have qi6 : (0 < (a0.size : Int)) = True := eq_true (My.as_)
    replace q6 := eq_true q6
    go_wp2
    go_meet
    case rel => exact ⟨_, (true), My.r1, H', ⟨My.r4⟩, by repeat (first | exact Drawn0.refl _ | apply Drawn0.step)⟩
   rw [if_neg c7] at H
   have c7b0 := decide_eq_false c7
   clear c7
   have H' := My.am H
   clear H
   have p6 : 0 ≤ (0 : Int) := (by omega)
   have q6 : 0 < a0.size := (by have : (0 : Int) < (a0.size : Int) := My.as_; omega)
   have hx6 : ∀ h : 0 < a0.size, ((a0[0]'h).toNat : Int) = bt a0 0 := bt_at a0 0
   clear p6
   have qi6 : (0 < (a0.size : Int)) = True := eq_true (My.as_)
   replace q6 := eq_true q6
   have p8 : 0 ≤ (0 : Int) := (by omega)
   have q8 : 0 < a0.size := (by have : (0 : Int) < (a0.size : Int) := My.as_; omega)
   have hx8 : ∀ h : 0 < a0.size, ((a0[0]'h).toNat : Int) = bt a0 0 := bt_at a0 0
   clear p8
   have qi8 : (0 < (a0.size : Int)) = True := eq_true (My.as_)
   replace q8 := eq_true q8
   go_wp2
   go_meet
   case rel => exact ⟨_, (decide ((bt a0 0) > 122)), My.r1, H', ⟨My.r4⟩, by repeat (first | exact Drawn0.refl _ | apply Drawn0.step)⟩
 case rest =>
  clear HC2
  obtain ⟨kq, x21_1, rfl, HA, HJ1, ⟨mc1, rfl⟩⟩ := hcut
  cases kq with
  | zero => exact absurd HA.out (by simp [act_Name.j0])
  | succ kj1 =>
   have H := HA.out
   clear HA
   simp only [act_Name.j0] at H
   by_cases c9 : x21_1 = true
   ·subst c9
    rw [if_pos rfl] at H
    obtain rfl := Option.some.inj H
    go_wp2
    go_ret
    exact ⟨by first | rfl | (simp; done) | (simp [*]; done), by repeat (first | exact Drawn0.refl _ | apply Drawn0.step)⟩
   replace c9 := Bool.eq_false_iff.mpr c9
   subst c9
   rw [if_neg (show ¬ (false = true) by decide)] at H
   have H' := My.am H
   clear H
   go_wp2
   go_loopg [24] kj1 (fun kq v24 w' => ∃ (x24_2 : Int), v24 = .int .i64 x24_2 ∧ Aside0 (act_Name.l0 kq a0 (a0.size : Int) x24_2 = some r) ∧ Aside0 (kq ≤ kj1) ∧ Drawn0 w w')
   case atStart => exact ⟨(0), My.r1, H', ⟨Nat.le_refl _⟩, by repeat (first | exact Drawn0.refl _ | apply Drawn0.step)⟩
   case round =>
    clear H'
    try clear c9
    obtain ⟨x24_2, rfl, HA, HK2, ⟨m2, rfl⟩⟩ := hrel
    cases gk with
    | zero => exact absurd HA.out (by simp [act_Name.l0])
    | succ k2 =>
     have H := HA.out
     clear HA
     simp only [act_Name.l0] at H
     by_cases c10 : x24_2 < (a0.size : Int)
     rotate_left
     ·rw [if_neg c10] at H
      have c10b0 := decide_eq_false c10
      clear c10
      obtain rfl := Option.some.inj H
      go_wp2
      go_ret
      exact ⟨by first | rfl | (simp; done) | (simp [*]; done), by repeat (first | exact Drawn0.refl _ | apply Drawn0.step)⟩

     rw [if_pos c10] at H
     have c10b0 := decide_eq_true c10
     clear c10
     replace H := My.ds H
     obtain ⟨c11b0, H⟩ := H
     replace H := My.ds H
     obtain ⟨c12b0, H⟩ := H
     by_cases c14 : (bt a0 x24_2) < 97
     ·rw [if_pos c14] at H
      have c14b0 := decide_eq_true c14
      clear c14
      by_cases c15 : (bt a0 x24_2) < 48
      ·rw [if_pos c15] at H
       have c15b0 := decide_eq_true c15
       clear c15
       obtain rfl := Option.some.inj H
       have p13 : 0 ≤ (x24_2 : Int) := My.as_
       have q13 : x24_2 < (a0.size : Int) := My.as_
       have hx13 := bt_at a0 x24_2
       replace p13 := eq_true p13
       replace q13 := eq_true q13
       go_wp2
       go_ret
       exact ⟨by first | rfl | (simp; done) | (simp [*]; done), by repeat (first | exact Drawn0.refl _ | apply Drawn0.step)⟩
      rw [if_neg c15] at H
      have c15b0 := decide_eq_false c15
      clear c15
      by_cases c16 : (bt a0 x24_2) > 57
      ·rw [if_pos c16] at H
       have c16b0 : decide (57 < (bt a0 x24_2)) = true := decide_eq_true c16
       clear c16
       obtain rfl := Option.some.inj H
       have p13 : 0 ≤ (x24_2 : Int) := My.as_
       have q13 : x24_2 < (a0.size : Int) := My.as_
       have hx13 := bt_at a0 x24_2
       replace p13 := eq_true p13
       replace q13 := eq_true q13
       go_wp2
       go_ret
       exact ⟨by first | rfl | (simp; done) | (simp [*]; done), by repeat (first | exact Drawn0.refl _ | apply Drawn0.step)⟩
      rw [if_neg c16] at H
      have c16b0 : decide (57 < (bt a0 x24_2)) = false := decide_eq_false c16
      clear c16
      have H' := My.am H
      clear H
      have p13 : 0 ≤ (x24_2 : Int) := My.as_
      have q13 : x24_2 < (a0.size : Int) := My.as_
      have hx13 := bt_at a0 x24_2
      replace p13 := eq_true p13
      replace q13 := eq_true q13
      go_wp2
      go_roundg k2
      case measure => have := HJ1.out; have := HK2.out; omega
      case rel => exact ⟨(wrap64 (x24_2 + 1)), My.r1, H', ⟨by have := HJ1.out; have := HK2.out; omega⟩, by repeat (first | exact Drawn0.refl _ | apply Drawn0.step)⟩
     rw [if_neg c14] at H
     have c14b0 := decide_eq_false c14
     clear c14
     by_cases c17 : (bt a0 x24_2) > 122
     rotate_left
     ·rw [if_neg c17] at H
      have c17b0 : decide (122 < (bt a0 x24_2)) = false := decide_eq_false c17
      clear c17
      have H' := My.am H
      clear H
      have p13 : 0 ≤ (x24_2 : Int) := My.as_
      have q13 : x24_2 < (a0.size : Int) := My.as_
      have hx13 := bt_at a0 x24_2
      replace p13 := eq_true p13
      replace q13 := eq_true q13
      go_wp2
      go_roundg k2
      case measure => have := HJ1.out; have := HK2.out; omega
      case rel => exact ⟨(wrap64 (x24_2 + 1)), My.r1, H', ⟨by have := HJ1.out; have := HK2.out; omega⟩, by repeat (first | exact Drawn0.refl _ | apply Drawn0.step)⟩
     rw [if_pos c17] at H
     have c17b0 : decide (122 < (bt a0 x24_2)) = true := decide_eq_true c17
     clear c17
     by_cases c18 : (bt a0 x24_2) < 48
     ·rw [if_pos c18] at H
      have c18b0 := decide_eq_true c18
      clear c18
      obtain rfl := Option.some.inj H
      have p13 : 0 ≤ (x24_2 : Int) := My.as_
      have q13 : x24_2 < (a0.size : Int) := My.as_
      have hx13 := bt_at a0 x24_2
      replace p13 := eq_true p13
      replace q13 := eq_true q13
      go_wp2
      go_ret
      exact ⟨by first | rfl | (simp; done) | (simp [*]; done), by repeat (first | exact Drawn0.refl _ | apply Drawn0.step)⟩
     rw [if_neg c18] at H
     have c18b0 := decide_eq_false c18
     clear c18
     by_cases c19 : (bt a0 x24_2) > 57
     ·rw [if_pos c19] at H
      have c19b0 : decide (57 < (bt a0 x24_2)) = true := decide_eq_true c19
      clear c19
      obtain rfl := Option.some.inj H
      have p13 : 0 ≤ (x24_2 : Int) := My.as_
      have q13 : x24_2 < (a0.size : Int) := My.as_
      have hx13 := bt_at a0 x24_2
      replace p13 := eq_true p13
      replace q13 := eq_true q13
      go_wp2
      go_ret
      exact ⟨by first | rfl | (simp; done) | (simp [*]; done), by repeat (first | exact Drawn0.refl _ | apply Drawn0.step)⟩
     rw [if_neg c19] at H
     have c19b0 : decide (57 < (bt a0 x24_2)) = false := decide_eq_false c19
     clear c19
     have H' := My.am H
     clear H
     have p13 : 0 ≤ (x24_2 : Int) := My.as_
     have q13 : x24_2 < (a0.size : Int) := My.as_
     have hx13 := bt_at a0 x24_2
     replace p13 := eq_true p13
     replace q13 := eq_true q13
     go_wp2
     go_roundg k2
     case measure => have := HJ1.out; have := HK2.out; omega
     case rel => exact ⟨(wrap64 (x24_2 + 1)), My.r1, H', ⟨by have := HJ1.out; have := HK2.out; omega⟩, by repeat (first | exact Drawn0.refl _ | apply Drawn0.step)⟩
/-! ### cash_Fits: function 31 -/
def cash_Fits.f (a0 : Int) : Option (Bool) := if a0 ≥ 0 then (some (decide (a0 ≤ 1000000000000000))) else (some false)
theorem cash_Fits.calls (a0 : Int) (r : Bool) (w : World) (h : cash_Fits.f a0 = some r) :
  Calls Try.prog 31 #[.int .i64 a0] w fun e w' => e = .returned (.bool r) ∧ Drawn0 w w' := by
 unfold cash_Fits.f at h
 have H := h
 clear h
 by_cases c2 : a0 ≥ 0
 ·rw [if_pos c2] at H
  have c2b0 : decide (0 ≤ a0) = true := decide_eq_true c2
  clear c2
  obtain rfl := Option.some.inj H
  go_enter Try.func31, Try.ntmps31
  go_wp2
  go_ret
  exact ⟨by first | rfl | (simp; done) | (simp [*]; done), by repeat (first | exact Drawn0.refl _ | apply Drawn0.step)⟩
 ·rw [if_neg c2] at H
  have c2b0 : decide (0 ≤ a0) = false := decide_eq_false c2
  clear c2
  obtain rfl := Option.some.inj H
  go_enter Try.func31, Try.ntmps31
  go_wp2
  go_ret
  exact ⟨by first | rfl | (simp; done) | (simp [*]; done), by repeat (first | exact Drawn0.refl _ | apply Drawn0.step)⟩

/-! ### act_Check: function 39 -/
def act_Check.f (k : Nat) (a0_0 : Int) (a0_1 : ByteArray) (a0_2 : Int) : Option (Int) := if a0_0 < 1 then (some 60) else (if a0_0 > 4 then (some 60) else ((act_Name.f k a0_1).bind fun t111 => (if t111 = true then (if a0_2 < 1 then (some 60) else ((cash_Fits.f a0_2).bind fun t112 => (if t112 = true then (some 0) else (some 60)))) else (some 60))))
theorem act_Check.mono : ∀ a0 a1 a2 k, LeO (act_Check.f k a0 a1 a2) (act_Check.f (k + 1) a0 a1 a2) := by
 intro a0 a1 a2 k
 unfold act_Check.f
 repeat' (with_reducible first | exact act_Name.mono _ _ | exact LeO.refl _ | exact LeO.none _ | apply LeO.ite | refine LeO.bind ?_ (fun _ => ?_))
theorem act_Check.calls (k : Nat) (a0_0 : Int) (a0_1 : ByteArray) (a0_2 : Int) (r : Int) (w : World) (h : act_Check.f k a0_0 a0_1 a0_2 = some r) :
  Calls Try.prog 39 #[.agg #[.int .i64 a0_0, .string a0_1, .int .i64 a0_2]] w fun e w' => e = .returned (.int .i64 r) ∧ Below w.heap.size w w' := by
 have hu27 := Try.underlying27
 have HB := My.am (Below.refl w.heap.size w)
 unfold act_Check.f at h
 have H := h
 clear h
 by_cases c2 : a0_0 < 1
 ·rw [if_pos c2] at H
  have c2b0 := decide_eq_true c2
  clear c2
  obtain rfl := Option.some.inj H
  go_enter Try.func39, Try.ntmps39
  go_wp2_with (first | ((with_reducible refine gate_dst (N := 1) rfl ?_); refine My.bx 1 #[.int .i64 a0_0, .string a0_1, .int .i64 a0_2] 27 ?_; intro gb110 hg w3 hbox hb; have BK110 := My.am (hbox); have GE110 := My.nge hg (My.bl_ HB); replace HB := My.st HB hb; clear hb hbox hg; have hq4 := My.cz3 BK110))
  go_ret
  exact ⟨My.r2, (My.bl_ HB)⟩
 ·rw [if_neg c2] at H
  have c2b0 := decide_eq_false c2
  clear c2
  by_cases c5 : a0_0 > 4
  ·rw [if_pos c5] at H
   have c5b0 : decide (4 < a0_0) = true := decide_eq_true c5
   clear c5
   obtain rfl := Option.some.inj H
   go_enter Try.func39, Try.ntmps39
   go_wp2_with (first | ((with_reducible refine gate_dst (N := 1) rfl ?_); refine My.bx 1 #[.int .i64 a0_0, .string a0_1, .int .i64 a0_2] 27 ?_; intro gb110 hg w6 hbox hb; have BK110 := My.am (hbox); have GE110 := My.nge hg (My.bl_ HB); replace HB := My.st HB hb; clear hb hbox hg; have hq7 := My.cz3 BK110))
   go_ret
   exact ⟨My.r2, (My.bl_ HB)⟩
  rw [if_neg c5] at H
  have c5b0 : decide (4 < a0_0) = false := decide_eq_false c5
  clear c5
  replace H := Option.bind_eq_some_iff.mp H
  obtain ⟨t111, A80, H⟩ := H
  try dsimp only at H
  have A8 := My.am A80
  clear A80
  by_cases c9 : t111 = true
  rotate_left
  ·replace c9 := Bool.eq_false_iff.mpr c9
   subst c9
   rw [if_neg (show ¬ (false = true) by decide)] at H
   obtain rfl := Option.some.inj H
   go_enter Try.func39, Try.ntmps39
   go_wp2_with (first | ((with_reducible refine gate_dst (N := 1) rfl ?_); refine My.bx 1 #[.int .i64 a0_0, .string a0_1, .int .i64 a0_2] 27 ?_; intro gb110 hg w19 hbox hb; have BK110 := My.am (hbox); have GE110 := My.nge hg (My.bl_ HB); replace HB := My.st HB hb; clear hb hbox hg; have hq20 := My.cz3 BK110) | (go_at_call 30; (with_reducible refine (act_Name.calls k a0_1 false _ A8.out).mono ?_); rintro e w' ⟨rfl, ⟨nd, rfl⟩⟩))
   go_ret
   exact ⟨My.r2, (My.bl_ HB)⟩

  subst c9
  rw [if_pos rfl] at H
  by_cases c10 : a0_2 < 1
  ·rw [if_pos c10] at H
   have c10b0 := decide_eq_true c10
   clear c10
   obtain rfl := Option.some.inj H
   go_enter Try.func39, Try.ntmps39
   go_wp2_with (first | ((with_reducible refine gate_dst (N := 1) rfl ?_); refine My.bx 1 #[.int .i64 a0_0, .string a0_1, .int .i64 a0_2] 27 ?_; intro gb110 hg w11 hbox hb; have BK110 := My.am (hbox); have GE110 := My.nge hg (My.bl_ HB); replace HB := My.st HB hb; clear hb hbox hg; have hq12 := My.cz3 BK110) | (go_at_call 30; (with_reducible refine (act_Name.calls k a0_1 true _ A8.out).mono ?_); rintro e w' ⟨rfl, ⟨nd, rfl⟩⟩))
   go_ret
   exact ⟨My.r2, (My.bl_ HB)⟩
  rw [if_neg c10] at H
  have c10b0 := decide_eq_false c10
  clear c10
  replace H := Option.bind_eq_some_iff.mp H
  obtain ⟨t112, A130, H⟩ := H
  try dsimp only at H
  have A13 := My.am A130
  clear A130
  by_cases c14 : t112 = true
  ·subst c14
   rw [if_pos rfl] at H
   obtain rfl := Option.some.inj H
   go_enter Try.func39, Try.ntmps39
   go_wp2_with (first | ((with_reducible refine gate_dst (N := 1) rfl ?_); refine My.bx 1 #[.int .i64 a0_0, .string a0_1, .int .i64 a0_2] 27 ?_; intro gb110 hg w15 hbox hb; have BK110 := My.am (hbox); have GE110 := My.nge hg (My.bl_ HB); replace HB := My.st HB hb; clear hb hbox hg; have hq16 := My.cz3 BK110) | (go_at_call 30; (with_reducible refine (act_Name.calls k a0_1 true _ A8.out).mono ?_); rintro e w' ⟨rfl, ⟨nd, rfl⟩⟩) | (go_at_call 31; (with_reducible refine (cash_Fits.calls a0_2 true _ A13.out).mono ?_); rintro e w' ⟨rfl, ⟨nd, rfl⟩⟩))
   go_ret
   exact ⟨My.r2, (My.bl_ HB)⟩
  replace c14 := Bool.eq_false_iff.mpr c14
  subst c14
  rw [if_neg (show ¬ (false = true) by decide)] at H
  obtain rfl := Option.some.inj H
  go_enter Try.func39, Try.ntmps39
  go_wp2_with (first | ((with_reducible refine gate_dst (N := 1) rfl ?_); refine My.bx 1 #[.int .i64 a0_0, .string a0_1, .int .i64 a0_2] 27 ?_; intro gb110 hg w17 hbox hb; have BK110 := My.am (hbox); have GE110 := My.nge hg (My.bl_ HB); replace HB := My.st HB hb; clear hb hbox hg; have hq18 := My.cz3 BK110) | (go_at_call 30; (with_reducible refine (act_Name.calls k a0_1 true _ A8.out).mono ?_); rintro e w' ⟨rfl, ⟨nd, rfl⟩⟩) | (go_at_call 31; (with_reducible refine (cash_Fits.calls a0_2 false _ A13.out).mono ?_); rintro e w' ⟨rfl, ⟨nd, rfl⟩⟩))
  go_ret
  exact ⟨My.r2, (My.bl_ HB)⟩
/-! ### pot_Check: function 76 -/
def pot_Check.f (a0_0 : Int) (a0_1 : Int) (a0_2 : Int) : Option (Int) := if a0_1 < 0 then (some 2) else (if a0_1 > a0_0 then (some 2) else (if a0_2 < 0 then (some 2) else (if a0_0 > 1000000000000000 then (some 2) else (if a0_2 > (wrap64 (1000000000000000 - a0_0)) then (some 2) else (some 0)))))
theorem pot_Check.calls (a0_0 : Int) (a0_1 : Int) (a0_2 : Int) (r : Int) (w : World) (h : pot_Check.f a0_0 a0_1 a0_2 = some r) :
  Calls Try.prog 76 #[.agg #[.int .i64 a0_0, .int .i64 a0_1, .int .i64 a0_2]] w fun e w' => e = .returned (.int .i64 r) ∧ Below w.heap.size w w' := by
 have hu49 := Try.underlying49
 have HB := My.am (Below.refl w.heap.size w)
 unfold pot_Check.f at h
 have H := h
 clear h
 by_cases c2 : a0_1 < 0
 ·rw [if_pos c2] at H
  have c2b0 := decide_eq_true c2
  clear c2
  obtain rfl := Option.some.inj H
  go_enter Try.func76, Try.ntmps76
  go_wp2_with (first | ((with_reducible refine gate_dst (N := 1) rfl ?_); refine My.bx 1 #[.int .i64 a0_0, .int .i64 a0_1, .int .i64 a0_2] 49 ?_; intro gb113 hg w3 hbox hb; have BK113 := My.am (hbox); have GE113 := My.nge hg (My.bl_ HB); replace HB := My.st HB hb; clear hb hbox hg; have hq4 := My.cz3 BK113))
  go_ret
  exact ⟨My.r2, (My.bl_ HB)⟩
 ·rw [if_neg c2] at H
  have c2b0 := decide_eq_false c2
  clear c2
  by_cases c5 : a0_1 > a0_0
  ·rw [if_pos c5] at H
   have c5b0 : decide (a0_0 < a0_1) = true := decide_eq_true c5
   clear c5
   obtain rfl := Option.some.inj H
   go_enter Try.func76, Try.ntmps76
   go_wp2_with (first | ((with_reducible refine gate_dst (N := 1) rfl ?_); refine My.bx 1 #[.int .i64 a0_0, .int .i64 a0_1, .int .i64 a0_2] 49 ?_; intro gb113 hg w6 hbox hb; have BK113 := My.am (hbox); have GE113 := My.nge hg (My.bl_ HB); replace HB := My.st HB hb; clear hb hbox hg; have hq7 := My.cz3 BK113))
   go_ret
   exact ⟨My.r2, (My.bl_ HB)⟩
  rw [if_neg c5] at H
  have c5b0 : decide (a0_0 < a0_1) = false := decide_eq_false c5
  clear c5
  by_cases c8 : a0_2 < 0
  ·rw [if_pos c8] at H
   have c8b0 := decide_eq_true c8
   clear c8
   obtain rfl := Option.some.inj H
   go_enter Try.func76, Try.ntmps76
   go_wp2_with (first | ((with_reducible refine gate_dst (N := 1) rfl ?_); refine My.bx 1 #[.int .i64 a0_0, .int .i64 a0_1, .int .i64 a0_2] 49 ?_; intro gb113 hg w9 hbox hb; have BK113 := My.am (hbox); have GE113 := My.nge hg (My.bl_ HB); replace HB := My.st HB hb; clear hb hbox hg; have hq10 := My.cz3 BK113))
   go_ret
   exact ⟨My.r2, (My.bl_ HB)⟩
  rw [if_neg c8] at H
  have c8b0 := decide_eq_false c8
  clear c8
  by_cases c11 : a0_0 > 1000000000000000
  ·rw [if_pos c11] at H
   have c11b0 : decide (1000000000000000 < a0_0) = true := decide_eq_true c11
   clear c11
   obtain rfl := Option.some.inj H
   go_enter Try.func76, Try.ntmps76
   go_wp2_with (first | ((with_reducible refine gate_dst (N := 1) rfl ?_); refine My.bx 1 #[.int .i64 a0_0, .int .i64 a0_1, .int .i64 a0_2] 49 ?_; intro gb113 hg w12 hbox hb; have BK113 := My.am (hbox); have GE113 := My.nge hg (My.bl_ HB); replace HB := My.st HB hb; clear hb hbox hg; have hq13 := My.cz3 BK113))
   go_ret
   exact ⟨My.r2, (My.bl_ HB)⟩
  rw [if_neg c11] at H
  have c11b0 : decide (1000000000000000 < a0_0) = false := decide_eq_false c11
  clear c11
  by_cases c14 : a0_2 > (wrap64 (1000000000000000 - a0_0))
  ·rw [if_pos c14] at H
   have c14b0 : decide ((wrap64 (1000000000000000 - a0_0)) < a0_2) = true := decide_eq_true c14
   clear c14
   obtain rfl := Option.some.inj H
   go_enter Try.func76, Try.ntmps76
   go_wp2_with (first | ((with_reducible refine gate_dst (N := 1) rfl ?_); refine My.bx 1 #[.int .i64 a0_0, .int .i64 a0_1, .int .i64 a0_2] 49 ?_; intro gb113 hg w15 hbox hb; have BK113 := My.am (hbox); have GE113 := My.nge hg (My.bl_ HB); replace HB := My.st HB hb; clear hb hbox hg; have hq16 := My.cz3 BK113))
   go_ret
   exact ⟨My.r2, (My.bl_ HB)⟩
  rw [if_neg c14] at H
  have c14b0 : decide ((wrap64 (1000000000000000 - a0_0)) < a0_2) = false := decide_eq_false c14
  clear c14
  obtain rfl := Option.some.inj H
  go_enter Try.func76, Try.ntmps76
  go_wp2_with (first | ((with_reducible refine gate_dst (N := 1) rfl ?_); refine My.bx 1 #[.int .i64 a0_0, .int .i64 a0_1, .int .i64 a0_2] 49 ?_; intro gb113 hg w17 hbox hb; have BK113 := My.am (hbox); have GE113 := My.nge hg (My.bl_ HB); replace HB := My.st HB hb; clear hb hbox hg; have hq18 := My.cz3 BK113))
  go_ret
  exact ⟨My.r2, (My.bl_ HB)⟩

end Go.Proofs.Ytikanbdhpafbiaa.PO
