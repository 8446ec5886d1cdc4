-- Written by a program of this session (wip/tools/mp.py over the kit's printer); Lean checks it.
import Derived.Test.YtcgmoeiknkdljaaPAx0
import Derived.Test.YtcgmoeiknkdljaaPAx5
namespace Go.Proofs.Ytcgmoeiknkdljaa.PA
open Go.RowKit Go.Proofs.YtcgmoeiknkdljaaW.PrintWords Go.Proofs.YtcgmoeiknkdljaaW.PrintLast Go.Proofs.YtcgmoeiknkdljaaW.PrintMore
attribute [local go_sem] max2_int min2_int max_two min_two max_three min_three max_four min_four   -- for this text's walks alone
set_option linter.unusedVariables false
set_option maxHeartbeats 8000000
set_option maxRecDepth 100000
set_option linter.unusedSimpArgs false

/-! ### outbox_has: function 27 -/
/-! the first item of which a closure says yes -/
def fidx (P : S46 → Bool) : List S46 → Nat → Int
 | [], _ => -1
 | x :: r, i => if P x = true then (i : Int) else fidx P r (i + 1)
theorem drop46 (l : List S46) (i : Nat) (h : i < l.length) : l.drop i = rd_T46 l (i : Int) :: l.drop (i + 1) := by
 rw [List.drop_eq_getElem_cons h]
 congr 1
 unfold rd_T46
 rw [Int.toNat_natCast, List.getD_eq_getElem?_getD, List.getElem?_eq_getElem h]
 rfl
theorem mem46 (l : List S46) (i : Nat) (h : i < l.length) : rd_T46 l (i : Int) ∈ l := by
 have := List.mem_of_mem_drop (show rd_T46 l (i : Int) ∈ l.drop i by rw [drop46 l i h]; exact List.mem_cons_self)
 exact this
theorem item_index.calls (f_ : FuncId) (fn_ : Func) (hf_ : Try.prog.funcs[f_]? = some fn_) (hname_ : (fn_.name == "runtime.NumGoroutine") = false) (hb_ : fn_.body.isSome = true) (cap : Array Value) (Pd : S46 → Bool) (A0 : Option Addr) (c0 : Nat) (l0 : List S46) (w : World) (hr0 : Kd.C k46 w A0 l0.length l0)
  (hP : ∀ (x : S46) (A : Option Addr) (c : Nat) (W : World), x ∈ l0 → Below w.heap.size w W → Kd.C k62 W A x.f3.f1.f2.length x.f3.f1.f2 → x.f3.f1.f2.length ≤ c → Calls Try.prog f_ (#[.agg #[.int .i64 x.f0, .int .i64 x.f1, .int .i64 x.f2, .int .i64 x.f3.f0, .int .i64 x.f3.f1.f0, .int .i64 x.f3.f1.f1, .slice A x.f3.f1.f2.length c, .string x.f3.f2, .int .i64 x.f3.f3]] ++ cap) W fun e W' => e = .returned (.bool (Pd x)) ∧ Below W.heap.size W W') :
  Calls Try.prog 45 #[.slice A0 l0.length c0, .func (.func f_) #[] cap] w fun e w' => e = .returned (.int .i64 (fidx Pd l0 0)) ∧ Below w.heap.size w w' := by
 have hu46 := Try.underlying46
 have hu37 := Try.underlying37
 have hu35 := Try.underlying35
 have hmax : l0.length ≤ 9223372036854775807 := hr0.2.1
 have HR0 := My.am hr0
 have HP := My.am hP
 clear hr0 hP
 have HB := My.am (Below.refl w.heap.size w)
 go_enter Try.func45, Try.ntmps45
 go_wp2
 go_loopg [8] (l0.length + 1) (fun kq v8 w' => ∃ (i : Nat) (x : Int), v8 = .int .i64 x ∧ Aside0 (x = (i : Int)) ∧ Aside0 (kq + i = l0.length + 1) ∧ Aside0 (i ≤ l0.length) ∧ Aside0 (fidx Pd (l0.drop i) i = fidx Pd l0 0) ∧ Aside0 (Below w.heap.size w w'))
 case atStart => exact ⟨0, _, rfl, ⟨rfl⟩, ⟨rfl⟩, ⟨Nat.zero_le _⟩, ⟨rfl⟩, HB⟩
 case round =>
  obtain ⟨i, x, rfl, hx, hk, hi, HD, HB⟩ := hrel
  by_cases c : i < l0.length
  rotate_left
  ·have hi2 := hi.out
   have hx1 := hx.out
   have c3 : decide (x < (l0.length : Int)) = false := decide_eq_false (by omega)
   have h1 := HD.out
   rw [List.drop_eq_nil_of_le (by omega), fidx] at h1
   have HE := My.am h1
   clear h1 hi2 hx1 c
   go_wp2
   go_ret
   exact ⟨show Ending.returned (.int .i64 (-1)) = _ from by rw [← HE.out], HB.out⟩
  have q1 : x < (l0.length : Int) := by have := hx.out; omega
  have p1 : (0 : Int) ≤ x := by have := hx.out; omega
  have c3 : decide (x < (l0.length : Int)) = true := decide_eq_true q1
  have HD2 := HD.out
  rw [drop46 l0 i c, fidx, ← hx.out] at HD2
  have hmem := mem46 l0 i c
  rw [← hx.out] at hmem
  obtain ⟨ad, A6, c6, e1, x0, x1, x2, x3, x4, x5, x6, x7, x8, l6, g6⟩ := at_T46 (Kd.C_below HR0.out HB.out) x p1 q1
  cases e1
  have HM := My.am hmem
  have HL := My.am l6
  have HG := My.am g6
  have HE := My.am HD2
  have HC := My.am c
  clear hmem l6 g6 HD2 c HD
  have p2 := eq_true p1
  have q2 := eq_true q1
  cases hp : Pd (rd_T46 l0 x) with
  | true =>
   have HPP := My.am hp
   clear hp
   go_wp2_with (first | ((with_reducible refine gate_dst (N := 16) rfl ?_); refine My.goesV_ (f := f_) (first := #[]) (cap := cap) (some 16) rfl rfl hf_ hname_ hb_ (#[.agg #[.int .i64 (rd_T46 l0 x).f0, .int .i64 (rd_T46 l0 x).f1, .int .i64 (rd_T46 l0 x).f2, .int .i64 (rd_T46 l0 x).f3.f0, .int .i64 (rd_T46 l0 x).f3.f1.f0, .int .i64 (rd_T46 l0 x).f3.f1.f1, .slice A6 (rd_T46 l0 x).f3.f1.f2.length c6, .string (rd_T46 l0 x).f3.f2, .int .i64 (rd_T46 l0 x).f3.f3]] ++ cap) rfl rfl (by simp only [List.map_toArray, List.map_cons, List.map_nil, Array.empty_append]; first | done | rfl) ?_; refine (HP.out _ A6 c6 _ HM.out HB.out HG.out HL.out).mono ?_; rw [HPP.out]; rintro e w3 ⟨rfl, hb⟩; refine ⟨_, rfl, ?_⟩; have HB3 := My.am (below_step HB.out hb); clear hb))
   go_ret
   have h1 := HE.out
   rw [if_pos HPP.out] at h1
   exact ⟨show Ending.returned (.int .i64 x) = _ from by rw [← h1], HB3.out⟩
  | false =>
   have HPP := My.am hp
   clear hp
   have hw : IntKind.i64.wrap (x + 1) = x + 1 := by have := hx.out; have := hi.out; rw [IntKind.wrap_i64]; omega
   go_wp2_with (first | ((with_reducible refine gate_dst (N := 16) rfl ?_); refine My.goesV_ (f := f_) (first := #[]) (cap := cap) (some 16) rfl rfl hf_ hname_ hb_ (#[.agg #[.int .i64 (rd_T46 l0 x).f0, .int .i64 (rd_T46 l0 x).f1, .int .i64 (rd_T46 l0 x).f2, .int .i64 (rd_T46 l0 x).f3.f0, .int .i64 (rd_T46 l0 x).f3.f1.f0, .int .i64 (rd_T46 l0 x).f3.f1.f1, .slice A6 (rd_T46 l0 x).f3.f1.f2.length c6, .string (rd_T46 l0 x).f3.f2, .int .i64 (rd_T46 l0 x).f3.f3]] ++ cap) rfl rfl (by simp only [List.map_toArray, List.map_cons, List.map_nil, Array.empty_append]; first | done | rfl) ?_; refine (HP.out _ A6 c6 _ HM.out HB.out HG.out HL.out).mono ?_; rw [HPP.out]; rintro e w3 ⟨rfl, hb⟩; refine ⟨_, rfl, ?_⟩; have HB3 := My.am (below_step HB.out hb); clear hb))
   have hI := HC.out
   have hx1 := hx.out
   have hk1 := hk.out
   have h1 := HE.out
   rw [if_neg (by rw [HPP.out]; exact Bool.false_ne_true)] at h1
   go_roundg (l0.length - i)
   case measure => omega
   case rel => exact ⟨i + 1, x + 1, by first | rfl | (rw [hw]), ⟨by omega⟩, ⟨by omega⟩, ⟨by omega⟩, ⟨h1⟩, HB3⟩
/-! the closure of has, ContainsFunc, has -/
theorem has1.calls (k : Nat) (x : S46) (A : Option Addr) (c : Nat) (b0 b1 b2 : Int) (A1 : Option Addr) (c1 : Nat) (l1 : List S62) (b4 : ByteArray) (b5 : Int) (gb : Nat) (r : Bool) (W : World)
  (hx : Kd.C k62 W A x.f3.f1.f2.length x.f3.f1.f2) (hxc : x.f3.f1.f2.length ≤ c) (hn : Kd.C k62 W A1 l1.length l1) (hnc : l1.length ≤ c1)
  (hb0 : W.heap[gb]? = some (.cells #[.int .i64 b0, .int .i64 b1, .int .i64 b2, .slice A1 l1.length c1, .string b4, .int .i64 b5] 37 (0, 0)))
  (h : outbox_same.f k x.f3.f0 x.f3.f1.f0 x.f3.f1.f1 x.f3.f1.f2 x.f3.f2 x.f3.f3 b0 b1 b2 l1 b4 b5 = some r) :
  Calls Try.prog 40 #[.agg #[.int .i64 x.f0, .int .i64 x.f1, .int .i64 x.f2, .int .i64 x.f3.f0, .int .i64 x.f3.f1.f0, .int .i64 x.f3.f1.f1, .slice A x.f3.f1.f2.length c, .string x.f3.f2, .int .i64 x.f3.f3], .pointer (some ⟨gb, 0, none⟩)] W fun e W' => e = .returned (.bool r) ∧ Below W.heap.size W W' := by
 have hu46 := Try.underlying46
 have hu37 := Try.underlying37
 have hu35 := Try.underlying35
 have HX := My.am hx
 have HXC := My.am hxc
 have HN := My.am hn
 have HNC := My.am hnc
 have BN := My.am hb0
 have A0 := My.am h
 have HB := My.am (Below.refl W.heap.size W)
 clear hx hxc hn hnc hb0 h
 go_enter Try.func40, Try.ntmps40
 go_wp2_with (first | ((with_reducible refine gate_dst (N := 2) rfl ?_); refine My.bx 2 #[.int .i64 x.f0, .int .i64 x.f1, .int .i64 x.f2, .int .i64 x.f3.f0, .int .i64 x.f3.f1.f0, .int .i64 x.f3.f1.f1, .slice A x.f3.f1.f2.length c, .string x.f3.f2, .int .i64 x.f3.f3] 46 ?_; intro gx hg w2 hbox hb; have BX := My.am hbox; have BN2 := My.ab BN hb; replace HB := My.st HB hb; clear hb hbox hg; have hq1 := My.cz6 BN2; have hq2 := My.b_ BX 3; have hq3 := My.b_ BX 4; have hq4 := My.b_ BX 5; have hq5 := My.b_ BX 6; have hq6 := My.b_ BX 7; have hq7 := My.b_ BX 8) | ((with_reducible refine gate_callee (f := 41) rfl ?_); refine goesL_ (some 7) rfl rfl Try.func41 (by kernel_rfl) rfl #[.agg #[.int .i64 x.f3.f0, .int .i64 x.f3.f1.f0, .int .i64 x.f3.f1.f1, .slice A x.f3.f1.f2.length c, .string x.f3.f2, .int .i64 x.f3.f3], .agg #[.int .i64 b0, .int .i64 b1, .int .i64 b2, .slice A1 l1.length c1, .string b4, .int .i64 b5]] rfl My.gx ?_; (with_reducible refine (outbox_same.calls k _ _ _ A c _ _ _ b0 b1 b2 A1 c1 l1 b4 b5 r _ ?side1 ?side2 ?side3 ?side4 A0.out).mono ?_); (case side1 => exact Kd.C_below HX.out HB.out); (case side2 => exact HXC.out); (case side3 => exact Kd.C_below HN.out HB.out); (case side4 => exact HNC.out); rintro e w3 ⟨rfl, hb⟩; refine ⟨_, rfl, ?_⟩; replace HB := My.st HB hb; clear hb))
 go_ret
 exact ⟨My.r1, (My.bl_ HB)⟩
theorem fidx_any (P : S46 → Bool) : ∀ (l : List S46) (i : Nat), decide (fidx P l i ≥ 0) = l.any P
 | [], i => rfl
 | x :: r, i => by
  rw [fidx, List.any_cons]
  cases P x with
  | true =>
   rw [if_pos rfl, Bool.true_or]
   exact decide_eq_true (Int.natCast_nonneg i)
  | false =>
   rw [if_neg Bool.false_ne_true, Bool.false_or]
   exact fidx_any P r (i + 1)
theorem item_contains.calls (f_ : FuncId) (fn_ : Func) (hf_ : Try.prog.funcs[f_]? = some fn_) (hname_ : (fn_.name == "runtime.NumGoroutine") = false) (hb_ : fn_.body.isSome = true) (cap : Array Value) (Pd : S46 → Bool) (A0 : Option Addr) (c0 : Nat) (l0 : List S46) (w : World) (hr0 : Kd.C k46 w A0 l0.length l0)
  (hP : ∀ (x : S46) (A : Option Addr) (c : Nat) (W : World), x ∈ l0 → Below w.heap.size w W → Kd.C k62 W A x.f3.f1.f2.length x.f3.f1.f2 → x.f3.f1.f2.length ≤ c → Calls Try.prog f_ (#[.agg #[.int .i64 x.f0, .int .i64 x.f1, .int .i64 x.f2, .int .i64 x.f3.f0, .int .i64 x.f3.f1.f0, .int .i64 x.f3.f1.f1, .slice A x.f3.f1.f2.length c, .string x.f3.f2, .int .i64 x.f3.f3]] ++ cap) W fun e W' => e = .returned (.bool (Pd x)) ∧ Below W.heap.size W W') :
  Calls Try.prog 39 #[.slice A0 l0.length c0, .func (.func f_) #[] cap] w fun e w' => e = .returned (.bool (l0.any Pd)) ∧ Below w.heap.size w w' := by
 have HC := My.am (item_index.calls f_ fn_ hf_ hname_ hb_ cap Pd A0 c0 l0 w hr0 hP)
 have HA := My.am (fidx_any Pd l0 0)
 clear hr0 hP
 go_enter Try.func39, Try.ntmps39
 go_wp2_with (first | ((with_reducible refine gate_callee (f := 45) rfl ?_); refine goesL_ (some 7) rfl rfl Try.func45 (by kernel_rfl) rfl #[.slice A0 l0.length c0, .func (.func f_) #[] cap] rfl My.gx ?_; refine HC.out.mono ?_; rintro e w3 ⟨rfl, hb⟩; refine ⟨_, rfl, ?_⟩; have HB := My.am hb; clear hb))
 go_ret
 exact ⟨by rw [← HA.out]; rfl, HB.out⟩
def outbox_has.f (k : Nat) (l0 : List S46) (a1_0 : Int) (a1_1 : Int) (a1_2 : Int) (l1_3 : List S62) (a1_4 : ByteArray) (a1_5 : Int) : Option Bool :=
 if (l0.all fun x => (outbox_same.f k x.f3.f0 x.f3.f1.f0 x.f3.f1.f1 x.f3.f1.f2 x.f3.f2 x.f3.f3 a1_0 a1_1 a1_2 l1_3 a1_4 a1_5).isSome) = true then some (l0.any fun x => outbox_same.f k x.f3.f0 x.f3.f1.f0 x.f3.f1.f1 x.f3.f1.f2 x.f3.f2 x.f3.f3 a1_0 a1_1 a1_2 l1_3 a1_4 a1_5 == some true) else none
theorem outbox_has.mono : ∀ a0 a1 a2 a3 a4 a5 a6 k, LeO (outbox_has.f k a0 a1 a2 a3 a4 a5 a6) (outbox_has.f (k + 1) a0 a1 a2 a3 a4 a5 a6) := by
 intro a0 a1 a2 a3 a4 a5 a6 k r h
 unfold outbox_has.f at h ⊢
 by_cases c : (a0.all fun x => (outbox_same.f k x.f3.f0 x.f3.f1.f0 x.f3.f1.f1 x.f3.f1.f2 x.f3.f2 x.f3.f3 a1 a2 a3 a4 a5 a6).isSome) = true
 ·rw [if_pos c] at h
  have hs : ∀ x ∈ a0, outbox_same.f (k + 1) x.f3.f0 x.f3.f1.f0 x.f3.f1.f1 x.f3.f1.f2 x.f3.f2 x.f3.f3 a1 a2 a3 a4 a5 a6 = outbox_same.f k x.f3.f0 x.f3.f1.f0 x.f3.f1.f1 x.f3.f1.f2 x.f3.f2 x.f3.f3 a1 a2 a3 a4 a5 a6 := by
   intro x hx
   obtain ⟨b, hb⟩ := Option.isSome_iff_exists.1 (List.all_eq_true.1 c x hx)
   rw [hb]
   exact outbox_same.mono _ _ _ _ _ _ _ _ _ _ _ _ _ _ hb
  have e1 : (a0.all fun x => (outbox_same.f (k + 1) x.f3.f0 x.f3.f1.f0 x.f3.f1.f1 x.f3.f1.f2 x.f3.f2 x.f3.f3 a1 a2 a3 a4 a5 a6).isSome) = true := List.all_eq_true.2 fun x hx => by rw [hs x hx]; exact List.all_eq_true.1 c x hx
  have e2 : (a0.any fun x => outbox_same.f (k + 1) x.f3.f0 x.f3.f1.f0 x.f3.f1.f1 x.f3.f1.f2 x.f3.f2 x.f3.f3 a1 a2 a3 a4 a5 a6 == some true) = (a0.any fun x => outbox_same.f k x.f3.f0 x.f3.f1.f0 x.f3.f1.f1 x.f3.f1.f2 x.f3.f2 x.f3.f3 a1 a2 a3 a4 a5 a6 == some true) := by
   rw [Bool.eq_iff_iff, List.any_eq_true, List.any_eq_true]
   constructor
   ·rintro ⟨x, hx, g⟩
    exact ⟨x, hx, by rw [← hs x hx]; exact g⟩
   rintro ⟨x, hx, g⟩
   exact ⟨x, hx, by rw [hs x hx]; exact g⟩
  rw [if_pos e1, e2]
  exact h
 rw [if_neg c] at h
 cases h
theorem outbox_has.calls (k : Nat) (A0 : Option Addr) (c0 : Nat) (l0 : List S46) (a1_0 : Int) (a1_1 : Int) (a1_2 : Int) (A1_3 : Option Addr) (c1_3 : Nat) (l1_3 : List S62) (a1_4 : ByteArray) (a1_5 : Int) (r : Bool) (w : World) (hr0 : Kd.C k46 w A0 l0.length l0) (hc0 : l0.length ≤ c0) (hr1_3 : Kd.C k62 w A1_3 l1_3.length l1_3) (hc1_3 : l1_3.length ≤ c1_3) (h : outbox_has.f k l0 a1_0 a1_1 a1_2 l1_3 a1_4 a1_5 = some r) :
  Calls Try.prog 27 #[.slice A0 l0.length c0, .agg #[.int .i64 a1_0, .int .i64 a1_1, .int .i64 a1_2, .slice A1_3 l1_3.length c1_3, .string a1_4, .int .i64 a1_5]] w fun e w' => e = .returned (.bool r) ∧ Below w.heap.size w w' := by
 have hu37 := Try.underlying37
 have hu35 := Try.underlying35
 unfold outbox_has.f at h
 by_cases c : (l0.all fun x => (outbox_same.f k x.f3.f0 x.f3.f1.f0 x.f3.f1.f1 x.f3.f1.f2 x.f3.f2 x.f3.f3 a1_0 a1_1 a1_2 l1_3 a1_4 a1_5).isSome) = true
 ·rw [if_pos c] at h
  have HCC := My.am c
  have HRR := My.am (Option.some.inj h)
  have HR0 := My.am hr0
  have HR1 := My.am hr1_3
  have HC1 := My.am hc1_3
  have HB := My.am (Below.refl w.heap.size w)
  clear h c hr0 hr1_3 hc1_3 hc0
  go_enter Try.func27, Try.ntmps27
  go_wp2_with (first | ((with_reducible refine gate_dst (N := 3) rfl ?_); refine My.bx 3 #[.int .i64 a1_0, .int .i64 a1_1, .int .i64 a1_2, .slice A1_3 l1_3.length c1_3, .string a1_4, .int .i64 a1_5] 37 ?_; intro gb hg w2 hbox hb; have BK := My.am hbox; replace HB := My.st HB hb; clear hb hbox hg) | ((with_reducible refine gate_callee (f := 39) rfl ?_); refine goesL_ (some 7) rfl rfl Try.func39 (by kernel_rfl) rfl #[.slice A0 l0.length c0, .func (.func 40) #[] #[.pointer (some ⟨gb, 0, none⟩)]] rfl My.gx ?_; (refine (item_contains.calls 40 _ Try.func40 (by kernel_rfl) rfl #[.pointer (some ⟨gb, 0, none⟩)] (fun x => outbox_same.f k x.f3.f0 x.f3.f1.f0 x.f3.f1.f1 x.f3.f1.f2 x.f3.f2 x.f3.f3 a1_0 a1_1 a1_2 l1_3 a1_4 a1_5 == some true) A0 c0 l0 _ ?side1 ?side2).mono ?_); (case side1 => exact Kd.C_below HR0.out HB.out); (case side2 => intro x A c W hx hw hxr hxc; obtain ⟨b, hb⟩ := Option.isSome_iff_exists.1 (List.all_eq_true.1 HCC.out x hx); have := has1.calls k x A c a1_0 a1_1 a1_2 A1_3 c1_3 l1_3 a1_4 a1_5 gb b W hxr hxc (Kd.C_below (Kd.C_below HR1.out HB.out) hw) HC1.out (blk_below BK.out hw) hb; simp only [hb]; cases b <;> exact this); rintro e w3 ⟨rfl, hb⟩; refine ⟨_, rfl, ?_⟩; replace HB := My.st HB hb; clear hb))
  go_ret
  exact ⟨by rw [← HRR.out]; rfl, HB.out⟩
 ·rw [if_neg c] at h
  cases h
/-! rows of items -/
theorem at_world {P : Program} {body : Code} {Q : Exit → Act → World → Prop} {a : Act} {w : World} (J : World → Prop) (h : J w) (k : ∀ W, J W → Code.wp P body Q a W) : Code.wp P body Q a w := k w h
theorem drop37 (l : List S37) (i : Nat) (h : i < l.length) : l.drop i = rd_T37 l (i : Int) :: l.drop (i + 1) := by
 rw [List.drop_eq_getElem_cons h]
 congr 1
 unfold rd_T37
 rw [Int.toNat_natCast, List.getD_eq_getElem?_getD, List.getElem?_eq_getElem h]
 rfl
theorem one_item {W : World} (x : S46) (A : Option Addr) (c : Nat) (hl : x.f3.f1.f2.length ≤ c) (hr : Kd.C k62 W A x.f3.f1.f2.length x.f3.f1.f2) :
  Kd.C k46 (W.alloc (.cells #[.int .i64 x.f0, .int .i64 x.f1, .int .i64 x.f2, .int .i64 x.f3.f0, .int .i64 x.f3.f1.f0, .int .i64 x.f3.f1.f1, .slice A x.f3.f1.f2.length c, .string x.f3.f2, .int .i64 x.f3.f3] 46)) (some ⟨W.heap.size, 0, none⟩) 1 [x] := by
 refine ⟨rfl, by omega, fun _ => ⟨_, rfl, fun j p hj => ?_⟩⟩
 cases j with
 | zero =>
  obtain rfl : x = p := by simpa using hj
  refine ⟨[.int .i64 x.f0, .int .i64 x.f1, .int .i64 x.f2, .int .i64 x.f3.f0, .int .i64 x.f3.f1.f0, .int .i64 x.f3.f1.f1, .slice A x.f3.f1.f2.length c, .string x.f3.f2, .int .i64 x.f3.f3], rfl, k46_mk _ x hl (Kd.C_alloc hr _), fun i u hi => ?_⟩
  have ha : (⟨W.heap.size, 0, none⟩ : Addr).add (0 * k46.sz + i) = ⟨W.heap.size, i, none⟩ := by simp [Addr.add]; exact fun h => h.symm
  rw [ha, blk_cell (blk_new W _) i]
  simpa using hi
 | succ j => simp at hj
theorem sz_alloc {wr W W9 : World} {o : Obj} (h : Aside0 (Below wr.heap.size wr W)) (hb : Below (W.alloc o).heap.size (W.alloc o) W9) : Aside0 (wr.heap.size ≤ (W.alloc o).heap.size) := ⟨Nat.le_trans (below_size h.out) (below_size (below_alloc (Below.refl _ _) o))⟩
/-! an item is laid into a row of the call's own; a row's first items stay where others are cleared -/
theorem set9 (P : List Value) (v0 v1 v2 v3 v4 v5 v6 v7 v8 a0 a1 a2 a3 a4 a5 a6 a7 a8 : Value) (R : List Value) :
  (((((((((P ++ (a0 :: a1 :: a2 :: a3 :: a4 :: a5 :: a6 :: a7 :: a8 :: R)).set P.length v0).set (P.length + 1) v1).set (P.length + 2) v2).set (P.length + 3) v3).set (P.length + 4) v4).set (P.length + 5) v5).set (P.length + 6) v6).set (P.length + 7) v7).set (P.length + 8) v8 = P ++ (v0 :: v1 :: v2 :: v3 :: v4 :: v5 :: v6 :: v7 :: v8 :: R) := by
 rw [List.set_append_right _ _ (Nat.le_refl _), Nat.sub_self]
 rw [List.set_append_right _ _ (Nat.le_add_right _ _), Nat.add_sub_cancel_left, List.set_append_right _ _ (Nat.le_add_right _ _), Nat.add_sub_cancel_left, List.set_append_right _ _ (Nat.le_add_right _ _), Nat.add_sub_cancel_left, List.set_append_right _ _ (Nat.le_add_right _ _), Nat.add_sub_cancel_left,
  List.set_append_right _ _ (Nat.le_add_right _ _), Nat.add_sub_cancel_left, List.set_append_right _ _ (Nat.le_add_right _ _), Nat.add_sub_cancel_left, List.set_append_right _ _ (Nat.le_add_right _ _), Nat.add_sub_cancel_left, List.set_append_right _ _ (Nat.le_add_right _ _), Nat.add_sub_cancel_left]
 rfl
theorem nine {L : List Value} (h : 9 ≤ L.length) : ∃ a0 a1 a2 a3 a4 a5 a6 a7 a8 R, L = a0 :: a1 :: a2 :: a3 :: a4 :: a5 :: a6 :: a7 :: a8 :: R := by
 match L, h with
 | a0 :: a1 :: a2 :: a3 :: a4 :: a5 :: a6 :: a7 :: a8 :: R, _ => exact ⟨a0, a1, a2, a3, a4, a5, a6, a7, a8, R, rfl⟩
theorem set9L (L : List Value) (o : Nat) (h : o + 9 ≤ L.length) (v0 v1 v2 v3 v4 v5 v6 v7 v8 : Value) :
  (((((((((L.set o v0).set (o + 1) v1).set (o + 2) v2).set (o + 3) v3).set (o + 4) v4).set (o + 5) v5).set (o + 6) v6).set (o + 7) v7).set (o + 8) v8) = L.take o ++ [v0, v1, v2, v3, v4, v5, v6, v7, v8] ++ L.drop (o + 9) := by
 obtain ⟨a0, a1, a2, a3, a4, a5, a6, a7, a8, R, e⟩ := nine (L := L.drop o) (by rw [List.length_drop]; omega)
 have hP : (L.take o).length = o := by rw [List.length_take]; omega
 have h9 : L.drop (o + 9) = R := by rw [← List.drop_drop, e]; rfl
 have hL : L = L.take o ++ (a0 :: a1 :: a2 :: a3 :: a4 :: a5 :: a6 :: a7 :: a8 :: R) := by rw [← e, List.take_append_drop]
 rw [h9]
 have := set9 (L.take o) v0 v1 v2 v3 v4 v5 v6 v7 v8 a0 a1 a2 a3 a4 a5 a6 a7 a8 R
 rw [hP, ← hL] at this
 rw [this, List.append_assoc]
 rfl
def put9 (W : World) (g o : Nat) (v0 v1 v2 v3 v4 v5 v6 v7 v8 : Value) : World := ((((((((W.setCell ⟨g, o, none⟩ v0).setCell ⟨g, o + 1, none⟩ v1).setCell ⟨g, o + 2, none⟩ v2).setCell ⟨g, o + 3, none⟩ v3).setCell ⟨g, o + 4, none⟩ v4).setCell ⟨g, o + 5, none⟩ v5).setCell ⟨g, o + 6, none⟩ v6).setCell ⟨g, o + 7, none⟩ v7).setCell ⟨g, o + 8, none⟩ v8
theorem put9_far (W : World) (g o : Nat) (v0 v1 v2 v3 v4 v5 v6 v7 v8 : Value) (k : Nat) (h : k ≠ g) : (put9 W g o v0 v1 v2 v3 v4 v5 v6 v7 v8).heap[k]? = W.heap[k]? := by
 unfold put9
 rw [Below.heap_setCell _ ⟨g, o + 8, none⟩ _ k h, Below.heap_setCell _ ⟨g, o + 7, none⟩ _ k h, Below.heap_setCell _ ⟨g, o + 6, none⟩ _ k h, Below.heap_setCell _ ⟨g, o + 5, none⟩ _ k h, Below.heap_setCell _ ⟨g, o + 4, none⟩ _ k h, Below.heap_setCell _ ⟨g, o + 3, none⟩ _ k h, Below.heap_setCell _ ⟨g, o + 2, none⟩ _ k h, Below.heap_setCell _ ⟨g, o + 1, none⟩ _ k h, Below.heap_setCell _ ⟨g, o, none⟩ _ k h]
theorem R_put9 {W : World} {base g n c : Nat} {ok : Nat → Prop} {ys : List S46} (h : Kd.R k46 46 W base ok (.slice (some ⟨g, 0, none⟩) n c) ys) (i : Nat) (hi : i < ys.length) (x : S46) (v6 : Value) (hx : Kd.R k62 62 W base (fun k => ok k ∧ k ≠ g) v6 x.f3.f1.f2) :
  Kd.R k46 46 (put9 W g (i * 9) (.int .i64 x.f0) (.int .i64 x.f1) (.int .i64 x.f2) (.int .i64 x.f3.f0) (.int .i64 x.f3.f1.f0) (.int .i64 x.f3.f1.f1) v6 (.string x.f3.f2) (.int .i64 x.f3.f3)) base ok (.slice (some ⟨g, 0, none⟩) n c) (ys.set i x) := by
 have hfar := put9_far W g (i * 9) (.int .i64 x.f0) (.int .i64 x.f1) (.int .i64 x.f2) (.int .i64 x.f3.f0) (.int .i64 x.f3.f1.f0) (.int .i64 x.f3.f1.f1) v6 (.string x.f3.f2) (.int .i64 x.f3.f3)
 obtain ⟨h0, inner, ⟨hl, ho⟩, hr⟩ := h
 rcases ho with ⟨hv, _⟩ | ⟨g', cap, cur, hv, hb, hc, hn, hm, hs, ht⟩
 ·cases hv
 ·have hg : g' = g ∧ n = ys.length ∧ c = cap := by
   injection hv with e1 e2 e3
   injection e1 with e1
   injection e1 with e1 _ _
   exact ⟨e1.symm, e2, e3⟩
  obtain ⟨rfl, rfl, rfl⟩ := hg
  have hle : i * 9 + 9 ≤ ys.length * 9 := by omega
  have h9 : c * 9 = cur.size := hs.symm
  have hsz : k46.sz = 9 := rfl
  rw [hsz] at hl ht hs
  have hct : cur.toList.length = c * 9 := by rw [Array.length_toList]; exact hs
  have hcl : ys.length * 9 ≤ cur.toList.length := by omega
  refine ⟨h0, inner.take (i * 9) ++ [.int .i64 x.f0, .int .i64 x.f1, .int .i64 x.f2, .int .i64 x.f3.f0, .int .i64 x.f3.f1.f0, .int .i64 x.f3.f1.f1, v6, .string x.f3.f2, .int .i64 x.f3.f3] ++ inner.drop (i * 9 + 9), ⟨?_, Or.inr ⟨g', c, _, by rw [List.length_set], hb, blk_put (blk_put (blk_put (blk_put (blk_put (blk_put (blk_put (blk_put (blk_put hc (i * 9) _ rfl) _ _ rfl) _ _ rfl) _ _ rfl) _ _ rfl) _ _ rfl) _ _ rfl) _ _ rfl) _ _ rfl, by rw [List.length_set]; exact hn, hm, ?_, ?_⟩⟩, ?_⟩
  ·rw [List.length_set, hsz]
   simp only [List.length_append, List.length_take, List.length_drop, List.length_cons, List.length_nil, hl]
   omega
  ·simp only [Array.size_setIfInBounds]
   exact hs
  ·rw [List.length_set, hsz]
   simp only [Array.toList_setIfInBounds]
   rw [set9L _ _ (by omega), List.append_assoc, List.take_append, List.take_take, List.length_take, ← ht, List.take_take]
   rw [show min (ys.length * 9) (i * 9) = i * 9 by omega, show min (i * 9) (ys.length * 9) = i * 9 by omega, show min (i * 9) cur.toList.length = i * 9 by omega]
   rw [List.append_assoc]
   congr 1
   rw [List.take_append]
   have e1 : List.take (ys.length * 9 - i * 9) [Value.int .i64 x.f0, .int .i64 x.f1, .int .i64 x.f2, .int .i64 x.f3.f0, .int .i64 x.f3.f1.f0, .int .i64 x.f3.f1.f1, v6, .string x.f3.f2, .int .i64 x.f3.f3] = [Value.int .i64 x.f0, .int .i64 x.f1, .int .i64 x.f2, .int .i64 x.f3.f0, .int .i64 x.f3.f1.f0, .int .i64 x.f3.f1.f1, v6, .string x.f3.f2, .int .i64 x.f3.f3] := List.take_of_length_le (by simp only [List.length_cons, List.length_nil]; omega)
   rw [e1]
   congr 1
   simp only [List.length_cons, List.length_nil]
   rw [List.drop_take]
   exact congrArg (fun m => List.take m (List.drop (i * 9 + 9) cur.toList)) (by omega)
  have hr' : Reps (k46.M (put9 W g' (i * 9) (.int .i64 x.f0) (.int .i64 x.f1) (.int .i64 x.f2) (.int .i64 x.f3.f0) (.int .i64 x.f3.f1.f0) (.int .i64 x.f3.f1.f1) v6 (.string x.f3.f2) (.int .i64 x.f3.f3)) base (fun k => ok k ∧ some k ≠ (Value.slice (some ⟨g', 0, none⟩) ys.length c).ownBlock)) 9 ys inner := hr.imp_ (fun p cs hp => k46.M_move (fun k hk => hfar k (fun e => hk.2 (by rw [e]; rfl))) hp)
  have hx' : Kd.R k62 62 (put9 W g' (i * 9) (.int .i64 x.f0) (.int .i64 x.f1) (.int .i64 x.f2) (.int .i64 x.f3.f0) (.int .i64 x.f3.f1.f0) (.int .i64 x.f3.f1.f1) v6 (.string x.f3.f2) (.int .i64 x.f3.f3)) base (fun k => ok k ∧ some k ≠ (Value.slice (some ⟨g', 0, none⟩) ys.length c).ownBlock) v6 x.f3.f1.f2 :=
   Kd.R_mono (Kd.R_step hx (fun k hk _ => hfar k hk.2)) (fun k hk => ⟨hk.1, fun e => hk.2 (by injection e)⟩)
  have h1 : Reps (k46.M (put9 W g' (i * 9) (.int .i64 x.f0) (.int .i64 x.f1) (.int .i64 x.f2) (.int .i64 x.f3.f0) (.int .i64 x.f3.f1.f0) (.int .i64 x.f3.f1.f1) v6 (.string x.f3.f2) (.int .i64 x.f3.f3)) base (fun k => ok k ∧ some k ≠ (Value.slice (some ⟨g', 0, none⟩) ys.length c).ownBlock)) 9 [x] [.int .i64 x.f0, .int .i64 x.f1, .int .i64 x.f2, .int .i64 x.f3.f0, .int .i64 x.f3.f1.f0, .int .i64 x.f3.f1.f1, v6, .string x.f3.f2, .int .i64 x.f3.f3] := ⟨rfl, fun j q hj => by
   cases j with
   | zero =>
    obtain rfl : x = q := by simpa using hj
    exact k46_mkM _ _ _ x hx'
   | succ j => simp at hj⟩
  have h2 := My.reps_app (My.reps_app (My.reps_take hr' i (by omega)) h1) (My.reps_drop hr' (i + 1))
  rw [show (i + 1) * 9 = i * 9 + 9 by omega] at h2
  have e : ys.set i x = ys.take i ++ [x] ++ ys.drop (i + 1) := by rw [List.set_eq_take_append_cons_drop, if_pos hi]; simp
  rw [e]
  exact h2
theorem put9_blk {W : World} {g : Nat} {t : TypeId} {a0 a1 a2 a3 a4 a5 a6 a7 a8 v0 v1 v2 v3 v4 v5 v6 v7 v8 : Value} (h : W.heap[g]? = some (.cells #[a0, a1, a2, a3, a4, a5, a6, a7, a8] t (0, 0))) : (put9 W g 0 v0 v1 v2 v3 v4 v5 v6 v7 v8).heap[g]? = some (.cells #[v0, v1, v2, v3, v4, v5, v6, v7, v8] t (0, 0)) :=
 blk_put (cs' := #[v0, v1, v2, v3, v4, v5, v6, v7, v8]) (blk_put (cs' := #[v0, v1, v2, v3, v4, v5, v6, v7, a8]) (blk_put (cs' := #[v0, v1, v2, v3, v4, v5, v6, a7, a8]) (blk_put (cs' := #[v0, v1, v2, v3, v4, v5, a6, a7, a8]) (blk_put (cs' := #[v0, v1, v2, v3, v4, a5, a6, a7, a8]) (blk_put (cs' := #[v0, v1, v2, v3, a4, a5, a6, a7, a8]) (blk_put (cs' := #[v0, v1, v2, a3, a4, a5, a6, a7, a8]) (blk_put (cs' := #[v0, v1, a2, a3, a4, a5, a6, a7, a8]) (blk_put (cs' := #[v0, a1, a2, a3, a4, a5, a6, a7, a8]) h 0 v0 rfl) 1 v1 rfl) 2 v2 rfl) 3 v3 rfl) 4 v4 rfl) 5 v5 rfl) 6 v6 rfl) 7 v7 rfl) 8 v8 rfl
set_option maxHeartbeats 4000000 in
theorem R_item {W : World} {base g n cap : Nat} {ok : Nat → Prop} {ys : List S46} (h : Kd.R k46 46 W base ok (.slice (some ⟨g, 0, none⟩) n cap) ys) (i : Int) (h0 : 0 ≤ i) (h1 : i < n) :
  ∃ A6 c6, (W.cell? ⟨g, i.toNat * 9, none⟩ = some (.int .i64 (rd_T46 ys i).f0) ∧ W.cell? ⟨g, i.toNat * 9 + 1, none⟩ = some (.int .i64 (rd_T46 ys i).f1) ∧ W.cell? ⟨g, i.toNat * 9 + 2, none⟩ = some (.int .i64 (rd_T46 ys i).f2) ∧ W.cell? ⟨g, i.toNat * 9 + 3, none⟩ = some (.int .i64 (rd_T46 ys i).f3.f0) ∧ W.cell? ⟨g, i.toNat * 9 + 4, none⟩ = some (.int .i64 (rd_T46 ys i).f3.f1.f0) ∧ W.cell? ⟨g, i.toNat * 9 + 5, none⟩ = some (.int .i64 (rd_T46 ys i).f3.f1.f1) ∧ W.cell? ⟨g, i.toNat * 9 + 6, none⟩ = some (.slice A6 (rd_T46 ys i).f3.f1.f2.length c6) ∧ W.cell? ⟨g, i.toNat * 9 + 7, none⟩ = some (.string (rd_T46 ys i).f3.f2) ∧ W.cell? ⟨g, i.toNat * 9 + 8, none⟩ = some (.int .i64 (rd_T46 ys i).f3.f3)) ∧
   Kd.R k62 62 W base (fun k => ok k ∧ k ≠ g) (.slice A6 (rd_T46 ys i).f3.f1.f2.length c6) (rd_T46 ys i).f3.f1.f2 ∧ (∀ j, W.frozen? ⟨g, j, none⟩ = false) ∧ g < W.heap.size ∧ ok g := by
 have hn : n = ys.length := (Kd.R_reads' h).1
 obtain ⟨c, _, hm, hc⟩ := Kd.R_get h z46 i h0 h1
 obtain ⟨v6, rfl, hr⟩ := k46_openM hm
 obtain ⟨A6, c6, e6⟩ := Kd.R_slice hr
 obtain ⟨g', cap', e1, _, hlt, cells, hcells⟩ := Kd.R_form h (by omega)
 have hg : g' = g := by
  injection e1 with e2 _ _
  injection e2 with e2
  injection e2 with e2 _ _
  exact e2.symm
 subst hg
 have ha : ∀ m, (⟨g', 0, none⟩ : Addr).add m = ⟨g', m, none⟩ := by
  intro m
  simp [Addr.add]
  exact fun h => h.symm
 have hok : ok g' := h.1 g' rfl
 subst e6
 refine ⟨A6, c6, ?_, Kd.R_mono hr (fun k hk => ⟨hk.1, fun e => hk.2 (by rw [e]; rfl)⟩), fun j => blk_frozen hcells j, hlt, hok⟩
 have hq : ∀ j u, [Value.int .i64 (ys.getD i.toNat z46).f0, .int .i64 (ys.getD i.toNat z46).f1, .int .i64 (ys.getD i.toNat z46).f2, .int .i64 (ys.getD i.toNat z46).f3.f0, .int .i64 (ys.getD i.toNat z46).f3.f1.f0, .int .i64 (ys.getD i.toNat z46).f3.f1.f1, .slice A6 (ys.getD i.toNat z46).f3.f1.f2.length c6, .string (ys.getD i.toNat z46).f3.f2, .int .i64 (ys.getD i.toNat z46).f3.f3][j]? = some u → W.cell? ⟨g', i.toNat * 9 + j, none⟩ = some u := by
  intro j u hj
  have := hc j u hj
  rw [ha] at this
  exact this
 exact ⟨hq 0 _ rfl, hq 1 _ rfl, hq 2 _ rfl, hq 3 _ rfl, hq 4 _ rfl, hq 5 _ rfl, hq 6 _ rfl, hq 7 _ rfl, hq 8 _ rfl⟩
theorem own_some {g k n c : Nat} (h : some k = (Value.slice (some ⟨g, 0, none⟩) n c).ownBlock) : k = g := by simpa [Value.ownBlock] using h
theorem grown_size {w w1 : World} {row : Option Nat} (h : w.grownBy w1 row) : w.heap.size ≤ w1.heap.size := h.size


end Go.Proofs.Ytcgmoeiknkdljaa.PA
