-- Written by a program of this session (wip/tools/mp.py over the kit's printer); Lean checks it.
import Derived.Test.YtikanbdhpafbiaaPOx9
import Derived.Test.YtikanbdhpafbiaaPOx5
import Derived.Test.YtikanbdhpafbiaaPOx12
import Derived.Test.YtikanbdhpafbiaaPOx11
import Derived.Test.YtikanbdhpafbiaaPk
import Derived.Test.YtikanbdhpafbiaaPOx0
import Derived.Test.YtikanbdhpafbiaaPOx4
import Derived.Test.YtikanbdhpafbiaaPOx7
import Derived.Test.YtikanbdhpafbiaaPOx8
namespace Go.Proofs.Ytikanbdhpafbiaa.PO
open Go.RowKit Go.Proofs.YtikanbdhpafbiaaW.PrintWords Go.Proofs.YtikanbdhpafbiaaW.PrintLast Go.Proofs.YtikanbdhpafbiaaW.PrintMore
attribute [local go_sem] max2_int min2_int max_two min_two max_three min_three max_four min_four   -- for this text's walks alone
set_option linter.unusedVariables false
set_option linter.unusedSimpArgs false

/-! ### act_each_pot_Undo: function 118 -/
def act_each_pot_Undo.f (k : Nat) (a0_0 : ByteArray) (a0_1 : Int) (a0_2 : Int) (a0_3 : Int) (a0_4 : Int) (a0_5 : Int) (a0_6 : Int) (a1_0 : Int) (a1_1 : ByteArray) (a1_2 : Int) (a2 : Int) : Option (ByteArray × Int × Int × Int × Int × Int × Int × Int) := act_each_any.f pot_Undo.f k a0_0 a0_1 a0_2 a0_3 a0_4 a0_5 a0_6 a1_0 a1_1 a1_2 a2
theorem act_each_pot_Undo.mono : ∀ a0 a1 a2 a3 a4 a5 a6 a7 a8 a9 a10 k, LeO (act_each_pot_Undo.f k a0 a1 a2 a3 a4 a5 a6 a7 a8 a9 a10) (act_each_pot_Undo.f (k + 1) a0 a1 a2 a3 a4 a5 a6 a7 a8 a9 a10) := act_each_any.mono _ pot_Undo.mono
theorem act_each_pot_Undo.calls (k : Nat) (a0_0 : ByteArray) (a0_1 : Int) (a0_2 : Int) (a0_3 : Int) (a0_4 : Int) (a0_5 : Int) (a0_6 : Int) (a1_0 : Int) (a1_1 : ByteArray) (a1_2 : Int) (a2 : Int) (r1 : ByteArray) (r2 : Int) (r3 : Int) (r4 : Int) (r5 : Int) (r6 : Int) (r7 : Int) (r8 : Int) (w : World) (h : act_each_pot_Undo.f k a0_0 a0_1 a0_2 a0_3 a0_4 a0_5 a0_6 a1_0 a1_1 a1_2 a2 = some (r1, r2, r3, r4, r5, r6, r7, r8)) :
  Calls Try.prog 71 #[.agg #[.string a0_0, .int .i64 a0_1, .int .i64 a0_2, .int .i64 a0_3, .int .i64 a0_4, .int .i64 a0_5, .int .i64 a0_6], .agg #[.int .i64 a1_0, .string a1_1, .int .i64 a1_2], .func (.func 74) #[] #[]] w fun e w' => e = .returned (.tuple #[.agg #[.string r1, .int .i64 r2, .int .i64 r3, .int .i64 r4, .int .i64 r5, .int .i64 r6, .int .i64 r7], .int .i64 r8]) ∧ Below w.heap.size w w' := act_each_any.calls 74 _ Try.func74 (by kernel_rfl) rfl pot_Undo.f pot_Undo.calls k a0_0 a0_1 a0_2 a0_3 a0_4 a0_5 a0_6 a1_0 a1_1 a1_2 a2 r1 r2 r3 r4 r5 r6 r7 r8 w h


/-! ### act_Undo: function 49 -/
def act_Undo.f (k : Nat) (a0_0 : ByteArray) (a0_1 : Int) (a0_2 : Int) (a0_3 : Int) (a0_4 : Int) (a0_5 : Int) (a0_6 : Int) (a1_0 : Int) (a1_1 : ByteArray) (a1_2 : Int) : Option (ByteArray × Int × Int × Int × Int × Int × Int × Int) := (act_each_pot_Undo.f k a0_0 a0_1 a0_2 a0_3 a0_4 a0_5 a0_6 a1_0 a1_1 a1_2 0).bind fun bt298 => (some (bt298.1, bt298.2.1, bt298.2.2.1, bt298.2.2.2.1, bt298.2.2.2.2.1, bt298.2.2.2.2.2.1, bt298.2.2.2.2.2.2.1, bt298.2.2.2.2.2.2.2))
theorem act_Undo.mono : ∀ a0 a1 a2 a3 a4 a5 a6 a7 a8 a9 k, LeO (act_Undo.f k a0 a1 a2 a3 a4 a5 a6 a7 a8 a9) (act_Undo.f (k + 1) a0 a1 a2 a3 a4 a5 a6 a7 a8 a9) := by
 intro a0 a1 a2 a3 a4 a5 a6 a7 a8 a9 k
 unfold act_Undo.f
 repeat' (with_reducible first | exact act_each_pot_Undo.mono _ _ _ _ _ _ _ _ _ _ _ _ | exact LeO.refl _ | exact LeO.none _ | apply LeO.ite | refine LeO.bind ?_ (fun _ => ?_))
theorem act_Undo.calls (k : Nat) (a0_0 : ByteArray) (a0_1 : Int) (a0_2 : Int) (a0_3 : Int) (a0_4 : Int) (a0_5 : Int) (a0_6 : Int) (a1_0 : Int) (a1_1 : ByteArray) (a1_2 : Int) (r1 : ByteArray) (r2 : Int) (r3 : Int) (r4 : Int) (r5 : Int) (r6 : Int) (r7 : Int) (r8 : Int) (w : World) (h : act_Undo.f k a0_0 a0_1 a0_2 a0_3 a0_4 a0_5 a0_6 a1_0 a1_1 a1_2 = some (r1, r2, r3, r4, r5, r6, r7, r8)) :
  Calls Try.prog 49 #[.agg #[.string a0_0, .int .i64 a0_1, .int .i64 a0_2, .int .i64 a0_3, .int .i64 a0_4, .int .i64 a0_5, .int .i64 a0_6], .agg #[.int .i64 a1_0, .string a1_1, .int .i64 a1_2]] w fun e w' => e = .returned (.tuple #[.agg #[.string r1, .int .i64 r2, .int .i64 r3, .int .i64 r4, .int .i64 r5, .int .i64 r6, .int .i64 r7], .int .i64 r8]) ∧ Below w.heap.size w w' := by
 have hu51 := Try.underlying51
 have hu27 := Try.underlying27
 have HB := My.am (Below.refl w.heap.size w)
 unfold act_Undo.f at h
 have H := h
 clear h
 replace H := Option.bind_eq_some_iff.mp H
 obtain ⟨⟨t298, t299, t300, t301, t302, t303, t304, t305⟩, A30, H⟩ := H
 try dsimp only at H
 have A3 := My.am A30
 clear A30
 simp only [Option.some.injEq, Prod.mk.injEq] at H
 obtain ⟨rfl, rfl, rfl, rfl, rfl, rfl, rfl, rfl⟩ := H
 go_enter Try.func49, Try.ntmps49
 go_wp2_with (first | ((with_reducible refine gate_dst (N := 2) rfl ?_); refine My.bx 2 #[.string a0_0, .int .i64 a0_1, .int .i64 a0_2, .int .i64 a0_3, .int .i64 a0_4, .int .i64 a0_5, .int .i64 a0_6] 51 ?_; intro gb295 hg w4 hbox hb; have BK295 := My.am (hbox); have GE295 := My.nge hg (My.bl_ HB); replace HB := My.st HB hb; clear hb hbox hg) | ((with_reducible refine gate_dst (N := 3) rfl ?_); refine My.bx 3 #[.int .i64 a1_0, .string a1_1, .int .i64 a1_2] 27 ?_; intro gb296 hg w5 hbox hb; have BK296 := My.am (hbox); have GE296 := My.nge hg (My.bl_ HB); replace HB := My.st HB hb; obtain ⟨NB295_296, NB296_295, BK295⟩ := My.nb hg hb BK295; clear hb hbox hg) | ((with_reducible refine gate_dst (N := 4) rfl ?_); refine My.bx 4 #[.string (⟨#[]⟩ : ByteArray), .int .i64 0, .int .i64 0, .int .i64 0, .int .i64 0, .int .i64 0, .int .i64 0] 51 ?_; intro gb297 hg w6 hbox hb; have BK297 := My.am (hbox); have GE297 := My.nge hg (My.bl_ HB); replace HB := My.st HB hb; obtain ⟨NB295_297, NB297_295, BK295⟩ := My.nb hg hb BK295; obtain ⟨NB296_297, NB297_296, BK296⟩ := My.nb hg hb BK296; clear hb hbox hg; have hnb7 := NB295_296.out; have hnc7 := NB296_295.out; have hnb8 := NB295_297.out; have hnc8 := NB297_295.out; have hq9 := My.cz7 BK295; have hnb10 := NB296_297.out; have hnc10 := NB297_296.out; have hq11 := My.cz3 BK296) | ((with_reducible refine gate_callee (f := 71) rfl ?_); refine goesL_ (some 8) rfl rfl Try.func71 (by kernel_rfl) rfl #[.agg #[.string a0_0, .int .i64 a0_1, .int .i64 a0_2, .int .i64 a0_3, .int .i64 a0_4, .int .i64 a0_5, .int .i64 a0_6], .agg #[.int .i64 a1_0, .string a1_1, .int .i64 a1_2], .func (.func 74) #[] #[]] rfl My.gx ?_; (with_reducible refine (act_each_pot_Undo.calls k a0_0 a0_1 a0_2 a0_3 a0_4 a0_5 a0_6 a1_0 a1_1 a1_2 0 t298 t299 t300 t301 t302 t303 t304 t305 _ A3.out).mono ?_); rintro e w12 ⟨rfl, hb⟩; refine ⟨_, rfl, ?_⟩; replace BK297 := My.ab BK297 hb; replace HB := My.st HB hb; (try clear hb); have hq13 := My.cz7 BK297))
 refine bodyPost_ret (results_ct rfl _ _ gb297 51 #[.string t298, .int .i64 t299, .int .i64 t300, .int .i64 t301, .int .i64 t302, .int .i64 t303, .int .i64 t304] (0, 0) _ rfl ((My.sv_ BK297)) Try.underlying51 rfl (by kernel_rfl)) rfl ?_
 exact ⟨My.r2, (My.bl_ HB)⟩


/-! ### ledger_changed_act_Undo: function 121 -/
def ledger_changed_act_Undo.f (k : Nat) (l0_0 : List (S51)) (l0_1 : List (S64)) (a1_0 : ByteArray) (a1_1 : Int) (a1_2 : ByteArray) (a1_3 : Int) (a1_4 : Int) (a2 : Int) : Option ((List (S51)) × (List (S64)) × Int) := ledger_changed_any.f act_Undo.f k l0_0 l0_1 a1_0 a1_1 a1_2 a1_3 a1_4 a2
end Go.Proofs.Ytikanbdhpafbiaa.PO
