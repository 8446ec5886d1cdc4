-- Written by a program of this session (wip/tools/mp.py over the kit's printer); Lean checks it.
import Derived.Test.YtmfpgjpekmaemaaPDx4
import Derived.Test.YtmfpgjpekmaemaaPDx0
import Derived.Test.YtmfpgjpekmaemaaPDx2
import Derived.Test.YtmfpgjpekmaemaaPDx5
namespace Go.Proofs.Ytmfpgjpekmaemaa.PD
open Go.RowKit Go.Proofs.YtmfpgjpekmaemaaW.PrintWords Go.Proofs.YtmfpgjpekmaemaaW.PrintLast Go.Proofs.YtmfpgjpekmaemaaW.PrintMore
attribute [local go_sem] max2_int min2_int max_two min_two max_three min_three max_four min_four   -- for this text's walks alone
set_option linter.unusedVariables false
set_option linter.unusedSimpArgs false

/-! ### act_each_pot_Undo: function 57 -/
def act_each_pot_Undo.f (k : Nat) (a0_0 : ByteArray) (a0_1 : Int) (a0_2 : Int) (a0_3 : Int) (a0_4 : Int) (a0_5 : Int) (a0_6 : Int) (a1_0 : Int) (a1_1 : ByteArray) (a1_2 : Int) (a2 : Int) : Option (ByteArray × Int × Int × Int × Int × Int × Int × Int) := act_each_any.f pot_Undo.f k a0_0 a0_1 a0_2 a0_3 a0_4 a0_5 a0_6 a1_0 a1_1 a1_2 a2
theorem act_each_pot_Undo.mono : ∀ a0 a1 a2 a3 a4 a5 a6 a7 a8 a9 a10 k, LeO (act_each_pot_Undo.f k a0 a1 a2 a3 a4 a5 a6 a7 a8 a9 a10) (act_each_pot_Undo.f (k + 1) a0 a1 a2 a3 a4 a5 a6 a7 a8 a9 a10) := act_each_any.mono _ pot_Undo.mono
theorem act_each_pot_Undo.calls (k : Nat) (a0_0 : ByteArray) (a0_1 : Int) (a0_2 : Int) (a0_3 : Int) (a0_4 : Int) (a0_5 : Int) (a0_6 : Int) (a1_0 : Int) (a1_1 : ByteArray) (a1_2 : Int) (a2 : Int) (r1 : ByteArray) (r2 : Int) (r3 : Int) (r4 : Int) (r5 : Int) (r6 : Int) (r7 : Int) (r8 : Int) (w : World) (h : act_each_pot_Undo.f k a0_0 a0_1 a0_2 a0_3 a0_4 a0_5 a0_6 a1_0 a1_1 a1_2 a2 = some (r1, r2, r3, r4, r5, r6, r7, r8)) :
    Calls Try.prog 24 #[.agg #[.string a0_0, .int .i64 a0_1, .int .i64 a0_2, .int .i64 a0_3, .int .i64 a0_4, .int .i64 a0_5, .int .i64 a0_6], .agg #[.int .i64 a1_0, .string a1_1, .int .i64 a1_2], .func (.func 27) #[] #[]] w fun e w' => e = .returned (.tuple #[.agg #[.string r1, .int .i64 r2, .int .i64 r3, .int .i64 r4, .int .i64 r5, .int .i64 r6, .int .i64 r7], .int .i64 r8]) ∧ Below w.heap.size w w' := act_each_any.calls 27 _ Try.func27 (by kernel_rfl) rfl pot_Undo.f pot_Undo.calls k a0_0 a0_1 a0_2 a0_3 a0_4 a0_5 a0_6 a1_0 a1_1 a1_2 a2 r1 r2 r3 r4 r5 r6 r7 r8 w h

end Go.Proofs.Ytmfpgjpekmaemaa.PD
