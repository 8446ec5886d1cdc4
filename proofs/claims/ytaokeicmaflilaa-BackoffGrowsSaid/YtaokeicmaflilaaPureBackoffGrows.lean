/- BackoffGrows: proved for all arguments; no condition. -/
import Derived.Test.YtaokeicmaflilaaPBackoffGrowsx1
namespace Go.Proofs.Ytaokeicmaflilaa.Pure
open Go.RowKit Go.Proofs.Ytaokeicmaflilaa.PBackoffGrows Go.Proofs.YtaokeicmaflilaaW.PrintWords Go.Proofs.YtaokeicmaflilaaW.PrintLast

/-- The document's delay. -/
def dl (a : Int) : Int := if a < 1 then 1 else if a = 1 then 2 else if a = 2 then 4 else 8
theorem dl_bd (a : Int) : 1 ≤ dl a ∧ dl a ≤ 8 := by unfold dl; (repeat' split) <;> omega
theorem delay_at (m : Int) (h0 : 0 ≤ m) (h8 : m ≤ 8) : Ev (fun k => backoff_Delay.l0 k 1 m 0) (dl m) := by
  have h : m = 0 ∨ m = 1 ∨ m = 2 ∨ m = 3 ∨ m = 4 ∨ m = 5 ∨ m = 6 ∨ m = 7 ∨ m = 8 := by omega
  rcases h with rfl | rfl | rfl | rfl | rfl | rfl | rfl | rfl | rfl <;>
    exact Ev.of (fun k => backoff_Delay.mono_l k _ _ _) (k := 12) (by decide +kernel)
theorem delay_ev (a : Int) : Ev (fun k => backoff_Delay.f k a) (dl a) := by
  have hm : 0 ≤ mn (mx a 0) 8 ∧ mn (mx a 0) 8 ≤ 8 := by unfold mn mx; (repeat' split) <;> omega
  have hd : dl a = dl (mn (mx a 0) 8) := by unfold dl mn mx; (repeat' split) <;> omega
  rw [hd]
  exact delay_at _ hm.1 hm.2
theorem awake_ev : Ev (fun k => ententelaw11_awake.f k) true :=
  Ev.of (fun k => ententelaw11_awake.mono k) (k := 40) (by decide +kernel)
theorem BackoffGrows : ententelaw11_BackoffGrows.Pure := by
  intro a0 a1 w0 w1
  obtain ⟨K1, h1⟩ := delay_ev a0
  obtain ⟨K2, h2⟩ := delay_ev a1
  obtain ⟨K3, h3⟩ := delay_ev (wrap64 (a0 + 1))
  obtain ⟨K4, h4⟩ := awake_ev
  refine ⟨K1 + K2 + K3 + K4 + 1, ?_⟩
  have g1 := h1 (K1 + K2 + K3 + K4 + 1) (by omega)
  have g2 := h2 (K1 + K2 + K3 + K4 + 1) (by omega)
  have g3 := h3 (K1 + K2 + K3 + K4) (by omega)
  have g4 := h4 (K1 + K2 + K3 + K4) (by omega)
  have b0 := dl_bd a0
  have b1 := dl_bd a1
  simp only [] at g1 g2 g3 g4
  unfold ententelaw11_BackoffGrows.f
  rw [g1, g2]
  simp only [Option.bind_some]
  rw [if_neg (by omega), if_neg (by omega)]
  have e : (if a0 ≤ a1 then ententelaw11_BackoffGrows.j0 (K1 + K2 + K3 + K4 + 1) a0 (dl a0) (decide (dl a0 > dl a1)) else ententelaw11_BackoffGrows.j0 (K1 + K2 + K3 + K4 + 1) a0 (dl a0) false) = ententelaw11_BackoffGrows.j0 (K1 + K2 + K3 + K4 + 1) a0 (dl a0) false := by
    by_cases c : a0 ≤ a1
    · rw [if_pos c]
      have : ¬ dl a0 > dl a1 := by unfold dl; (repeat' split) <;> omega
      rw [decide_eq_false this]
    · rw [if_neg c]
  rw [e]
  simp only [ententelaw11_BackoffGrows.j0]
  rw [if_neg (by simp)]
  by_cases c : a0 = 9223372036854775807
  · rw [if_pos c, g4]; rfl
  · have hw : -9223372036854775808 ≤ a0 ∧ a0 ≤ 9223372036854775807 := by
      simp [Lit.wf, IntKind.min, IntKind.max, IntKind.signed, IntKind.bits] at w0; omega
    have hs : wrap64 (a0 + 1) = a0 + 1 := by unfold wrap64; omega
    have ht : wrap64 (2 * dl a0) = 2 * dl a0 := by unfold wrap64; omega
    rw [hs] at g3
    rw [if_neg c, hs, g3, g4, ht]
    simp only [Option.bind_some]
    rw [if_pos (by unfold dl; (repeat' split) <;> omega)]

end Go.Proofs.Ytaokeicmaflilaa.Pure
