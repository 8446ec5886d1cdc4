/- BackoffDelays: proved for all arguments; no condition. -/
import Derived.Test.YtaokeicmaflilaaPBackoffDelaysx1
namespace Go.Proofs.Ytaokeicmaflilaa.Pure
open Go.RowKit Go.Proofs.Ytaokeicmaflilaa.PBackoffDelays Go.Proofs.YtaokeicmaflilaaW.PrintWords Go.Proofs.YtaokeicmaflilaaW.PrintLast

/-- The document's delay. -/
def dl (a : Int) : Int := if a < 1 then 1 else if a = 1 then 2 else if a = 2 then 4 else 8
theorem dl_bd (a : Int) : 1 ≤ dl a ∧ dl a ≤ 8 := by unfold dl; (repeat' split) <;> omega
theorem delay_at (m : Int) (h0 : 0 ≤ m) (h8 : m ≤ 8) : Ev (fun k => backoff_Delay.l0 k 1 m 0) (dl m) := by
  have h : m = 0 ∨ m = 1 ∨ m = 2 ∨ m = 3 ∨ m = 4 ∨ m = 5 ∨ m = 6 ∨ m = 7 ∨ m = 8 := by omega
  rcases h with rfl | rfl | rfl | rfl | rfl | rfl | rfl | rfl | rfl <;>
    exact Ev.of (fun k => backoff_Delay.mono_l k _ _ _) (k := 12) (by decide +kernel)
theorem delay_ev (a : Int) : Ev (fun k => backoff_Delay.f k a) (dl a) := by
  have hm : 0 ≤ mn (mx a 0) 8 ∧ mn (mx a 0) 8 ≤ 8 := by unfold mn mx; (repeat' split) <;> omega
  have hd : dl a = dl (mn (mx a 0) 8) := by unfold dl mn mx; (repeat' split) <;> omega
  rw [hd]
  exact delay_at _ hm.1 hm.2
theorem awake_ev : Ev (fun k => ententelaw11_awake.f k) true :=
  Ev.of (fun k => ententelaw11_awake.mono k) (k := 40) (by decide +kernel)
theorem ref_delay (a : Int) : ententeref11_Delay.f a = some (dl a) := by
  unfold ententeref11_Delay.f dl; (repeat' split) <;> rfl
theorem BackoffDelays : ententelaw11_BackoffDelays.Pure := by
  intro a0 a1 _ _
  obtain ⟨K1, h1⟩ := delay_ev a1
  obtain ⟨K2, h2⟩ := awake_ev
  refine ⟨K1 + K2, ?_⟩
  have h1 := h1 (K1 + K2) (by omega)
  have h2 := h2 (K1 + K2) (by omega)
  simp only [] at h1 h2
  unfold ententelaw11_BackoffDelays.f backoff_Next.f ententeref11_Next.f
  rw [h1, h2, ref_delay]
  by_cases c1 : a0 < 0
  · simp [c1]
  · by_cases c2 : a0 > 1000000000
    · simp [c1, c2]
    · simp [c1, c2]

end Go.Proofs.Ytaokeicmaflilaa.Pure
