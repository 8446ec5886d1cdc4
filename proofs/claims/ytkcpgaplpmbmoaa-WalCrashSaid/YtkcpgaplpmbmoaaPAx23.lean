/- A log on a disk, walked by hand; Lean checks it. -/
import Derived.Test.YtkcpgaplpmbmoaaPAx11
namespace Go.Proofs.Ytkcpgaplpmbmoaa.PA
open Go.RowKit Go.Proofs.YtkcpgaplpmbmoaaW.PrintWords Go.Proofs.YtkcpgaplpmbmoaaW.PrintLast Go.Proofs.YtkcpgaplpmbmoaaW.PrintMore
attribute [local go_sem] max2_int min2_int max_two min_two max_three min_three max_four min_four
set_option linter.unusedVariables false
set_option linter.unusedSimpArgs false

/-! do both hold the same? -/
section
variable {w0 w : World} {q p bm base : Nat} {s : DS}
attribute [local go_sem high] eqA75
set_option maxHeartbeats 8000000 in
set_option maxRecDepth 100000 in
theorem ref_Same.calls (A : Option Addr) (c : Nat) (B : Option Addr) (d : Nat) (l : List S75) (hl : l.length ≤ 1000) (ha : k75.C w A l.length l) (hb : k75.C w B l.length l) : Calls Try.prog 16 #[.slice A l.length c, .slice B l.length d] w fun e w' => e = .returned (.bool true) ∧ Below w.heap.size w w' := by
  have hu40 := Try.underlying75
  have HA := Aside0.mk ha
  have HB := Aside0.mk hb
  have HL := Aside0.mk hl
  clear ha hb hl
  go_enter Try.func16, Try.ntmps16
  go_wp2
  go_loopg [5] (l.length + 1) (fun kq v5 w' => ∃ (i : Nat) (x : Int), v5 = .int .i64 x ∧ Aside0 (x = (i : Int)) ∧ Aside0 (kq + i = l.length + 1) ∧ Aside0 (i ≤ l.length) ∧ Aside0 (Below w.heap.size w w'))
  case atStart => exact ⟨0, _, rfl, ⟨rfl⟩, ⟨rfl⟩, ⟨Nat.zero_le _⟩, ⟨Below.refl _ _⟩⟩
  case round =>
    obtain ⟨i, x, rfl, hx, hk, hi, HW⟩ := hrel
    by_cases c9 : i < l.length
    · have q1 : x < (l.length : Int) := by have := hx.out; omega
      have p1 : (0 : Int) ≤ x := by have := hx.out; omega
      have c3 : decide (x < (l.length : Int)) = true := decide_eq_true q1
      obtain ⟨ad, e1, x0, x1, x2⟩ := at_T75 (Kd.C_below HA.out HW.out) x p1 q1
      cases e1
      obtain ⟨ad2, e2, y0, y1, y2⟩ := at_T75 (Kd.C_below HB.out HW.out) x p1 q1
      cases e2
      obtain ⟨F, hF⟩ : ∃ F, rd_T75 l x = F := ⟨_, rfl⟩
      rw [hF] at x0 x1 x2 y0 y1 y2
      have hw : wrap64 (x + 1) = x + 1 := by have := HL.out; have := hx.out; unfold wrap64; omega
      have HWR := Aside0.mk hw
      have HCI := Aside0.mk c9
      clear c9 hF hw
      have p2 := eq_true p1
      have q2 := eq_true q1
      go_upto_region 6 with (fail)
      go_quiet (fail)
      go_wp2
      have hI := HCI.out
      have hx1 := hx.out
      have hk1 := hk.out
      go_roundg (l.length - i)
      case measure => omega
      case rel => exact ⟨i + 1, x + 1, by first | rfl | (rw [HWR.out]), ⟨by omega⟩, ⟨by omega⟩, ⟨by omega⟩, ⟨pw_below_drewN HW.out _⟩⟩
    · have c3 : decide (x < (l.length : Int)) = false := decide_eq_false (by have := hi.out; have := hx.out; omega)
      clear c9
      go_wp2
      go_ret
      exact ⟨rfl, HW.out⟩
end

end Go.Proofs.Ytkcpgaplpmbmoaa.PA
