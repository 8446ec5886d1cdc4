/- c15's own text: a disk, walked by hand; Lean checks it. -/
import Derived.Test.YtjdpgkfhicpepaaPAx16
namespace Go.Proofs.Ytjdpgkfhicpepaa.PA
open Go.RowKit Go.Proofs.YtjdpgkfhicpepaaW.PrintWords Go.Proofs.YtjdpgkfhicpepaaW.PrintLast Go.Proofs.YtjdpgkfhicpepaaW.PrintMore
attribute [local go_sem] max2_int min2_int max_two min_two max_three min_three max_four min_four
set_option linter.unusedVariables false
set_option linter.unusedSimpArgs false

noncomputable section
open Classical in
def ententelaw15_DiskPlays.f (k : Nat) (a0 : Int) (l1 : List S35) : Option Bool := if (∀ y ∈ l1, Q35 y) ∧ l1.length ≤ 9223372036854775000 then some true else none
end
theorem ententelaw15_DiskPlays.ok {k : Nat} {a0 : Int} {l1 : List S35} {r : Bool} (h : ententelaw15_DiskPlays.f k a0 l1 = some r) : (∀ y ∈ l1, Q35 y) ∧ l1.length ≤ 9223372036854775000 := by
  unfold ententelaw15_DiskPlays.f at h
  split at h
  · assumption
  · cases h
theorem DiskAt.lower' {base p bm b0 : Nat} {w : World} {s : DS} (h : DiskAt base w p bm s) (hb : b0 ≤ base) : DiskAt b0 w p bm s := by
  obtain ⟨kv, h1, h2⟩ := h.blk
  exact ⟨h.inv, ⟨kv, h1, Kd.R_lower h2 hb⟩, h.map, Nat.le_trans hb h.hp, Nat.le_trans hb h.hm⟩
theorem keep35 {w W : World} {A : Option Addr} {l : List S35} (hr : Kd.C k35 w A l.length l) (hb : Below w.heap.size w W) {x : Int} (p1 : 0 ≤ x) (q1 : x < (l.length : Int)) {ad : Addr} {A4 : Option Addr} {c4 : Nat} (hA : A = some ad)
    (x4 : W.cell? ⟨(ad.add (x.toNat * 5)).block, (ad.add (x.toNat * 5)).off + 4, none⟩ = some (.slice A4 (rd_T35 l x).f4.length c4)) : Kd.C (Kd.int .i64) w A4 (rd_T35 l x).f4.length (rd_T35 l x).f4 := by
  obtain ⟨ad', A4', c4', e1', _, _, _, _, y4, _, g4'⟩ := at_T35 hr x p1 q1
  obtain rfl : ad' = ad := by rw [hA] at e1'; injection e1'.symm
  have hq4 := (hb.cell (World.block_lt_of_cell? w _ y4)).trans y4
  rw [x4] at hq4
  injection hq4 with hq4
  injection hq4 with hq4 _ _
  rw [hq4]
  exact g4'
set_option maxHeartbeats 16000000 in
set_option maxRecDepth 100000 in
theorem ententelaw15_DiskPlays.calls (k : Nat) (a0 : Int) (A1 : Option Addr) (c1 : Nat) (l1 : List (S35)) (r : Bool) (w : World) (hr1 : Kd.C k35 w A1 l1.length l1) (hc1 : l1.length ≤ c1) (ht : r = true) (h : ententelaw15_DiskPlays.f k a0 l1 = some r) :
    Calls Try.prog 3 #[.int .i64 a0, .slice A1 l1.length c1] w fun e w' => e = .returned (.bool r) ∧ Below w.heap.size w w' := by
  subst ht
  have hu35 := Try.underlying35
  obtain ⟨hq, hll⟩ := ententelaw15_DiskPlays.ok h
  obtain ⟨kf, rf, hf⟩ := few_ends l1 hll
  have HR := Aside0.mk hr1
  have HC1 := Aside0.mk hc1
  have HQ := Aside0.mk hq
  have HF := Aside0.mk hf
  have HLN := Aside0.mk hll
  clear h hr1 hc1 hq hll hf
  cases rf with
  | false =>
    go_enter Try.func3, Try.ntmps3
    go_wp2_with (first
      | ((with_reducible refine gate_callee (f := 9) rfl ?_); refine goesL_ (some 11) rfl rfl Try.func9 (by kernel_rfl) rfl #[.slice A1 l1.length c1] rfl My.gx ?_; (refine (ententelaw15_Few.calls kf A1 c1 l1 _ _ HR.out HC1.out HF.out).mono ?_); rintro e W11 ⟨rfl, hb⟩; refine ⟨_, rfl, ?_⟩; have HB := Aside0.mk hb; clear hb)
      | ((with_reducible refine gate_callee (f := 10) rfl ?_); refine goesL_ (some 13) rfl rfl Try.func10 (by kernel_rfl) rfl #[] rfl My.gx ?_; (refine (awake.calls _).mono ?_); rintro e W13 ⟨rfl, hb⟩; refine ⟨_, rfl, ?_⟩; have HBA := Aside0.mk (HB.out.trans (hb.mono HB.out.size)); clear hb))
    go_ret
    exact ⟨rfl, HBA.out⟩
  | true =>
    by_cases hok : 0 ≤ a0 ∧ a0 ≤ 200000
    · have HN : Aside0 (∀ W : World, Calls Try.prog 11 #[.int .i64 a0] W fun e w' => ∃ p bm, e = .returned (.tuple #[.pointer (some ⟨p, 0, none⟩), .int .i64 0]) ∧ Below W.heap.size W w' ∧ DiskAt W.heap.size w' p bm (newS a0)) := ⟨fun W => (disk_New.calls W a0).mono (by
        rintro e W1 ⟨hb, ⟨_, _, p, bm, rfl, hD⟩ | ⟨hno, _⟩⟩
        · exact ⟨p, bm, rfl, hb, hD⟩
        · exact absurd hok hno)⟩
      have HN2 : Aside0 (∀ W : World, Below w.heap.size w W → Calls Try.prog 12 #[.int .i64 a0] W fun e w' => ∃ q, e = .returned (.tuple #[.pointer (some ⟨q, 0, none⟩), .int .i64 0]) ∧ Below W.heap.size W w' ∧ RefAt w w' q (newS a0)) := ⟨fun W hW => (ref_New.calls hW.size hW a0).mono (by
        rintro e W1 ⟨hb, ⟨_, _, q, rfl, hD⟩ | ⟨hno, _⟩⟩
        · exact ⟨q, rfl, hb, hD⟩
        · exact absurd hok hno)⟩
      clear hok
      go_enter Try.func3, Try.ntmps3
      go_wp2_with (first
      | ((with_reducible refine gate_callee (f := 9) rfl ?_); refine goesL_ (some 11) rfl rfl Try.func9 (by kernel_rfl) rfl #[.slice A1 l1.length c1] rfl My.gx ?_; (refine (ententelaw15_Few.calls kf A1 c1 l1 _ _ HR.out HC1.out HF.out).mono ?_); rintro e W11 ⟨rfl, hb⟩; refine ⟨_, rfl, ?_⟩; have HB := Aside0.mk hb; clear hb)
      | ((with_reducible refine gate_callee (f := 11) rfl ?_); refine goesL_ (some 16) rfl rfl Try.func11 (by kernel_rfl) rfl #[.int .i64 a0] rfl My.gx ?_; (refine (HN.out _).mono ?_); rintro e W16 ⟨p, bm, rfl, hb, hD⟩; refine ⟨_, rfl, ?_⟩; have HD := Aside0.mk (hD.lower' HB.out.size); replace HB := Aside0.mk (HB.out.trans (hb.mono HB.out.size)); clear hb hD)
      | ((with_reducible refine gate_callee (f := 12) rfl ?_); refine goesL_ (some 21) rfl rfl Try.func12 (by kernel_rfl) rfl #[.int .i64 a0] rfl My.gx ?_; (refine (HN2.out _ HB.out).mono ?_); rintro e W21 ⟨q, rfl, hb, hD⟩; refine ⟨_, rfl, ?_⟩; have HRF := Aside0.mk hD; replace HD := Aside0.mk (HD.out.up hb); replace HB := Aside0.mk (HB.out.trans (hb.mono HB.out.size)); clear hb hD))
      go_loopg [9] (l1.length + 1) (fun kq v9 w' => ∃ (i : Nat) (x : Int) (S : DS), v9 = .int .i64 x ∧ Aside0 (x = (i : Int)) ∧ Aside0 (kq + i = l1.length + 1) ∧ Aside0 (i ≤ l1.length) ∧ Aside0 (DiskAt w.heap.size w' p bm S) ∧ Aside0 (RefAt w w' q S))
      case atStart => exact ⟨0, _, _, rfl, ⟨rfl⟩, ⟨rfl⟩, ⟨Nat.zero_le _⟩, HD, HRF⟩
      case round =>
        clear HD HRF HB HN HN2
        obtain ⟨i, x, S, rfl, hx, hk, hi, HD, HRF⟩ := hrel
        by_cases c9 : i < l1.length
        · have q1 : x < (l1.length : Int) := by have := hx.out; omega
          have p1 : (0 : Int) ≤ x := by have := hx.out; omega
          have c3 : decide (x < (l1.length : Int)) = true := decide_eq_true q1
          obtain ⟨ad, A4, c4, e1, x0, x1, x2, x3, x4, l4, g4⟩ := at_T35 (Kd.C_below HR.out HRF.out.bel) x p1 q1
          cases e1
          have g0 := keep35 HR.out HRF.out.bel p1 q1 rfl x4
          have hw : wrap64 (x + 1) = x + 1 := by have := HLN.out; have := hx.out; unfold wrap64; omega
          have HW := Aside0.mk hw
          have hmem := HQ.out _ (mem35 l1 i c9)
          rw [← hx.out] at hmem
          have HCI := Aside0.mk c9
          obtain ⟨E, hE⟩ : ∃ E, rd_T35 l1 x = E := ⟨_, rfl⟩
          rw [hE] at x0 x1 x2 x3 x4 l4 g0 hmem
          have HL4 := Aside0.mk l4
          have HG0 := Aside0.mk g0
          have HM := Aside0.mk hmem
          clear g4 g0 l4 hmem c9 hE hw
          have p2 := eq_true p1
          have q2 := eq_true q1
          go_wp2_with (first
      | ((with_reducible refine gate_callee (f := 13) rfl ?_); refine goesL_ (some 50) rfl rfl Try.func13 (by kernel_rfl) rfl #[.pointer (some ⟨p, 0, none⟩), .pointer (some ⟨q, 0, none⟩), .agg #[.int .i64 E.f0, .int .i64 E.f1, .int .i64 E.f2, .string E.f3, .slice A4 E.f4.length c4]] rfl My.gx ?_; (refine (does.calls HD.out HRF.out E A4 c4 HG0.out HL4.out HM.out).mono ?_); rintro e W50 ⟨rfl, hD4, hR4⟩; refine ⟨_, rfl, ?_⟩; have HD4 := Aside0.mk hD4; have HR4 := Aside0.mk hR4; clear hD4 hR4 x0 x1 x2 x3 x4)
      | ((with_reducible refine gate_callee (f := 14) rfl ?_); (refine gate_guard (by rfl) ?_; dsimp only); refine goesL_ (some 55) rfl rfl Try.func14 (by kernel_rfl) rfl #[.pointer (some ⟨p, 0, none⟩), .pointer (some ⟨q, 0, none⟩)] rfl My.gx ?_; (refine (same.calls HD4.out HR4.out).mono ?_); rintro e W55 ⟨rfl, hb⟩; refine ⟨_, rfl, ?_⟩; have HD5 := Aside0.mk (HD4.out.up hb); have HR5 := Aside0.mk (HR4.out.up hb); clear hb))
          have hI := HCI.out
          have hx1 := hx.out
          have hk1 := hk.out
          go_roundg (l1.length - i)
          case measure => omega
          case rel => exact ⟨i + 1, x + 1, _, by first | rfl | (rw [HW.out]), ⟨by omega⟩, ⟨by omega⟩, ⟨by omega⟩, HD5, HR5⟩
        · have c3 : decide (x < (l1.length : Int)) = false := decide_eq_false (by have := hi.out; have := hx.out; omega)
          have HB := Aside0.mk HRF.out.bel
          clear c9
          go_wp2_with (first
      | ((with_reducible refine gate_callee (f := 10) rfl ?_); refine goesL_ (some 58) rfl rfl Try.func10 (by kernel_rfl) rfl #[] rfl My.gx ?_; (refine (awake.calls _).mono ?_); rintro e W58 ⟨rfl, hb⟩; refine ⟨_, rfl, ?_⟩; have HBA := Aside0.mk (HB.out.trans (hb.mono HB.out.size)); clear hb))
          go_ret
          exact ⟨rfl, HBA.out⟩
    · have HN : Aside0 (∀ W : World, Calls Try.prog 11 #[.int .i64 a0] W fun e w' => e = .returned (.tuple #[.pointer none, .int .i64 2]) ∧ Below W.heap.size W w') := ⟨fun W => (disk_New.calls W a0).mono (by
        rintro e W1 ⟨hb, ⟨h1, h2, _⟩ | ⟨_, rfl⟩⟩
        · exact absurd ⟨h1, h2⟩ hok
        · exact ⟨rfl, hb⟩)⟩
      have HN2 : Aside0 (∀ W : World, Below w.heap.size w W → Calls Try.prog 12 #[.int .i64 a0] W fun e w' => e = .returned (.tuple #[.pointer none, .int .i64 2]) ∧ Below W.heap.size W w') := ⟨fun W hW => (ref_New.calls hW.size hW a0).mono (by
        rintro e W1 ⟨hb, ⟨h1, h2, _⟩ | ⟨_, rfl⟩⟩
        · exact absurd ⟨h1, h2⟩ hok
        · exact ⟨rfl, hb⟩)⟩
      clear hok
      go_enter Try.func3, Try.ntmps3
      go_wp2_with (first
      | ((with_reducible refine gate_callee (f := 9) rfl ?_); refine goesL_ (some 11) rfl rfl Try.func9 (by kernel_rfl) rfl #[.slice A1 l1.length c1] rfl My.gx ?_; (refine (ententelaw15_Few.calls kf A1 c1 l1 _ _ HR.out HC1.out HF.out).mono ?_); rintro e W11 ⟨rfl, hb⟩; refine ⟨_, rfl, ?_⟩; have HB := Aside0.mk hb; clear hb)
      | ((with_reducible refine gate_callee (f := 11) rfl ?_); refine goesL_ (some 16) rfl rfl Try.func11 (by kernel_rfl) rfl #[.int .i64 a0] rfl My.gx ?_; (refine (HN.out _).mono ?_); rintro e W16 ⟨rfl, hb⟩; refine ⟨_, rfl, ?_⟩; replace HB := Aside0.mk (HB.out.trans (hb.mono HB.out.size)); clear hb)
      | ((with_reducible refine gate_callee (f := 12) rfl ?_); refine goesL_ (some 21) rfl rfl Try.func12 (by kernel_rfl) rfl #[.int .i64 a0] rfl My.gx ?_; (refine (HN2.out _ HB.out).mono ?_); rintro e W21 ⟨rfl, hb⟩; refine ⟨_, rfl, ?_⟩; replace HB := Aside0.mk (HB.out.trans (hb.mono HB.out.size)); clear hb))
      go_loopg [9] 1 (fun kq v9 w' => v9 = .int .i64 0 ∧ Aside0 (Below w.heap.size w w'))
      case atStart => exact ⟨rfl, HB⟩
      case round =>
        clear HB HN HN2
        obtain ⟨rfl, HB⟩ := hrel
        go_wp2_with (first
      | ((with_reducible refine gate_callee (f := 10) rfl ?_); refine goesL_ (some 58) rfl rfl Try.func10 (by kernel_rfl) rfl #[] rfl My.gx ?_; (refine (awake.calls _).mono ?_); rintro e W58 ⟨rfl, hb⟩; refine ⟨_, rfl, ?_⟩; have HBA := Aside0.mk (HB.out.trans (hb.mono HB.out.size)); clear hb))
        all_goals
          go_ret
          exact ⟨rfl, HBA.out⟩

/-- THE ONE PURE STATEMENT of ententelaw15_DiskPlays. -/
def ententelaw15_DiskPlays.Pure : Prop := ∀ (a0 : Int) (l1 : List S35), (Lit.int .i64 a0).wf = true → (l1.length ≤ 9223372036854775807 ∧ l1.length * 64 ≤ 140737488351232 ∧ ∀ y_ ∈ l1, Q35 y_) → ∃ k, ententelaw15_DiskPlays.f k a0 l1 = some true

end Go.Proofs.Ytjdpgkfhicpepaa.PA
