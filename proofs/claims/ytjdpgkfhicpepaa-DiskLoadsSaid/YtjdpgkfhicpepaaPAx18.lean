/- c15's own text: a disk, walked by hand; Lean checks it. -/
import Derived.Test.YtjdpgkfhicpepaaPAx17
namespace Go.Proofs.Ytjdpgkfhicpepaa.PA
open Go.RowKit Go.Proofs.YtjdpgkfhicpepaaW.PrintWords Go.Proofs.YtjdpgkfhicpepaaW.PrintLast Go.Proofs.YtjdpgkfhicpepaaW.PrintMore
attribute [local go_sem] max2_int min2_int max_two min_two max_three min_three max_four min_four
set_option linter.unusedVariables false
set_option linter.unusedSimpArgs false

/-! the document's Load -/
section
variable {w0 w : World} {q p bm base : Nat} {s : DS}
set_option maxHeartbeats 4000000 in
theorem ref_New2.calls (hw : w0.heap.size ≤ w.heap.size) (hb0 : Below w0.heap.size w0 w) (room : Int) : Calls Try.prog 12 #[.int .i64 room] w fun e w' => Below w.heap.size w w' ∧ ((0 ≤ room ∧ room ≤ 200000 ∧ ∃ q, e = .returned (.tuple #[.pointer (some ⟨q, 0, none⟩), .int .i64 0]) ∧ RefAt w0 w' q (newS room) ∧ w.heap.size ≤ q) ∨ (¬ (0 ≤ room ∧ room ≤ 200000) ∧ e = .returned (.tuple #[.pointer none, .int .i64 2]))) := by
  have HW := Aside0.mk hw
  have HB0 := Aside0.mk hb0
  clear hw hb0
  by_cases d1 : room < 0
  · have b1 : decide (room < 0) = true := decide_eq_true d1
    have HN := Aside0.mk (show ¬ (0 ≤ room ∧ room ≤ 200000) by omega)
    clear d1
    go_enter Try.func12, Try.ntmps12
    go_wp2
    go_ret2
    exact ⟨Below.refl _ _, .inr ⟨HN.out, rfl⟩⟩
  · have b1 : decide (room < 0) = false := decide_eq_false d1
    by_cases d2 : room > 200000
    · have b2 : decide (200000 < room) = true := decide_eq_true d2
      have HN := Aside0.mk (show ¬ (0 ≤ room ∧ room ≤ 200000) by omega)
      clear d1 d2
      go_enter Try.func12, Try.ntmps12
      go_wp2
      go_ret2
      exact ⟨Below.refl _ _, .inr ⟨HN.out, rfl⟩⟩
    · have b2 : decide (200000 < room) = false := decide_eq_false d2
      have HN := Aside0.mk (show 0 ≤ room ∧ room ≤ 200000 by omega)
      clear d1 d2
      go_enter Try.func12, Try.ntmps12
      go_wp2_with ((with_reducible refine gate_dst (N := 12) rfl ?_); refine My.bx 12 #[.int .i64 room, .bool false, .int .i64 0, .slice none 0 0, .slice none 0 0] 67 ?_; intro q hg w12 hbox hb; have BX := My.am hbox; have HG := Aside0.mk hg; have HB := Aside0.mk hb; clear hb hbox hg)
      go_ret2
      refine ⟨HB.out, .inl ⟨HN.out.1, HN.out.2, q, rfl, ⟨⟨by simp [newS], by simp [newS], by simp [newS], by show useL [] ≤ room; have := HN.out; simp [useL]; omega, HN.out.2, by simp [newS], by show (0:Int) ≤ 0 ∧ (0:Int) ≤ 9223372036854775807; omega⟩, ⟨none, 0, [], _, BX.out, Nat.le_refl _, Kd.C_nil _ _, fun h => absurd rfl h, Kd.R_nil _ _ _ _ _⟩, by rw [HG.out]; exact HW.out, HB0.out.trans (HB.out.mono HW.out)⟩, by rw [HG.out]; exact Nat.le_refl _⟩⟩
set_option maxHeartbeats 32000000 in
set_option maxRecDepth 100000 in
theorem ref_Load.calls (hb0 : Below w0.heap.size w0 w) (room : Int) (A : Option Addr) (c : Nat) (l : List S40) (hr : Kd.C k40 w A l.length l) (hc : l.length ≤ c) (hq : ∀ x ∈ l, x.f1.size ≤ 140737488351232) :
    Calls Try.prog 16 #[.int .i64 room, .slice A l.length c] w fun e w' => Below w.heap.size w w' ∧ ((okL room l ∧ ∃ q, e = .returned (.tuple #[.pointer (some ⟨q, 0, none⟩), .int .i64 0]) ∧ RefAt w0 w' q ⟨false, room, 0, [], l⟩) ∨ (¬ okL room l ∧ e = .returned (.tuple #[.pointer none, .int .i64 2]))) := by
  have hu40 := Try.underlying40
  have HR := Aside0.mk hr
  have HC := Aside0.mk hc
  have HQ := Aside0.mk hq
  have HB0 := Aside0.mk hb0
  clear hr hc hq hb0
  by_cases hbad : ¬ (0 ≤ room ∧ room ≤ 200000)
  · have hno : ¬ okL room l := fun h => by obtain ⟨h1, h2, h3, _⟩ := h; omega
    have HNO := Aside0.mk hno
    have HN : Aside0 (Calls Try.prog 12 #[.int .i64 room] w fun e w' => e = .returned (.tuple #[.pointer none, .int .i64 2]) ∧ Below w.heap.size w w') := ⟨(ref_New.calls (w0 := w0) HB0.out.size HB0.out room).mono (by
      rintro e W1 ⟨hb, ⟨h1, h2, _⟩ | ⟨_, rfl⟩⟩
      · exact absurd ⟨h1, h2⟩ hbad
      · exact ⟨rfl, hb⟩)⟩
    clear hno hbad
    go_enter Try.func16, Try.ntmps16
    go_wp2_with ((with_reducible refine gate_callee (f := 12) rfl ?_); refine goesL_ (some _) rfl rfl Try.func12 (by kernel_rfl) rfl #[.int .i64 room] rfl My.gx ?_; (refine HN.out.mono ?_); rintro e W1 ⟨rfl, hb⟩; refine ⟨_, rfl, ?_⟩; have HB := Aside0.mk hb; clear hb)
    go_ret2
    exact ⟨HB.out, .inr ⟨HNO.out, rfl⟩⟩
  · have hok : 0 ≤ room ∧ room ≤ 200000 := Classical.not_not.1 hbad
    have HOK := Aside0.mk hok
    have HN : Aside0 (Calls Try.prog 12 #[.int .i64 room] w fun e w' => ∃ q, e = .returned (.tuple #[.pointer (some ⟨q, 0, none⟩), .int .i64 0]) ∧ Below w.heap.size w w' ∧ RefAt w0 w' q (newS room) ∧ w.heap.size ≤ q) := ⟨(ref_New2.calls (w0 := w0) HB0.out.size HB0.out room).mono (by
      rintro e W1 ⟨hb, ⟨_, _, q, rfl, hD, hgq⟩ | ⟨hno, _⟩⟩
      · exact ⟨q, rfl, hb, hD, hgq⟩
      · exact absurd hok hno)⟩
    clear hbad hok
    by_cases h8 : l.length > 8
    · have HNO := Aside0.mk (show ¬ okL room l from fun h => by obtain ⟨h1, h2, h3, _⟩ := h; omega)
      have b3 : decide (8 < (l.length : Int)) = true := decide_eq_true (by omega)
      clear h8
      go_enter Try.func16, Try.ntmps16
      go_wp2_with ((with_reducible refine gate_callee (f := 12) rfl ?_); refine goesL_ (some _) rfl rfl Try.func12 (by kernel_rfl) rfl #[.int .i64 room] rfl My.gx ?_; (refine HN.out.mono ?_); rintro e W1 ⟨q, rfl, hb, hD, hgq⟩; refine ⟨_, rfl, ?_⟩; have HB := Aside0.mk hb; clear hb hD hgq)
      go_ret2
      exact ⟨HB.out, .inr ⟨HNO.out, rfl⟩⟩
    · have H8 := Aside0.mk (show l.length ≤ 8 by omega)
      have b3 : decide (8 < (l.length : Int)) = false := decide_eq_false (by omega)
      clear h8
      go_enter Try.func16, Try.ntmps16
      go_wp2_with ((with_reducible refine gate_callee (f := 12) rfl ?_); refine goesL_ (some _) rfl rfl Try.func12 (by kernel_rfl) rfl #[.int .i64 room] rfl My.gx ?_; (refine HN.out.mono ?_); rintro e W1 ⟨q, rfl, hb, hD, hgq⟩; refine ⟨_, rfl, ?_⟩; have HB := Aside0.mk hb; have HRF := Aside0.mk hD; have HGQ := Aside0.mk hgq; clear hb hD hgq)
      clear b3
      go_loopg [8, 9] (l.length + 1) (fun kq v8 v9 w' => ∃ (i : Nat) (x n : Int), v8 = .int .i64 n ∧ v9 = .int .i64 x ∧ Aside0 (x = (i : Int)) ∧ Aside0 (n = useL (l.take i)) ∧ Aside0 (kq + i = l.length + 1) ∧ Aside0 (i ≤ l.length) ∧ Aside0 (∀ j, j < i → okF l j (room - useL (l.take j))) ∧ Aside0 (Inv ⟨false, room, 0, [], l.take i⟩) ∧ Aside0 (Below W1.heap.size W1 w'))
      case atStart => exact ⟨0, _, _, rfl, rfl, ⟨rfl⟩, ⟨by simp [useL]⟩, ⟨rfl⟩, ⟨Nat.zero_le _⟩, ⟨fun j hj => absurd hj (Nat.not_lt_zero _)⟩, ⟨HRF.out.inv.upto (by simp [newS]) rfl (by show (0:Int) ≤ 0 ∧ (0:Int) ≤ 9223372036854775807; omega)⟩, ⟨Below.refl _ _⟩⟩
      case round =>
        clear HN
        obtain ⟨i, x, n, rfl, rfl, hx, hn, hk, hi, HOKS, HIN, HW⟩ := hrel
        by_cases c9 : i < l.length
        · have q1 : x < (l.length : Int) := by have := hx.out; omega
          have p1 : (0 : Int) ≤ x := by have := hx.out; omega
          have c3 : decide (x < (l.length : Int)) = true := decide_eq_true q1
          have HBW := Aside0.mk (HB.out.trans (HW.out.mono HB.out.size))
          obtain ⟨ad, e1, x0, x1, x2⟩ := at_T40 (Kd.C_below HR.out HBW.out) x p1 q1
          cases e1
          have hmem := HQ.out _ (by have h := mem40 l i c9; rw [← hx.out] at h; exact h)
          have HCI := Aside0.mk c9
          clear c9
          have p2 := eq_true p1
          have q2 := eq_true q1
          obtain ⟨F, hF⟩ : ∃ F, rd_T40 l x = F := ⟨_, rfl⟩
          rw [hF] at x0 x1 x2 hmem
          have HFX := Aside0.mk hF
          have HFS := Aside0.mk hmem
          have hu0 := useL_nonneg (l.take i)
          have hu1 := HIN.out.use
          have hr2 := HOK.out.2
          have HNB := Aside0.mk (show 0 ≤ n ∧ n ≤ 200000 by have := hn.out; have e : useL (l.take i) ≤ room := hu1; omega)
          clear hF hmem hu0 hu1 hr2
          go_upto_region 9 with ((with_reducible refine gate_dst (N := 10) rfl ?_); refine My.bx 10 #[.int .i64 0, .string ⟨#[]⟩, .int .i64 0] 40 ?_; intro g10 hg w10 hbox hb; have BX := My.am hbox; have HB10 := Aside0.mk hb; have G10 := Aside0.mk (show wr.heap.size ≤ g10 by rw [hg]; exact Nat.le_refl _); clear hb hbox hg x0 x1 x2; have hz := My.cz3 BX)
          refine at_world (J := fun W => Below wr.heap.size wr W ∧ W.heap[g10]? = some (.cells #[.int .i64 F.f0, .string F.f1, .int .i64 F.f2] 40 (0, 0))) ⟨below_set (below_set (below_set HB10.out G10.out) G10.out) G10.out, My.put3 BX.out⟩ ?_
          clear BX HB10 hz
          rintro W2 ⟨B2, Y2⟩
          have HY2 := My.am Y2
          have HB2 := Aside0.mk (HBW.out.trans (B2.mono HBW.out.size))
          have HW2 := Aside0.mk (HW.out.trans (B2.mono HW.out.size))
          clear B2 Y2
          go_cut [59] (fun v59 wc => ∃ b, v59 = .bool b ∧ wc = W2 ∧ Aside0 (b = true ↔ ¬ (0 ≤ F.f0 ∧ F.f0 ≤ 1000000 ∧ F.f1.size ≠ 0 ∧ 0 ≤ F.f2 ∧ F.f2 ≤ (F.f1.size : Int))))
          case first =>
            have hz := My.cz3 HY2
            by_cases d1 : F.f0 < 0
            · have t1 : decide (F.f0 < 0) = true := decide_eq_true d1
              have DD := Aside0.mk d1
              clear d1
              go_wp2
              go_meet
              case rel => exact ⟨true, by first | rfl | simp, rfl, ⟨(fun _ h => by obtain ⟨o1, o2, o4, o5, o6⟩ := h; have := DD.out; omega), fun _ => rfl⟩⟩
            · have t1 : decide (F.f0 < 0) = false := decide_eq_false d1
              have D1 := Aside0.mk d1
              clear d1
              by_cases d2 : F.f0 > 1000000
              · have t2 : decide (1000000 < F.f0) = true := decide_eq_true d2
                have DD := Aside0.mk d2
                clear d2
                go_wp2
                go_meet
                case rel => exact ⟨true, by first | rfl | simp, rfl, ⟨(fun _ h => by obtain ⟨o1, o2, o4, o5, o6⟩ := h; have := DD.out; omega), fun _ => rfl⟩⟩
              · have t2 : decide (1000000 < F.f0) = false := decide_eq_false d2
                have D2 := Aside0.mk d2
                clear d2
                by_cases d5 : F.f1.size = 0
                · have t5 : ((F.f1.size : Int) == 0) = true := beq_iff_eq.2 (by omega)
                  have DD := Aside0.mk d5
                  clear d5
                  go_wp2
                  go_meet
                  case rel => exact ⟨true, by first | rfl | simp, rfl, ⟨(fun _ h => by obtain ⟨o1, o2, o4, o5, o6⟩ := h; exact o4 DD.out), fun _ => rfl⟩⟩
                · have t5 : ((F.f1.size : Int) == 0) = false := beq_eq_false_iff_ne.2 (by omega)
                  have D5 := Aside0.mk d5
                  clear d5
                  by_cases d6 : F.f2 < 0
                  · have t6 : decide (F.f2 < 0) = true := decide_eq_true d6
                    have DD := Aside0.mk d6
                    clear d6
                    go_wp2
                    go_meet
                    case rel => exact ⟨true, by first | rfl | simp, rfl, ⟨(fun _ h => by obtain ⟨o1, o2, o4, o5, o6⟩ := h; have := DD.out; omega), fun _ => rfl⟩⟩
                  · have t6 : decide (F.f2 < 0) = false := decide_eq_false d6
                    have D6 := Aside0.mk d6
                    clear d6
                    by_cases d7 : F.f2 > (F.f1.size : Int)
                    · have t7 : decide ((F.f1.size : Int) < F.f2) = true := decide_eq_true d7
                      have DD := Aside0.mk d7
                      clear d7
                      go_wp2
                      go_meet
                      case rel => exact ⟨true, by first | rfl | simp, rfl, ⟨(fun _ h => by obtain ⟨o1, o2, o4, o5, o6⟩ := h; have := DD.out; omega), fun _ => rfl⟩⟩
                    · have t7 : decide ((F.f1.size : Int) < F.f2) = false := decide_eq_false d7
                      have D7 := Aside0.mk d7
                      clear d7
                      go_wp2
                      go_meet
                      case rel => exact ⟨false, by first | rfl | simp, rfl, ⟨(fun h => by cases h), fun h => absurd ⟨by have := D1.out; omega, by have := D2.out; omega, D5.out, by have := D6.out; omega, by have := D7.out; omega⟩ h⟩⟩
          case rest =>
            obtain ⟨b, rfl, rfl, hbo⟩ := hcut
            cases b with
            | true =>
              have HNO := Aside0.mk (show ¬ okL room l from fun h => (hbo.out.1 rfl) (by
                obtain ⟨o1, o2, o3, o4, o5, o6, o7⟩ := h.2.2.2 i HCI.out
                rw [← hx.out, HFX.out] at o1 o2 o4 o5 o6
                exact ⟨o1, o2, o4, o5, o6⟩))
              go_wp2
              go_ret2
              exact ⟨HB2.out, .inr ⟨HNO.out, rfl⟩⟩
            | false =>
              have hgood : 0 ≤ F.f0 ∧ F.f0 ≤ 1000000 ∧ F.f1.size ≠ 0 ∧ 0 ≤ F.f2 ∧ F.f2 ≤ (F.f1.size : Int) := Classical.byContradiction (fun hn => by have := hbo.out.2 hn; cases this)
              have HGD := Aside0.mk hgood
              clear hgood hbo
              go_upto_region 11 with (fail)
              go_cut [72] (fun v72 wc2 => ∃ b, v72 = .bool b ∧ Aside0 (b = true ↔ ¬ (0 < i → (rd_T40 l ((i : Int) - 1)).f0 < F.f0)) ∧ Aside0 (Below W1.heap.size W1 wc2) ∧ Aside0 (wc2.heap[g10]? = some (.cells #[.int .i64 F.f0, .string F.f1, .int .i64 F.f2] 40 (0, 0))))
              case first =>
                have hz := My.cz3 HY2
                by_cases d3 : 0 < x
                · have t3 : decide (0 < x) = true := decide_eq_true d3
                  obtain ⟨y, hy⟩ : ∃ y_ : Int, x - 1 = y_ := ⟨_, rfl⟩
                  have r1 : (0 : Int) ≤ y := by omega
                  have r2 : y < (l.length : Int) := by omega
                  have h8' := H8.out
                  have hw1 : wrap64 (x - 1) = y := by unfold wrap64; omega
                  have hw2 : IntKind.i64.wrap (x - 1) = y := by rw [IntKind.wrap_i64]; omega
                  obtain ⟨ad2, e2, y0, y1, y2⟩ := at_T40 (Kd.C_below HR.out HB2.out) y r1 r2
                  cases e2
                  obtain ⟨G, hG⟩ : ∃ G, rd_T40 l y = G := ⟨_, rfl⟩
                  rw [hG] at y0 y1 y2
                  have HGX := Aside0.mk (show rd_T40 l ((i : Int) - 1) = G by rw [← hx.out, hy]; exact hG)
                  have HI0 := Aside0.mk (show 0 < i by have := hx.out; omega)
                  clear hG d3 h8' y1 y2 hy
                  replace r1 := eq_true r1
                  replace r2 := eq_true r2
                  by_cases d4 : F.f0 ≤ G.f0
                  · have t4 : decide (F.f0 ≤ G.f0) = true := decide_eq_true d4
                    have D4 := Aside0.mk d4
                    clear d4
                    go_quiet (fail)
                    try go_wp2
                    go_meet
                    case rel => exact ⟨true, by first | rfl | simp, ⟨(fun _ h => by have h2 := h HI0.out; rw [HGX.out] at h2; have := D4.out; omega), fun _ => rfl⟩, ⟨pw_below_drewN HW2.out _⟩, ⟨HY2.out⟩⟩
                  · have t4 : decide (F.f0 ≤ G.f0) = false := decide_eq_false d4
                    have D4 := Aside0.mk d4
                    clear d4
                    go_quiet (fail)
                    try go_wp2
                    go_meet
                    case rel => exact ⟨false, by first | rfl | simp, ⟨(fun h => by cases h), fun h => absurd (fun _ => by rw [HGX.out]; have := D4.out; omega) h⟩, ⟨pw_below_drewN HW2.out _⟩, ⟨HY2.out⟩⟩
                · have t3 : decide (0 < x) = false := decide_eq_false d3
                  have HI0 := Aside0.mk (show ¬ 0 < i by have := hx.out; omega)
                  clear d3
                  go_quiet (fail)
                  try go_wp2
                  go_meet
                  case rel => exact ⟨false, by first | rfl | simp, ⟨(fun h => by cases h), fun h => absurd (fun h0 => absurd h0 HI0.out) h⟩, ⟨pw_below_drewN HW2.out _⟩, ⟨HY2.out⟩⟩
              case rest =>
                obtain ⟨b, rfl, hbo, HW3, HY3⟩ := hcut
                clear HW2 HY2 HB2
                have HB3 := Aside0.mk (HB.out.trans (HW3.out.mono HB.out.size))
                cases b with
                | true =>
                  have HNO := Aside0.mk (show ¬ okL room l from fun h => (hbo.out.1 rfl) (by
                    obtain ⟨o1, o2, o3, o4, o5, o6, o7⟩ := h.2.2.2 i HCI.out
                    intro h0
                    have := o3 h0
                    rw [← hx.out, HFX.out] at this
                    rw [← hx.out]
                    exact this))
                  go_wp2
                  go_ret2
                  exact ⟨HB3.out, .inr ⟨HNO.out, rfl⟩⟩
                | false =>
                  have hgood : 0 < i → (rd_T40 l ((i : Int) - 1)).f0 < F.f0 := Classical.byContradiction (fun hn => by have := hbo.out.2 hn; cases this)
                  have HGD2 := Aside0.mk hgood
                  have hz := My.cz3 HY3
                  have hwn : wrap64 (n + (F.f1.size : Int)) = n + (F.f1.size : Int) := by have := HNB.out; have := HFS.out; unfold wrap64; omega
                  have hwx : wrap64 (x + 1) = x + 1 := by have := H8.out; unfold wrap64; omega
                  have HWN := Aside0.mk hwn
                  have HWX := Aside0.mk hwx
                  clear hgood hbo hwx
                  by_cases dr : n + (F.f1.size : Int) > room
                  · have t1 : decide (room < n + (F.f1.size : Int)) = true := decide_eq_true dr
                    have HNO := Aside0.mk (show ¬ okL room l from fun h => by
                      obtain ⟨o1, o2, o3, o4, o5, o6, o7⟩ := h.2.2.2 i HCI.out
                      rw [← hx.out, HFX.out, ← hn.out] at o7
                      omega)
                    clear dr
                    go_wp2
                    go_ret2
                    exact ⟨HB3.out, .inr ⟨HNO.out, rfl⟩⟩
                  · have t1 : decide (room < n + (F.f1.size : Int)) = false := decide_eq_false dr
                    have hok : okF l i (room - useL (l.take i)) := by
                      obtain ⟨a1, a2, a3, a4, a5⟩ := HGD.out
                      unfold okF
                      rw [← hx.out, HFX.out, ← hn.out]
                      exact ⟨a1, a2, by have := HGD2.out; rw [← hx.out] at this; exact this, a3, a4, a5, by omega⟩
                    have hst := load_step HCI.out HIN.out hok H8.out
                    have hnx : n + (F.f1.size : Int) = useL (l.take (i + 1)) := by
                      rw [useL_take l i HCI.out, ← hx.out, HFX.out]
                      have h1 := hn.out
                      omega
                    have HOKI := Aside0.mk hok
                    have HST := Aside0.mk hst.2
                    have HNX := Aside0.mk hnx
                    clear hok hst hnx dr
                    go_wp2
                    have hI := HCI.out
                    have hx1 := hx.out
                    have hk1 := hk.out
                    go_roundg (l.length - i)
                    case measure => omega
                    case rel => exact ⟨i + 1, x + 1, n + (F.f1.size : Int), by first | rfl | (rw [HWN.out]), by first | rfl | (rw [HWX.out]), ⟨by omega⟩, HNX, ⟨by omega⟩, ⟨by omega⟩, ⟨fun j hj => by
                      rcases Nat.lt_or_ge j i with h | h
                      · exact HOKS.out j h
                      · obtain rfl : j = i := by omega
                        exact HOKI.out⟩, HST, HW3⟩
        · have c3 : decide (x < (l.length : Int)) = false := decide_eq_false (by have := hi.out; have := hx.out; omega)
          have e : l.take i = l := List.take_of_length_le (by omega)
          have h1 := HIN.out
          rw [e] at h1
          have HIL := Aside0.mk h1
          have HOKL := Aside0.mk (show okL room l from ⟨HOK.out.1, HOK.out.2, H8.out, fun j hj => HOKS.out j (by omega)⟩)
          have HRR := Aside0.mk (HRF.out.up HW.out)
          have HBW := Aside0.mk (HB.out.trans (HW.out.mono HB.out.size))
          obtain ⟨A', c', ks', fA', fc', hb', h2', h3', h4', h5', h6', h7', k0', k1', k2', k3', k4', fz'⟩ := HRR.out.cells
          have K4 := Aside0.mk k4'
          have FZ := Aside0.mk fz'
          clear h1 c9 e hb' h2' h3' h4' h5' h6' h7' k0' k1' k2' k3' k4' fz'
          go_upto_region 16 with (fail)
          clear c3
          go_wp2_with (at_builtin; refine Kd.R_append_rows k40 (w0 := wr) wr.heap.size rfl _ _ 38 40 (.agg #[(.int .i64 0), (.string ⟨#[]⟩), (.int .i64 0)]) 32 rfl Try.underlying38 info40 rfl (by decide) (by decide) (.slice (some ⟨wr.heap.size, 0, none⟩) 0 0) [] l _ _ _ (fun _ => True) (fun _ => False) rfl rfl ⟨fun _ _ => trivial, _, World.ownsRow_made wr #[] 0 (Nat.le_refl _) (Nat.zero_le _) rfl, Reps.none _ _⟩ (Kd.C_below (Kd.C_below HR.out HBW.out) (below_alloc (Below.refl _ _) _)) (fun _ _ h => h) (fun _ h => h.elim) (fun _ _ => trivial) (below_alloc (Below.refl _ _) _) (by simp) (by have := H8.out; simp only [List.length_nil]; omega) ?_; intro v1 w1 hr1 hb1 hg1 hat1; obtain ⟨rA, rc, rfl⟩ := Kd.R_slice hr1; have hk4' := (hb1.cell (World.block_lt_of_cell? _ _ K4.out)).trans K4.out; have hkz' := (hb1.frozen (p := ⟨q, 4, none⟩) HRR.out.lt).trans (FZ.out 4); simp only [List.nil_append] at hr1; have HRW := Aside0.mk hr1; have HBF := Aside0.mk hb1; clear hr1 hb1 hg1 hat1)
          go_ret2
          refine ⟨?_, .inl ⟨HOKL.out, q, rfl, (HRR.out.up HBF.out).put4 _ l (Kd.R_lower HRW.out (Nat.le_trans HB0.out.size HBW.out.size)) HIL.out⟩⟩
          exact (HBW.out.trans (HBF.out.mono HBW.out.size)).trans ⟨rfl, rfl, rfl, by simp, fun k hk => Below.heap_setCell _ ⟨q, 4, none⟩ _ k (by have h1 := HGQ.out; show k ≠ q; omega)⟩
end
def Q40 (x : S40) : Prop := (Lit.int .i64 x.f0).wf = true ∧ x.f1.size ≤ 140737488351232 ∧ (Lit.int .i64 x.f2).wf = true
noncomputable section
open Classical in
def ententelaw15_DiskLoads.f (k : Nat) (a0 : Int) (l1 : List S40) (l2 : List S35) : Option Bool := if (∀ y ∈ l1, Q40 y) ∧ (∀ y ∈ l2, Q35 y) ∧ l2.length ≤ 9223372036854775000 then some true else none
end
theorem ententelaw15_DiskLoads.ok {k : Nat} {a0 : Int} {l1 : List S40} {l2 : List S35} {r : Bool} (h : ententelaw15_DiskLoads.f k a0 l1 l2 = some r) : (∀ y ∈ l1, Q40 y) ∧ (∀ y ∈ l2, Q35 y) ∧ l2.length ≤ 9223372036854775000 := by
  unfold ententelaw15_DiskLoads.f at h
  split at h
  · assumption
  · cases h
set_option maxHeartbeats 16000000 in
set_option maxRecDepth 100000 in
theorem ententelaw15_DiskLoads.calls (k : Nat) (a0 : Int) (A1 : Option Addr) (c1 : Nat) (l1 : List (S40)) (A2 : Option Addr) (c2 : Nat) (l2 : List (S35)) (r : Bool) (w : World) (hr1 : Kd.C k40 w A1 l1.length l1) (hc1 : l1.length ≤ c1) (hr2 : Kd.C k35 w A2 l2.length l2) (hc2 : l2.length ≤ c2) (ht : r = true) (h : ententelaw15_DiskLoads.f k a0 l1 l2 = some r) :
    Calls Try.prog 4 #[.int .i64 a0, .slice A1 l1.length c1, .slice A2 l2.length c2] w fun e w' => e = .returned (.bool r) ∧ Below w.heap.size w w' := by
  subst ht
  have hu35 := Try.underlying35
  have hu40 := Try.underlying40
  obtain ⟨hq4, hq, hll⟩ := ententelaw15_DiskLoads.ok h
  obtain ⟨kf, rf, hf⟩ := few_ends l2 hll
  have HR := Aside0.mk hr2
  have HC := Aside0.mk hc2
  have HR1 := Aside0.mk hr1
  have HC1 := Aside0.mk hc1
  have HQ := Aside0.mk hq
  have HQ4 := Aside0.mk (fun x hx => (hq4 x hx).2.1 : ∀ x ∈ l1, x.f1.size ≤ 140737488351232)
  have HF := Aside0.mk hf
  have HLN := Aside0.mk hll
  have HL1 := Aside0.mk (hr1.2.1 : l1.length ≤ 9223372036854775807)
  clear h hr1 hc1 hr2 hc2 hq hq4 hll hf
  have HFW : Aside0 (∀ W, Below w.heap.size w W → Calls Try.prog 9 #[.slice A2 l2.length c2] W fun e w' => e = .returned (.bool rf) ∧ Below W.heap.size W w') := ⟨fun W hW => ententelaw15_Few.calls kf A2 c2 l2 _ _ (Kd.C_below HR.out hW) HC.out HF.out⟩
  go_enter Try.func4, Try.ntmps4
  go_upto_block 0 with (fail)
  go_cut [7] (fun v7 wc => ∃ n : Int, v7 = .int .i64 n ∧ Aside0 (Below w.heap.size w wc))
  case first =>
    go_wp2
    go_loopg [7, 8] 101 (fun kq v7 v8 w' => ∃ (i : Nat) (x n : Int), v7 = .int .i64 n ∧ v8 = .int .i64 x ∧ Aside0 (x = (i : Int)) ∧ Aside0 (kq + i = 101) ∧ Aside0 (i ≤ l1.length) ∧ Aside0 (0 ≤ n ∧ n ≤ 300000 * i) ∧ Aside0 (Below w.heap.size w w'))
    case atStart => exact ⟨0, _, _, rfl, rfl, ⟨rfl⟩, ⟨rfl⟩, ⟨Nat.zero_le _⟩, ⟨by omega⟩, ⟨Below.refl _ _⟩⟩
    case round =>
      obtain ⟨i, x, n, rfl, rfl, hx, hk, hi, hn, HB⟩ := hrel
      by_cases c9 : i < l1.length
      · have q1 : x < (l1.length : Int) := by have := hx.out; omega
        have p1 : (0 : Int) ≤ x := by have := hx.out; omega
        have c3 : decide (x < (l1.length : Int)) = true := decide_eq_true q1
        by_cases c8 : i < 100
        · have c4 : decide (x < 100) = true := decide_eq_true (by have := hx.out; omega)
          obtain ⟨ad, e1, x0, x1, x2⟩ := at_T40 (Kd.C_below HR1.out HB.out) x p1 q1
          cases e1
          have hmem := HQ4.out _ (by have h := mem40 l1 i c9; rw [← hx.out] at h; exact h)
          obtain ⟨F, hF⟩ : ∃ F, rd_T40 l1 x = F := ⟨_, rfl⟩
          rw [hF] at x0 x1 x2 hmem
          have HWX := Aside0.mk (show wrap64 (x + 1) = x + 1 by have := hx.out; unfold wrap64; omega)
          have HCI := Aside0.mk c9
          have HC8 := Aside0.mk c8
          have p2 := eq_true p1
          have q2 := eq_true q1
          clear hmem hF c9 c8
          by_cases dm : (300000 : Int) < (F.f1.size : Int)
          · have tm := eq_true dm
            have HMZ := Aside0.mk (show 0 ≤ (300000 : Int) ∧ 300000 ≤ 300000 by omega)
            have HWN := Aside0.mk (show wrap64 (n + 300000) = n + 300000 by have := hn.out; have := HC8.out; unfold wrap64; omega)
            clear dm
            go_wp2
            have hI := HCI.out
            have hI8 := HC8.out
            have hx1 := hx.out
            have hk1 := hk.out
            have hn1 := hn.out
            have hm1 := HMZ.out
            go_roundg (100 - i)
            case measure => omega
            case rel => exact ⟨i + 1, x + 1, n + 300000, by first | rfl | (rw [HWN.out]), by first | rfl | (rw [HWX.out]), ⟨by omega⟩, ⟨by omega⟩, ⟨by omega⟩, ⟨by omega⟩, HB⟩
          · have tm := eq_false dm
            have HMZ := Aside0.mk (show 0 ≤ (F.f1.size : Int) ∧ (F.f1.size : Int) ≤ 300000 by omega)
            have HWN := Aside0.mk (show wrap64 (n + (F.f1.size : Int)) = n + (F.f1.size : Int) by have := hn.out; have := HC8.out; unfold wrap64; omega)
            clear dm
            go_wp2
            have hI := HCI.out
            have hI8 := HC8.out
            have hx1 := hx.out
            have hk1 := hk.out
            have hn1 := hn.out
            have hm1 := HMZ.out
            go_roundg (100 - i)
            case measure => omega
            case rel => exact ⟨i + 1, x + 1, n + (F.f1.size : Int), by first | rfl | (rw [HWN.out]), by first | rfl | (rw [HWX.out]), ⟨by omega⟩, ⟨by omega⟩, ⟨by omega⟩, ⟨by omega⟩, HB⟩
        · have c4 : decide (x < 100) = false := decide_eq_false (by have := hx.out; omega)
          clear c9 c8
          go_wp2
          go_meet
          case rel => exact ⟨n, rfl, HB⟩
      · have c3 : decide (x < (l1.length : Int)) = false := decide_eq_false (by have := hi.out; have := hx.out; omega)
        clear c9
        go_wp2
        go_meet
        case rel => exact ⟨n, rfl, HB⟩
  case rest =>
  obtain ⟨n, rfl, HB⟩ := hcut
  by_cases d1 : l1.length > 100
  · have b1 : decide ((100 : Int) < (l1.length : Int)) = true := decide_eq_true (by omega)
    clear d1
    go_wp2_with (first
      | ((with_reducible refine gate_callee (f := 10) rfl ?_); refine goesL_ (some 50) rfl rfl Try.func10 (by kernel_rfl) rfl #[] rfl My.gx ?_; (refine (awake.calls _).mono ?_); rintro e W50 ⟨rfl, hb⟩; refine ⟨_, rfl, ?_⟩; have HBA := Aside0.mk (HB.out.trans (hb.mono HB.out.size)); clear hb))
    go_ret
    exact ⟨rfl, HBA.out⟩
  · have b1 : decide ((100 : Int) < (l1.length : Int)) = false := decide_eq_false (by omega)
    clear d1
    by_cases d2 : n > 300000
    · have b2 : decide (300000 < n) = true := decide_eq_true d2
      clear d2
      go_wp2_with (first
      | ((with_reducible refine gate_callee (f := 10) rfl ?_); refine goesL_ (some 50) rfl rfl Try.func10 (by kernel_rfl) rfl #[] rfl My.gx ?_; (refine (awake.calls _).mono ?_); rintro e W50 ⟨rfl, hb⟩; refine ⟨_, rfl, ?_⟩; have HBA := Aside0.mk (HB.out.trans (hb.mono HB.out.size)); clear hb))
      go_ret
      exact ⟨rfl, HBA.out⟩
    · have b2 : decide (300000 < n) = false := decide_eq_false d2
      clear d2
      cases rf with
      | false =>
        go_wp2_with (first
      | ((with_reducible refine gate_callee (f := 9) rfl ?_); (refine gate_guard (by rfl) ?_; dsimp only); refine goesL_ (some 42) rfl rfl Try.func9 (by kernel_rfl) rfl #[.slice A2 l2.length c2] rfl My.gx ?_; (refine (HFW.out _ HB.out).mono ?_); rintro e W42 ⟨rfl, hb⟩; refine ⟨_, rfl, ?_⟩; replace HB := Aside0.mk (HB.out.trans (hb.mono HB.out.size)); clear hb)
      | ((with_reducible refine gate_callee (f := 10) rfl ?_); refine goesL_ (some 50) rfl rfl Try.func10 (by kernel_rfl) rfl #[] rfl My.gx ?_; (refine (awake.calls _).mono ?_); rintro e W50 ⟨rfl, hb⟩; refine ⟨_, rfl, ?_⟩; have HBA := Aside0.mk (HB.out.trans (hb.mono HB.out.size)); clear hb))
        go_ret
        exact ⟨rfl, HBA.out⟩
      | true =>
        by_cases d3 : l2.length > 30
        · have b3 : decide ((30 : Int) < (l2.length : Int)) = true := decide_eq_true (by omega)
          clear d3
          go_wp2_with (first
      | ((with_reducible refine gate_callee (f := 9) rfl ?_); (refine gate_guard (by rfl) ?_; dsimp only); refine goesL_ (some 42) rfl rfl Try.func9 (by kernel_rfl) rfl #[.slice A2 l2.length c2] rfl My.gx ?_; (refine (HFW.out _ HB.out).mono ?_); rintro e W42 ⟨rfl, hb⟩; refine ⟨_, rfl, ?_⟩; replace HB := Aside0.mk (HB.out.trans (hb.mono HB.out.size)); clear hb)
      | ((with_reducible refine gate_callee (f := 10) rfl ?_); refine goesL_ (some 50) rfl rfl Try.func10 (by kernel_rfl) rfl #[] rfl My.gx ?_; (refine (awake.calls _).mono ?_); rintro e W50 ⟨rfl, hb⟩; refine ⟨_, rfl, ?_⟩; have HBA := Aside0.mk (HB.out.trans (hb.mono HB.out.size)); clear hb))
          go_ret
          exact ⟨rfl, HBA.out⟩
        · have b3 : decide ((30 : Int) < (l2.length : Int)) = false := decide_eq_false (by omega)
          clear d3
          by_cases hok : okL a0 l1
          · have HN : Aside0 (∀ W : World, Below w.heap.size w W → Calls Try.prog 15 #[.int .i64 a0, .slice A1 l1.length c1] W fun e w' => ∃ p bm, e = .returned (.tuple #[.pointer (some ⟨p, 0, none⟩), .int .i64 0]) ∧ Below W.heap.size W w' ∧ DiskAt W.heap.size w' p bm ⟨false, a0, 0, [], l1⟩) := ⟨fun W hW => (disk_Load.calls W a0 A1 c1 l1 (Kd.C_below HR1.out hW) HC1.out).mono (by
              rintro e W1 ⟨hb, ⟨_, p, bm, rfl, hD⟩ | ⟨hno, _⟩⟩
              · exact ⟨p, bm, rfl, hb, hD⟩
              · exact absurd hok hno)⟩
            have HN2 : Aside0 (∀ W : World, Below w.heap.size w W → Calls Try.prog 16 #[.int .i64 a0, .slice A1 l1.length c1] W fun e w' => ∃ q, e = .returned (.tuple #[.pointer (some ⟨q, 0, none⟩), .int .i64 0]) ∧ Below W.heap.size W w' ∧ RefAt w w' q ⟨false, a0, 0, [], l1⟩) := ⟨fun W hW => (ref_Load.calls (w0 := w) hW a0 A1 c1 l1 (Kd.C_below HR1.out hW) HC1.out HQ4.out).mono (by
              rintro e W1 ⟨hb, ⟨_, q, rfl, hD⟩ | ⟨hno, _⟩⟩
              · exact ⟨q, rfl, hb, hD⟩
              · exact absurd hok hno)⟩
            clear hok
            go_wp2_with (first
      | ((with_reducible refine gate_callee (f := 9) rfl ?_); (refine gate_guard (by rfl) ?_; dsimp only); refine goesL_ (some 42) rfl rfl Try.func9 (by kernel_rfl) rfl #[.slice A2 l2.length c2] rfl My.gx ?_; (refine (HFW.out _ HB.out).mono ?_); rintro e W42 ⟨rfl, hb⟩; refine ⟨_, rfl, ?_⟩; replace HB := Aside0.mk (HB.out.trans (hb.mono HB.out.size)); clear hb)
      | ((with_reducible refine gate_callee (f := 15) rfl ?_); refine goesL_ (some 54) rfl rfl Try.func15 (by kernel_rfl) rfl #[.int .i64 a0, .slice A1 l1.length c1] rfl My.gx ?_; (refine (HN.out _ HB.out).mono ?_); rintro e W54 ⟨p, bm, rfl, hb, hD⟩; refine ⟨_, rfl, ?_⟩; have HD := Aside0.mk (hD.lower' HB.out.size); replace HB := Aside0.mk (HB.out.trans (hb.mono HB.out.size)); clear hb hD)
      | ((with_reducible refine gate_callee (f := 16) rfl ?_); refine goesL_ (some 60) rfl rfl Try.func16 (by kernel_rfl) rfl #[.int .i64 a0, .slice A1 l1.length c1] rfl My.gx ?_; (refine (HN2.out _ HB.out).mono ?_); rintro e W60 ⟨q, rfl, hb, hD⟩; refine ⟨_, rfl, ?_⟩; have HRF := Aside0.mk hD; replace HD := Aside0.mk (HD.out.up hb); replace HB := Aside0.mk (HB.out.trans (hb.mono HB.out.size)); clear hb hD))
            clear HN HN2 HFW
            go_loopg [13] (l2.length + 1) (fun kq v13 w' => ∃ (i : Nat) (x : Int) (S : DS), v13 = .int .i64 x ∧ Aside0 (x = (i : Int)) ∧ Aside0 (kq + i = l2.length + 1) ∧ Aside0 (i ≤ l2.length) ∧ Aside0 (DiskAt w.heap.size w' p bm S) ∧ Aside0 (RefAt w w' q S))
            case atStart => exact ⟨0, _, _, rfl, ⟨rfl⟩, ⟨rfl⟩, ⟨Nat.zero_le _⟩, HD, HRF⟩
            case round =>
              clear HD HRF HB
              obtain ⟨i, x, S, rfl, hx, hk, hi, HD, HRF⟩ := hrel
              by_cases c9 : i < l2.length
              · have q1 : x < (l2.length : Int) := by have := hx.out; omega
                have p1 : (0 : Int) ≤ x := by have := hx.out; omega
                have c3 : decide (x < (l2.length : Int)) = true := decide_eq_true q1
                obtain ⟨ad, A4, c4, e1, x0, x1, x2, x3, x4, l4, g4⟩ := at_T35 (Kd.C_below HR.out HRF.out.bel) x p1 q1
                cases e1
                have g0 := keep35 HR.out HRF.out.bel p1 q1 rfl x4
                have hw : wrap64 (x + 1) = x + 1 := by have := HLN.out; have := hx.out; unfold wrap64; omega
                have HW := Aside0.mk hw
                have hmem := HQ.out _ (mem35 l2 i c9)
                rw [← hx.out] at hmem
                have HCI := Aside0.mk c9
                obtain ⟨E, hE⟩ : ∃ E, rd_T35 l2 x = E := ⟨_, rfl⟩
                rw [hE] at x0 x1 x2 x3 x4 l4 g0 hmem
                have HL4 := Aside0.mk l4
                have HG0 := Aside0.mk g0
                have HM := Aside0.mk hmem
                clear g4 g0 l4 hmem c9 hE hw
                have p2 := eq_true p1
                have q2 := eq_true q1
                go_wp2_with (first
      | ((with_reducible refine gate_callee (f := 13) rfl ?_); refine goesL_ (some 89) rfl rfl Try.func13 (by kernel_rfl) rfl #[.pointer (some ⟨p, 0, none⟩), .pointer (some ⟨q, 0, none⟩), .agg #[.int .i64 E.f0, .int .i64 E.f1, .int .i64 E.f2, .string E.f3, .slice A4 E.f4.length c4]] rfl My.gx ?_; (refine (does.calls HD.out HRF.out E A4 c4 HG0.out HL4.out HM.out).mono ?_); rintro e W89 ⟨rfl, hD4, hR4⟩; refine ⟨_, rfl, ?_⟩; have HD4 := Aside0.mk hD4; have HR4 := Aside0.mk hR4; clear hD4 hR4 x0 x1 x2 x3 x4)
      | ((with_reducible refine gate_callee (f := 14) rfl ?_); (refine gate_guard (by rfl) ?_; dsimp only); refine goesL_ (some 94) rfl rfl Try.func14 (by kernel_rfl) rfl #[.pointer (some ⟨p, 0, none⟩), .pointer (some ⟨q, 0, none⟩)] rfl My.gx ?_; (refine (same.calls HD4.out HR4.out).mono ?_); rintro e W94 ⟨rfl, hb⟩; refine ⟨_, rfl, ?_⟩; have HD5 := Aside0.mk (HD4.out.up hb); have HR5 := Aside0.mk (HR4.out.up hb); clear hb))
                have hI := HCI.out
                have hx1 := hx.out
                have hk1 := hk.out
                go_roundg (l2.length - i)
                case measure => omega
                case rel => exact ⟨i + 1, x + 1, _, by first | rfl | (rw [HW.out]), ⟨by omega⟩, ⟨by omega⟩, ⟨by omega⟩, HD5, HR5⟩
              · have c3 : decide (x < (l2.length : Int)) = false := decide_eq_false (by have := hi.out; have := hx.out; omega)
                clear c9
                go_wp2_with (first
      | ((with_reducible refine gate_callee (f := 14) rfl ?_); (refine gate_guard (by rfl) ?_; dsimp only); refine goesL_ (some 102) rfl rfl Try.func14 (by kernel_rfl) rfl #[.pointer (some ⟨p, 0, none⟩), .pointer (some ⟨q, 0, none⟩)] rfl My.gx ?_; (refine (same.calls HD.out HRF.out).mono ?_); rintro e W102 ⟨rfl, hb⟩; refine ⟨_, rfl, ?_⟩; have HB := Aside0.mk (HRF.out.up hb).bel; clear hb)
      | ((with_reducible refine gate_callee (f := 10) rfl ?_); (refine gate_guard (by rfl) ?_; dsimp only); refine goesL_ (some 105) rfl rfl Try.func10 (by kernel_rfl) rfl #[] rfl My.gx ?_; (refine (awake.calls _).mono ?_); rintro e W105 ⟨rfl, hb⟩; refine ⟨_, rfl, ?_⟩; have HBA := Aside0.mk (HB.out.trans (hb.mono HB.out.size)); clear hb))
                go_ret
                exact ⟨rfl, HBA.out⟩
          · have HN : Aside0 (∀ W : World, Below w.heap.size w W → Calls Try.prog 15 #[.int .i64 a0, .slice A1 l1.length c1] W fun e w' => e = .returned (.tuple #[.pointer none, .int .i64 2]) ∧ Below W.heap.size W w') := ⟨fun W hW => (disk_Load.calls W a0 A1 c1 l1 (Kd.C_below HR1.out hW) HC1.out).mono (by
              rintro e W1 ⟨hb, ⟨h1, _⟩ | ⟨_, rfl⟩⟩
              · exact absurd h1 hok
              · exact ⟨rfl, hb⟩)⟩
            have HN2 : Aside0 (∀ W : World, Below w.heap.size w W → Calls Try.prog 16 #[.int .i64 a0, .slice A1 l1.length c1] W fun e w' => e = .returned (.tuple #[.pointer none, .int .i64 2]) ∧ Below W.heap.size W w') := ⟨fun W hW => (ref_Load.calls (w0 := w) hW a0 A1 c1 l1 (Kd.C_below HR1.out hW) HC1.out HQ4.out).mono (by
              rintro e W1 ⟨hb, ⟨h1, _⟩ | ⟨_, rfl⟩⟩
              · exact absurd h1 hok
              · exact ⟨rfl, hb⟩)⟩
            clear hok
            go_wp2_with (first
      | ((with_reducible refine gate_callee (f := 9) rfl ?_); (refine gate_guard (by rfl) ?_; dsimp only); refine goesL_ (some 42) rfl rfl Try.func9 (by kernel_rfl) rfl #[.slice A2 l2.length c2] rfl My.gx ?_; (refine (HFW.out _ HB.out).mono ?_); rintro e W42 ⟨rfl, hb⟩; refine ⟨_, rfl, ?_⟩; replace HB := Aside0.mk (HB.out.trans (hb.mono HB.out.size)); clear hb)
      | ((with_reducible refine gate_callee (f := 15) rfl ?_); refine goesL_ (some 54) rfl rfl Try.func15 (by kernel_rfl) rfl #[.int .i64 a0, .slice A1 l1.length c1] rfl My.gx ?_; (refine (HN.out _ HB.out).mono ?_); rintro e W54 ⟨rfl, hb⟩; refine ⟨_, rfl, ?_⟩; replace HB := Aside0.mk (HB.out.trans (hb.mono HB.out.size)); clear hb)
      | ((with_reducible refine gate_callee (f := 16) rfl ?_); refine goesL_ (some 60) rfl rfl Try.func16 (by kernel_rfl) rfl #[.int .i64 a0, .slice A1 l1.length c1] rfl My.gx ?_; (refine (HN2.out _ HB.out).mono ?_); rintro e W60 ⟨rfl, hb⟩; refine ⟨_, rfl, ?_⟩; replace HB := Aside0.mk (HB.out.trans (hb.mono HB.out.size)); clear hb))
            clear HN HN2 HFW
            go_loopg [13] 1 (fun kq v13 w' => v13 = .int .i64 0 ∧ Aside0 (Below w.heap.size w w'))
            case atStart => exact ⟨rfl, HB⟩
            case round =>
              clear HB
              obtain ⟨rfl, HB⟩ := hrel
              go_wp2_with (first
      | ((with_reducible refine gate_callee (f := 10) rfl ?_); (refine gate_guard (by rfl) ?_; dsimp only); refine goesL_ (some 105) rfl rfl Try.func10 (by kernel_rfl) rfl #[] rfl My.gx ?_; (refine (awake.calls _).mono ?_); rintro e W105 ⟨rfl, hb⟩; refine ⟨_, rfl, ?_⟩; have HBA := Aside0.mk (HB.out.trans (hb.mono HB.out.size)); clear hb))
              all_goals
                go_ret
                exact ⟨rfl, HBA.out⟩

/-- THE ONE PURE STATEMENT of ententelaw15_DiskLoads. -/
def ententelaw15_DiskLoads.Pure : Prop := ∀ (a0 : Int) (l1 : List S40) (l2 : List S35), (Lit.int .i64 a0).wf = true → (l1.length ≤ 9223372036854775807 ∧ l1.length * 32 ≤ 140737488351232 ∧ ∀ y_ ∈ l1, Q40 y_) → (l2.length ≤ 9223372036854775807 ∧ l2.length * 64 ≤ 140737488351232 ∧ ∀ y_ ∈ l2, Q35 y_) → ∃ k, ententelaw15_DiskLoads.f k a0 l1 l2 = some true

end Go.Proofs.Ytjdpgkfhicpepaa.PA
