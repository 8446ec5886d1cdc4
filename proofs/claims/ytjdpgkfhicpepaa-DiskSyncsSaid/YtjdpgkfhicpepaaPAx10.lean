/- c15's own text: a disk, walked by hand; Lean checks it. -/
import Derived.Test.YtjdpgkfhicpepaaPAx8
namespace Go.Proofs.Ytjdpgkfhicpepaa.PA
open Go.RowKit Go.Proofs.YtjdpgkfhicpepaaW.PrintWords Go.Proofs.YtjdpgkfhicpepaaW.PrintLast Go.Proofs.YtjdpgkfhicpepaaW.PrintMore
attribute [local go_sem] max2_int min2_int max_two min_two max_three min_three max_four min_four
set_option linter.unusedVariables false
set_option linter.unusedSimpArgs false

/-! what is left behind a crash -/
theorem DiskAt.lower {base p bm b0 : Nat} {w : World} {s : DS} (h : DiskAt base w p bm s) (hb : b0 ≤ base) : DiskAt b0 w p bm s := by
  obtain ⟨kv, h1, h2⟩ := h.blk
  exact ⟨h.inv, ⟨kv, h1, Kd.R_lower h2 hb⟩, h.map, Nat.le_trans hb h.hp, Nat.le_trans hb h.hm⟩
theorem fallL_mem2 (ks : List Int) : ∀ (A : List S40) (i : Nat), ∀ y ∈ fallL ks i A, ∃ x ∈ A, ∃ j, y = fallX ks j x ∧ fallZ ks j x ≠ 0
  | [], i, y, hy => by simp [fallL] at hy
  | z :: r, i, y, hy => by
    simp only [fallL] at hy
    split at hy
    · obtain ⟨x, hx, j, h⟩ := fallL_mem2 ks r (i + 1) y hy
      exact ⟨x, by simp [hx], j, h⟩
    · rcases List.mem_cons.1 hy with rfl | hy
      · exact ⟨z, by simp, i, rfl, by assumption⟩
      · obtain ⟨x, hx, j, h⟩ := fallL_mem2 ks r (i + 1) y hy
        exact ⟨x, by simp [hx], j, h⟩
theorem fallL_kept (ks : List Int) : ∀ (A : List S40) (i : Nat), (∀ x ∈ A, 0 ≤ x.f2 ∧ x.f2 ≤ (x.f1.size : Int) ∧ 0 < x.f1.size) → ∀ x ∈ A, 0 < x.f2 → hasL (fallL ks i A) x.f0 = true
  | [], i, _, x, hx, _ => by simp at hx
  | z :: r, i, h, x, hx, h0 => by
    rcases List.mem_cons.1 hx with rfl | hx
    · have e2 := fallZ_in (ks := ks) (i := i) (h x (by simp))
      simp only [fallL]
      rw [if_neg (by omega)]
      unfold hasL
      rw [List.any_cons]
      simp [fallX]
    · have ih := fallL_kept ks r (i + 1) (fun y hy => h y (by simp [hy])) x hx h0
      simp only [fallL]
      split
      · exact ih
      · unfold hasL at ih ⊢
        rw [List.any_cons, ih, Bool.or_true]
theorem crash_elem {s : DS} (h : Inv s) (ks : List Int) {y : S40} (hy : y ∈ fallL ks 0 s.L) : hasL s.L y.f0 = true ∧ ∃ n : Int, (y.f1.size : Int) = n ∧ y.f2 = n ∧ (getL s.L y.f0).f2 ≤ n ∧ 0 < n ∧ n ≤ ((getL s.L y.f0).f1.size : Int) ∧ (getL s.L y.f0).f1.extract 0 n.toNat = y.f1 := by
  obtain ⟨x, hx, j, rfl, hz⟩ := fallL_mem2 ks s.L 0 y hy
  have hd := h.dat x hx
  have e1 := fallX_size (ks := ks) (i := j) hd
  have e2 := fallZ_in (ks := ks) (i := j) hd
  have hg : getL s.L (fallX ks j x).f0 = x := getL_mem h.srt hx
  refine ⟨?_, fallZ ks j x, e1, rfl, ?_, ?_, ?_, ?_⟩
  · unfold hasL
    rw [List.any_eq_true]
    exact ⟨x, hx, by simp [fallX]⟩
  · rw [hg]; exact e2.1
  · have := hd.1; omega
  · rw [hg]; exact e2.2
  · rw [hg]; rfl
noncomputable section
open Classical in
def ententelaw15_DiskPrefix.f (k : Nat) (a0 : Int) (l1 : List S35) (l2 : List Int) : Option Bool := if (∀ y ∈ l1, Q35 y) ∧ l1.length ≤ 9223372036854775000 then some true else none
end
theorem ententelaw15_DiskPrefix.ok {k : Nat} {a0 : Int} {l1 : List S35} {l2 : List Int} {r : Bool} (h : ententelaw15_DiskPrefix.f k a0 l1 l2 = some r) : (∀ y ∈ l1, Q35 y) ∧ l1.length ≤ 9223372036854775000 := by
  unfold ententelaw15_DiskPrefix.f at h
  split at h
  · assumption
  · cases h
set_option maxHeartbeats 16000000 in
set_option maxRecDepth 100000 in
theorem ententelaw15_DiskPrefix.calls (k : Nat) (a0 : Int) (A1 : Option Addr) (c1 : Nat) (l1 : List (S35)) (A2 : Option Addr) (c2 : Nat) (l2 : List Int) (r : Bool) (w : World) (hr1 : Kd.C k35 w A1 l1.length l1) (hc1 : l1.length ≤ c1) (hr2 : Kd.C (Kd.int .i64) w A2 l2.length l2) (hc2 : l2.length ≤ c2) (ht : r = true) (h : ententelaw15_DiskPrefix.f k a0 l1 l2 = some r) :
    Calls Try.prog 6 #[.int .i64 a0, .slice A1 l1.length c1, .slice A2 l2.length c2] w fun e w' => e = .returned (.bool r) ∧ Below w.heap.size w w' := by
  subst ht
  have hu40 := Try.underlying40
  obtain ⟨hq, hll⟩ := ententelaw15_DiskPrefix.ok h
  obtain ⟨kf, rf, hf⟩ := few_ends l1 hll
  have HR := Aside0.mk hr1
  have HC1 := Aside0.mk hc1
  have HR2 := Aside0.mk hr2
  have HC2 := Aside0.mk hc2
  have HQ := Aside0.mk hq
  have HF := Aside0.mk hf
  clear h hr1 hc1 hr2 hc2 hq hll hf
  by_cases hbad : rf = false ∨ l2.length > 1000 ∨ a0 < 0 ∨ a0 > 200000
  · cases rf with
    | false =>
      clear hbad
      go_enter Try.func6, Try.ntmps6
      go_wp2_with (first
      | ((with_reducible refine gate_callee (f := 9) rfl ?_); refine goesL_ (some 18) rfl rfl Try.func9 (by kernel_rfl) rfl #[.slice A1 l1.length c1] rfl My.gx ?_; (refine (ententelaw15_Few.calls kf A1 c1 l1 _ _ HR.out HC1.out HF.out).mono ?_); rintro e W18 ⟨rfl, hb⟩; refine ⟨_, rfl, ?_⟩; have HB := Aside0.mk hb; clear hb)
      | ((with_reducible refine gate_callee (f := 10) rfl ?_); refine goesL_ (some 33) rfl rfl Try.func10 (by kernel_rfl) rfl #[] rfl My.gx ?_; (refine (awake.calls _).mono ?_); rintro e W33 ⟨rfl, hb⟩; refine ⟨_, rfl, ?_⟩; have HBA := Aside0.mk (HB.out.trans (hb.mono HB.out.size)); clear hb))
      go_ret
      exact ⟨rfl, HBA.out⟩
    | true =>
      by_cases d1 : l2.length > 1000
      · have b1 : decide ((1000 : Int) < (l2.length : Int)) = true := decide_eq_true (by omega)
        clear hbad d1
        go_enter Try.func6, Try.ntmps6
        go_wp2_with (first
      | ((with_reducible refine gate_callee (f := 9) rfl ?_); refine goesL_ (some 18) rfl rfl Try.func9 (by kernel_rfl) rfl #[.slice A1 l1.length c1] rfl My.gx ?_; (refine (ententelaw15_Few.calls kf A1 c1 l1 _ _ HR.out HC1.out HF.out).mono ?_); rintro e W18 ⟨rfl, hb⟩; refine ⟨_, rfl, ?_⟩; have HB := Aside0.mk hb; clear hb)
      | ((with_reducible refine gate_callee (f := 10) rfl ?_); refine goesL_ (some 33) rfl rfl Try.func10 (by kernel_rfl) rfl #[] rfl My.gx ?_; (refine (awake.calls _).mono ?_); rintro e W33 ⟨rfl, hb⟩; refine ⟨_, rfl, ?_⟩; have HBA := Aside0.mk (HB.out.trans (hb.mono HB.out.size)); clear hb))
        go_ret
        exact ⟨rfl, HBA.out⟩
      · have b1 : decide ((1000 : Int) < (l2.length : Int)) = false := decide_eq_false (by omega)
        by_cases d2 : a0 < 0
        · have b2 : decide (a0 < 0) = true := decide_eq_true d2
          clear hbad d1 d2
          go_enter Try.func6, Try.ntmps6
          go_wp2_with (first
      | ((with_reducible refine gate_callee (f := 9) rfl ?_); refine goesL_ (some 18) rfl rfl Try.func9 (by kernel_rfl) rfl #[.slice A1 l1.length c1] rfl My.gx ?_; (refine (ententelaw15_Few.calls kf A1 c1 l1 _ _ HR.out HC1.out HF.out).mono ?_); rintro e W18 ⟨rfl, hb⟩; refine ⟨_, rfl, ?_⟩; have HB := Aside0.mk hb; clear hb)
      | ((with_reducible refine gate_callee (f := 10) rfl ?_); refine goesL_ (some 33) rfl rfl Try.func10 (by kernel_rfl) rfl #[] rfl My.gx ?_; (refine (awake.calls _).mono ?_); rintro e W33 ⟨rfl, hb⟩; refine ⟨_, rfl, ?_⟩; have HBA := Aside0.mk (HB.out.trans (hb.mono HB.out.size)); clear hb))
          go_ret
          exact ⟨rfl, HBA.out⟩
        · have b2 : decide (a0 < 0) = false := decide_eq_false d2
          have b3 : decide (200000 < a0) = true := decide_eq_true (by rcases hbad with h | h | h | h; cases h; all_goals omega)
          clear hbad d1 d2
          go_enter Try.func6, Try.ntmps6
          go_wp2_with (first
      | ((with_reducible refine gate_callee (f := 9) rfl ?_); refine goesL_ (some 18) rfl rfl Try.func9 (by kernel_rfl) rfl #[.slice A1 l1.length c1] rfl My.gx ?_; (refine (ententelaw15_Few.calls kf A1 c1 l1 _ _ HR.out HC1.out HF.out).mono ?_); rintro e W18 ⟨rfl, hb⟩; refine ⟨_, rfl, ?_⟩; have HB := Aside0.mk hb; clear hb)
      | ((with_reducible refine gate_callee (f := 10) rfl ?_); refine goesL_ (some 33) rfl rfl Try.func10 (by kernel_rfl) rfl #[] rfl My.gx ?_; (refine (awake.calls _).mono ?_); rintro e W33 ⟨rfl, hb⟩; refine ⟨_, rfl, ?_⟩; have HBA := Aside0.mk (HB.out.trans (hb.mono HB.out.size)); clear hb))
          go_ret
          exact ⟨rfl, HBA.out⟩
  · obtain rfl : rf = true := by cases rf with | true => rfl | false => exact absurd (.inl rfl) hbad
    have b1 : decide ((1000 : Int) < (l2.length : Int)) = false := decide_eq_false (by omega)
    have b2 : decide (a0 < 0) = false := decide_eq_false (by omega)
    have b3 : decide (200000 < a0) = false := decide_eq_false (by omega)
    have HG := Aside0.mk (show 0 ≤ a0 ∧ a0 ≤ 200000 from ⟨by omega, by omega⟩)
    obtain ⟨s, hs⟩ : ∃ s, boot (playedS a0 l1) = s := ⟨_, rfl⟩
    have HPS := Aside0.mk hs
    have HSD := Aside0.mk (show s.dead = false by rw [← hs]; rfl)
    have HCR := Aside0.mk (show crashS s l2 = (fallS l2 s, 0) by unfold crashS; rw [if_neg (by rw [← hs]; exact Bool.false_ne_true)])
    clear hbad hs
    go_enter Try.func6, Try.ntmps6
    go_wp2_with (first
      | ((with_reducible refine gate_callee (f := 9) rfl ?_); refine goesL_ (some 18) rfl rfl Try.func9 (by kernel_rfl) rfl #[.slice A1 l1.length c1] rfl My.gx ?_; (refine (ententelaw15_Few.calls kf A1 c1 l1 _ _ HR.out HC1.out HF.out).mono ?_); rintro e W18 ⟨rfl, hb⟩; refine ⟨_, rfl, ?_⟩; have HB := Aside0.mk hb; clear hb)
      | ((with_reducible refine gate_callee (f := 29) rfl ?_); refine goesL_ (some 36) rfl rfl Try.func29 (by kernel_rfl) rfl #[.int .i64 a0, .slice A1 l1.length c1] rfl My.gx ?_; (refine (played.calls a0 A1 c1 l1 (Kd.C_below HR.out HB.out) HQ.out HG.out).mono ?_); rintro e W36 ⟨p, bm, rfl, hD, hb⟩; refine ⟨_, rfl, ?_⟩; have HD := Aside0.mk (hD.lower HB.out.size); replace HB := Aside0.mk (HB.out.trans (hb.mono HB.out.size)); clear hD hb)
      | ((with_reducible refine gate_callee (f := 24) rfl ?_); refine goesL_ (some 40) rfl rfl Try.func24 (by kernel_rfl) rfl #[.pointer (some ⟨p, 0, none⟩)] rfl My.gx ?_; (refine (disk_Disk_Boot.calls HD.out).mono ?_); rintro e W40 ⟨rfl, hD, hF⟩; refine ⟨_, rfl, ?_⟩; rw [HPS.out] at hD; replace HB := Aside0.mk (HD.out.below HB.out HB.out.size hF); replace HD := Aside0.mk hD; have HSI := Aside0.mk hD.inv; clear hD hF)
      | ((with_reducible refine gate_callee (f := 28) rfl ?_); refine goesL_ (some 42) rfl rfl Try.func28 (by kernel_rfl) rfl #[.pointer (some ⟨p, 0, none⟩)] rfl My.gx ?_; (refine (disk_Disk_Image.calls HD.out).mono ?_); rintro e W42 ⟨v, rfl, hR, hb⟩; obtain ⟨Ai, ci, rfl, hlc, hC⟩ := Kd.R_reads hR; refine ⟨_, rfl, ?_⟩; have HRW := Aside0.mk hR; replace HD := Aside0.mk (HD.out.up hb); replace HB := Aside0.mk (HB.out.trans (hb.mono HB.out.size)); have HLW := Aside0.mk hlc; clear hR hC hlc hb)
      | ((with_reducible refine gate_callee (f := 23) rfl ?_); refine goesL_ (some 45) rfl rfl Try.func23 (by kernel_rfl) rfl #[.pointer (some ⟨p, 0, none⟩), .slice A2 l2.length c2] rfl My.gx ?_; (refine (disk_Disk_Crash.calls HD.out A2 c2 l2 HC2.out (fun W hf => Kd.C_below HR2.out (HD.out.below HB.out HB.out.size hf))).mono ?_); rintro e W45 ⟨rfl, hD, hF⟩; refine ⟨_, rfl, ?_⟩; rw [HCR.out] at hD; have HRW2 := Aside0.mk (HD.out.row hF HRW.out (by decide)); replace HB := Aside0.mk (HD.out.below HB.out HB.out.size hF); replace HD := Aside0.mk hD; rw [HCR.out]; clear HRW hD hF)
      | ((with_reducible refine gate_callee (f := 25) rfl ?_); (refine gate_guard (by rfl) ?_; dsimp only); refine goesL_ (some 49) rfl rfl Try.func25 (by kernel_rfl) rfl #[.pointer (some ⟨p, 0, none⟩)] rfl My.gx ?_; (refine (disk_Disk_Dead.calls HD.out).mono ?_); rintro e W49 ⟨rfl, hb⟩; refine ⟨_, rfl, ?_⟩; replace HRW2 := Aside0.mk (Kd.R_below HRW2.out hb); replace HD := Aside0.mk (HD.out.up hb); replace HB := Aside0.mk (HB.out.trans (hb.mono HB.out.size)); clear hb; rw [show (fallS l2 s).dead = true from rfl])
      | ((with_reducible refine gate_callee (f := 28) rfl ?_); refine goesL_ (some 53) rfl rfl Try.func28 (by kernel_rfl) rfl #[.pointer (some ⟨p, 0, none⟩)] rfl My.gx ?_; (refine (disk_Disk_Image.calls HD.out).mono ?_); rintro e W53 ⟨v, rfl, hR, hb⟩; obtain ⟨An, cn, rfl, hlc, hC⟩ := Kd.R_reads hR; refine ⟨_, rfl, ?_⟩; have HC := Aside0.mk hC; have HLN := Aside0.mk hlc; replace HD := Aside0.mk (HD.out.up hb); have HCW := Aside0.mk (Kd.R_reads' (Kd.R_below HRW2.out hb)).2.2; replace HB := Aside0.mk (HB.out.trans (hb.mono HB.out.size)); clear hR hC hlc hb HRW2))
    have HIN := Aside0.mk HSI.out
    have hl8 : s.L.length ≤ 8 := HIN.out.len
    have hf8 : (fallL l2 0 s.L).length ≤ 8 := HD.out.inv.len
    obtain ⟨M, hM⟩ : ∃ M, (fallS l2 s).L = M := ⟨_, rfl⟩
    have HMM := Aside0.mk (show fallL l2 0 s.L = M from hM)
    have HL8 := Aside0.mk hl8
    have hf8 : M.length ≤ 8 := by rw [← hM]; exact hf8
    simp only [hM] at HC HLN ⊢
    have HM8 := Aside0.mk hf8
    clear hM hl8 hf8
    go_loopg [10] (M.length + 1) (fun kq v10 w' => ∃ (i : Nat) (x : Int), v10 = .int .i64 x ∧ Aside0 (x = (i : Int)) ∧ Aside0 (kq + i = M.length + 1) ∧ Aside0 (i ≤ M.length) ∧ Aside0 (Below W53.heap.size W53 w'))
    case atStart => exact ⟨0, _, rfl, ⟨rfl⟩, ⟨rfl⟩, ⟨Nat.zero_le _⟩, ⟨Below.refl _ _⟩⟩
    case round =>
      obtain ⟨i, x, rfl, hx, hk, hi, HBL⟩ := hrel
      by_cases c9 : i < M.length
      · have q1 : x < (M.length : Int) := by have := hx.out; omega
        have p1 : (0 : Int) ≤ x := by have := hx.out; omega
        have c3 : decide (x < (M.length : Int)) = true := decide_eq_true q1
        obtain ⟨ad, e1, x0, x1, x2⟩ := at_T40 (Kd.C_below HC.out HBL.out) x p1 q1
        cases e1
        have hmem := mem40 M i c9
        rw [← HMM.out, HMM.out, ← hx.out] at hmem
        obtain ⟨hh, n, en, e2, n1, n2, n3, n4⟩ := crash_elem HIN.out l2 (y := rd_T40 M x) (by rw [HMM.out]; exact hmem)
        obtain ⟨Y, hY⟩ : ∃ Y, rd_T40 M x = Y := ⟨_, rfl⟩
        rw [hY] at x0 x1 x2 hh en e2 n1 n3 n4
        rw [e2] at x2
        obtain ⟨X, hX⟩ : ∃ X, getL s.L Y.f0 = X := ⟨_, rfl⟩
        rw [hX] at n1 n3 n4
        obtain ⟨kq2, hfi⟩ := find_ends s.L (by have := HL8.out; omega) Y.f0
        rw [hX, hh] at hfi
        have HFI := Aside0.mk hfi
        have hw : wrap64 (x + 1) = x + 1 := by have := HM8.out; have := hx.out; unfold wrap64; omega
        have HW := Aside0.mk hw
        have HCI := Aside0.mk c9
        have K0 := Aside0.mk x0
        have K1 := Aside0.mk x1
        have K2 := Aside0.mk x2
        have HN := Aside0.mk (show n ≤ 9223372036854775807 ∧ 0 ≤ n ∧ X.f2 ≤ n ∧ n ≤ (X.f1.size : Int) ∧ 0 < n from ⟨by have h1 := useL_mem (getL_mem' hh).1; rw [hX] at h1; have := HIN.out.use; have := HIN.out.room; omega, by omega, n1, n3, n2⟩)
        have HE := Aside0.mk n4
        have HEN := Aside0.mk en
        clear hmem hh en e2 n1 n2 n3 n4 hX hfi hw hY c9 x0 x1 x2
        have p2 := eq_true p1
        have q2 := eq_true q1
        have x0 := K0.out
        go_upto_region 15 with (first
      | ((with_reducible refine gate_callee (f := 30) rfl ?_); refine goesL_ (some 67) rfl rfl Try.func30 (by kernel_rfl) rfl #[.slice Ai s.L.length ci, .int .i64 Y.f0] rfl My.gx ?_; (refine (ententelaw15_find.calls kq2 Ai ci s.L Y.f0 X.f0 X.f1 X.f2 true _ (Kd.C_below HCW.out HBL.out) HLW.out HFI.out).mono ?_); rintro e W67 ⟨rfl, hb⟩; refine ⟨_, rfl, ?_⟩; have HBW := Aside0.mk hb; clear hb x0)
      | ((with_reducible refine gate_dst (N := 11) rfl ?_); refine My.bx 11 #[.int .i64 0, .string ⟨#[]⟩, .int .i64 0] 40 ?_; intro g11 hg w11 hbox hb; have BX := My.am hbox; have G11 := Aside0.mk (show wr.heap.size ≤ g11 by rw [hg]; exact HBW.out.size); replace HBW := Aside0.mk (HBW.out.trans (hb.mono HBW.out.size)); have HB67 := Aside0.mk (HBL.out.trans (HBW.out.mono HBL.out.size)); clear hb hbox hg; have hz := My.cz3 BX))
        refine at_world (J := fun W => Below wr.heap.size wr W ∧ W.heap[g11]? = some (.cells #[.int .i64 X.f0, .string X.f1, .int .i64 X.f2] 40 (0, 0))) ⟨below_set (below_set (below_set HBW.out G11.out) G11.out) G11.out, My.put3 BX.out⟩ ?_
        clear BX HBW HB67 hz
        rintro W2 ⟨B2, Y2⟩
        have HY2 := My.am Y2
        have hz := My.cz3 HY2
        have x0 := (B2.cell (World.block_lt_of_cell? _ _ K0.out)).trans K0.out
        have x1 := (B2.cell (World.block_lt_of_cell? _ _ K1.out)).trans K1.out
        have x2 := (B2.cell (World.block_lt_of_cell? _ _ K2.out)).trans K2.out
        have HB2 := Aside0.mk (HBL.out.trans (B2.mono HBL.out.size))
        clear B2 Y2
        have en := HEN.out
        have t1 : decide (n < X.f2) = false := decide_eq_false (by have := HN.out; omega)
        have t2 : decide ((X.f1.size : Int) < n) = false := decide_eq_false (by have := HN.out; omega)
        have t3 : decide (n = 0) = false := decide_eq_false (by have := HN.out; omega)
        have t4 : (n == 0) = false := beq_eq_false_iff_ne.2 (by have := HN.out; omega)
        have t5 : (n != n) = false := by simp
        have t6 : X.f1.extract 0 n.toNat = Y.f1 := HE.out
        have z0t := eq_true (show (0 : Int) ≤ n by have := HN.out; omega)
        have z1t := eq_true (show n ≤ (X.f1.size : Int) by have := HN.out; omega)
        have z0d := decide_eq_true (show (0 : Int) ≤ n by have := HN.out; omega)
        have z1d := decide_eq_true (show n ≤ (X.f1.size : Int) by have := HN.out; omega)
        go_upto_region 16 with (fail)
        go_quiet (fail)
        clear t1 t2 t3 t4 t5 t6 z0t z1t z0d z1d hz x0 x1 x2
        go_wp2
        have hI := HCI.out
        have hx1 := hx.out
        have hk1 := hk.out
        go_roundg (M.length - i)
        case measure => omega
        case rel => exact ⟨i + 1, x + 1, by first | rfl | (rw [HW.out]), ⟨by omega⟩, ⟨by omega⟩, ⟨by omega⟩, ⟨pw_below_drewN HB2.out _⟩⟩
      · have c3 : decide (x < (M.length : Int)) = false := decide_eq_false (by have := hi.out; have := hx.out; omega)
        clear c9
        go_wp2
        clear c3
        have HBL0 := HBL
        clear hi hx hk HBL
        go_loopg [14] (s.L.length + 1) (fun kq v14 w' => ∃ (i : Nat) (x : Int), v14 = .int .i64 x ∧ Aside0 (x = (i : Int)) ∧ Aside0 (kq + i = s.L.length + 1) ∧ Aside0 (i ≤ s.L.length) ∧ Aside0 (Below W53.heap.size W53 w'))
        case atStart => exact ⟨0, _, rfl, ⟨rfl⟩, ⟨rfl⟩, ⟨Nat.zero_le _⟩, HBL0⟩
        case round =>
          clear HBL0
          obtain ⟨i, x, rfl, hx, hk, hi, HBL⟩ := hrel
          by_cases c9 : i < s.L.length
          · have q1 : x < (s.L.length : Int) := by have := hx.out; omega
            have p1 : (0 : Int) ≤ x := by have := hx.out; omega
            have c3 : decide (x < (s.L.length : Int)) = true := decide_eq_true q1
            obtain ⟨ad, e1, x0, x1, x2⟩ := at_T40 (Kd.C_below HCW.out HBL.out) x p1 q1
            cases e1
            have hmem := mem40 s.L i c9
            rw [← hx.out] at hmem
            obtain ⟨Y, hY⟩ : ∃ Y, rd_T40 s.L x = Y := ⟨_, rfl⟩
            rw [hY] at x0 x1 x2 hmem
            have hd := HIN.out.dat _ hmem
            have hkp : 0 < Y.f2 → hasL M Y.f0 = true := fun h => by rw [← HMM.out]; exact fallL_kept l2 s.L 0 HIN.out.dat _ hmem h
            obtain ⟨X, hX⟩ : ∃ X, getL M Y.f0 = X := ⟨_, rfl⟩
            obtain ⟨ok, hok⟩ : ∃ b, hasL M Y.f0 = b := ⟨_, rfl⟩
            obtain ⟨kq2, hfi⟩ := find_ends M (by have := HM8.out; omega) Y.f0
            rw [hX, hok] at hfi
            rw [hok] at hkp
            have HFI := Aside0.mk hfi
            have hw : wrap64 (x + 1) = x + 1 := by have := HL8.out; have := hx.out; unfold wrap64; omega
            have HW := Aside0.mk hw
            have HCI := Aside0.mk c9
            have HKP := Aside0.mk hkp
            have K0 := Aside0.mk x0
            have K2 := Aside0.mk x2
            clear hmem hkp hX hok hfi hw hY c9 x1 x2 hd
            have p2 := eq_true p1
            have q2 := eq_true q1
            go_upto_region 22 with (first
      | ((with_reducible refine gate_callee (f := 30) rfl ?_); refine goesL_ (some 129) rfl rfl Try.func30 (by kernel_rfl) rfl #[.slice An M.length cn, .int .i64 Y.f0] rfl My.gx ?_; (refine (ententelaw15_find.calls kq2 An cn M Y.f0 X.f0 X.f1 X.f2 ok _ (Kd.C_below HC.out HBL.out) HLN.out HFI.out).mono ?_); rintro e W129 ⟨rfl, hb⟩; refine ⟨_, rfl, ?_⟩; have HBW := Aside0.mk hb; clear hb x0)
      | ((with_reducible refine gate_dst (N := 15) rfl ?_); refine My.bx 15 #[.int .i64 0, .string ⟨#[]⟩, .int .i64 0] 40 ?_; intro g15 hg w15 hbox hb; have BX := My.am hbox; have G15 := Aside0.mk (show wr.heap.size ≤ g15 by rw [hg]; exact HBW.out.size); replace HBW := Aside0.mk (HBW.out.trans (hb.mono HBW.out.size)); have HB67 := Aside0.mk trivial; clear hb hbox hg; have hz := My.cz3 BX))
            refine at_world (J := fun W => Below wr.heap.size wr W) (below_set (below_set (below_set HBW.out G15.out) G15.out) G15.out) ?_
            clear BX HBW HB67 hz
            intro W2 B2
            have HB2 := Aside0.mk (HBL.out.trans (B2.mono HBL.out.size))
            have x2 := (B2.cell (World.block_lt_of_cell? _ _ K2.out)).trans K2.out
            clear B2
            cases ok with
            | true =>
              go_wp2
              have hI := HCI.out
              have hx1 := hx.out
              have hk1 := hk.out
              go_roundg (s.L.length - i)
              case measure => omega
              case rel => exact ⟨i + 1, x + 1, by first | rfl | (rw [HW.out]), ⟨by omega⟩, ⟨by omega⟩, ⟨by omega⟩, HB2⟩
            | false =>
              have t1 : decide (0 < Y.f2) = false := decide_eq_false (fun h => by have := HKP.out h; cases this)
              go_wp2
              have hI := HCI.out
              have hx1 := hx.out
              have hk1 := hk.out
              go_roundg (s.L.length - i)
              case measure => omega
              case rel => exact ⟨i + 1, x + 1, by first | rfl | (rw [HW.out]), ⟨by omega⟩, ⟨by omega⟩, ⟨by omega⟩, HB2⟩
          · have c3 : decide (x < (s.L.length : Int)) = false := decide_eq_false (by have := hi.out; have := hx.out; omega)
            have HBB := Aside0.mk (HB.out.trans (HBL.out.mono HB.out.size))
            clear c9
            go_wp2_with (first
      | ((with_reducible refine gate_callee (f := 10) rfl ?_); refine goesL_ (some 142) rfl rfl Try.func10 (by kernel_rfl) rfl #[] rfl My.gx ?_; (refine (awake.calls _).mono ?_); rintro e W142 ⟨rfl, hb⟩; refine ⟨_, rfl, ?_⟩; have HBA := Aside0.mk (HBB.out.trans (hb.mono HBB.out.size)); clear hb))
            go_ret
            exact ⟨rfl, HBA.out⟩

/-- THE ONE PURE STATEMENT of ententelaw15_DiskPrefix. -/
def ententelaw15_DiskPrefix.Pure : Prop := ∀ (a0 : Int) (l1 : List S35) (l2 : List Int), (Lit.int .i64 a0).wf = true → (l1.length ≤ 9223372036854775807 ∧ l1.length * 64 ≤ 140737488351232 ∧ ∀ y_ ∈ l1, Q35 y_) → (l2.length ≤ 9223372036854775807 ∧ l2.length * 8 ≤ 140737488351232 ∧ ∀ y_ ∈ l2, (Lit.int .i64 y_).wf = true) → ∃ k, ententelaw15_DiskPrefix.f k a0 l1 l2 = some true

end Go.Proofs.Ytjdpgkfhicpepaa.PA
