/- c15's own text: a disk, walked by hand; Lean checks it. -/
import Derived.Test.YtjdpgkfhicpepaaPAx8
namespace Go.Proofs.Ytjdpgkfhicpepaa.PA
open Go.RowKit Go.Proofs.YtjdpgkfhicpepaaW.PrintWords Go.Proofs.YtjdpgkfhicpepaaW.PrintLast Go.Proofs.YtjdpgkfhicpepaaW.PrintMore
attribute [local go_sem] max2_int min2_int max_two min_two max_three min_three max_four min_four
set_option linter.unusedVariables false
set_option linter.unusedSimpArgs false

noncomputable section
open Classical in
def ententelaw15_DiskRoom.f (k : Nat) (a0 : Int) (l1 : List S35) (a2 : ByteArray) : Option Bool := if (∀ y ∈ l1, Q35 y) ∧ l1.length ≤ 9223372036854775000 then some true else none
end
theorem ententelaw15_DiskRoom.ok {k : Nat} {a0 : Int} {l1 : List S35} {a2 : ByteArray} {r : Bool} (h : ententelaw15_DiskRoom.f k a0 l1 a2 = some r) : (∀ y ∈ l1, Q35 y) ∧ l1.length ≤ 9223372036854775000 := by
  unfold ententelaw15_DiskRoom.f at h
  split at h
  · assumption
  · cases h
set_option maxHeartbeats 16000000 in
set_option maxRecDepth 100000 in
theorem ententelaw15_DiskRoom.calls (k : Nat) (a0 : Int) (A1 : Option Addr) (c1 : Nat) (l1 : List (S35)) (a2 : ByteArray) (r : Bool) (w : World) (hr1 : Kd.C k35 w A1 l1.length l1) (hc1 : l1.length ≤ c1) (ht : r = true) (h : ententelaw15_DiskRoom.f k a0 l1 a2 = some r) :
    Calls Try.prog 8 #[.int .i64 a0, .slice A1 l1.length c1, .string a2] w fun e w' => e = .returned (.bool r) ∧ Below w.heap.size w w' := by
  subst ht
  obtain ⟨hq, hll⟩ := ententelaw15_DiskRoom.ok h
  obtain ⟨kf, rf, hf⟩ := few_ends l1 hll
  have HR := Aside0.mk hr1
  have HC1 := Aside0.mk hc1
  have HQ := Aside0.mk hq
  have HF := Aside0.mk hf
  clear h hr1 hc1 hq hll hf
  by_cases hbad : rf = false ∨ a2.size > 300000 ∨ a0 < 0 ∨ a0 > 200000
  · cases rf with
    | false =>
      clear hbad
      go_enter Try.func8, Try.ntmps8
      go_wp2_with (first
      | ((with_reducible refine gate_callee (f := 9) rfl ?_); refine goesL_ (some 13) rfl rfl Try.func9 (by kernel_rfl) rfl #[.slice A1 l1.length c1] rfl My.gx ?_; (refine (ententelaw15_Few.calls kf A1 c1 l1 _ _ HR.out HC1.out HF.out).mono ?_); rintro e W13 ⟨rfl, hb⟩; refine ⟨_, rfl, ?_⟩; have HB := Aside0.mk hb; clear hb)
      | ((with_reducible refine gate_callee (f := 10) rfl ?_); refine goesL_ (some 28) rfl rfl Try.func10 (by kernel_rfl) rfl #[] rfl My.gx ?_; (refine (awake.calls _).mono ?_); rintro e W28 ⟨rfl, hb⟩; refine ⟨_, rfl, ?_⟩; have HBA := Aside0.mk (HB.out.trans (hb.mono HB.out.size)); clear hb))
      go_ret
      exact ⟨rfl, HBA.out⟩
    | true =>
      by_cases d1 : a2.size > 300000
      · have b1 : decide ((300000 : Int) < (a2.size : Int)) = true := decide_eq_true (by omega)
        clear hbad d1
        go_enter Try.func8, Try.ntmps8
        go_wp2_with (first
      | ((with_reducible refine gate_callee (f := 9) rfl ?_); refine goesL_ (some 13) rfl rfl Try.func9 (by kernel_rfl) rfl #[.slice A1 l1.length c1] rfl My.gx ?_; (refine (ententelaw15_Few.calls kf A1 c1 l1 _ _ HR.out HC1.out HF.out).mono ?_); rintro e W13 ⟨rfl, hb⟩; refine ⟨_, rfl, ?_⟩; have HB := Aside0.mk hb; clear hb)
      | ((with_reducible refine gate_callee (f := 10) rfl ?_); refine goesL_ (some 28) rfl rfl Try.func10 (by kernel_rfl) rfl #[] rfl My.gx ?_; (refine (awake.calls _).mono ?_); rintro e W28 ⟨rfl, hb⟩; refine ⟨_, rfl, ?_⟩; have HBA := Aside0.mk (HB.out.trans (hb.mono HB.out.size)); clear hb))
        go_ret
        exact ⟨rfl, HBA.out⟩
      · have b1 : decide ((300000 : Int) < (a2.size : Int)) = false := decide_eq_false (by omega)
        by_cases d2 : a0 < 0
        · have b2 : decide (a0 < 0) = true := decide_eq_true d2
          clear hbad d1 d2
          go_enter Try.func8, Try.ntmps8
          go_wp2_with (first
      | ((with_reducible refine gate_callee (f := 9) rfl ?_); refine goesL_ (some 13) rfl rfl Try.func9 (by kernel_rfl) rfl #[.slice A1 l1.length c1] rfl My.gx ?_; (refine (ententelaw15_Few.calls kf A1 c1 l1 _ _ HR.out HC1.out HF.out).mono ?_); rintro e W13 ⟨rfl, hb⟩; refine ⟨_, rfl, ?_⟩; have HB := Aside0.mk hb; clear hb)
      | ((with_reducible refine gate_callee (f := 10) rfl ?_); refine goesL_ (some 28) rfl rfl Try.func10 (by kernel_rfl) rfl #[] rfl My.gx ?_; (refine (awake.calls _).mono ?_); rintro e W28 ⟨rfl, hb⟩; refine ⟨_, rfl, ?_⟩; have HBA := Aside0.mk (HB.out.trans (hb.mono HB.out.size)); clear hb))
          go_ret
          exact ⟨rfl, HBA.out⟩
        · have b2 : decide (a0 < 0) = false := decide_eq_false d2
          have b3 : decide (200000 < a0) = true := decide_eq_true (by rcases hbad with h | h | h | h; cases h; all_goals omega)
          clear hbad d1 d2
          go_enter Try.func8, Try.ntmps8
          go_wp2_with (first
      | ((with_reducible refine gate_callee (f := 9) rfl ?_); refine goesL_ (some 13) rfl rfl Try.func9 (by kernel_rfl) rfl #[.slice A1 l1.length c1] rfl My.gx ?_; (refine (ententelaw15_Few.calls kf A1 c1 l1 _ _ HR.out HC1.out HF.out).mono ?_); rintro e W13 ⟨rfl, hb⟩; refine ⟨_, rfl, ?_⟩; have HB := Aside0.mk hb; clear hb)
      | ((with_reducible refine gate_callee (f := 10) rfl ?_); refine goesL_ (some 28) rfl rfl Try.func10 (by kernel_rfl) rfl #[] rfl My.gx ?_; (refine (awake.calls _).mono ?_); rintro e W28 ⟨rfl, hb⟩; refine ⟨_, rfl, ?_⟩; have HBA := Aside0.mk (HB.out.trans (hb.mono HB.out.size)); clear hb))
          go_ret
          exact ⟨rfl, HBA.out⟩
  · obtain rfl : rf = true := by cases rf with | true => rfl | false => exact absurd (.inl rfl) hbad
    have b1 : decide ((300000 : Int) < (a2.size : Int)) = false := decide_eq_false (by omega)
    have b2 : decide (a0 < 0) = false := decide_eq_false (by omega)
    have b3 : decide (200000 < a0) = false := decide_eq_false (by omega)
    have HG := Aside0.mk (show 0 ≤ a0 ∧ a0 ≤ 200000 from ⟨by omega, by omega⟩)
    have HS2 := Aside0.mk (show a2.size ≤ 300000 by omega)
    obtain ⟨s, hs⟩ : ∃ s, playedS a0 l1 = s := ⟨_, rfl⟩
    have HRM := Aside0.mk (show s.room = a0 by rw [← hs]; exact played_room a0 l1)
    have HPS := Aside0.mk hs
    clear hbad hs
    go_enter Try.func8, Try.ntmps8
    go_wp2_with (first
      | ((with_reducible refine gate_callee (f := 9) rfl ?_); refine goesL_ (some 13) rfl rfl Try.func9 (by kernel_rfl) rfl #[.slice A1 l1.length c1] rfl My.gx ?_; (refine (ententelaw15_Few.calls kf A1 c1 l1 _ _ HR.out HC1.out HF.out).mono ?_); rintro e W13 ⟨rfl, hb⟩; refine ⟨_, rfl, ?_⟩; have HB := Aside0.mk hb; clear hb)
      | ((with_reducible refine gate_callee (f := 29) rfl ?_); refine goesL_ (some 31) rfl rfl Try.func29 (by kernel_rfl) rfl #[.int .i64 a0, .slice A1 l1.length c1] rfl My.gx ?_; (refine (played.calls a0 A1 c1 l1 (Kd.C_below HR.out HB.out) HQ.out HG.out).mono ?_); rintro e W31 ⟨p, bm, rfl, hD, hb⟩; refine ⟨_, rfl, ?_⟩; rw [HPS.out] at hD; replace hD := hD.move (W' := W31) (fun _ _ _ => rfl); have HD := Aside0.mk (show DiskAt w.heap.size W31 p bm s from ⟨hD.inv, by obtain ⟨kv, hb1, hk1⟩ := hD.blk; exact ⟨kv, hb1, Kd.R_lower hk1 HB.out.size⟩, hD.map, Nat.le_trans HB.out.size hD.hp, Nat.le_trans HB.out.size hD.hm⟩); replace HB := Aside0.mk (HB.out.trans (hb.mono HB.out.size)); clear hD hb)
      | ((with_reducible refine gate_callee (f := 28) rfl ?_); refine goesL_ (some 35) rfl rfl Try.func28 (by kernel_rfl) rfl #[.pointer (some ⟨p, 0, none⟩)] rfl My.gx ?_; (refine (disk_Disk_Image.calls HD.out).mono ?_); rintro e W35 ⟨v, rfl, hR, hb⟩; obtain ⟨Ai, ci, rfl, hlc, hC⟩ := Kd.R_reads hR; refine ⟨_, rfl, ?_⟩; have HC := Aside0.mk hC; replace HD := Aside0.mk (HD.out.up hb); replace HB := Aside0.mk (HB.out.trans (hb.mono HB.out.size)); clear hR hC hlc hb))
    go_loopg [9, 10] (s.L.length + 1) (fun kq v9 v10 w' => ∃ (i : Nat) (x n : Int), v9 = .int .i64 n ∧ v10 = .int .i64 x ∧ Aside0 (x = (i : Int)) ∧ Aside0 (n = useL (s.L.take i)) ∧ Aside0 (kq + i = s.L.length + 1) ∧ Aside0 (i ≤ s.L.length) ∧ Aside0 (Below W35.heap.size W35 w'))
    case atStart => exact ⟨0, _, _, rfl, rfl, ⟨rfl⟩, ⟨rfl⟩, ⟨rfl⟩, ⟨Nat.zero_le _⟩, ⟨Below.refl _ _⟩⟩
    case round =>
      obtain ⟨i, x, n, rfl, rfl, hx, hn, hk, hi, HBL⟩ := hrel
      have hin := HD.out.inv
      by_cases c9 : i < s.L.length
      · have q1 : x < (s.L.length : Int) := by have := hx.out; omega
        have p1 : (0 : Int) ≤ x := by have := hx.out; omega
        have c3 : decide (x < (s.L.length : Int)) = true := decide_eq_true q1
        obtain ⟨ad, e1, x0, x1, x2⟩ := at_T40 (Kd.C_below HC.out HBL.out) x p1 q1
        cases e1
        have hmem := mem40 s.L i c9
        have hut := useL_take s.L i c9
        have hle := useL_take_le s.L (i + 1)
        have h0 := useL_nonneg (s.L.take i)
        have hlt : 0 < i → (rd_T40 s.L ((i : Int) - 1)).f0 < (rd_T40 s.L (i : Int)).f0 := fun hp => by
          have e : ((i : Int) - 1) = ((i - 1 : Nat) : Int) := by omega
          rw [e]
          unfold rd_T40
          rw [Int.toNat_natCast, Int.toNat_natCast, List.getD_eq_getElem?_getD, List.getD_eq_getElem?_getD, List.getElem?_eq_getElem (show i - 1 < s.L.length by omega), List.getElem?_eq_getElem c9]
          exact List.pairwise_iff_getElem.1 hin.srt _ _ (by omega) c9 (by omega)
        rw [← hx.out] at hmem hut hlt
        rw [← hn.out] at hut h0
        have hdat := hin.dat _ hmem
        obtain ⟨F, hF⟩ : ∃ F, rd_T40 s.L x = F := ⟨_, rfl⟩
        rw [hF] at x0 x1 x2 hut hlt hdat
        have hus := hin.use
        have hrm := hin.room
        have hl8 := hin.len
        have t1 : F.f1.toList.isEmpty = false := by rw [ByteArray.toList_eq, List.isEmpty_eq_false_iff]; intro he; have h4 := congrArg List.length he; have h3 := hdat.2.2; have h5 : F.f1.size = 0 := (by simpa using h4); omega
        have t2 : decide (F.f2 < 0) = false := decide_eq_false (by omega)
        have t3 : decide ((F.f1.size : Int) < F.f2) = false := decide_eq_false (by omega)
        have hw : wrap64 (x + 1) = x + 1 := by unfold wrap64; omega
        have hw2 : wrap64 (n + (F.f1.size : Int)) = n + (F.f1.size : Int) := by unfold wrap64; omega
        have HW := Aside0.mk hw
        have HW2 := Aside0.mk hw2
        have HUT := Aside0.mk hut
        have HCI := Aside0.mk c9
        have HFX := Aside0.mk hF
        clear hut hle h0 c9 hF hdat hus hrm hl8 hmem hin hw
        have p2 := eq_true p1
        have q2 := eq_true q1
        by_cases d3 : 0 < x
        · have t4 : decide (0 < x) = true := decide_eq_true d3
          obtain ⟨y, hy⟩ : ∃ y_ : Int, x - 1 = y_ := ⟨_, rfl⟩
          have r1 : (0 : Int) ≤ y := by omega
          have r2 : y < (s.L.length : Int) := by omega
          have hl8 := HD.out.inv.len
          have hw3 : IntKind.i64.wrap (x - 1) = y := by rw [IntKind.wrap_i64]; omega
          have hw4 : wrap64 (x - 1) = y := by unfold wrap64; omega
          obtain ⟨ad2, e2, y0, y1, y2⟩ := at_T40 (Kd.C_below HC.out HBL.out) y r1 r2
          cases e2
          have hlt2 := hlt (by have := hx.out; omega)
          rw [hy] at hlt2
          obtain ⟨G, hG⟩ : ∃ G, rd_T40 s.L y = G := ⟨_, rfl⟩
          rw [hG] at y0 y1 y2 hlt2
          have t5 : decide (F.f0 ≤ G.f0) = false := decide_eq_false (by omega)
          clear hG d3 hl8 y1 y2 hy hlt hlt2
          replace r1 := eq_true r1
          replace r2 := eq_true r2
          go_upto_region 12 with (fail)
          go_quiet (fail)
          go_wp2
          have hI := HCI.out
          have hx1 := hx.out
          have hk1 := hk.out
          go_roundg (s.L.length - i)
          case measure => omega
          case rel => exact ⟨i + 1, x + 1, n + (F.f1.size : Int), by first | rfl | (rw [HW2.out]), by first | rfl | (rw [HW.out]), ⟨by omega⟩, ⟨HUT.out.symm⟩, ⟨by omega⟩, ⟨by omega⟩, ⟨pw_below_drewN HBL.out _⟩⟩
        · have t4 : decide (0 < x) = false := decide_eq_false d3
          clear d3 hlt
          go_upto_region 12 with (fail)
          go_quiet (fail)
          go_wp2
          have hI := HCI.out
          have hx1 := hx.out
          have hk1 := hk.out
          go_roundg (s.L.length - i)
          case measure => omega
          case rel => exact ⟨i + 1, x + 1, n + (F.f1.size : Int), by first | rfl | (rw [HW2.out]), by first | rfl | (rw [HW.out]), ⟨by omega⟩, ⟨HUT.out.symm⟩, ⟨by omega⟩, ⟨by omega⟩, ⟨pw_below_drewN HBL.out _⟩⟩
      · have hi2 := hi.out
        have hx1 := hx.out
        have c3 : decide (x < (s.L.length : Int)) = false := decide_eq_false (by omega)
        have e : s.L.take i = s.L := List.take_of_length_le (by omega)
        have h1 := hn.out
        rw [e] at h1
        have HNU := Aside0.mk h1
        have HDD := Aside0.mk (HD.out.up HBL.out)
        have HBB := Aside0.mk (HB.out.trans (HBL.out.mono HB.out.size))
        have u1 : decide (a0 < n) = false := decide_eq_false (by have h2 := hin.use; rw [HRM.out] at h2; omega)
        have u2 : (n != n) = false := by simp
        have u3 : decide ((8 : Int) < (s.L.length : Int)) = false := decide_eq_false (by have := hin.len; omega)
        have hub : 0 ≤ n ∧ n ≤ 200000 := ⟨by rw [h1]; exact useL_nonneg _, by have := hin.use; have := hin.room; omega⟩
        have HUB := Aside0.mk hub
        have HIN := Aside0.mk hin
        clear h1 hi2 hx1 c9 e hin HD HB HC hub
        rcases app_cases HIN.out a2 with ⟨k1, k2⟩ | ⟨k1, k2, k3⟩ | ⟨k1, k2, k3⟩
        · have K1 := Aside0.mk k1
          have K2 := Aside0.mk k2
          clear k1 k2
          go_wp2_with (first
      | ((with_reducible refine gate_callee (f := 26) rfl ?_); (refine gate_guard (by rfl) ?_; dsimp only); refine goesL_ (some 102) rfl rfl Try.func26 (by kernel_rfl) rfl #[.pointer (some ⟨p, 0, none⟩)] rfl My.gx ?_; (refine (disk_Disk_Used.calls HDD.out).mono ?_); rintro e W102 ⟨rfl, hb⟩; refine ⟨_, rfl, ?_⟩; replace HDD := Aside0.mk (HDD.out.up hb); replace HBB := Aside0.mk (HBB.out.trans (hb.mono HBB.out.size)); clear hb; rw [← HNU.out])
      | ((with_reducible refine gate_callee (f := 18) rfl ?_); refine goesL_ (some 112) rfl rfl Try.func18 (by kernel_rfl) rfl #[.pointer (some ⟨p, 0, none⟩), .int .i64 0, .string a2] rfl My.gx ?_; (refine (disk_Disk_Append.calls HDD.out 0 (by decide) a2 (by have := HS2.out; omega)).mono ?_); rintro e W112 ⟨rfl, hD, hF⟩; refine ⟨_, rfl, ?_⟩; have HD4 := Aside0.mk hD; replace HBB := Aside0.mk (HDD.out.below HBB.out HBB.out.size hF); clear hD hF; rw [K1.out])
      | ((with_reducible refine gate_callee (f := 25) rfl ?_); refine goesL_ (some 126) rfl rfl Try.func25 (by kernel_rfl) rfl #[.pointer (some ⟨p, 0, none⟩)] rfl My.gx ?_; (refine (disk_Disk_Dead.calls HD4.out).mono ?_); rintro e W126 ⟨rfl, hb⟩; refine ⟨_, rfl, ?_⟩; replace HD4 := Aside0.mk (HD4.out.up hb); replace HBB := Aside0.mk (HBB.out.trans (hb.mono HBB.out.size)); clear hb; rw [K2.out])
      | ((with_reducible refine gate_callee (f := 10) rfl ?_); (refine gate_guard (by rfl) ?_; dsimp only); refine goesL_ (some 141) rfl rfl Try.func10 (by kernel_rfl) rfl #[] rfl My.gx ?_; (refine (awake.calls _).mono ?_); rintro e W141 ⟨rfl, hb⟩; refine ⟨_, rfl, ?_⟩; have HBA := Aside0.mk (HBB.out.trans (hb.mono HBB.out.size)); clear hb))
          go_ret
          exact ⟨rfl, HBA.out⟩
        · have K1 := Aside0.mk k1
          have K2 := Aside0.mk k2
          have K3 := Aside0.mk k3
          clear k1 k2 k3
          go_wp2_with (first
      | ((with_reducible refine gate_callee (f := 26) rfl ?_); (refine gate_guard (by rfl) ?_; dsimp only); refine goesL_ (some 102) rfl rfl Try.func26 (by kernel_rfl) rfl #[.pointer (some ⟨p, 0, none⟩)] rfl My.gx ?_; (refine (disk_Disk_Used.calls HDD.out).mono ?_); rintro e W102 ⟨rfl, hb⟩; refine ⟨_, rfl, ?_⟩; replace HDD := Aside0.mk (HDD.out.up hb); replace HBB := Aside0.mk (HBB.out.trans (hb.mono HBB.out.size)); clear hb; rw [← HNU.out])
      | ((with_reducible refine gate_callee (f := 18) rfl ?_); refine goesL_ (some 112) rfl rfl Try.func18 (by kernel_rfl) rfl #[.pointer (some ⟨p, 0, none⟩), .int .i64 0, .string a2] rfl My.gx ?_; (refine (disk_Disk_Append.calls HDD.out 0 (by decide) a2 (by have := HS2.out; omega)).mono ?_); rintro e W112 ⟨rfl, hD, hF⟩; refine ⟨_, rfl, ?_⟩; have HD4 := Aside0.mk hD; replace HBB := Aside0.mk (HDD.out.below HBB.out HBB.out.size hF); clear hD hF; rw [K1.out]; replace HD4 := Aside0.mk (K2.out ▸ HD4.out))
      | ((with_reducible refine gate_callee (f := 26) rfl ?_); (refine gate_guard (by rfl) ?_; dsimp only); refine goesL_ (some 121) rfl rfl Try.func26 (by kernel_rfl) rfl #[.pointer (some ⟨p, 0, none⟩)] rfl My.gx ?_; (refine (disk_Disk_Used.calls HD4.out).mono ?_); rintro e W121 ⟨rfl, hb⟩; refine ⟨_, rfl, ?_⟩; replace HD4 := Aside0.mk (HD4.out.up hb); replace HBB := Aside0.mk (HBB.out.trans (hb.mono HBB.out.size)); clear hb; rw [← HNU.out])
      | ((with_reducible refine gate_callee (f := 25) rfl ?_); refine goesL_ (some 126) rfl rfl Try.func25 (by kernel_rfl) rfl #[.pointer (some ⟨p, 0, none⟩)] rfl My.gx ?_; (refine (disk_Disk_Dead.calls HD4.out).mono ?_); rintro e W126 ⟨rfl, hb⟩; refine ⟨_, rfl, ?_⟩; replace HD4 := Aside0.mk (HD4.out.up hb); replace HBB := Aside0.mk (HBB.out.trans (hb.mono HBB.out.size)); clear hb; rw [K3.out])
      | ((with_reducible refine gate_callee (f := 10) rfl ?_); (refine gate_guard (by rfl) ?_; dsimp only); refine goesL_ (some 141) rfl rfl Try.func10 (by kernel_rfl) rfl #[] rfl My.gx ?_; (refine (awake.calls _).mono ?_); rintro e W141 ⟨rfl, hb⟩; refine ⟨_, rfl, ?_⟩; have HBA := Aside0.mk (HBB.out.trans (hb.mono HBB.out.size)); clear hb))
          go_ret
          exact ⟨rfl, HBA.out⟩
        · have hw5 : wrap64 (n + (a2.size : Int)) = n + (a2.size : Int) := by have := HUB.out; have := HS2.out; unfold wrap64; omega
          have u4 : (n + (a2.size : Int) == n + (a2.size : Int)) = true := by simp
          have K1 := Aside0.mk k1
          have K2 := Aside0.mk k2
          have K3 := Aside0.mk k3
          clear k1 k2 k3
          go_wp2_with (first
      | ((with_reducible refine gate_callee (f := 26) rfl ?_); (refine gate_guard (by rfl) ?_; dsimp only); refine goesL_ (some 102) rfl rfl Try.func26 (by kernel_rfl) rfl #[.pointer (some ⟨p, 0, none⟩)] rfl My.gx ?_; (refine (disk_Disk_Used.calls HDD.out).mono ?_); rintro e W102 ⟨rfl, hb⟩; refine ⟨_, rfl, ?_⟩; replace HDD := Aside0.mk (HDD.out.up hb); replace HBB := Aside0.mk (HBB.out.trans (hb.mono HBB.out.size)); clear hb; rw [← HNU.out])
      | ((with_reducible refine gate_callee (f := 18) rfl ?_); refine goesL_ (some 112) rfl rfl Try.func18 (by kernel_rfl) rfl #[.pointer (some ⟨p, 0, none⟩), .int .i64 0, .string a2] rfl My.gx ?_; (refine (disk_Disk_Append.calls HDD.out 0 (by decide) a2 (by have := HS2.out; omega)).mono ?_); rintro e W112 ⟨rfl, hD, hF⟩; refine ⟨_, rfl, ?_⟩; have HD4 := Aside0.mk hD; replace HBB := Aside0.mk (HDD.out.below HBB.out HBB.out.size hF); clear hD hF; rw [K1.out])
      | ((with_reducible refine gate_callee (f := 25) rfl ?_); refine goesL_ (some 126) rfl rfl Try.func25 (by kernel_rfl) rfl #[.pointer (some ⟨p, 0, none⟩)] rfl My.gx ?_; (refine (disk_Disk_Dead.calls HD4.out).mono ?_); rintro e W126 ⟨rfl, hb⟩; refine ⟨_, rfl, ?_⟩; replace HD4 := Aside0.mk (HD4.out.up hb); replace HBB := Aside0.mk (HBB.out.trans (hb.mono HBB.out.size)); clear hb; rw [K2.out])
      | ((with_reducible refine gate_callee (f := 26) rfl ?_); (refine gate_guard (by rfl) ?_; dsimp only); refine goesL_ (some 133) rfl rfl Try.func26 (by kernel_rfl) rfl #[.pointer (some ⟨p, 0, none⟩)] rfl My.gx ?_; (refine (disk_Disk_Used.calls HD4.out).mono ?_); rintro e W133 ⟨rfl, hb⟩; refine ⟨_, rfl, ?_⟩; replace HD4 := Aside0.mk (HD4.out.up hb); replace HBB := Aside0.mk (HBB.out.trans (hb.mono HBB.out.size)); clear hb; rw [K3.out, ← HNU.out])
      | ((with_reducible refine gate_callee (f := 10) rfl ?_); (refine gate_guard (by rfl) ?_; dsimp only); refine goesL_ (some 141) rfl rfl Try.func10 (by kernel_rfl) rfl #[] rfl My.gx ?_; (refine (awake.calls _).mono ?_); rintro e W141 ⟨rfl, hb⟩; refine ⟨_, rfl, ?_⟩; have HBA := Aside0.mk (HBB.out.trans (hb.mono HBB.out.size)); clear hb))
          go_ret
          exact ⟨rfl, HBA.out⟩

/-- THE ONE PURE STATEMENT of ententelaw15_DiskRoom. -/
def ententelaw15_DiskRoom.Pure : Prop := ∀ (a0 : Int) (l1 : List S35) (a2 : ByteArray), (Lit.int .i64 a0).wf = true → (l1.length ≤ 9223372036854775807 ∧ l1.length * 64 ≤ 140737488351232 ∧ ∀ y_ ∈ l1, Q35 y_) → a2.size ≤ 140737488351232 → ∃ k, ententelaw15_DiskRoom.f k a0 l1 a2 = some true

end Go.Proofs.Ytjdpgkfhicpepaa.PA
