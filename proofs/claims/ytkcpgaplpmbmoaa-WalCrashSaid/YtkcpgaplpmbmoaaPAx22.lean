/- A log on a disk, walked by hand; Lean checks it. -/
import Derived.Test.YtkcpgaplpmbmoaaPAx24
namespace Go.Proofs.Ytkcpgaplpmbmoaa.PA
open Go.RowKit Go.Proofs.YtkcpgaplpmbmoaaW.PrintWords Go.Proofs.YtkcpgaplpmbmoaaW.PrintLast Go.Proofs.YtkcpgaplpmbmoaaW.PrintMore
attribute [local go_sem] max2_int min2_int max_two min_two max_three min_three max_four min_four
set_option linter.unusedVariables false
set_option linter.unusedSimpArgs false

noncomputable section
open Classical in
def ententelaw17_WalCrash.f (k : Nat) (a0 : Int) (a1 : ByteArray) (l2 : List S53) : Option Bool := if a1.size ≤ 140737488351232 ∧ l2.length ≤ 140737488351232 ∧ ∀ y ∈ l2, Q53 y then some true else none
end
theorem ententelaw17_WalCrash.ok {k : Nat} {a0 : Int} {a1 : ByteArray} {l2 : List S53} {r : Bool} (h : ententelaw17_WalCrash.f k a0 a1 l2 = some r) : a1.size ≤ 140737488351232 ∧ l2.length ≤ 140737488351232 ∧ ∀ y ∈ l2, Q53 y := by
  unfold ententelaw17_WalCrash.f at h
  split at h
  · assumption
  · cases h
set_option maxHeartbeats 32000000 in
set_option maxRecDepth 100000 in
theorem ententelaw17_WalCrash.calls (k : Nat) (a0 : Int) (a1 : ByteArray) (A2 : Option Addr) (c2 : Nat) (l2 : List S53) (r : Bool) (w : World) (hr2 : Kd.C k53 w A2 l2.length l2) (hc2 : l2.length ≤ c2) (ht : r = true) (h : ententelaw17_WalCrash.f k a0 a1 l2 = some r) :
    Calls Try.prog 5 #[.int .i64 a0, .string a1, .slice A2 l2.length c2] w fun e w' => e = .returned (.bool r) ∧ Below w.heap.size w w' := by
  subst ht
  have hu53 := Try.underlying53
  obtain ⟨hq1, hq2, hq3⟩ := ententelaw17_WalCrash.ok h
  obtain ⟨rf, ⟨kf, hkf⟩, hf6⟩ := few_ev l2 hq2
  have HF := Aside0.mk (hkf kf (Nat.le_refl _))
  have HR := Aside0.mk hr2
  have HC2 := Aside0.mk hc2
  have HQ := Aside0.mk hq3
  have HB := Aside0.mk (Below.refl w.heap.size w)
  clear h hr2 hc2 hq1 hq2 hq3 hkf
  by_cases hb : rf = false
  · subst hb
    clear hf6
    go_enter Try.func5, Try.ntmps5
    go_wp2_with (first
      | ((with_reducible refine gate_callee (f := 17) rfl ?_); refine goesL_ (some 21) rfl rfl Try.func17 (by kernel_rfl) rfl #[.slice A2 l2.length c2] rfl My.gx ?_; (refine (ententelaw17_few.calls kf A2 c2 l2 _ w HR.out HC2.out HF.out).mono ?_); rintro e W21 ⟨rfl, hb⟩; refine ⟨_, rfl, ?_⟩; replace HB := Aside0.mk (HB.out.trans (hb.mono HB.out.size)); clear hb)
      | ((with_reducible refine gate_callee (f := 11) rfl ?_); refine goesL_ (some 28) rfl rfl Try.func11 (by kernel_rfl) rfl #[] rfl My.gx ?_; (refine (awake.calls _).mono ?_); rintro e W28 ⟨rfl, hb⟩; refine ⟨_, rfl, ?_⟩; replace HB := Aside0.mk (HB.out.trans (hb.mono HB.out.size)); clear hb))
    go_ret
    exact ⟨rfl, HB.out⟩
  obtain rfl : rf = true := by cases rf with | true => rfl | false => exact absurd rfl hb
  have HL6 := Aside0.mk (hf6 rfl)
  clear hb hf6
  by_cases d1 : a1.size > 30000
  · have b1 : decide ((30000 : Int) < (a1.size : Int)) = true := decide_eq_true (by omega)
    clear d1
    go_enter Try.func5, Try.ntmps5
    go_wp2_with (first
      | ((with_reducible refine gate_callee (f := 17) rfl ?_); refine goesL_ (some 21) rfl rfl Try.func17 (by kernel_rfl) rfl #[.slice A2 l2.length c2] rfl My.gx ?_; (refine (ententelaw17_few.calls kf A2 c2 l2 _ w HR.out HC2.out HF.out).mono ?_); rintro e W21 ⟨rfl, hb⟩; refine ⟨_, rfl, ?_⟩; replace HB := Aside0.mk (HB.out.trans (hb.mono HB.out.size)); clear hb)
      | ((with_reducible refine gate_callee (f := 11) rfl ?_); refine goesL_ (some 28) rfl rfl Try.func11 (by kernel_rfl) rfl #[] rfl My.gx ?_; (refine (awake.calls _).mono ?_); rintro e W28 ⟨rfl, hb⟩; refine ⟨_, rfl, ?_⟩; replace HB := Aside0.mk (HB.out.trans (hb.mono HB.out.size)); clear hb))
    go_ret
    exact ⟨rfl, HB.out⟩
  have b1 : decide ((30000 : Int) < (a1.size : Int)) = false := decide_eq_false (by omega)
  have HS1 := Aside0.mk (show a1.size ≤ 30000 by omega)
  obtain ⟨rm, hrm, hr0, hr1⟩ := room_ok a0
  have HRM := Aside0.mk hrm
  have HRB := Aside0.mk (show 0 ≤ rm ∧ rm ≤ 200000 from ⟨hr0, hr1⟩)
  clear d1 hrm hr0 hr1
  go_enter Try.func5, Try.ntmps5
  go_upto_region 5 with (first
      | ((with_reducible refine gate_callee (f := 17) rfl ?_); refine goesL_ (some 21) rfl rfl Try.func17 (by kernel_rfl) rfl #[.slice A2 l2.length c2] rfl My.gx ?_; (refine (ententelaw17_few.calls kf A2 c2 l2 _ w HR.out HC2.out HF.out).mono ?_); rintro e W21 ⟨rfl, hb⟩; refine ⟨_, rfl, ?_⟩; replace HB := Aside0.mk (HB.out.trans (hb.mono HB.out.size)); clear hb)
      | ((with_reducible refine gate_callee (f := 18) rfl ?_); refine goesL_ (some 31) rfl rfl Try.func18 (by kernel_rfl) rfl #[.int .i64 a0] rfl My.gx ?_; (refine (ententelaw17_Room.calls a0 rm _ HRM.out).mono ?_); rintro e W31 ⟨rfl, hdr⟩; refine ⟨_, rfl, ?_⟩; have hb := hdr.below; replace HB := Aside0.mk (HB.out.trans (hb.mono HB.out.size)); clear hb hdr)
      | ((with_reducible refine gate_callee (f := 12) rfl ?_); refine goesL_ (some 32) rfl rfl Try.func12 (by kernel_rfl) rfl #[.int .i64 rm] rfl My.gx ?_; (refine (bk_new _ rm HRB.out).mono ?_); rintro e W32 ⟨p, bm, rfl, hb, hD⟩; refine ⟨_, rfl, ?_⟩; have HD := Aside0.mk (hD.lower HB.out.size); replace HB := Aside0.mk (HB.out.trans (hb.mono HB.out.size)); clear hb hD)
      | ((with_reducible refine gate_callee (f := 19) rfl ?_); refine goesL_ (some 38) rfl rfl Try.func19 (by kernel_rfl) rfl #[.pointer (some ⟨p, 0, none⟩), .string a1] rfl My.gx ?_; (refine (opened.first HB.out HD.out rfl rfl rfl a1 HS1.out).mono ?_); rintro e W38 ⟨a, A, m, c, er, rfl, hP⟩; refine ⟨_, rfl, ?_⟩; have HP := Aside0.mk hP; clear hP HD HB))
  rcases HP.out with ⟨rfl, hb⟩ | ⟨rfl, q1, g1, s1, rfl, rfl, hI⟩
  · have HB := Aside0.mk hb
    clear HP hb
    go_wp2_with ((with_reducible refine gate_callee (f := 11) rfl ?_); refine goesL_ (some 44) rfl rfl Try.func11 (by kernel_rfl) rfl #[] rfl My.gx ?_; (refine (awake.calls _).mono ?_); rintro e W44 ⟨rfl, hb⟩; refine ⟨_, rfl, ?_⟩; replace HB := Aside0.mk (HB.out.trans (hb.mono HB.out.size)); clear hb)
    go_ret
    exact ⟨rfl, HB.out⟩
  have HI := Aside0.mk hI
  obtain ⟨ks, hks⟩ := (same_ev [a1] (by simp)).rounds
  have HKS := Aside0.mk hks
  clear HP hI hks
  go_wp2_with ((with_reducible refine gate_callee (f := 15) rfl ?_); (refine gate_guard (by rfl) ?_; dsimp only); refine goesL_ (some 55) rfl rfl Try.func15 (by kernel_rfl) rfl #[.slice A 1 c, .slice (some ⟨W38.heap.size, 0, none⟩) 1 1] rfl My.gx ?_; (refine (ententeref01_Same.calls ks A c [a1] _ 1 [a1] true _ (HI.out.up (below_alloc (Below.refl _ _) _)).reads.1 HI.out.reads.2 (one_str _ a1) (Nat.le_refl _) HKS.out).mono ?_); rintro e W55 ⟨rfl, hdr⟩; refine ⟨_, rfl, ?_⟩; have hb := hdr.below; replace HI := Aside0.mk ((HI.out.up (below_alloc (Below.refl _ _) _)).up hb); clear hb hdr)
  go_loopg [9, 10, 12] (l2.length + 1) (fun kq v9 v10 v12 w' => ∃ (i : Nat) (x : Int) (q g : Nat) (s : DS) (n : Int) (h : List ByteArray) (A : Option Addr) (c : Nat), v9 = .pointer (some ⟨q, 0, none⟩) ∧ v10 = .slice A h.length c ∧ v12 = .int .i64 x ∧ Aside0 (x = (i : Int)) ∧ Aside0 (kq + i = l2.length + 1) ∧ Aside0 (i ≤ l2.length) ∧ Aside0 (CrI w w' p bm q g s n h A c (1 + i)))
  case atStart => exact ⟨0, _, _, _, _, _, [a1], _, _, rfl, rfl, rfl, ⟨rfl⟩, ⟨rfl⟩, ⟨Nat.zero_le _⟩, HI⟩
  case round =>
    clear HI HKS
    obtain ⟨i, x, q, g, s, n, h, A, c, rfl, rfl, rfl, hx, hk, hi, HI⟩ := hrel
    by_cases c9 : i < l2.length
    · have q1 : x < (l2.length : Int) := by have := hx.out; omega
      have p1 : (0 : Int) ≤ x := by have := hx.out; omega
      have t3 : decide (x < (l2.length : Int)) = true := decide_eq_true q1
      obtain ⟨ad, A3, c3, e1, x0, x1, x2, x3, l3, g3⟩ := at_T53 HR.out x p1 q1
      cases e1
      have hmem := HQ.out _ (T53_drop l2 i c9)
      rw [← hx.out] at hmem
      obtain ⟨F, hF⟩ : ∃ F, rd_T53 l2 x = F := ⟨_, rfl⟩
      rw [hF] at x0 x1 x2 x3 l3 g3 hmem
      replace x0 := (HI.out.B.cell (World.block_lt_of_cell? w _ x0)).trans x0
      replace x1 := (HI.out.B.cell (World.block_lt_of_cell? w _ x1)).trans x1
      replace x2 := (HI.out.B.cell (World.block_lt_of_cell? w _ x2)).trans x2
      replace x3 := (HI.out.B.cell (World.block_lt_of_cell? w _ x3)).trans x3
      have HM := Aside0.mk hmem
      have HL3 := Aside0.mk l3
      have HG3 := Aside0.mk g3
      have hw2 : wrap64 (x + 1) = x + 1 := by have := HL6.out; have := hx.out; unfold wrap64; omega
      have HW2 := Aside0.mk hw2
      have HCI := Aside0.mk c9
      have HJ := Aside0.mk (show h.length + 1 ≤ 1000 by have := HI.out.len; have := HL6.out; omega)
      have p2 := eq_true p1
      have q2 := eq_true q1
      clear hmem hF l3 g3 c9 hw2
      go_upto_region 13 with ((with_reducible refine gate_dst (N := 13) rfl ?_); refine My.bx 13 #[.int .i64 0, .string ⟨#[]⟩, .int .i64 0, .slice none 0 0] 53 ?_; intro g13 hg w13 hbox hb; have BX := My.am hbox; have HB13 := Aside0.mk hb; have G13 := Aside0.mk (show wr.heap.size ≤ g13 by rw [hg]; exact Nat.le_refl _); clear hb hbox hg x0 x1 x2 x3; have hz := cz4' BX)
      refine at_world (J := fun W => Below wr.heap.size wr W ∧ W.heap[g13]? = some (.cells #[.int .i64 F.f0, .string F.f1, .int .i64 F.f2, .slice A3 F.f3.length c3] 53 (0, 0))) ⟨below_set (below_set (below_set (below_set HB13.out G13.out) G13.out) G13.out) G13.out, put4' BX.out⟩ ?_
      clear BX HB13 G13 hz
      rintro W2 ⟨B2, Y2⟩
      replace HI := Aside0.mk (HI.out.up B2)
      have HY := Aside0.mk Y2
      clear B2 Y2
      go_upto_region 14 with (fail)
      have HGM := Aside0.mk (show ∃ m, m = W2.heap.size from ⟨_, rfl⟩)
      obtain ⟨gm, hgm⟩ := HGM.out
      clear HGM
      rw [← hgm]
      refine at_world (J := fun W => CrI w W p bm q g s n h A c (1 + i) ∧ kL.R 30 W w.heap.size (fun _ => True) (.slice (some ⟨gm, 0, none⟩) [h].length 1) [h] ∧ W.heap[g13]? = some (.cells #[.int .i64 F.f0, .string F.f1, .int .i64 F.f2, .slice A3 F.f3.length c3] 53 (0, 0))) ⟨HI.out.up (below_alloc (Below.refl _ _) _), by rw [hgm]; exact one_rows _ _ HI.out.B.size _ _ HI.out.R, blk_alloc HY.out _⟩ ?_
      clear hgm HI HY
      rintro W3 ⟨I3, R3, Y3⟩
      have HI := Aside0.mk I3
      have HRW := Aside0.mk R3
      have HY := My.am Y3
      clear I3 R3 Y3
      have hz := cz4' HY
      go_upto_block 2 with (fail)
      go_cut [10, 14] (fun v10 v14 wc => ∃ (s : DS) (h : List ByteArray) (A : Option Addr) (c : Nat) (M : Option Addr) (d : Nat) (Ls : List (List ByteArray)), v10 = .slice A h.length c ∧ v14 = .slice M Ls.length d ∧ Aside0 (CrJ w wc p bm q s h A c M d Ls g13 #[.int .i64 F.f0, .string F.f1, .int .i64 F.f2, .slice A3 F.f3.length c3] (1 + i + 1)))
      case first =>
        by_cases k3 : F.f0 = 3
        · have m3 : decide (F.f0 = 3) = true := decide_eq_true k3
          have n3 : (F.f0 == 3) = true := beq_iff_eq.2 k3
          clear k3
          have HMW := Aside0.mk (show F.f2 ≤ 9223372036854775807 by have := HM.out.2.2.1; simp only [Lit.wf, Bool.and_eq_true, decide_eq_true_eq] at this; have e : IntKind.i64.max = 9223372036854775807 := (by decide); rw [e] at this; exact this.2)
          go_wp2_with ((with_reducible refine gate_callee (f := 20) rfl ?_); refine goesL_ (some 79) rfl rfl Try.func20 (by kernel_rfl) rfl #[.pointer (some ⟨p, 0, none⟩), .int .i64 F.f2, .slice A3 F.f3.length c3] rfl My.gx ?_; (refine (disk_Disk_Arm.calls HI.out.D HI.out.B.size F.f2 HMW.out A3 c3 F.f3 HL3.out HM.out.2.2.2.2.1 (fun W hf => Kd.C_below HG3.out (below_disk HI.out.B HI.out.D (Fr.toX hf) HI.out.B.size))).mono ?_); rintro e W79 ⟨rfl, hD, hF⟩; refine ⟨_, rfl, ?_⟩; replace HI := Aside0.mk (HI.out.armed F.f2 F.f3 hD hF); clear hD hF)
          have hI := HCI.out
          have hx1 := hx.out
          have hk1 := hk.out
          go_roundg (l2.length - i)
          case measure => omega
          case rel => exact ⟨i + 1, x + 1, q, g, _, n, h, A, c, rfl, rfl, by first | rfl | (rw [HW2.out]), ⟨by omega⟩, ⟨by omega⟩, ⟨by omega⟩, ⟨HI.out.mono (by omega)⟩⟩
        have m3 : decide (F.f0 = 3) = false := decide_eq_false k3
        have n3 : (F.f0 == 3) = false := beq_eq_false_iff_ne.2 k3
        clear k3
        by_cases k0 : F.f0 = 0
        · have m0 : decide (F.f0 = 0) = true := decide_eq_true k0
          have n0 : (F.f0 == 0) = true := beq_iff_eq.2 k0
          clear k0
          obtain ⟨h2, hh2⟩ : ∃ h2, h ++ [F.f1] = h2 := ⟨_, rfl⟩
          have HH2 := Aside0.mk hh2
          have HWI := Aside0.mk (show ententelaw17_with.f h F.f1 = some h2 by rw [← hh2]; exact with_some h F.f1 (by have := HJ.out; omega))
          clear hh2
          go_upto_region 19 with ((with_reducible refine gate_callee (f := 6) rfl ?_); refine goesL_ (some 85) rfl rfl Try.func6 (by kernel_rfl) rfl #[.pointer (some ⟨q, 0, none⟩), .string F.f1] rfl My.gx ?_; (refine (cr_append HI.out HRW.out HY.out F.f1 HM.out.2.1 h2 HH2.out).mono ?_); rintro e W85 ⟨er, rfl, hb, hr2, hrw, hy, hP⟩; refine ⟨_, rfl, ?_⟩; clear hz; have HB2 := Aside0.mk hb; have HR2 := Aside0.mk hr2; replace HRW := Aside0.mk hrw; have HY2 := My.am hy; have HP := Aside0.mk hP; clear hb hr2 hrw hy hP HY)
          rcases HP.out with ⟨rfl, s2, hI2⟩ | ⟨e0, e1, hI2⟩ | ⟨rfl, s2, hD2, hd2, s3, ho2⟩
          · have HI2 := Aside0.mk hI2
            clear hI2 HP
            have hz := cz4' HY2
            go_wp2_with ((with_reducible refine gate_callee (f := 13) rfl ?_); refine goesL_ (some 91) rfl rfl Try.func13 (by kernel_rfl) rfl #[.slice A h.length c, .string F.f1] rfl My.gx ?_; (refine (ententelaw17_with.calls A c h F.f1 _ _ (Kd.R_reads' HR2.out).2.2 (Kd.R_reads' HR2.out).2.1 HWI.out).mono ?_); rintro e W91 ⟨v, rfl, hR5, hb5⟩; refine ⟨_, rfl, ?_⟩; obtain ⟨A5, c5, rfl⟩ := Kd.R_slice hR5; have HR5 := Aside0.mk hR5; have HB5 := Aside0.mk hb5; clear hR5 hb5)
            go_meet
            have I5 := HI2.out _ A5 c5 HB5.out (Kd.R_lower HR5.out HB2.out.size)
            exact ⟨_, h2, A5, c5, _, _, [h2], rfl, rfl, ⟨CrJ.alive (I5.up (below_alloc (Below.refl _ _) _)) (one_rows _ _ I5.B.size _ _ I5.R) (by simp) (by simp) (blk_alloc ((HB5.out.block _ (blk_lt HY2.out)).trans HY2.out) _)⟩⟩
          · have HI2 := Aside0.mk hI2
            have m5 : decide (er = 0) = false := decide_eq_false e0
            have m6 : (er == 0) = false := beq_eq_false_iff_ne.2 e0
            have m7 : decide (er = 150) = false := decide_eq_false e1
            have m8 : (er == 150) = false := beq_eq_false_iff_ne.2 e1
            clear hI2 HP e0 e1
            go_wp2
            go_meet
            exact ⟨_, h, A, c, _, _, [h], rfl, rfl, ⟨CrJ.alive (HI2.out.mono (Nat.le_succ _)) HRW.out (by simp) (by simp) HY2.out⟩⟩
          · have HD2 := Aside0.mk hD2
            have HDE := Aside0.mk hd2
            have HO2 := Aside0.mk ho2
            clear hD2 hd2 ho2 HP
            have hz := cz4' HY2
            go_wp2_with (first
      | ((with_reducible refine gate_callee (f := 13) rfl ?_); refine goesL_ (some 100) rfl rfl Try.func13 (by kernel_rfl) rfl #[.slice A h.length c, .string F.f1] rfl My.gx ?_; (refine (ententelaw17_with.calls A c h F.f1 _ _ (Kd.R_reads' HR2.out).2.2 (Kd.R_reads' HR2.out).2.1 HWI.out).mono ?_); rintro e W100 ⟨v, rfl, hR5, hb5⟩; refine ⟨_, rfl, ?_⟩; obtain ⟨A5, c5, rfl⟩ := Kd.R_slice hR5; have HR5 := Aside0.mk hR5; have HB5 := Aside0.mk hb5; clear hR5 hb5)
      | ((with_reducible refine gate_builtin (b := .append) (xs := #[.tmp 96, .tmp 101]) rfl ?_); at_builtin; refine Kd.R_append kL (w0 := w) w.heap.size rfl (.tmp 96) (.tmp 101) 54 30 (.slice none 0 0) 24 rfl Try.underlying54 info30 rfl (by decide) (by omega) (.slice (some ⟨gm, 0, none⟩) 1 1) [h] h2 [.slice A5 h2.length c5] (fun _ => True) (fun k => some k ≠ (Value.slice (some ⟨gm, 0, none⟩) 1 1).ownBlock) rfl (by first | rfl | go_simp) ?aP (fun k hk => ⟨trivial, hk⟩) ?aF ?aO ?aB ?aS ?aL ?_; (case aP => exact row_apart HR5.out HRW.out HB2.out.size); (case aF => exact (fun _ _ => trivial)); (case aO => exact Kd.R_below HRW.out HB5.out); (case aB => exact HB2.out.trans ((HB5.out).mono HB2.out.size)); (case aS => exact (HB2.out.trans ((HB5.out).mono HB2.out.size)).size); (case aL => show (1 + 1) * 24 ≤ 140737488355328; decide); intro v102 w102 ho hb hg hat; obtain ⟨M2, d2, rfl⟩ := Kd.R_slice ho; have HO := Aside0.mk ho; have HBW := Aside0.mk hb; have HGR := Aside0.mk hg; clear ho hb hg hat))
            go_meet
            obtain ⟨cm, hcm⟩ := rows_blk (v := .slice (some ⟨gm, 0, none⟩) 1 1) HRW.out
            exact ⟨s2, h, A, c, M2, d2, [h, h2], rfl, rfl, ⟨CrJ.fell (HD2.out.up HB5.out) HDE.out HO2.out (HB2.out.trans (HB5.out.mono HB2.out.size)) ((HB5.out.block _ (blk_lt HY2.out)).trans HY2.out) (by have := HI.out.len; omega) (by have := HI.out.len; rw [← HH2.out, List.length_append, List.length_singleton]; omega) HGR.out ((HB5.out.block _ (blk_lt hcm)).trans hcm) HBW.out HO.out⟩⟩
        have m0 : decide (F.f0 = 0) = false := decide_eq_false k0
        have n0 : (F.f0 == 0) = false := beq_eq_false_iff_ne.2 k0
        clear k0
        by_cases k1 : F.f0 = 1
        · have m1 : decide (F.f0 = 1) = true := decide_eq_true k1
          have n1 : (F.f0 == 1) = true := beq_iff_eq.2 k1
          clear k1
          go_upto_region 26 with ((with_reducible refine gate_callee (f := 7) rfl ?_); refine goesL_ (some 108) rfl rfl Try.func7 (by kernel_rfl) rfl #[.pointer (some ⟨q, 0, none⟩), .string F.f1] rfl My.gx ?_; (refine (cr_turn HI.out HRW.out HY.out F.f1 HM.out.2.1).mono ?_); rintro e W108 ⟨er, rfl, hb, hr2, hrw, hy, hP⟩; refine ⟨_, rfl, ?_⟩; clear hz; have HB2 := Aside0.mk hb; have HR2 := Aside0.mk hr2; replace HRW := Aside0.mk hrw; have HY2 := My.am hy; have HP := Aside0.mk hP; clear hb hr2 hrw hy hP HY)
          rcases HP.out with ⟨rfl, s2, g2, hI2⟩ | ⟨e0, e1, hI2⟩ | ⟨rfl, s2, hD2, hd2, s3, ho2⟩
          · have HI2 := Aside0.mk hI2
            clear hI2 HP
            have hz := cz4' HY2
            go_wp2
            go_meet
            have I5 := HI2.out _ (some ⟨W108.heap.size, 0, none⟩) 1 (below_alloc (Below.refl _ _) _) (one_row _ _ HB2.out.size F.f1)
            exact ⟨_, [F.f1], _, _, _, _, [[F.f1]], rfl, rfl, ⟨CrJ.alive (I5.up (below_alloc (Below.refl _ _) _)) (by have h5 := one_rows (W108.alloc (.cells #[.string F.f1] 9)) w.heap.size I5.B.size (.slice (some ⟨W108.heap.size, 0, none⟩) 1 1) [F.f1] I5.R; rw [show (W108.alloc (.cells #[.string F.f1] 9)).heap.size = W108.heap.size + 1 by simp] at h5; exact h5) (by simp) (by simp) (blk_alloc (blk_alloc HY2.out _) _)⟩⟩
          · have HI2 := Aside0.mk hI2
            have m5 : decide (er = 0) = false := decide_eq_false e0
            have m6 : (er == 0) = false := beq_eq_false_iff_ne.2 e0
            have m7 : decide (er = 150) = false := decide_eq_false e1
            have m8 : (er == 150) = false := beq_eq_false_iff_ne.2 e1
            clear hI2 HP e0 e1
            go_wp2
            go_meet
            exact ⟨_, h, A, c, _, _, [h], rfl, rfl, ⟨CrJ.alive (HI2.out.mono (Nat.le_succ _)) HRW.out (by simp) (by simp) HY2.out⟩⟩
          · have HD2 := Aside0.mk hD2
            have HDE := Aside0.mk hd2
            have HO2 := Aside0.mk ho2
            clear hD2 hd2 ho2 HP
            have hz := cz4' HY2
            have HR5 := Aside0.mk (one_row W108 W108.heap.size (Nat.le_refl _) F.f1)
            have HB5 := Aside0.mk (below_alloc (Below.refl W108.heap.size W108) (.cells #[.string F.f1] 9))
            go_wp2_with ((with_reducible refine gate_builtin (b := .append) (xs := #[.tmp 118, .tmp 122]) rfl ?_); at_builtin; refine Kd.R_append kL (w0 := w) w.heap.size rfl (.tmp 118) (.tmp 122) 54 30 (.slice none 0 0) 24 rfl Try.underlying54 info30 rfl (by decide) (by omega) (.slice (some ⟨gm, 0, none⟩) 1 1) [h] [F.f1] [.slice (some ⟨W108.heap.size, 0, none⟩) 1 1] (fun _ => True) (fun k => some k ≠ (Value.slice (some ⟨gm, 0, none⟩) 1 1).ownBlock) rfl (by first | rfl | go_simp) ?aP (fun k hk => ⟨trivial, hk⟩) ?aF ?aO ?aB ?aS ?aL ?_; (case aP => exact row_apart HR5.out HRW.out HB2.out.size); (case aF => exact (fun _ _ => trivial)); (case aO => exact Kd.R_below HRW.out HB5.out); (case aB => exact HB2.out.trans ((HB5.out).mono HB2.out.size)); (case aS => exact (HB2.out.trans ((HB5.out).mono HB2.out.size)).size); (case aL => show (1 + 1) * 24 ≤ 140737488355328; decide); intro v102 w102 ho hb hg hat; obtain ⟨M2, d2, rfl⟩ := Kd.R_slice ho; have HO := Aside0.mk ho; have HBW := Aside0.mk hb; have HGR := Aside0.mk hg; clear ho hb hg hat)
            go_meet
            obtain ⟨cm, hcm⟩ := rows_blk (v := .slice (some ⟨gm, 0, none⟩) 1 1) HRW.out
            exact ⟨s2, h, A, c, M2, d2, [h, [F.f1]], rfl, rfl, ⟨CrJ.fell (HD2.out.up HB5.out) HDE.out HO2.out (HB2.out.trans (HB5.out.mono HB2.out.size)) ((HB5.out.block _ (blk_lt HY2.out)).trans HY2.out) (by have := HI.out.len; omega) (by simp) HGR.out ((HB5.out.block _ (blk_lt hcm)).trans hcm) HBW.out HO.out⟩⟩
        have m1 : decide (F.f0 = 1) = false := decide_eq_false k1
        have n1 : (F.f0 == 1) = false := beq_eq_false_iff_ne.2 k1
        clear k1
        go_wp2
        go_meet
        exact ⟨s, h, A, c, _, _, [h], rfl, rfl, ⟨CrJ.alive (HI.out.mono (Nat.le_succ _)) HRW.out (by simp) (by simp) HY.out⟩⟩
      case rest =>
      clear HI HRW HY hz HJ
      obtain ⟨s, h, A, c, M, d, Ls, rfl, rfl, HJ2⟩ := hcut
      have hz := cz4' (My.am HJ2.out.box)
      go_upto_region 31 with (fail)
      go_cut [131] (fun v131 wc => ∃ T : Bool, v131 = .bool T ∧ Aside0 (T = true → s.dead = false) ∧ Aside0 (CrJ w wc p bm q s h A c M d Ls g13 #[.int .i64 F.f0, .string F.f1, .int .i64 F.f2, .slice A3 F.f3.length c3] (1 + i + 1)))
      case first =>
        by_cases k2 : F.f0 = 2
        · have m2 : decide (F.f0 = 2) = true := decide_eq_true k2
          have n2 : (F.f0 == 2) = true := beq_iff_eq.2 k2
          clear k2
          have o2 : (F.f0 != 2) = false := by simp [bne, n2]
          go_wp2
          go_meet
          exact ⟨false, rfl, ⟨fun h => by cases h⟩, HJ2⟩
        have m2 : decide (F.f0 = 2) = false := decide_eq_false k2
        have n2 : (F.f0 == 2) = false := beq_eq_false_iff_ne.2 k2
        clear k2
        have o2 : (F.f0 != 2) = true := by simp [bne, n2]
        cases hd : s.dead with
        | true =>
          have HDD := Aside0.mk hd
          clear hd
          go_wp2_with ((with_reducible refine gate_callee (f := 21) rfl ?_); (refine gate_guard (by rfl) ?_; dsimp only); refine goesL_ (some 129) rfl rfl Try.func21 (by kernel_rfl) rfl #[.pointer (some ⟨p, 0, none⟩)] rfl My.gx ?_; (refine (dead_is HJ2.out.D HDD.out).mono ?_); rintro e W129 ⟨rfl, hb⟩; refine ⟨_, rfl, ?_⟩; replace HJ2 := Aside0.mk (HJ2.out.up hb); clear hb)
          go_meet
          exact ⟨false, rfl, ⟨fun h => by cases h⟩, HJ2⟩
        | false =>
          have HDD := Aside0.mk hd
          clear hd
          go_wp2_with ((with_reducible refine gate_callee (f := 21) rfl ?_); (refine gate_guard (by rfl) ?_; dsimp only); refine goesL_ (some 129) rfl rfl Try.func21 (by kernel_rfl) rfl #[.pointer (some ⟨p, 0, none⟩)] rfl My.gx ?_; (refine (dead_is HJ2.out.D HDD.out).mono ?_); rintro e W129 ⟨rfl, hb⟩; refine ⟨_, rfl, ?_⟩; replace HJ2 := Aside0.mk (HJ2.out.up hb); clear hb)
          go_meet
          exact ⟨true, rfl, ⟨fun _ => HDD.out⟩, HJ2⟩
      case rest =>
      clear HJ2 hz
      obtain ⟨T, rfl, HT, HJ2⟩ := hcut
      cases T with
      | true =>
        obtain ⟨g2, n2, hI⟩ := HJ2.out.live (HT.out rfl)
        have HI := Aside0.mk hI
        clear hI HT HJ2
        go_wp2
        have hI := HCI.out
        have hx1 := hx.out
        have hk1 := hk.out
        go_roundg (l2.length - i)
        case measure => omega
        case rel => exact ⟨i + 1, x + 1, q, g2, s, n2, h, A, c, rfl, rfl, by first | rfl | (rw [HW2.out]), ⟨by omega⟩, ⟨by omega⟩, ⟨by omega⟩, HI⟩
      | false =>
        clear HT
        go_wp2_with (first
      | ((with_reducible refine gate_callee (f := 19) rfl ?_); refine goesL_ (some 135) rfl rfl Try.func19 (by kernel_rfl) rfl #[.pointer (some ⟨p, 0, none⟩), .string a1] rfl My.gx ?_; (refine (opened.crash HJ2.out a1 (by have := HS1.out; omega)).mono ?_); rintro e W135 ⟨q2, g2, A2', c2', s3, n3, l3, rfl, hm, hI, hR⟩; refine ⟨_, rfl, ?_⟩; have HI := Aside0.mk hI; have HMM := Aside0.mk hm; have HRW := Aside0.mk hR; have HLS := Aside0.mk HJ2.out.len; clear hI hm hR HJ2)
      | ((with_reducible refine gate_callee (f := 22) rfl ?_); (refine gate_guard (by rfl) ?_; dsimp only); refine goesL_ (some 148) rfl rfl Try.func22 (by kernel_rfl) rfl #[.slice A2' l3.length c2', .slice M Ls.length d] rfl My.gx ?_; (refine (among.calls A2' c2' l3 M d Ls HI.out.reads.1 HI.out.reads.2 (Kd.R_reads' HRW.out).2.2 (by have := HLS.out; omega) (by have := HI.out.len; have := HL6.out; have := HCI.out; omega) HMM.out).mono ?_); rintro e W148 ⟨rfl, hb⟩; refine ⟨_, rfl, ?_⟩; replace HI := Aside0.mk (HI.out.up hb); clear hb HRW HMM))
        have hI := HCI.out
        have hx1 := hx.out
        have hk1 := hk.out
        go_roundg (l2.length - i)
        case measure => omega
        case rel => exact ⟨i + 1, x + 1, q2, g2, s3, n3, l3, A2', c2', rfl, rfl, by first | rfl | (rw [HW2.out]), ⟨by omega⟩, ⟨by omega⟩, ⟨by omega⟩, HI⟩
    · have t3 : decide (x < (l2.length : Int)) = false := decide_eq_false (by have := hx.out; have := hi.out; omega)
      have HB := Aside0.mk HI.out.B
      clear HI hx hk hi c9
      go_wp2_with ((with_reducible refine gate_callee (f := 11) rfl ?_); refine goesL_ (some 153) rfl rfl Try.func11 (by kernel_rfl) rfl #[] rfl My.gx ?_; (refine (awake.calls _).mono ?_); rintro e W153 ⟨rfl, hb⟩; refine ⟨_, rfl, ?_⟩; replace HB := Aside0.mk (HB.out.trans (hb.mono HB.out.size)); clear hb)
      go_ret
      exact ⟨rfl, HB.out⟩

/-- THE ONE PURE STATEMENT of ententelaw17_WalCrash. -/
def ententelaw17_WalCrash.Pure : Prop := ∀ (a0 : Int) (a1 : ByteArray) (l2 : List S53), (Lit.int .i64 a0).wf = true → a1.size ≤ 140737488351232 → (l2.length ≤ 9223372036854775807 ∧ l2.length * 56 ≤ 140737488351232 ∧ ∀ y_ ∈ l2, Q53 y_) → ∃ k, ententelaw17_WalCrash.f k a0 a1 l2 = some true

end Go.Proofs.Ytkcpgaplpmbmoaa.PA
