/- c15's own text: a disk, walked by hand; Lean checks it. -/
import Derived.Test.YtjdpgkfhicpepaaPAx7
import Derived.Test.YtjdpgkfhicpepaaPAx2
namespace Go.Proofs.Ytjdpgkfhicpepaa.PA
open Go.RowKit Go.Proofs.YtjdpgkfhicpepaaW.PrintWords Go.Proofs.YtjdpgkfhicpepaaW.PrintLast Go.Proofs.YtjdpgkfhicpepaaW.PrintMore
attribute [local go_sem] max2_int min2_int max_two min_two max_three min_three max_four min_four
set_option linter.unusedVariables false
set_option linter.unusedSimpArgs false

/-! #### acts -/
def Q35 (x : S35) : Prop := (Lit.int .i64 x.f0).wf = true ∧ (Lit.int .i64 x.f1).wf = true ∧ (Lit.int .i64 x.f2).wf = true ∧ x.f3.size ≤ 140737488351232 ∧ (x.f4.length ≤ 9223372036854775807 ∧ x.f4.length * 8 ≤ 140737488351232 ∧ ∀ y_ ∈ x.f4, (Lit.int .i64 y_).wf = true)
def actS (s : DS) (a : S35) : DS :=
  if a.f0 = 0 then (appS s a.f1 a.f3).1 else if a.f0 = 1 then (syncS s a.f1).1 else if a.f0 = 2 then (cutS s a.f1 a.f2).1 else if a.f0 = 3 then (remS s a.f1).1 else if a.f0 = 4 then (armS s a.f2 a.f4).1 else if a.f0 = 5 then (crashS s a.f4).1 else boot s
def newS (room : Int) : DS := ⟨false, room, 0, [], []⟩
def playedS (room : Int) (acts : List S35) : DS := acts.foldl actS (newS room)
theorem take35 (l : List S35) (i : Nat) (h : i < l.length) : l.take (i + 1) = l.take i ++ [rd_T35 l (i : Int)] := by
  rw [List.take_add_one]
  congr 1
  unfold rd_T35
  rw [Int.toNat_natCast, List.getD_eq_getElem?_getD, List.getElem?_eq_getElem h]
  rfl
theorem mem35 (l : List S35) (i : Nat) (h : i < l.length) : rd_T35 l (i : Int) ∈ l := by
  have h1 : rd_T35 l (i : Int) ∈ l.take (i + 1) := by rw [take35 l i h]; simp
  exact List.mem_of_mem_take h1
theorem wf_hi {x : Int} (h : (Lit.int .i64 x).wf = true) : x ≤ 9223372036854775807 := by
  have e1 : IntKind.i64.max = 9223372036854775807 := by decide
  simp only [Lit.wf, e1, Bool.and_eq_true, decide_eq_true_eq] at h
  omega
section
variable {base p bm : Nat} {w w0 : World} {s : DS}
theorem DiskAt.below {W : World} (h : DiskAt base w p bm s) (hb : Below base w0 w) (hle : base ≤ w.heap.size) (hf : Fr p bm w W) : Below base w0 W := Fr.add hb hf h.hp h.hm hle
set_option maxHeartbeats 8000000 in
set_option maxRecDepth 100000 in
theorem played.calls (room : Int) (A : Option Addr) (c : Nat) (l : List S35) (hr : Kd.C k35 w A l.length l) (hq : ∀ y ∈ l, Q35 y) (hroom : 0 ≤ room ∧ room ≤ 200000) :
    Calls Try.prog 29 #[.int .i64 room, .slice A l.length c] w fun e w' => ∃ p bm, e = .returned (.pointer (some ⟨p, 0, none⟩)) ∧ DiskAt w.heap.size w' p bm (playedS room l) ∧ Below w.heap.size w w' := by
  have hu35 := Try.underlying35
  have HR := Aside0.mk hr
  have HQ := Aside0.mk hq
  have HRO := Aside0.mk hroom
  have hlen : l.length ≤ 9223372036854775807 := hr.2.1
  have HLN := Aside0.mk hlen
  have HN : Aside0 (Calls Try.prog 11 #[.int .i64 room] w fun e w' => ∃ p bm, e = .returned (.tuple #[.pointer (some ⟨p, 0, none⟩), .int .i64 0]) ∧ Below w.heap.size w w' ∧ DiskAt w.heap.size w' p bm (newS room)) := ⟨(disk_New.calls w room).mono (by
    rintro e W1 ⟨hb, ⟨_, _, p, bm, rfl, hD⟩ | ⟨hno, _⟩⟩
    · exact ⟨p, bm, rfl, hb, hD⟩
    · exact absurd hroom hno)⟩
  clear hr hq hroom hlen
  go_enter Try.func29, Try.ntmps29
  go_wp2_with ((with_reducible refine gate_callee (f := 11) rfl ?_); refine goesL_ (some _) rfl rfl Try.func11 (by kernel_rfl) rfl #[.int .i64 room] rfl My.gx ?_; (refine HN.out.mono ?_); rintro e W1 ⟨p, bm, rfl, hb, hD⟩; refine ⟨_, rfl, ?_⟩; have HD := Aside0.mk hD; have HB := Aside0.mk hb; clear hD hb)
  go_loopg [7] (l.length + 1) (fun kq v7 w' => ∃ (i : Nat) (x : Int), v7 = .int .i64 x ∧ Aside0 (x = (i : Int)) ∧ Aside0 (kq + i = l.length + 1) ∧ Aside0 (i ≤ l.length) ∧ Aside0 (DiskAt w.heap.size w' p bm ((l.take i).foldl actS (newS room))) ∧ Aside0 (Below w.heap.size w w'))
  case atStart => exact ⟨0, _, rfl, ⟨rfl⟩, ⟨rfl⟩, ⟨Nat.zero_le _⟩, HD, HB⟩
  case round =>
    clear HD HB HN
    obtain ⟨i, x, rfl, hx, hk, hi, HD, HB⟩ := hrel
    by_cases c9 : i < l.length
    · have q1 : x < (l.length : Int) := by have := hx.out; omega
      have p1 : (0 : Int) ≤ x := by have := hx.out; omega
      have c3 : decide (x < (l.length : Int)) = true := decide_eq_true q1
      obtain ⟨ad, A4, c4, e1, x0, x1, x2, x3, x4, l4, g4⟩ := at_T35 (Kd.C_below HR.out HB.out) x p1 q1
      cases e1
      have hw : wrap64 (x + 1) = x + 1 := by have := HLN.out; have := hx.out; unfold wrap64; omega
      have HW := Aside0.mk hw
      have hmem := HQ.out _ (mem35 l i c9)
      have htk := take35 l i c9
      rw [← hx.out] at hmem htk
      have HT := Aside0.mk htk
      have HCI := Aside0.mk c9
      have g0 : Kd.C (Kd.int .i64) w A4 (rd_T35 l x).f4.length (rd_T35 l x).f4 := by
        obtain ⟨ad', A4', c4', e1', _, _, _, _, y4, _, g4'⟩ := at_T35 HR.out x p1 q1
        obtain rfl : ad' = ad := by injection e1'.symm
        have hq4 := (HB.out.cell (World.block_lt_of_cell? w _ y4)).trans y4
        rw [x4] at hq4
        injection hq4 with hq4
        injection hq4 with hq4 _ _
        rw [hq4]
        exact g4'
      obtain ⟨F, hF⟩ : ∃ F, rd_T35 l x = F := ⟨_, rfl⟩
      rw [hF] at x0 x1 x2 x3 x4 l4 g0 hmem HT
      have HL4 := Aside0.mk l4
      have HG0 := Aside0.mk g0
      have HM := Aside0.mk hmem
      obtain ⟨S, hS⟩ : ∃ S, (l.take i).foldl actS (newS room) = S := ⟨_, rfl⟩
      rw [hS] at HD
      have HSS := Aside0.mk hS
      clear g4 g0 l4 hmem htk c9 hF hw hS
      have p2 := eq_true p1
      have q2 := eq_true q1
      go_upto_region 10 with ((with_reducible refine gate_dst (N := 8) rfl ?_); refine My.bx 8 #[.int .i64 0, .int .i64 0, .int .i64 0, .string ⟨#[]⟩, .slice none 0 0] 35 ?_; intro g8 hg w8 hbox hb; have BX := My.am hbox; have HB8 := Aside0.mk hb; have G8 := Aside0.mk (show wr.heap.size ≤ g8 by rw [hg]; exact Nat.le_refl _); clear hb hbox hg x0 x1 x2 x3 x4; have hz := My.cz5 BX)
      refine at_world (J := fun W => Below wr.heap.size wr W ∧ W.heap[g8]? = some (.cells #[.int .i64 F.f0, .int .i64 F.f1, .int .i64 F.f2, .string F.f3, .slice A4 F.f4.length c4] 35 (0, 0))) ⟨below_set (below_set (below_set (below_set (below_set HB8.out G8.out) G8.out) G8.out) G8.out) G8.out, My.put5 BX.out⟩ ?_
      clear BX HB8 hz
      rintro W2 ⟨B2, Y2⟩
      have HY2 := My.am Y2
      have hz := My.cz5 HY2
      have HDD := Aside0.mk (HD.out.up B2)
      have HBB := Aside0.mk (HB.out.trans (B2.mono HB.out.size))
      clear B2 Y2 HD HB
      have hkeep : ∀ W, Fr p bm W2 W → (Kd.int .i64).C W A4 F.f4.length F.f4 := fun W hf => Kd.C_below HG0.out (HDD.out.below HBB.out HBB.out.size hf)
      have HKP := Aside0.mk hkeep
      clear hkeep
      by_cases a0 : F.f0 = 0
      · have m1 : decide (F.f0 = 0) = true := decide_eq_true a0
        have m2 : (F.f0 == 0) = true := by rw [a0]; rfl
        have hact : (actS S F) = ((appS S F.f1 F.f3).1) := by unfold actS;  rw [if_pos a0]
        have HACT := Aside0.mk hact
        clear hact a0
        go_wp2_with ((with_reducible refine gate_callee (f := 18) rfl ?_); refine goesL_ (some _) rfl rfl Try.func18 (by kernel_rfl) rfl #[.pointer (some ⟨p, 0, none⟩), .int .i64 F.f1, .string F.f3] rfl My.gx ?_; (refine (disk_Disk_Append.calls HDD.out F.f1 HM.out.2.1 F.f3 HM.out.2.2.2.1).mono ?_); rintro e W4 ⟨rfl, hD4, hF4⟩; refine ⟨_, rfl, ?_⟩; have HD4 := Aside0.mk hD4; have HF4 := Aside0.mk hF4; clear hD4 hF4)
        have hI := HCI.out
        have hx1 := hx.out
        have hk1 := hk.out
        go_roundg (l.length - i)
        case measure => omega
        case rel => exact ⟨i + 1, x + 1, by first | rfl | (rw [HW.out]), ⟨by omega⟩, ⟨by omega⟩, ⟨by omega⟩, ⟨by rw [HT.out, List.foldl_append, HSS.out]; show DiskAt _ _ _ _ (actS S F); rw [HACT.out]; exact HD4.out⟩, ⟨HDD.out.below HBB.out HBB.out.size HF4.out⟩⟩
      · have m0_ : decide (F.f0 = 0) = false := decide_eq_false a0
        have n0_ : (F.f0 == 0) = false := beq_eq_false_iff_ne.2 a0
        have AA0 := Aside0.mk a0
        clear a0
        by_cases a1 : F.f0 = 1
        · have m1 : decide (F.f0 = 1) = true := decide_eq_true a1
          have m2 : (F.f0 == 1) = true := by rw [a1]; rfl
          have hact : (actS S F) = ((syncS S F.f1).1) := by unfold actS; rw [if_neg AA0.out]; rw [if_pos a1]
          have HACT := Aside0.mk hact
          clear hact a1
          go_wp2_with ((with_reducible refine gate_callee (f := 19) rfl ?_); refine goesL_ (some _) rfl rfl Try.func19 (by kernel_rfl) rfl #[.pointer (some ⟨p, 0, none⟩), .int .i64 F.f1] rfl My.gx ?_; (refine (disk_Disk_Sync.calls HDD.out F.f1 HM.out.2.1).mono ?_); rintro e W4 ⟨rfl, hD4, hF4⟩; refine ⟨_, rfl, ?_⟩; have HD4 := Aside0.mk hD4; have HF4 := Aside0.mk hF4; clear hD4 hF4)
          have hI := HCI.out
          have hx1 := hx.out
          have hk1 := hk.out
          go_roundg (l.length - i)
          case measure => omega
          case rel => exact ⟨i + 1, x + 1, by first | rfl | (rw [HW.out]), ⟨by omega⟩, ⟨by omega⟩, ⟨by omega⟩, ⟨by rw [HT.out, List.foldl_append, HSS.out]; show DiskAt _ _ _ _ (actS S F); rw [HACT.out]; exact HD4.out⟩, ⟨HDD.out.below HBB.out HBB.out.size HF4.out⟩⟩
        · have m1_ : decide (F.f0 = 1) = false := decide_eq_false a1
          have n1_ : (F.f0 == 1) = false := beq_eq_false_iff_ne.2 a1
          have AA1 := Aside0.mk a1
          clear a1
          by_cases a2 : F.f0 = 2
          · have m1 : decide (F.f0 = 2) = true := decide_eq_true a2
            have m2 : (F.f0 == 2) = true := by rw [a2]; rfl
            have hact : (actS S F) = ((cutS S F.f1 F.f2).1) := by unfold actS; rw [if_neg AA0.out]; rw [if_neg AA1.out]; rw [if_pos a2]
            have HACT := Aside0.mk hact
            clear hact a2
            go_wp2_with ((with_reducible refine gate_callee (f := 20) rfl ?_); refine goesL_ (some _) rfl rfl Try.func20 (by kernel_rfl) rfl #[.pointer (some ⟨p, 0, none⟩), .int .i64 F.f1, .int .i64 F.f2] rfl My.gx ?_; (refine (disk_Disk_Cut.calls HDD.out F.f1 HM.out.2.1 F.f2).mono ?_); rintro e W4 ⟨rfl, hD4, hF4⟩; refine ⟨_, rfl, ?_⟩; have HD4 := Aside0.mk hD4; have HF4 := Aside0.mk hF4; clear hD4 hF4)
            have hI := HCI.out
            have hx1 := hx.out
            have hk1 := hk.out
            go_roundg (l.length - i)
            case measure => omega
            case rel => exact ⟨i + 1, x + 1, by first | rfl | (rw [HW.out]), ⟨by omega⟩, ⟨by omega⟩, ⟨by omega⟩, ⟨by rw [HT.out, List.foldl_append, HSS.out]; show DiskAt _ _ _ _ (actS S F); rw [HACT.out]; exact HD4.out⟩, ⟨HDD.out.below HBB.out HBB.out.size HF4.out⟩⟩
          · have m2_ : decide (F.f0 = 2) = false := decide_eq_false a2
            have n2_ : (F.f0 == 2) = false := beq_eq_false_iff_ne.2 a2
            have AA2 := Aside0.mk a2
            clear a2
            by_cases a3 : F.f0 = 3
            · have m1 : decide (F.f0 = 3) = true := decide_eq_true a3
              have m2 : (F.f0 == 3) = true := by rw [a3]; rfl
              have hact : (actS S F) = ((remS S F.f1).1) := by unfold actS; rw [if_neg AA0.out]; rw [if_neg AA1.out]; rw [if_neg AA2.out]; rw [if_pos a3]
              have HACT := Aside0.mk hact
              clear hact a3
              go_wp2_with ((with_reducible refine gate_callee (f := 21) rfl ?_); refine goesL_ (some _) rfl rfl Try.func21 (by kernel_rfl) rfl #[.pointer (some ⟨p, 0, none⟩), .int .i64 F.f1] rfl My.gx ?_; (refine (disk_Disk_Remove.calls HDD.out F.f1 HM.out.2.1).mono ?_); rintro e W4 ⟨rfl, hD4, hF4⟩; refine ⟨_, rfl, ?_⟩; have HD4 := Aside0.mk hD4; have HF4 := Aside0.mk hF4; clear hD4 hF4)
              have hI := HCI.out
              have hx1 := hx.out
              have hk1 := hk.out
              go_roundg (l.length - i)
              case measure => omega
              case rel => exact ⟨i + 1, x + 1, by first | rfl | (rw [HW.out]), ⟨by omega⟩, ⟨by omega⟩, ⟨by omega⟩, ⟨by rw [HT.out, List.foldl_append, HSS.out]; show DiskAt _ _ _ _ (actS S F); rw [HACT.out]; exact HD4.out⟩, ⟨HDD.out.below HBB.out HBB.out.size HF4.out⟩⟩
            · have m3_ : decide (F.f0 = 3) = false := decide_eq_false a3
              have n3_ : (F.f0 == 3) = false := beq_eq_false_iff_ne.2 a3
              have AA3 := Aside0.mk a3
              clear a3
              by_cases a4 : F.f0 = 4
              · have m1 : decide (F.f0 = 4) = true := decide_eq_true a4
                have m2 : (F.f0 == 4) = true := by rw [a4]; rfl
                have hact : (actS S F) = ((armS S F.f2 F.f4).1) := by unfold actS; rw [if_neg AA0.out]; rw [if_neg AA1.out]; rw [if_neg AA2.out]; rw [if_neg AA3.out]; rw [if_pos a4]
                have HACT := Aside0.mk hact
                clear hact a4
                go_wp2_with ((with_reducible refine gate_callee (f := 22) rfl ?_); refine goesL_ (some _) rfl rfl Try.func22 (by kernel_rfl) rfl #[.pointer (some ⟨p, 0, none⟩), .int .i64 F.f2, .slice A4 F.f4.length c4] rfl My.gx ?_; (refine (disk_Disk_Arm.calls HDD.out HBB.out.size F.f2 (wf_hi HM.out.2.2.1) A4 c4 F.f4 HL4.out HM.out.2.2.2.2.2.1 HKP.out).mono ?_); rintro e W4 ⟨rfl, hD4, hF4⟩; refine ⟨_, rfl, ?_⟩; have HD4 := Aside0.mk hD4; have HF4 := Aside0.mk hF4; clear hD4 hF4)
                have hI := HCI.out
                have hx1 := hx.out
                have hk1 := hk.out
                go_roundg (l.length - i)
                case measure => omega
                case rel => exact ⟨i + 1, x + 1, by first | rfl | (rw [HW.out]), ⟨by omega⟩, ⟨by omega⟩, ⟨by omega⟩, ⟨by rw [HT.out, List.foldl_append, HSS.out]; show DiskAt _ _ _ _ (actS S F); rw [HACT.out]; exact HD4.out⟩, ⟨HDD.out.below HBB.out HBB.out.size HF4.out⟩⟩
              · have m4_ : decide (F.f0 = 4) = false := decide_eq_false a4
                have n4_ : (F.f0 == 4) = false := beq_eq_false_iff_ne.2 a4
                have AA4 := Aside0.mk a4
                clear a4
                by_cases a5 : F.f0 = 5
                · have m1 : decide (F.f0 = 5) = true := decide_eq_true a5
                  have m2 : (F.f0 == 5) = true := by rw [a5]; rfl
                  have hact : (actS S F) = ((crashS S F.f4).1) := by unfold actS; rw [if_neg AA0.out]; rw [if_neg AA1.out]; rw [if_neg AA2.out]; rw [if_neg AA3.out]; rw [if_neg AA4.out]; rw [if_pos a5]
                  have HACT := Aside0.mk hact
                  clear hact a5
                  go_wp2_with ((with_reducible refine gate_callee (f := 23) rfl ?_); refine goesL_ (some _) rfl rfl Try.func23 (by kernel_rfl) rfl #[.pointer (some ⟨p, 0, none⟩), .slice A4 F.f4.length c4] rfl My.gx ?_; (refine (disk_Disk_Crash.calls HDD.out A4 c4 F.f4 HL4.out HKP.out).mono ?_); rintro e W4 ⟨rfl, hD4, hF4⟩; refine ⟨_, rfl, ?_⟩; have HD4 := Aside0.mk hD4; have HF4 := Aside0.mk hF4; clear hD4 hF4)
                  have hI := HCI.out
                  have hx1 := hx.out
                  have hk1 := hk.out
                  go_roundg (l.length - i)
                  case measure => omega
                  case rel => exact ⟨i + 1, x + 1, by first | rfl | (rw [HW.out]), ⟨by omega⟩, ⟨by omega⟩, ⟨by omega⟩, ⟨by rw [HT.out, List.foldl_append, HSS.out]; show DiskAt _ _ _ _ (actS S F); rw [HACT.out]; exact HD4.out⟩, ⟨HDD.out.below HBB.out HBB.out.size HF4.out⟩⟩
                · have m5_ : decide (F.f0 = 5) = false := decide_eq_false a5
                  have n5_ : (F.f0 == 5) = false := beq_eq_false_iff_ne.2 a5
                  have AA5 := Aside0.mk a5
                  clear a5
                  have hact : (actS S F) = (boot S) := by unfold actS; rw [if_neg AA0.out]; rw [if_neg AA1.out]; rw [if_neg AA2.out]; rw [if_neg AA3.out]; rw [if_neg AA4.out]; rw [if_neg AA5.out]; try rfl
                  have HACT := Aside0.mk hact
                  clear hact
                  go_wp2_with ((with_reducible refine gate_callee (f := 24) rfl ?_); refine goesL_ (some _) rfl rfl Try.func24 (by kernel_rfl) rfl #[.pointer (some ⟨p, 0, none⟩)] rfl My.gx ?_; (refine (disk_Disk_Boot.calls HDD.out).mono ?_); rintro e W4 ⟨rfl, hD4, hF4⟩; refine ⟨_, rfl, ?_⟩; have HD4 := Aside0.mk hD4; have HF4 := Aside0.mk hF4; clear hD4 hF4)
                  have hI := HCI.out
                  have hx1 := hx.out
                  have hk1 := hk.out
                  go_roundg (l.length - i)
                  case measure => omega
                  case rel => exact ⟨i + 1, x + 1, by first | rfl | (rw [HW.out]), ⟨by omega⟩, ⟨by omega⟩, ⟨by omega⟩, ⟨by rw [HT.out, List.foldl_append, HSS.out]; show DiskAt _ _ _ _ (actS S F); rw [HACT.out]; exact HD4.out⟩, ⟨HDD.out.below HBB.out HBB.out.size HF4.out⟩⟩
    · have hi2 := hi.out
      have hx1 := hx.out
      have c3 : decide (x < (l.length : Int)) = false := decide_eq_false (by omega)
      have e : l.take i = l := List.take_of_length_le (by omega)
      have h1 := HD.out
      rw [e] at h1
      have HE := Aside0.mk h1
      clear h1 hi2 hx1 c9 e HD
      go_wp2
      go_ret
      exact ⟨p, bm, rfl, HE.out, HB.out⟩
end
/-! #### awake -/
def aw1 : DS := (appS (newS 100) 1 ⟨#[97, 98]⟩).1
def aw2 : DS := (syncS aw1 1).1
def aw3 : DS := (appS aw2 1 ⟨#[99, 100]⟩).1
def aw4 : DS := (crashS aw3 [1]).1
def aw5 : DS := (appS aw4 1 ⟨#[120]⟩).1
def aw6 : DS := boot aw5
theorem aw_1 : (appS (newS 100) 1 ⟨#[97, 98]⟩).2 = 0 := by kernel_rfl
theorem aw_2 : (syncS aw1 1).2 = 0 := by kernel_rfl
theorem aw_3 : (appS aw2 1 ⟨#[99, 100]⟩).2 = 0 := by kernel_rfl
theorem aw_4 : (crashS aw3 [1]).2 = 0 := by kernel_rfl
theorem aw_4d : aw4.dead = true := by kernel_rfl
theorem aw_5 : (appS aw4 1 ⟨#[120]⟩).2 = 150 := by kernel_rfl
theorem aw_6 : (findF aw6 1).f1 = ⟨#[97, 98, 99]⟩ := by kernel_rfl
theorem aw_7 : findE aw6 1 = 0 := by kernel_rfl
theorem aw_8 : findE aw6 2 = 152 := by kernel_rfl
theorem aw_9 : useL aw6.L = 3 := by kernel_rfl
section
variable {base p bm : Nat} {w w0 : World} {s : DS}
theorem keep1 (h : DiskAt base w p bm s) : ∀ W, Fr p bm (w.alloc (.cells #[.int .i64 1] 3)) W → (Kd.int .i64).C W (some ⟨w.heap.size, 0, none⟩) [(1 : Int)].length [1] := by
  intro W hf
  have h1 : W.heap[w.heap.size]? = some (.cells #[.int .i64 1] 3 (0, 0)) := by
    rw [hf.block _ (by simp) (by have := h.lt; omega) (by have := h.ltm; omega)]
    exact (MapKept.heap_alloc w _).1
  have hR : (Kd.int .i64).R 3 W 0 (fun _ => True) (.slice (some ⟨w.heap.size, 0, none⟩) 1 1) [1] := ⟨fun _ _ => trivial, [.int .i64 1], ⟨rfl, .inr ⟨w.heap.size, 1, #[.int .i64 1], rfl, Nat.zero_le _, h1, Nat.le_refl _, by unfold maxLen; omega, rfl, rfl⟩⟩, My.enc_reps (fun x => .int .i64 x) [1]⟩
  exact (Kd.R_reads' hR).2.2
set_option maxHeartbeats 8000000 in
set_option maxRecDepth 100000 in
theorem awake.calls (w : World) : Calls Try.prog 10 #[] w fun e w' => e = .returned (.bool true) ∧ Below w.heap.size w w' := by
  have HN : Aside0 (Calls Try.prog 11 #[.int .i64 100] w fun e w' => ∃ p bm, e = .returned (.tuple #[.pointer (some ⟨p, 0, none⟩), .int .i64 0]) ∧ Below w.heap.size w w' ∧ DiskAt w.heap.size w' p bm (newS 100)) := ⟨(disk_New.calls w 100).mono (by
    rintro e W1 ⟨hb, ⟨_, _, p, bm, rfl, hD⟩ | ⟨hno, _⟩⟩
    · exact ⟨p, bm, rfl, hb, hD⟩
    · exact absurd ⟨by decide, by decide⟩ hno)⟩
  go_enter Try.func10, Try.ntmps10
  go_wp2_with (first
    | ((with_reducible refine gate_callee (f := 11) rfl ?_); refine goesL_ (some 8) rfl rfl Try.func11 (by kernel_rfl) rfl #[.int .i64 100] rfl My.gx ?_; (refine (HN.out).mono ?_); rintro e W8 ⟨p, bm, rfl, hb, hD⟩; refine ⟨_, rfl, ?_⟩; have HD0 := Aside0.mk hD; have HB0 := Aside0.mk hb; clear hD hb)
    | ((with_reducible refine gate_callee (f := 18) rfl ?_); (refine gate_guard (by rfl) ?_; dsimp only); refine goesL_ (some 19) rfl rfl Try.func18 (by kernel_rfl) rfl #[.pointer (some ⟨p, 0, none⟩), .int .i64 1, .string ⟨#[97, 98]⟩] rfl My.gx ?_; (refine (disk_Disk_Append.calls HD0.out 1 (by decide) ⟨#[97, 98]⟩ (by decide)).mono ?_); rintro e W19 ⟨rfl, hD, hF⟩; refine ⟨_, rfl, ?_⟩; have HD1 := Aside0.mk (show DiskAt w.heap.size W19 p bm aw1 from hD); have HB1 := Aside0.mk (HD0.out.below HB0.out HB0.out.size hF); clear hD hF; rw [aw_1])
    | ((with_reducible refine gate_callee (f := 19) rfl ?_); (refine gate_guard (by rfl) ?_; dsimp only); refine goesL_ (some 24) rfl rfl Try.func19 (by kernel_rfl) rfl #[.pointer (some ⟨p, 0, none⟩), .int .i64 1] rfl My.gx ?_; (refine (disk_Disk_Sync.calls HD1.out 1 (by decide)).mono ?_); rintro e W24 ⟨rfl, hD, hF⟩; refine ⟨_, rfl, ?_⟩; have HD2 := Aside0.mk (show DiskAt w.heap.size W24 p bm aw2 from hD); have HB2 := Aside0.mk (HD1.out.below HB1.out HB1.out.size hF); clear hD hF; rw [aw_2])
    | ((with_reducible refine gate_callee (f := 18) rfl ?_); (refine gate_guard (by rfl) ?_; dsimp only); refine goesL_ (some 29) rfl rfl Try.func18 (by kernel_rfl) rfl #[.pointer (some ⟨p, 0, none⟩), .int .i64 1, .string ⟨#[99, 100]⟩] rfl My.gx ?_; (refine (disk_Disk_Append.calls HD2.out 1 (by decide) ⟨#[99, 100]⟩ (by decide)).mono ?_); rintro e W29 ⟨rfl, hD, hF⟩; refine ⟨_, rfl, ?_⟩; have HD3 := Aside0.mk (show DiskAt w.heap.size W29 p bm aw3 from hD); have HB3 := Aside0.mk (HD2.out.below HB2.out HB2.out.size hF); clear hD hF; rw [aw_3])
    | ((with_reducible refine gate_callee (f := 23) rfl ?_); (refine gate_guard (by rfl) ?_; dsimp only); refine goesL_ (some 35) rfl rfl Try.func23 (by kernel_rfl) rfl #[.pointer (some ⟨p, 0, none⟩), .slice (some ⟨W29.heap.size, 0, none⟩) [(1 : Int)].length 1] rfl My.gx ?_; (refine (disk_Disk_Crash.calls (HD3.out.up (below_alloc (Below.refl _ _) _)) (some ⟨W29.heap.size, 0, none⟩) 1 [1] (Nat.le_refl _) (keep1 HD3.out)).mono ?_); rintro e W35 ⟨rfl, hD, hF⟩; refine ⟨_, rfl, ?_⟩; have HD4 := Aside0.mk (show DiskAt w.heap.size W35 p bm aw4 from hD); have HB4 := Aside0.mk ((HD3.out.up (below_alloc (Below.refl _ _) (.cells #[.int .i64 1] 3))).below (below_alloc HB3.out (.cells #[.int .i64 1] 3)) (below_alloc HB3.out (.cells #[.int .i64 1] 3)).size hF); clear hD hF; rw [aw_4])
    | ((with_reducible refine gate_callee (f := 25) rfl ?_); (refine gate_guard (by rfl) ?_; dsimp only); refine goesL_ (some 40) rfl rfl Try.func25 (by kernel_rfl) rfl #[.pointer (some ⟨p, 0, none⟩)] rfl My.gx ?_; (refine (disk_Disk_Dead.calls HD4.out).mono ?_); rintro e W40 ⟨rfl, hb⟩; refine ⟨_, rfl, ?_⟩; replace HD4 := Aside0.mk (HD4.out.up hb); replace HB4 := Aside0.mk (HB4.out.trans (hb.mono HB4.out.size)); clear hb; rw [aw_4d])
    | ((with_reducible refine gate_callee (f := 18) rfl ?_); (refine gate_guard (by rfl) ?_; dsimp only); refine goesL_ (some 45) rfl rfl Try.func18 (by kernel_rfl) rfl #[.pointer (some ⟨p, 0, none⟩), .int .i64 1, .string ⟨#[120]⟩] rfl My.gx ?_; (refine (disk_Disk_Append.calls HD4.out 1 (by decide) ⟨#[120]⟩ (by decide)).mono ?_); rintro e W45 ⟨rfl, hD, hF⟩; refine ⟨_, rfl, ?_⟩; have HD5 := Aside0.mk (show DiskAt w.heap.size W45 p bm aw5 from hD); have HB5 := Aside0.mk (HD4.out.below HB4.out HB4.out.size hF); clear hD hF; rw [aw_5])
    | ((with_reducible refine gate_callee (f := 24) rfl ?_); (refine gate_guard (by rfl) ?_; dsimp only); refine goesL_ (some 50) rfl rfl Try.func24 (by kernel_rfl) rfl #[.pointer (some ⟨p, 0, none⟩)] rfl My.gx ?_; (refine (disk_Disk_Boot.calls HD5.out).mono ?_); rintro e W50 ⟨rfl, hD, hF⟩; refine ⟨_, rfl, ?_⟩; have HD6 := Aside0.mk (show DiskAt w.heap.size W50 p bm aw6 from hD); have HB6 := Aside0.mk (HD5.out.below HB5.out HB5.out.size hF); clear hD hF)
    | ((with_reducible refine gate_callee (f := 17) rfl ?_); refine goesL_ (some 55) rfl rfl Try.func17 (by kernel_rfl) rfl #[.pointer (some ⟨p, 0, none⟩), .int .i64 1] rfl My.gx ?_; (refine (disk_Disk_Read.calls HD6.out 1 (by decide)).mono ?_); rintro e W55 ⟨rfl, hb⟩; refine ⟨_, rfl, ?_⟩; replace HD6 := Aside0.mk (HD6.out.up hb); replace HB6 := Aside0.mk (HB6.out.trans (hb.mono HB6.out.size)); clear hb; rw [aw_6, aw_7])
    | ((with_reducible refine gate_callee (f := 17) rfl ?_); refine goesL_ (some 60) rfl rfl Try.func17 (by kernel_rfl) rfl #[.pointer (some ⟨p, 0, none⟩), .int .i64 2] rfl My.gx ?_; (refine (disk_Disk_Read.calls HD6.out 2 (by decide)).mono ?_); rintro e W60 ⟨rfl, hb⟩; refine ⟨_, rfl, ?_⟩; replace HD6 := Aside0.mk (HD6.out.up hb); replace HB6 := Aside0.mk (HB6.out.trans (hb.mono HB6.out.size)); clear hb; rw [aw_8])
    | ((with_reducible refine gate_callee (f := 26) rfl ?_); (refine gate_guard (by rfl) ?_; dsimp only); refine goesL_ (some 75) rfl rfl Try.func26 (by kernel_rfl) rfl #[.pointer (some ⟨p, 0, none⟩)] rfl My.gx ?_; (refine (disk_Disk_Used.calls HD6.out).mono ?_); rintro e W75 ⟨rfl, hb⟩; refine ⟨_, rfl, ?_⟩; replace HD6 := Aside0.mk (HD6.out.up hb); replace HB6 := Aside0.mk (HB6.out.trans (hb.mono HB6.out.size)); clear hb; rw [aw_9]))
  go_ret
  exact ⟨rfl, HB6.out⟩
end
/-! #### plain facts of the acts -/
theorem few_ends (l : List S35) (hl : l.length ≤ 9223372036854775000) : ∃ k r, ententelaw15_Few.f k l = some r := by
  have key : ∀ d i : Nat, i + d = l.length → ∀ n : Int, ∃ r, ententelaw15_Few.l0 (d + 1) l n (i : Int) = some r := by
    intro d
    induction d with
    | zero =>
      intro i hi n
      refine ⟨true, ?_⟩
      unfold ententelaw15_Few.l0
      rw [if_neg (by omega)]
    | succ d ih =>
      intro i hi n
      unfold ententelaw15_Few.l0
      rw [if_pos (by omega), if_pos (by omega)]
      split
      · exact ⟨false, rfl⟩
      · have hw : wrap64 ((i : Int) + 1) = ((i + 1 : Nat) : Int) := by unfold wrap64; omega
        rw [hw]
        exact ih (i + 1) (by omega) _
  obtain ⟨r, hr⟩ := key l.length 0 (by omega) 0
  exact ⟨l.length + 1, r, hr⟩
theorem find_ends (L : List S40) (hl : L.length ≤ 1000) (n : Int) : ∃ k, ententelaw15_find.f k L n = some ((getL L n).f0, (getL L n).f1, (getL L n).f2, hasL L n) := by
  have key : ∀ d i : Nat, i + d = L.length → (∀ y ∈ L.take i, y.f0 ≠ n) → ententelaw15_find.l0 (d + 1) L n (i : Int) = some ((getL L n).f0, (getL L n).f1, (getL L n).f2, hasL L n) := by
    intro d
    induction d with
    | zero =>
      intro i hi hno
      rw [List.take_of_length_le (by omega)] at hno
      obtain ⟨f1, f2, _⟩ := hasL_false hno
      unfold ententelaw15_find.l0
      rw [if_neg (by omega), f1, f2]
      rfl
    | succ d ih =>
      intro i hi hno
      unfold ententelaw15_find.l0
      rw [if_pos (by omega), if_pos (by omega)]
      have hsplit : L = L.take i ++ rd_T40 L (i : Int) :: L.drop (i + 1) := by rw [← drop40 L i (by omega), List.take_append_drop]
      by_cases c : (rd_T40 L (i : Int)).f0 = n
      · rw [if_pos c]
        have e1 : L.find? (fun x => decide (x.f0 = n)) = some (rd_T40 L (i : Int)) := by
          obtain ⟨X, hX⟩ : ∃ X, rd_T40 L (i : Int) = X := ⟨_, rfl⟩
          rw [hX] at hsplit c ⊢
          rw [hsplit, List.find?_append, List.find?_eq_none.2 (fun y hy => by simpa using hno y hy)]
          simp [c]
        have e2 : getL L n = rd_T40 L (i : Int) := by unfold getL; rw [e1]
        have e3 : hasL L n = true := by unfold hasL; rw [List.any_eq_true]; exact ⟨_, mem40 L i (by omega), by simpa using c⟩
        rw [e2, e3]
      · rw [if_neg c]
        have hw : wrap64 ((i : Int) + 1) = ((i + 1 : Nat) : Int) := by unfold wrap64; omega
        rw [hw]
        refine ih (i + 1) (by omega) ?_
        intro y hy
        rw [take40 L i (by omega)] at hy
        rcases List.mem_append.1 hy with hy | hy
        · exact hno y hy
        · rw [List.mem_singleton.1 hy]; exact c
  exact ⟨L.length + 1, key L.length 0 (by omega) (by simp)⟩
theorem fallS_room (ks : List Int) (s : DS) : (fallS ks s).room = s.room := rfl
theorem stepS_room (s : DS) : (stepS s).room = s.room := by unfold stepS; split <;> rfl
theorem endS_room (s : DS) : (endS s).1.room = s.room := by unfold endS; split <;> simp [fallS_room, stepS_room]
theorem chgS_room (s : DS) (L : List S40) : (chgS s L).1.room = s.room := by unfold chgS; split <;> simp [fallS_room, stepS_room]
theorem actS_room (s : DS) (a : S35) : (actS s a).room = s.room := by
  unfold actS appS syncS cutS remS armS crashS
  repeat' split
  all_goals first | rfl | exact endS_room _ | exact chgS_room _ _ | simp [fallS_room, boot]
theorem played_room (room : Int) (acts : List S35) : (playedS room acts).room = room := by
  have key : ∀ (l : List S35) (s : DS), (l.foldl actS s).room = s.room := by
    intro l
    induction l with
    | nil => intro s; rfl
    | cons a r ih => intro s; rw [List.foldl_cons, ih, actS_room]
  exact key acts _
theorem use_app {s : DS} (h : Inv s) (n : Int) (d : ByteArray) : useL (putL s.L (appF s n d)) = useL s.L + d.size := by
  obtain ⟨A, B, hA, hB, hdel, hput, hc⟩ := splitL h.srt n
  rw [hput _ rfl, useL_app, useL_cons]
  have hsz : ((getL s.L n).f1 ++ d).size = (getL s.L n).f1.size + d.size := ByteArray.size_append
  have e0 : ((appF s n d).f1.size : Int) = (getL s.L n).f1.size + d.size := by unfold appF; simp [hsz]
  rw [e0]
  rcases hc with ⟨_, _, e⟩ | ⟨_, e1, e⟩
  · have e2 := congrArg useL e
    rw [useL_app, useL_cons] at e2
    omega
  · rw [e1]
    have e2 := congrArg useL e
    rw [useL_app] at e2
    have : z40.f1.size = 0 := rfl
    omega
theorem app_cases {s : DS} (h : Inv s) (d : ByteArray) : ((appS s 0 d).2 = 150 ∧ (appS s 0 d).1.dead = true) ∨ ((appS s 0 d).2 = 151 ∧ (appS s 0 d).1 = s ∧ s.dead = false) ∨ ((appS s 0 d).2 = 0 ∧ (appS s 0 d).1.dead = false ∧ useL (appS s 0 d).1.L = useL s.L + d.size) := by
  unfold appS
  by_cases c1 : s.dead = true
  · rw [if_pos c1]; exact .inl ⟨rfl, c1⟩
  · rw [if_neg c1, if_neg (by omega)]
    have hd : s.dead = false := by simpa using c1
    by_cases c2 : fullB s 0 d = true
    · rw [if_pos c2]; exact .inr (.inl ⟨rfl, rfl, hd⟩)
    · rw [if_neg c2]
      by_cases c3 : d.size = 0
      · rw [if_pos c3]; exact .inr (.inr ⟨rfl, hd, by simp [c3]⟩)
      · rw [if_neg c3]
        unfold endS
        split
        · exact .inl ⟨rfl, rfl⟩
        · refine .inr (.inr ⟨rfl, ?_, ?_⟩)
          · unfold stepS; split <;> exact hd
          · show useL (stepS _).L = _
            rw [stepS_L]
            exact use_app h 0 d

end Go.Proofs.Ytjdpgkfhicpepaa.PA
