/- c15's own text: a disk, walked by hand; Lean checks it. -/
import Derived.Test.YtjdpgkfhicpepaaPAx15
namespace Go.Proofs.Ytjdpgkfhicpepaa.PA
open Go.RowKit Go.Proofs.YtjdpgkfhicpepaaW.PrintWords Go.Proofs.YtjdpgkfhicpepaaW.PrintLast Go.Proofs.YtjdpgkfhicpepaaW.PrintMore
attribute [local go_sem] max2_int min2_int max_two min_two max_three min_three max_four min_four
set_option linter.unusedVariables false
set_option linter.unusedSimpArgs false

/-! a call, of both -/
section
variable {w0 w : World} {q p bm base : Nat} {s : DS}
theorem ref_Sync.calls (h : RefAt w0 w q s) (n : Int) : Calls Try.prog 32 #[.pointer (some ⟨q, 0, none⟩), .int .i64 1, .int .i64 n, .int .i64 0] w fun e w' => e = .returned (.int .i64 (syncS s n).2) ∧ RefAt w0 w' q (syncS s n).1 ∧ FrQ q w w' := by
  have e : stepR s 1 n 0 = syncS s n := by unfold stepR; rw [if_pos rfl]
  rw [← e]
  exact ref_Step.calls h 1 n 0 (.inl rfl)
theorem ref_Cut.calls (h : RefAt w0 w q s) (n z : Int) : Calls Try.prog 32 #[.pointer (some ⟨q, 0, none⟩), .int .i64 2, .int .i64 n, .int .i64 z] w fun e w' => e = .returned (.int .i64 (cutS s n z).2) ∧ RefAt w0 w' q (cutS s n z).1 ∧ FrQ q w w' := by
  have e : stepR s 2 n z = cutS s n z := by unfold stepR; rw [if_neg (by decide), if_pos rfl]
  rw [← e]
  exact ref_Step.calls h 2 n z (.inr (.inl rfl))
theorem ref_Rem.calls (h : RefAt w0 w q s) (n : Int) : Calls Try.prog 32 #[.pointer (some ⟨q, 0, none⟩), .int .i64 3, .int .i64 n, .int .i64 0] w fun e w' => e = .returned (.int .i64 (remS s n).2) ∧ RefAt w0 w' q (remS s n).1 ∧ FrQ q w w' := by
  have e : stepR s 3 n 0 = remS s n := by unfold stepR; rw [if_neg (by decide), if_neg (by decide)]
  rw [← e]
  exact ref_Step.calls h 3 n 0 (.inr (.inr rfl))
theorem neQ {g t : Nat} {cs : Array Value} (hg : w.heap[g]? = some (.cells cs t (0, 0))) (h : RefAt w0 w q s) (ht : t ≠ 67) : g ≠ q := by
  obtain ⟨A, c, ks, fv, hb, _⟩ := h.blk
  rintro rfl
  rw [hb] at hg
  injection hg with hg
  injection hg with _ hg
  exact ht hg.symm
def does.T3 : Bool × List (List Nat × List Nat) := (true, [([], []), ([], []), ([1], [1]), ([], []), ([3], [3]), ([0, 2, 4], [0, 2, 4]), ([], []), ([], []), ([7], [7]), ([], []), ([9], [9]), ([6, 8, 10, 5], [6, 8, 10]), ([5, 11], [5, 11]), ([12, 11, 0, 1, 2, 3, 4, 5, 6, 7, 8, 9, 10, 11, 12], [12])])
def does.B3 : List Nat := [0, 0, 2, 0, 8, 31, 0, 0, 128, 0, 512, 2047, 4095, 8191]
theorem does.tab3 : rtab .any (opsOf Try.f13 3) = does.T3 := by kernel_rfl
theorem does.bits3 : waitsOk does.T3.2 does.B3 = true := by kernel_rfl
def does.T5 : Bool × List (List Nat × List Nat) := (true, [([], []), ([], []), ([1], [1]), ([0, 2], [0, 2]), ([], []), ([], []), ([5], [5]), ([4, 6, 3], [4, 6]), ([3, 7], [3, 7]), ([8, 7, 0, 1, 2, 3, 4, 5, 6, 7, 8], [8])])
def does.B5 : List Nat := [0, 0, 2, 7, 0, 0, 32, 127, 255, 511]
theorem does.tab5 : rtab .any (opsOf Try.f13 5) = does.T5 := by kernel_rfl
theorem does.bits5 : waitsOk does.T5.2 does.B5 = true := by kernel_rfl
def does.T7 : Bool × List (List Nat × List Nat) := (true, [([], []), ([], []), ([1], [1]), ([], []), ([3], [3]), ([0, 2, 4], [0, 2, 4]), ([], []), ([], []), ([7], [7]), ([], []), ([9], [9]), ([6, 8, 10, 5], [6, 8, 10]), ([5, 11], [5, 11]), ([12, 11, 0, 1, 2, 3, 4, 5, 6, 7, 8, 9, 10, 11, 12], [12])])
def does.B7 : List Nat := [0, 0, 2, 0, 8, 31, 0, 0, 128, 0, 512, 2047, 4095, 8191]
theorem does.tab7 : rtab .any (opsOf Try.f13 7) = does.T7 := by kernel_rfl
theorem does.bits7 : waitsOk does.T7.2 does.B7 = true := by kernel_rfl
def does.T9 : Bool × List (List Nat × List Nat) := (true, [([], []), ([], []), ([1], [1]), ([0, 2], [0, 2]), ([], []), ([], []), ([5], [5]), ([4, 6, 3], [4, 6]), ([3, 7], [3, 7]), ([8, 7, 0, 1, 2, 3, 4, 5, 6, 7, 8], [8])])
def does.B9 : List Nat := [0, 0, 2, 7, 0, 0, 32, 127, 255, 511]
theorem does.tab9 : rtab .any (opsOf Try.f13 9) = does.T9 := by kernel_rfl
theorem does.bits9 : waitsOk does.T9.2 does.B9 = true := by kernel_rfl
def does.T11 : Bool × List (List Nat × List Nat) := (true, [([], []), ([], []), ([1], [1]), ([], []), ([3], [3]), ([0, 2, 4], [0, 2, 4]), ([], []), ([], []), ([7], [7]), ([], []), ([9], [9]), ([6, 8, 10, 5], [6, 8, 10]), ([5, 11], [5, 11]), ([12, 11, 0, 1, 2, 3, 4, 5, 6, 7, 8, 9, 10, 11, 12], [12])])
def does.B11 : List Nat := [0, 0, 2, 0, 8, 31, 0, 0, 128, 0, 512, 2047, 4095, 8191]
theorem does.tab11 : rtab .any (opsOf Try.f13 11) = does.T11 := by kernel_rfl
theorem does.bits11 : waitsOk does.T11.2 does.B11 = true := by kernel_rfl
def does.T13 : Bool × List (List Nat × List Nat) := (true, [([], []), ([], []), ([1], [1]), ([0, 2], [0, 2]), ([], []), ([], []), ([5], [5]), ([4, 6, 3], [4, 6]), ([3, 7], [3, 7]), ([8, 7, 0, 1, 2, 3, 4, 5, 6, 7, 8], [8])])
def does.B13 : List Nat := [0, 0, 2, 7, 0, 0, 32, 127, 255, 511]
theorem does.tab13 : rtab .any (opsOf Try.f13 13) = does.T13 := by kernel_rfl
theorem does.bits13 : waitsOk does.T13.2 does.B13 = true := by kernel_rfl
set_option maxHeartbeats 32000000 in
set_option maxRecDepth 100000 in
theorem does.calls (hD : DiskAt w0.heap.size w p bm s) (hR : RefAt w0 w q s) (F : S35) (A4 : Option Addr) (c4 : Nat) (hC : (Kd.int .i64).C w0 A4 F.f4.length F.f4) (hc : F.f4.length ≤ c4) (hQ : Q35 F) :
    Calls Try.prog 13 #[.pointer (some ⟨p, 0, none⟩), .pointer (some ⟨q, 0, none⟩), .agg #[.int .i64 F.f0, .int .i64 F.f1, .int .i64 F.f2, .string F.f3, .slice A4 F.f4.length c4]] w fun e w' => e = .returned (.bool true) ∧ DiskAt w0.heap.size w' p bm (actS s F) ∧ RefAt w0 w' q (actS s F) := by
  have hu35 := Try.underlying35
  have HD := Aside0.mk hD
  have HR := Aside0.mk hR
  have HC := Aside0.mk hC
  have HL4 := Aside0.mk hc
  have HM := Aside0.mk hQ
  clear hD hR hC hc hQ
  obtain ⟨S, hS⟩ : ∃ S, actS s F = S := ⟨_, rfl⟩
  rw [hS]
  have HSS := Aside0.mk hS
  clear hS
  go_enter Try.func13, Try.ntmps13
  go_upto_region 2 with ((with_reducible refine gate_dst (N := 5) rfl ?_); refine My.bx 5 #[.int .i64 F.f0, .int .i64 F.f1, .int .i64 F.f2, .string F.f3, .slice A4 F.f4.length c4] 35 ?_; intro g5 hg w5 hbox hb; have BX := My.am hbox; replace HD := Aside0.mk (HD.out.up hb); replace HR := Aside0.mk (HR.out.up hb); clear hb hbox hg; have hz := My.cz5 BX)
  refine at_world (J := fun W => DiskAt w0.heap.size W p bm s ∧ RefAt w0 W q s ∧ W.heap[g5]? = some (.cells #[.int .i64 F.f0, .int .i64 F.f1, .int .i64 F.f2, .string F.f3, .slice A4 F.f4.length c4] 35 (0, 0))) ⟨HD.out, HR.out, BX.out⟩ ?_
  clear hz BX HD HR
  rintro W1 ⟨D1, R1, Y1⟩
  have HD := Aside0.mk D1
  have HR := Aside0.mk R1
  have HY := My.am Y1
  have hkeep : ∀ W, Fr p bm W1 W → (Kd.int .i64).C W A4 F.f4.length F.f4 := fun W hf => Kd.C_below HC.out (D1.below R1.bel R1.bel.size hf)
  have HKP := Aside0.mk hkeep
  have hz := My.cz5 HY
  clear hkeep D1 R1 Y1
  by_cases a0 : F.f0 = 0
  · have m1 : decide (F.f0 = 0) = true := decide_eq_true a0
    have m2 : (F.f0 == 0) = true := by rw [a0]; rfl
    have hact : S = (appS s F.f1 F.f3).1 := by rw [← HSS.out]; unfold actS;  rw [if_pos a0]
    subst hact
    clear a0
    go_upto_region 3 with (fail)
    clear hz
    refine start_ (n := 14) (S := fun w' => w'.heap[g5]? = some (.cells #[.int .i64 F.f0, .int .i64 F.f1, .int .i64 F.f2, .string F.f3, .slice A4 F.f4.length c4] 35 (0, 0))) (ds := []) #[false, false, false, false, false, false, false, false, false, false, false, false, false, false] (by kernel_rfl) rfl rfl HY.out (fun hHeld => ?_); refine with_tabW does.tab3 does.bits3 (fun HT_ HW_ => ?_)
    replace HD := Aside0.mk (HD.out.move (W' := W1.drew) (fun _ _ _ => rfl))
    replace HR := Aside0.mk (HR.out.up (Below.drew (Below.refl W1.heap.size W1)))
    replace HKP := Aside0.mk (show ∀ W, Fr p bm W1.drew W → (Kd.int .i64).C W A4 F.f4.length F.f4 from fun W hf => HKP.out W ⟨hf.os, hf.tape, hf.output, hf.size, hf.block⟩)
    generalize W1.drew = W3 at HD HR HKP hHeld ⊢
    refine My.pv_ 0 11 14 1 HT_.out ?_
    refine My.pv_ 1 12 14 3 HT_.out ?_
    refine My.tv_ 2 13 14 7 HT_.out HW_.out hHeld rfl rfl (by rintro w' hS; have hz := My.cz5 (My.am hS); go_simp; with_reducible rfl) ?_
    refine My.pv_ 3 14 14 15 HT_.out ?_
    refine My.tv_ 4 15 14 31 HT_.out HW_.out hHeld rfl rfl (by rintro w' hS; have hz := My.cz5 (My.am hS); go_simp; with_reducible rfl) ?_
    refine My.pv_ 6 17 14 95 HT_.out ?_
    refine My.pv_ 7 18 14 223 HT_.out ?_
    refine My.tv_ 8 19 14 479 HT_.out HW_.out hHeld rfl rfl (by rintro w' hS; have hz := My.cz5 (My.am hS); go_simp; with_reducible rfl) ?_
    refine My.pv_ 9 20 14 991 HT_.out ?_
    refine My.tv_ 10 21 14 2015 HT_.out HW_.out hHeld rfl rfl (by rintro w' hS; have hz := My.cz5 (My.am hS); go_simp; with_reducible rfl) ?_
    refine one_ (i := 5) (N := some 16) (My.Mb 14 2047) rfl rfl (one_of HT_.out (by kernel_rfl)) (by decide) (fun K hK => ?_)
    refine goes_ Try.func18 (by kernel_rfl) rfl #[.pointer (some ⟨p, 0, none⟩), .int .i64 F.f1, .string F.f3] (by rfl) rfl rfl My.gx ?_
    refine (disk_Disk_Append.calls HD.out F.f1 HM.out.2.1 F.f3 HM.out.2.2.2.1).mono ?_
    rintro e W4 ⟨rfl, hD4, hF4⟩
    refine ⟨_, rfl, ?_⟩
    have HR2 := Aside0.mk (HR.out.fr HD.out (Nat.le_refl _) hF4)
    have hY4 := (hF4.block g5 (blk_lt hHeld) (neOf hHeld (cellsOf HD.out) (by decide)) (neMap hHeld HD.out)).trans hHeld
    have HD2 := Aside0.mk hD4
    clear hD4 hF4
    refine hK.out _ _ hY4 (fun hHeld => ?_)
    clear hK K
    refine My.nm 16 ?_
    refine one_ (i := 11) (N := some 22) (My.Mb 14 4095) rfl rfl (one_of HT_.out (by kernel_rfl)) (by decide) (fun K hK => ?_)
    refine goes_ Try.func31 (by kernel_rfl) rfl #[.pointer (some ⟨q, 0, none⟩), .int .i64 F.f1, .string F.f3] (by rfl) rfl rfl My.gx ?_
    refine (ref_Append.calls HR2.out F.f1 F.f3 HM.out.2.2.2.1).mono ?_
    rintro e W5 ⟨rfl, hR5, hF5⟩
    refine ⟨_, rfl, ?_⟩
    have HD5 := Aside0.mk (HD2.out.frq HR2.out hF5)
    have hY5 := (hF5.block g5 (blk_lt hHeld) (neQ hHeld HR2.out (by decide))).trans hHeld
    have HR5 := Aside0.mk hR5
    clear hR5 hF5
    refine hK.out _ _ hY5 (fun hHeld => ?_)
    clear hK K
    refine My.nm 22 ?_
    refine My.pv_ 12 23 14 8191 HT_.out ?_
    refine My.pv_ 13 6 14 16383 HT_.out ?_
    refine done_ (done_of HT_.out (by kernel_rfl)) ?_
    try go_wp2
    go_ret
    exact ⟨by first | rfl | simp, HD5.out, HR5.out⟩
  · have m0_ : decide (F.f0 = 0) = false := decide_eq_false a0
    have n0_ : (F.f0 == 0) = false := beq_eq_false_iff_ne.2 a0
    have AA0 := Aside0.mk a0
    clear a0
    by_cases a1 : F.f0 = 1
    · have m1 : decide (F.f0 = 1) = true := decide_eq_true a1
      have m2 : (F.f0 == 1) = true := by rw [a1]; rfl
      have hact : S = (syncS s F.f1).1 := by rw [← HSS.out]; unfold actS; rw [if_neg AA0.out]; rw [if_pos a1]
      subst hact
      clear a1
      go_upto_region 5 with (fail)
      clear hz
      refine start_ (n := 10) (S := fun w' => w'.heap[g5]? = some (.cells #[.int .i64 F.f0, .int .i64 F.f1, .int .i64 F.f2, .string F.f3, .slice A4 F.f4.length c4] 35 (0, 0))) (ds := []) #[false, false, false, false, false, false, false, false, false, false] (by kernel_rfl) rfl rfl HY.out (fun hHeld => ?_); refine with_tabW does.tab5 does.bits5 (fun HT_ HW_ => ?_)
      replace HD := Aside0.mk (HD.out.move (W' := W1.drew) (fun _ _ _ => rfl))
      replace HR := Aside0.mk (HR.out.up (Below.drew (Below.refl W1.heap.size W1)))
      replace HKP := Aside0.mk (show ∀ W, Fr p bm W1.drew W → (Kd.int .i64).C W A4 F.f4.length F.f4 from fun W hf => HKP.out W ⟨hf.os, hf.tape, hf.output, hf.size, hf.block⟩)
      generalize W1.drew = W3 at HD HR HKP hHeld ⊢
      refine My.pv_ 0 26 10 1 HT_.out ?_
      refine My.pv_ 1 27 10 3 HT_.out ?_
      refine My.tv_ 2 28 10 7 HT_.out HW_.out hHeld rfl rfl (by rintro w' hS; have hz := My.cz5 (My.am hS); go_simp; with_reducible rfl) ?_
      refine My.pv_ 4 30 10 23 HT_.out ?_
      refine My.pv_ 5 31 10 55 HT_.out ?_
      refine My.tv_ 6 32 10 119 HT_.out HW_.out hHeld rfl rfl (by rintro w' hS; have hz := My.cz5 (My.am hS); go_simp; with_reducible rfl) ?_
      refine one_ (i := 3) (N := some 29) (My.Mb 10 127) rfl rfl (one_of HT_.out (by kernel_rfl)) (by decide) (fun K hK => ?_)
      refine goes_ Try.func19 (by kernel_rfl) rfl #[.pointer (some ⟨p, 0, none⟩), .int .i64 F.f1] (by rfl) rfl rfl My.gx ?_
      refine (disk_Disk_Sync.calls HD.out F.f1 HM.out.2.1).mono ?_
      rintro e W4 ⟨rfl, hD4, hF4⟩
      refine ⟨_, rfl, ?_⟩
      have HR2 := Aside0.mk (HR.out.fr HD.out (Nat.le_refl _) hF4)
      have hY4 := (hF4.block g5 (blk_lt hHeld) (neOf hHeld (cellsOf HD.out) (by decide)) (neMap hHeld HD.out)).trans hHeld
      have HD2 := Aside0.mk hD4
      clear hD4 hF4
      refine hK.out _ _ hY4 (fun hHeld => ?_)
      clear hK K
      refine My.nm 29 ?_
      refine one_ (i := 7) (N := some 33) (My.Mb 10 255) rfl rfl (one_of HT_.out (by kernel_rfl)) (by decide) (fun K hK => ?_)
      refine goes_ Try.func32 (by kernel_rfl) rfl #[.pointer (some ⟨q, 0, none⟩), .int .i64 1, .int .i64 F.f1, .int .i64 0] (by rfl) rfl rfl My.gx ?_
      refine (ref_Sync.calls HR2.out F.f1).mono ?_
      rintro e W5 ⟨rfl, hR5, hF5⟩
      refine ⟨_, rfl, ?_⟩
      have HD5 := Aside0.mk (HD2.out.frq HR2.out hF5)
      have hY5 := (hF5.block g5 (blk_lt hHeld) (neQ hHeld HR2.out (by decide))).trans hHeld
      have HR5 := Aside0.mk hR5
      clear hR5 hF5
      refine hK.out _ _ hY5 (fun hHeld => ?_)
      clear hK K
      refine My.nm 33 ?_
      refine My.pv_ 8 34 10 511 HT_.out ?_
      refine My.pv_ 9 6 10 1023 HT_.out ?_
      refine done_ (done_of HT_.out (by kernel_rfl)) ?_
      try go_wp2
      go_ret
      exact ⟨by first | rfl | simp, HD5.out, HR5.out⟩
    · have m1_ : decide (F.f0 = 1) = false := decide_eq_false a1
      have n1_ : (F.f0 == 1) = false := beq_eq_false_iff_ne.2 a1
      have AA1 := Aside0.mk a1
      clear a1
      by_cases a2 : F.f0 = 2
      · have m1 : decide (F.f0 = 2) = true := decide_eq_true a2
        have m2 : (F.f0 == 2) = true := by rw [a2]; rfl
        have hact : S = (cutS s F.f1 F.f2).1 := by rw [← HSS.out]; unfold actS; rw [if_neg AA0.out]; rw [if_neg AA1.out]; rw [if_pos a2]
        subst hact
        clear a2
        go_upto_region 7 with (fail)
        clear hz
        refine start_ (n := 14) (S := fun w' => w'.heap[g5]? = some (.cells #[.int .i64 F.f0, .int .i64 F.f1, .int .i64 F.f2, .string F.f3, .slice A4 F.f4.length c4] 35 (0, 0))) (ds := []) #[false, false, false, false, false, false, false, false, false, false, false, false, false, false] (by kernel_rfl) rfl rfl HY.out (fun hHeld => ?_); refine with_tabW does.tab7 does.bits7 (fun HT_ HW_ => ?_)
        replace HD := Aside0.mk (HD.out.move (W' := W1.drew) (fun _ _ _ => rfl))
        replace HR := Aside0.mk (HR.out.up (Below.drew (Below.refl W1.heap.size W1)))
        replace HKP := Aside0.mk (show ∀ W, Fr p bm W1.drew W → (Kd.int .i64).C W A4 F.f4.length F.f4 from fun W hf => HKP.out W ⟨hf.os, hf.tape, hf.output, hf.size, hf.block⟩)
        generalize W1.drew = W3 at HD HR HKP hHeld ⊢
        refine My.pv_ 0 37 14 1 HT_.out ?_
        refine My.pv_ 1 38 14 3 HT_.out ?_
        refine My.tv_ 2 39 14 7 HT_.out HW_.out hHeld rfl rfl (by rintro w' hS; have hz := My.cz5 (My.am hS); go_simp; with_reducible rfl) ?_
        refine My.pv_ 3 40 14 15 HT_.out ?_
        refine My.tv_ 4 41 14 31 HT_.out HW_.out hHeld rfl rfl (by rintro w' hS; have hz := My.cz5 (My.am hS); go_simp; with_reducible rfl) ?_
        refine My.pv_ 6 43 14 95 HT_.out ?_
        refine My.pv_ 7 44 14 223 HT_.out ?_
        refine My.tv_ 8 45 14 479 HT_.out HW_.out hHeld rfl rfl (by rintro w' hS; have hz := My.cz5 (My.am hS); go_simp; with_reducible rfl) ?_
        refine My.pv_ 9 46 14 991 HT_.out ?_
        refine My.tv_ 10 47 14 2015 HT_.out HW_.out hHeld rfl rfl (by rintro w' hS; have hz := My.cz5 (My.am hS); go_simp; with_reducible rfl) ?_
        refine one_ (i := 5) (N := some 42) (My.Mb 14 2047) rfl rfl (one_of HT_.out (by kernel_rfl)) (by decide) (fun K hK => ?_)
        refine goes_ Try.func20 (by kernel_rfl) rfl #[.pointer (some ⟨p, 0, none⟩), .int .i64 F.f1, .int .i64 F.f2] (by rfl) rfl rfl My.gx ?_
        refine (disk_Disk_Cut.calls HD.out F.f1 HM.out.2.1 F.f2).mono ?_
        rintro e W4 ⟨rfl, hD4, hF4⟩
        refine ⟨_, rfl, ?_⟩
        have HR2 := Aside0.mk (HR.out.fr HD.out (Nat.le_refl _) hF4)
        have hY4 := (hF4.block g5 (blk_lt hHeld) (neOf hHeld (cellsOf HD.out) (by decide)) (neMap hHeld HD.out)).trans hHeld
        have HD2 := Aside0.mk hD4
        clear hD4 hF4
        refine hK.out _ _ hY4 (fun hHeld => ?_)
        clear hK K
        refine My.nm 42 ?_
        refine one_ (i := 11) (N := some 48) (My.Mb 14 4095) rfl rfl (one_of HT_.out (by kernel_rfl)) (by decide) (fun K hK => ?_)
        refine goes_ Try.func32 (by kernel_rfl) rfl #[.pointer (some ⟨q, 0, none⟩), .int .i64 2, .int .i64 F.f1, .int .i64 F.f2] (by rfl) rfl rfl My.gx ?_
        refine (ref_Cut.calls HR2.out F.f1 F.f2).mono ?_
        rintro e W5 ⟨rfl, hR5, hF5⟩
        refine ⟨_, rfl, ?_⟩
        have HD5 := Aside0.mk (HD2.out.frq HR2.out hF5)
        have hY5 := (hF5.block g5 (blk_lt hHeld) (neQ hHeld HR2.out (by decide))).trans hHeld
        have HR5 := Aside0.mk hR5
        clear hR5 hF5
        refine hK.out _ _ hY5 (fun hHeld => ?_)
        clear hK K
        refine My.nm 48 ?_
        refine My.pv_ 12 49 14 8191 HT_.out ?_
        refine My.pv_ 13 6 14 16383 HT_.out ?_
        refine done_ (done_of HT_.out (by kernel_rfl)) ?_
        try go_wp2
        go_ret
        exact ⟨by first | rfl | simp, HD5.out, HR5.out⟩
      · have m2_ : decide (F.f0 = 2) = false := decide_eq_false a2
        have n2_ : (F.f0 == 2) = false := beq_eq_false_iff_ne.2 a2
        have AA2 := Aside0.mk a2
        clear a2
        by_cases a3 : F.f0 = 3
        · have m1 : decide (F.f0 = 3) = true := decide_eq_true a3
          have m2 : (F.f0 == 3) = true := by rw [a3]; rfl
          have hact : S = (remS s F.f1).1 := by rw [← HSS.out]; unfold actS; rw [if_neg AA0.out]; rw [if_neg AA1.out]; rw [if_neg AA2.out]; rw [if_pos a3]
          subst hact
          clear a3
          go_upto_region 9 with (fail)
          clear hz
          refine start_ (n := 10) (S := fun w' => w'.heap[g5]? = some (.cells #[.int .i64 F.f0, .int .i64 F.f1, .int .i64 F.f2, .string F.f3, .slice A4 F.f4.length c4] 35 (0, 0))) (ds := []) #[false, false, false, false, false, false, false, false, false, false] (by kernel_rfl) rfl rfl HY.out (fun hHeld => ?_); refine with_tabW does.tab9 does.bits9 (fun HT_ HW_ => ?_)
          replace HD := Aside0.mk (HD.out.move (W' := W1.drew) (fun _ _ _ => rfl))
          replace HR := Aside0.mk (HR.out.up (Below.drew (Below.refl W1.heap.size W1)))
          replace HKP := Aside0.mk (show ∀ W, Fr p bm W1.drew W → (Kd.int .i64).C W A4 F.f4.length F.f4 from fun W hf => HKP.out W ⟨hf.os, hf.tape, hf.output, hf.size, hf.block⟩)
          generalize W1.drew = W3 at HD HR HKP hHeld ⊢
          refine My.pv_ 0 52 10 1 HT_.out ?_
          refine My.pv_ 1 53 10 3 HT_.out ?_
          refine My.tv_ 2 54 10 7 HT_.out HW_.out hHeld rfl rfl (by rintro w' hS; have hz := My.cz5 (My.am hS); go_simp; with_reducible rfl) ?_
          refine My.pv_ 4 56 10 23 HT_.out ?_
          refine My.pv_ 5 57 10 55 HT_.out ?_
          refine My.tv_ 6 58 10 119 HT_.out HW_.out hHeld rfl rfl (by rintro w' hS; have hz := My.cz5 (My.am hS); go_simp; with_reducible rfl) ?_
          refine one_ (i := 3) (N := some 55) (My.Mb 10 127) rfl rfl (one_of HT_.out (by kernel_rfl)) (by decide) (fun K hK => ?_)
          refine goes_ Try.func21 (by kernel_rfl) rfl #[.pointer (some ⟨p, 0, none⟩), .int .i64 F.f1] (by rfl) rfl rfl My.gx ?_
          refine (disk_Disk_Remove.calls HD.out F.f1 HM.out.2.1).mono ?_
          rintro e W4 ⟨rfl, hD4, hF4⟩
          refine ⟨_, rfl, ?_⟩
          have HR2 := Aside0.mk (HR.out.fr HD.out (Nat.le_refl _) hF4)
          have hY4 := (hF4.block g5 (blk_lt hHeld) (neOf hHeld (cellsOf HD.out) (by decide)) (neMap hHeld HD.out)).trans hHeld
          have HD2 := Aside0.mk hD4
          clear hD4 hF4
          refine hK.out _ _ hY4 (fun hHeld => ?_)
          clear hK K
          refine My.nm 55 ?_
          refine one_ (i := 7) (N := some 59) (My.Mb 10 255) rfl rfl (one_of HT_.out (by kernel_rfl)) (by decide) (fun K hK => ?_)
          refine goes_ Try.func32 (by kernel_rfl) rfl #[.pointer (some ⟨q, 0, none⟩), .int .i64 3, .int .i64 F.f1, .int .i64 0] (by rfl) rfl rfl My.gx ?_
          refine (ref_Rem.calls HR2.out F.f1).mono ?_
          rintro e W5 ⟨rfl, hR5, hF5⟩
          refine ⟨_, rfl, ?_⟩
          have HD5 := Aside0.mk (HD2.out.frq HR2.out hF5)
          have hY5 := (hF5.block g5 (blk_lt hHeld) (neQ hHeld HR2.out (by decide))).trans hHeld
          have HR5 := Aside0.mk hR5
          clear hR5 hF5
          refine hK.out _ _ hY5 (fun hHeld => ?_)
          clear hK K
          refine My.nm 59 ?_
          refine My.pv_ 8 60 10 511 HT_.out ?_
          refine My.pv_ 9 6 10 1023 HT_.out ?_
          refine done_ (done_of HT_.out (by kernel_rfl)) ?_
          try go_wp2
          go_ret
          exact ⟨by first | rfl | simp, HD5.out, HR5.out⟩
        · have m3_ : decide (F.f0 = 3) = false := decide_eq_false a3
          have n3_ : (F.f0 == 3) = false := beq_eq_false_iff_ne.2 a3
          have AA3 := Aside0.mk a3
          clear a3
          by_cases a4 : F.f0 = 4
          · have m1 : decide (F.f0 = 4) = true := decide_eq_true a4
            have m2 : (F.f0 == 4) = true := by rw [a4]; rfl
            have hact : S = (armS s F.f2 F.f4).1 := by rw [← HSS.out]; unfold actS; rw [if_neg AA0.out]; rw [if_neg AA1.out]; rw [if_neg AA2.out]; rw [if_neg AA3.out]; rw [if_pos a4]
            subst hact
            clear a4
            go_upto_region 11 with (fail)
            clear hz
            refine start_ (n := 14) (S := fun w' => w'.heap[g5]? = some (.cells #[.int .i64 F.f0, .int .i64 F.f1, .int .i64 F.f2, .string F.f3, .slice A4 F.f4.length c4] 35 (0, 0))) (ds := []) #[false, false, false, false, false, false, false, false, false, false, false, false, false, false] (by kernel_rfl) rfl rfl HY.out (fun hHeld => ?_); refine with_tabW does.tab11 does.bits11 (fun HT_ HW_ => ?_)
            replace HD := Aside0.mk (HD.out.move (W' := W1.drew) (fun _ _ _ => rfl))
            replace HR := Aside0.mk (HR.out.up (Below.drew (Below.refl W1.heap.size W1)))
            replace HKP := Aside0.mk (show ∀ W, Fr p bm W1.drew W → (Kd.int .i64).C W A4 F.f4.length F.f4 from fun W hf => HKP.out W ⟨hf.os, hf.tape, hf.output, hf.size, hf.block⟩)
            generalize W1.drew = W3 at HD HR HKP hHeld ⊢
            refine My.pv_ 0 63 14 1 HT_.out ?_
            refine My.pv_ 1 64 14 3 HT_.out ?_
            refine My.tv_ 2 65 14 7 HT_.out HW_.out hHeld rfl rfl (by rintro w' hS; have hz := My.cz5 (My.am hS); go_simp; with_reducible rfl) ?_
            refine My.pv_ 3 66 14 15 HT_.out ?_
            refine My.tv_ 4 67 14 31 HT_.out HW_.out hHeld rfl rfl (by rintro w' hS; have hz := My.cz5 (My.am hS); go_simp; with_reducible rfl) ?_
            refine My.pv_ 6 69 14 95 HT_.out ?_
            refine My.pv_ 7 70 14 223 HT_.out ?_
            refine My.tv_ 8 71 14 479 HT_.out HW_.out hHeld rfl rfl (by rintro w' hS; have hz := My.cz5 (My.am hS); go_simp; with_reducible rfl) ?_
            refine My.pv_ 9 72 14 991 HT_.out ?_
            refine My.tv_ 10 73 14 2015 HT_.out HW_.out hHeld rfl rfl (by rintro w' hS; have hz := My.cz5 (My.am hS); go_simp; with_reducible rfl) ?_
            refine one_ (i := 5) (N := some 68) (My.Mb 14 2047) rfl rfl (one_of HT_.out (by kernel_rfl)) (by decide) (fun K hK => ?_)
            refine goes_ Try.func22 (by kernel_rfl) rfl #[.pointer (some ⟨p, 0, none⟩), .int .i64 F.f2, .slice A4 F.f4.length c4] (by rfl) rfl rfl My.gx ?_
            refine (disk_Disk_Arm.calls HD.out HR.out.bel.size F.f2 (wf_hi HM.out.2.2.1) A4 c4 F.f4 HL4.out HM.out.2.2.2.2.2.1 HKP.out).mono ?_
            rintro e W4 ⟨rfl, hD4, hF4⟩
            refine ⟨_, rfl, ?_⟩
            have HR2 := Aside0.mk (HR.out.fr HD.out (Nat.le_refl _) hF4)
            have hY4 := (hF4.block g5 (blk_lt hHeld) (neOf hHeld (cellsOf HD.out) (by decide)) (neMap hHeld HD.out)).trans hHeld
            have HD2 := Aside0.mk hD4
            clear hD4 hF4
            refine hK.out _ _ hY4 (fun hHeld => ?_)
            clear hK K
            refine My.nm 68 ?_
            refine one_ (i := 11) (N := some 74) (My.Mb 14 4095) rfl rfl (one_of HT_.out (by kernel_rfl)) (by decide) (fun K hK => ?_)
            refine goes_ Try.func33 (by kernel_rfl) rfl #[.pointer (some ⟨q, 0, none⟩), .int .i64 F.f2, .slice A4 F.f4.length c4] (by rfl) rfl rfl My.gx ?_
            refine (ref_Arm.calls HR2.out F.f2 (wf_hi HM.out.2.2.1) A4 c4 F.f4 HL4.out HC.out).mono ?_
            rintro e W5 ⟨rfl, hR5, hF5⟩
            refine ⟨_, rfl, ?_⟩
            have HD5 := Aside0.mk (HD2.out.frq HR2.out hF5)
            have hY5 := (hF5.block g5 (blk_lt hHeld) (neQ hHeld HR2.out (by decide))).trans hHeld
            have HR5 := Aside0.mk hR5
            clear hR5 hF5
            refine hK.out _ _ hY5 (fun hHeld => ?_)
            clear hK K
            refine My.nm 74 ?_
            refine My.pv_ 12 75 14 8191 HT_.out ?_
            refine My.pv_ 13 6 14 16383 HT_.out ?_
            refine done_ (done_of HT_.out (by kernel_rfl)) ?_
            try go_wp2
            go_ret
            exact ⟨by first | rfl | simp, HD5.out, HR5.out⟩
          · have m4_ : decide (F.f0 = 4) = false := decide_eq_false a4
            have n4_ : (F.f0 == 4) = false := beq_eq_false_iff_ne.2 a4
            have AA4 := Aside0.mk a4
            clear a4
            by_cases a5 : F.f0 = 5
            · have m1 : decide (F.f0 = 5) = true := decide_eq_true a5
              have m2 : (F.f0 == 5) = true := by rw [a5]; rfl
              have hact : S = (crashS s F.f4).1 := by rw [← HSS.out]; unfold actS; rw [if_neg AA0.out]; rw [if_neg AA1.out]; rw [if_neg AA2.out]; rw [if_neg AA3.out]; rw [if_neg AA4.out]; rw [if_pos a5]
              subst hact
              clear a5
              go_upto_region 13 with (fail)
              clear hz
              refine start_ (n := 10) (S := fun w' => w'.heap[g5]? = some (.cells #[.int .i64 F.f0, .int .i64 F.f1, .int .i64 F.f2, .string F.f3, .slice A4 F.f4.length c4] 35 (0, 0))) (ds := []) #[false, false, false, false, false, false, false, false, false, false] (by kernel_rfl) rfl rfl HY.out (fun hHeld => ?_); refine with_tabW does.tab13 does.bits13 (fun HT_ HW_ => ?_)
              replace HD := Aside0.mk (HD.out.move (W' := W1.drew) (fun _ _ _ => rfl))
              replace HR := Aside0.mk (HR.out.up (Below.drew (Below.refl W1.heap.size W1)))
              replace HKP := Aside0.mk (show ∀ W, Fr p bm W1.drew W → (Kd.int .i64).C W A4 F.f4.length F.f4 from fun W hf => HKP.out W ⟨hf.os, hf.tape, hf.output, hf.size, hf.block⟩)
              generalize W1.drew = W3 at HD HR HKP hHeld ⊢
              refine My.pv_ 0 78 10 1 HT_.out ?_
              refine My.pv_ 1 79 10 3 HT_.out ?_
              refine My.tv_ 2 80 10 7 HT_.out HW_.out hHeld rfl rfl (by rintro w' hS; have hz := My.cz5 (My.am hS); go_simp; with_reducible rfl) ?_
              refine My.pv_ 4 82 10 23 HT_.out ?_
              refine My.pv_ 5 83 10 55 HT_.out ?_
              refine My.tv_ 6 84 10 119 HT_.out HW_.out hHeld rfl rfl (by rintro w' hS; have hz := My.cz5 (My.am hS); go_simp; with_reducible rfl) ?_
              refine one_ (i := 3) (N := some 81) (My.Mb 10 127) rfl rfl (one_of HT_.out (by kernel_rfl)) (by decide) (fun K hK => ?_)
              refine goes_ Try.func23 (by kernel_rfl) rfl #[.pointer (some ⟨p, 0, none⟩), .slice A4 F.f4.length c4] (by rfl) rfl rfl My.gx ?_
              refine (disk_Disk_Crash.calls HD.out A4 c4 F.f4 HL4.out HKP.out).mono ?_
              rintro e W4 ⟨rfl, hD4, hF4⟩
              refine ⟨_, rfl, ?_⟩
              have HR2 := Aside0.mk (HR.out.fr HD.out (Nat.le_refl _) hF4)
              have hY4 := (hF4.block g5 (blk_lt hHeld) (neOf hHeld (cellsOf HD.out) (by decide)) (neMap hHeld HD.out)).trans hHeld
              have HD2 := Aside0.mk hD4
              clear hD4 hF4
              refine hK.out _ _ hY4 (fun hHeld => ?_)
              clear hK K
              refine My.nm 81 ?_
              refine one_ (i := 7) (N := some 85) (My.Mb 10 255) rfl rfl (one_of HT_.out (by kernel_rfl)) (by decide) (fun K hK => ?_)
              refine goes_ Try.func34 (by kernel_rfl) rfl #[.pointer (some ⟨q, 0, none⟩), .slice A4 F.f4.length c4] (by rfl) rfl rfl My.gx ?_
              refine (ref_Crash.calls HR2.out A4 c4 F.f4 HL4.out HC.out).mono ?_
              rintro e W5 ⟨rfl, hR5, hF5⟩
              refine ⟨_, rfl, ?_⟩
              have HD5 := Aside0.mk (HD2.out.frq HR2.out hF5)
              have hY5 := (hF5.block g5 (blk_lt hHeld) (neQ hHeld HR2.out (by decide))).trans hHeld
              have HR5 := Aside0.mk hR5
              clear hR5 hF5
              refine hK.out _ _ hY5 (fun hHeld => ?_)
              clear hK K
              refine My.nm 85 ?_
              refine My.pv_ 8 86 10 511 HT_.out ?_
              refine My.pv_ 9 6 10 1023 HT_.out ?_
              refine done_ (done_of HT_.out (by kernel_rfl)) ?_
              try go_wp2
              go_ret
              exact ⟨by first | rfl | simp, HD5.out, HR5.out⟩
            · have m5_ : decide (F.f0 = 5) = false := decide_eq_false a5
              have n5_ : (F.f0 == 5) = false := beq_eq_false_iff_ne.2 a5
              have AA5 := Aside0.mk a5
              clear a5
              have hact : S = boot s := by rw [← HSS.out]; unfold actS; rw [if_neg AA0.out]; rw [if_neg AA1.out]; rw [if_neg AA2.out]; rw [if_neg AA3.out]; rw [if_neg AA4.out]; rw [if_neg AA5.out]; try rfl
              subst hact
              go_wp2_with (first
                | ((with_reducible refine gate_callee (f := 35) rfl ?_); refine goesL_ (some _) rfl rfl Try.func35 (by kernel_rfl) rfl #[.pointer (some ⟨q, 0, none⟩)] rfl My.gx ?_; (refine (ref_Boot.calls HR.out).mono ?_); rintro e W4 ⟨rfl, hR4, hF4⟩; refine ⟨_, rfl, ?_⟩; have HD4 := Aside0.mk (HD.out.frq HR.out hF4); have HR4 := Aside0.mk hR4; clear hR4 hF4 hz)
                | ((with_reducible refine gate_callee (f := 24) rfl ?_); refine goesL_ (some _) rfl rfl Try.func24 (by kernel_rfl) rfl #[.pointer (some ⟨p, 0, none⟩)] rfl My.gx ?_; (refine (disk_Disk_Boot.calls HD4.out).mono ?_); rintro e W5 ⟨rfl, hD5, hF5⟩; refine ⟨_, rfl, ?_⟩; have HR5 := Aside0.mk (HR4.out.fr HD4.out (Nat.le_refl _) hF5); have HD5 := Aside0.mk hD5; clear hD5 hF5))
              go_ret
              exact ⟨rfl, HD5.out, HR5.out⟩
end
/-! do both hold the same? -/
section
variable {w0 w : World} {q p bm base : Nat} {s : DS}
attribute [local go_sem high] eqA40
set_option maxHeartbeats 8000000 in
set_option maxRecDepth 100000 in
theorem ref_Same.calls (A : Option Addr) (c : Nat) (B : Option Addr) (d : Nat) (l : List S40) (hl : l.length ≤ 1000) (ha : k40.C w A l.length l) (hb : k40.C w B l.length l) : Calls Try.prog 37 #[.slice A l.length c, .slice B l.length d] w fun e w' => e = .returned (.bool true) ∧ Below w.heap.size w w' := by
  have hu40 := Try.underlying40
  have HA := Aside0.mk ha
  have HB := Aside0.mk hb
  have HL := Aside0.mk hl
  clear ha hb hl
  go_enter Try.func37, Try.ntmps37
  go_wp2
  go_loopg [5] (l.length + 1) (fun kq v5 w' => ∃ (i : Nat) (x : Int), v5 = .int .i64 x ∧ Aside0 (x = (i : Int)) ∧ Aside0 (kq + i = l.length + 1) ∧ Aside0 (i ≤ l.length) ∧ Aside0 (Below w.heap.size w w'))
  case atStart => exact ⟨0, _, rfl, ⟨rfl⟩, ⟨rfl⟩, ⟨Nat.zero_le _⟩, ⟨Below.refl _ _⟩⟩
  case round =>
    obtain ⟨i, x, rfl, hx, hk, hi, HW⟩ := hrel
    by_cases c9 : i < l.length
    · have q1 : x < (l.length : Int) := by have := hx.out; omega
      have p1 : (0 : Int) ≤ x := by have := hx.out; omega
      have c3 : decide (x < (l.length : Int)) = true := decide_eq_true q1
      obtain ⟨ad, e1, x0, x1, x2⟩ := at_T40 (Kd.C_below HA.out HW.out) x p1 q1
      cases e1
      obtain ⟨ad2, e2, y0, y1, y2⟩ := at_T40 (Kd.C_below HB.out HW.out) x p1 q1
      cases e2
      obtain ⟨F, hF⟩ : ∃ F, rd_T40 l x = F := ⟨_, rfl⟩
      rw [hF] at x0 x1 x2 y0 y1 y2
      have hw : wrap64 (x + 1) = x + 1 := by have := HL.out; have := hx.out; unfold wrap64; omega
      have HWR := Aside0.mk hw
      have HCI := Aside0.mk c9
      clear c9 hF hw
      have p2 := eq_true p1
      have q2 := eq_true q1
      go_upto_region 6 with (fail)
      go_quiet (fail)
      go_wp2
      have hI := HCI.out
      have hx1 := hx.out
      have hk1 := hk.out
      go_roundg (l.length - i)
      case measure => omega
      case rel => exact ⟨i + 1, x + 1, by first | rfl | (rw [HWR.out]), ⟨by omega⟩, ⟨by omega⟩, ⟨by omega⟩, ⟨pw_below_drewN HW.out _⟩⟩
    · have c3 : decide (x < (l.length : Int)) = false := decide_eq_false (by have := hi.out; have := hx.out; omega)
      clear c9
      go_wp2
      go_ret
      exact ⟨rfl, HW.out⟩
def same.T2 : Bool × List (List Nat × List Nat) := (true, [([], []), ([0], [0]), ([], []), ([2], [2]), ([3], [3]), ([4], [4]), ([5], [5]), ([1, 6], [1, 6]), ([7], [7]), ([8], [8]), ([9, 8, 8], [8, 9]), ([8], [8]), ([11, 10, 8], [8, 11]), ([10, 12, 8], [8, 10, 12]), ([8, 13], [8, 13]), ([14, 12], [14]), ([15], [15]), ([16, 15, 15], [15, 16]), ([15], [15]), ([18, 15], [15, 18]), ([19, 15], [15, 19]), ([20, 15], [15, 20]), ([17, 21, 15], [15, 17, 21]), ([15, 22], [15, 22]), ([23, 17], [23]), ([24], [24]), ([25, 24, 24], [24, 25]), ([24], [24]), ([27, 24], [24, 27]), ([28, 24], [24, 28]), ([29, 24], [24, 29]), ([26, 30, 26, 24], [24, 26, 30]), ([31, 24], [24, 31]), ([24, 32], [24, 32])])
def same.B2 : List Nat := [0, 1, 0, 4, 12, 28, 60, 127, 255, 511, 1023, 511, 4095, 8191, 16383, 32767, 65535, 131071, 65535, 327679, 851967, 1900543, 4194303, 8388607, 16777215, 33554431, 67108863, 33554431, 167772159, 436207615, 973078527, 2147483647, 4294967295, 8589934591]
theorem same.tab2 : rtab .any (opsOf Try.f14 2) = same.T2 := by kernel_rfl
theorem same.bits2 : waitsOk same.T2.2 same.B2 = true := by kernel_rfl
set_option maxHeartbeats 16000000 in
set_option maxRecDepth 100000 in
theorem same.calls (hD : DiskAt base w p bm s) (hR : RefAt w0 w q s) : Calls Try.prog 14 #[.pointer (some ⟨p, 0, none⟩), .pointer (some ⟨q, 0, none⟩)] w fun e w' => e = .returned (.bool true) ∧ Below w.heap.size w w' := by
  have hu40 := Try.underlying40
  have HD := Aside0.mk hD
  have HR := Aside0.mk hR
  have HI := Aside0.mk hD.inv
  clear hD hR
  go_enter Try.func14, Try.ntmps14
  go_upto_region 2 with ((with_reducible refine gate_callee (f := 27) rfl ?_); refine goesL_ (some _) rfl rfl Try.func27 (by kernel_rfl) rfl #[.pointer (some ⟨p, 0, none⟩)] rfl My.gx ?_; (refine (disk_Disk_Files.calls HD.out).mono ?_); rintro e W1 ⟨v, rfl, hR1, hb⟩; obtain ⟨Al, cl, rfl, hlc, hC⟩ := Kd.R_reads hR1; rw [numsL_len] at hC hlc ⊢; refine ⟨_, rfl, ?_⟩; have HCL := Aside0.mk hC; replace HD := Aside0.mk (HD.out.up hb); replace HR := Aside0.mk (HR.out.up hb); have HB := Aside0.mk hb; clear hR1 hC hlc hb)
  obtain ⟨A, c, ks0, fA, fc, hb, h2, h3, h4, h5, h6, h7, k0, k1, k2, k3, k4, fz⟩ := HR.out.cells
  have HCF := Aside0.mk h6
  have K1 := Aside0.mk k1
  have K4 := Aside0.mk k4
  clear hb h2 h3 h4 h5 h6 h7 k0 k1 k2 k3 k4 fz
  go_cut [46] (fun v46 wc => v46 = .bool false ∧ Aside0 (Below W1.heap.size W1 wc))
  case first =>
    refine start_ (n := 34) (S := fun w' => DiskAt base w' p bm s ∧ RefAt w0 w' q s ∧ w'.cell? ⟨q, 1, none⟩ = some (.bool s.dead) ∧ w'.cell? ⟨q, 4, none⟩ = some (.slice fA s.L.length fc) ∧ k40.C w' fA s.L.length s.L) (ds := []) #[false, false, false, false, false, false, false, false, false, false, false, false, false, false, false, false, false, false, false, false, false, false, false, false, false, false, false, false, false, false, false, false, false, false] (by kernel_rfl) rfl rfl ⟨HD.out.move (W' := W1.drew) (fun _ _ _ => rfl), HR.out.up (Below.drew (Below.refl W1.heap.size W1)), K1.out, K4.out, Kd.C_drew HCF.out⟩ (fun hHeld => ?_); refine with_tabW same.tab2 same.bits2 (fun HT_ HW_ => ?_)
    have HB3 := Aside0.mk (Below.drew (Below.refl W1.heap.size W1))
    generalize W1.drew = W3 at HB3 hHeld ⊢
    refine My.pv_ 0 13 34 1 HT_.out ?_
    refine My.tv_ 1 14 34 3 HT_.out HW_.out hHeld rfl rfl (by rintro w' ⟨hD_, hR_, k1, k4, hC_⟩; go_simp; with_reducible rfl) ?_
    refine My.pv_ 2 15 34 7 HT_.out ?_
    refine My.pv_ 3 16 34 15 HT_.out ?_
    refine My.pv_ 4 17 34 31 HT_.out ?_
    refine My.tv_ 5 18 34 63 HT_.out HW_.out hHeld rfl rfl (by rintro w' ⟨hD_, hR_, k1, k4, hC_⟩; go_simp; with_reducible rfl) ?_
    refine My.tv_ 6 19 34 127 HT_.out HW_.out hHeld rfl rfl (by rintro w' ⟨hD_, hR_, k1, k4, hC_⟩; go_simp; with_reducible rfl) ?_
    refine My.pv_ 7 20 34 255 HT_.out ?_
    refine My.pv_ 8 21 34 511 HT_.out ?_
    refine My.pv_ 9 22 34 1023 HT_.out ?_
    refine My.pv_ 11 24 34 3071 HT_.out ?_
    refine one_ (i := 10) (N := some 23) (My.Mb 34 4095) rfl rfl (one_of HT_.out (by kernel_rfl)) (by decide) (fun K hK => ?_)
    refine goes_ Try.func26 (by kernel_rfl) rfl #[.pointer (some ⟨p, 0, none⟩)] (by rfl) rfl rfl My.gx ?_
    refine (disk_Disk_Used.calls hHeld.1).mono ?_
    rintro e W4 ⟨rfl, hb⟩
    refine ⟨_, rfl, ?_⟩
    replace HB3 := Aside0.mk (HB3.out.trans (hb.mono HB3.out.size))
    refine hK.out _ _ ⟨hHeld.1.up hb, hHeld.2.1.up hb, (hb.cell (World.block_lt_of_cell? _ _ hHeld.2.2.1)).trans hHeld.2.2.1, (hb.cell (World.block_lt_of_cell? _ _ hHeld.2.2.2.1)).trans hHeld.2.2.2.1, Kd.C_below hHeld.2.2.2.2 hb⟩ (fun hHeld => ?_)
    clear hK K
    refine My.nm 23 ?_
    refine one_ (i := 12) (N := some 25) (My.Mb 34 8191) rfl rfl (one_of HT_.out (by kernel_rfl)) (by decide) (fun K hK => ?_)
    refine goes_ Try.func36 (by kernel_rfl) rfl #[.pointer (some ⟨q, 0, none⟩)] (by rfl) rfl rfl My.gx ?_
    refine (ref_Used.calls hHeld.2.1).mono ?_
    rintro e W4 ⟨rfl, hb⟩
    refine ⟨_, rfl, ?_⟩
    replace HB3 := Aside0.mk (HB3.out.trans (hb.mono HB3.out.size))
    refine hK.out _ _ ⟨hHeld.1.up hb, hHeld.2.1.up hb, (hb.cell (World.block_lt_of_cell? _ _ hHeld.2.2.1)).trans hHeld.2.2.1, (hb.cell (World.block_lt_of_cell? _ _ hHeld.2.2.2.1)).trans hHeld.2.2.2.1, Kd.C_below hHeld.2.2.2.2 hb⟩ (fun hHeld => ?_)
    clear hK K
    refine My.nm 25 ?_
    refine My.pv_ 13 26 34 16383 HT_.out ?_
    refine My.pv_ 14 27 34 32767 HT_.out ?_
    refine My.pv_ 15 28 34 65535 HT_.out ?_
    refine My.pv_ 16 29 34 131071 HT_.out ?_
    refine My.pv_ 18 31 34 393215 HT_.out ?_
    refine My.pv_ 19 32 34 917503 HT_.out ?_
    refine My.pv_ 20 33 34 1966079 HT_.out ?_
    refine My.tv_ 21 34 34 4063231 HT_.out HW_.out hHeld rfl rfl (by rintro w' ⟨hD_, hR_, k1, k4, hC_⟩; go_simp; with_reducible rfl) ?_
    refine one_ (i := 17) (N := some 30) (My.Mb 34 4194303) rfl rfl (one_of HT_.out (by kernel_rfl)) (by decide) (fun K hK => ?_)
    refine goes_ Try.func25 (by kernel_rfl) rfl #[.pointer (some ⟨p, 0, none⟩)] (by rfl) rfl rfl My.gx ?_
    refine (disk_Disk_Dead.calls hHeld.1).mono ?_
    rintro e W4 ⟨rfl, hb⟩
    refine ⟨_, rfl, ?_⟩
    replace HB3 := Aside0.mk (HB3.out.trans (hb.mono HB3.out.size))
    refine hK.out _ _ ⟨hHeld.1.up hb, hHeld.2.1.up hb, (hb.cell (World.block_lt_of_cell? _ _ hHeld.2.2.1)).trans hHeld.2.2.1, (hb.cell (World.block_lt_of_cell? _ _ hHeld.2.2.2.1)).trans hHeld.2.2.2.1, Kd.C_below hHeld.2.2.2.2 hb⟩ (fun hHeld => ?_)
    clear hK K
    refine My.nm 30 ?_
    refine My.pv_ 22 35 34 8388607 HT_.out ?_
    refine My.pv_ 23 36 34 16777215 HT_.out ?_
    refine My.pv_ 24 37 34 33554431 HT_.out ?_
    refine My.pv_ 25 38 34 67108863 HT_.out ?_
    refine My.pv_ 27 40 34 201326591 HT_.out ?_
    refine My.pv_ 28 41 34 469762047 HT_.out ?_
    refine My.pv_ 29 42 34 1006632959 HT_.out ?_
    refine My.tv_ 30 43 34 2080374783 HT_.out HW_.out hHeld rfl rfl (by rintro w' ⟨hD_, hR_, k1, k4, hC_⟩; go_simp; with_reducible rfl) ?_
    refine one_ (i := 26) (N := some 39) (My.Mb 34 2147483647) rfl rfl (one_of HT_.out (by kernel_rfl)) (by decide) (fun K hK => ?_)
    refine goes_ Try.func28 (by kernel_rfl) rfl #[.pointer (some ⟨p, 0, none⟩)] (by rfl) rfl rfl My.gx ?_
    refine (disk_Disk_Image.calls hHeld.1).mono ?_
    rintro e W4 ⟨v4, rfl, hR4, hb⟩
    obtain ⟨Ai, ci, rfl, hlc4, hC4⟩ := Kd.R_reads hR4
    refine ⟨_, rfl, ?_⟩
    have HCI := Aside0.mk hC4
    clear hR4 hlc4 hC4
    replace HB3 := Aside0.mk (HB3.out.trans (hb.mono HB3.out.size))
    refine hK.out _ _ ⟨hHeld.1.up hb, hHeld.2.1.up hb, (hb.cell (World.block_lt_of_cell? _ _ hHeld.2.2.1)).trans hHeld.2.2.1, (hb.cell (World.block_lt_of_cell? _ _ hHeld.2.2.2.1)).trans hHeld.2.2.2.1, Kd.C_below hHeld.2.2.2.2 hb⟩ (fun hHeld => ?_)
    clear hK K
    refine My.nm 39 ?_
    refine one_ (i := 31) (N := some 44) (My.Mb 34 4294967295) rfl rfl (one_of HT_.out (by kernel_rfl)) (by decide) (fun K hK => ?_)
    refine goes_ Try.func37 (by kernel_rfl) rfl #[.slice Ai s.L.length ci, .slice fA s.L.length fc] (by rfl) rfl rfl My.gx ?_
    refine (ref_Same.calls Ai ci fA fc s.L (by have := HI.out.len; omega) HCI.out hHeld.2.2.2.2).mono ?_
    rintro e W4 ⟨rfl, hb⟩
    refine ⟨_, rfl, ?_⟩
    replace HB3 := Aside0.mk (HB3.out.trans (hb.mono HB3.out.size))
    refine hK.out _ _ ⟨hHeld.1.up hb, hHeld.2.1.up hb, (hb.cell (World.block_lt_of_cell? _ _ hHeld.2.2.1)).trans hHeld.2.2.1, (hb.cell (World.block_lt_of_cell? _ _ hHeld.2.2.2.1)).trans hHeld.2.2.2.1, Kd.C_below hHeld.2.2.2.2 hb⟩ (fun hHeld => ?_)
    clear hK K
    refine My.nm 44 ?_
    refine My.pv_ 32 45 34 8589934591 HT_.out ?_
    refine My.pv_ 33 46 34 17179869183 HT_.out ?_
    refine done_ (done_of HT_.out (by kernel_rfl)) ?_
    try go_wp2
    go_meet
    case rel => exact ⟨by first | rfl | simp, HB3⟩
  case rest =>
    obtain ⟨rfl, HB3⟩ := hcut
    go_wp2
    go_loopg [6] (s.L.length + 1) (fun kq v6 w' => ∃ (i : Nat) (x : Int), v6 = .int .i64 x ∧ Aside0 (x = (i : Int)) ∧ Aside0 (kq + i = s.L.length + 1) ∧ Aside0 (i ≤ s.L.length) ∧ Aside0 (Below W1.heap.size W1 w'))
    case atStart => exact ⟨0, _, rfl, ⟨rfl⟩, ⟨rfl⟩, ⟨Nat.zero_le _⟩, HB3⟩
    case round =>
      clear HB3
      obtain ⟨i, x, rfl, hx, hk, hi, HW⟩ := hrel
      by_cases c9 : i < s.L.length
      · have q1 : x < (s.L.length : Int) := by have := hx.out; omega
        have p1 : (0 : Int) ≤ x := by have := hx.out; omega
        have c3 : decide (x < (s.L.length : Int)) = true := decide_eq_true q1
        obtain ⟨ad, e1, x0⟩ := at_I HCL.out x p1 q1
        cases e1
        obtain ⟨ad2, e2, y0, y1, y2⟩ := at_T40 HCF.out x p1 q1
        cases e2
        have hr := rd_nums s.L i c9
        have hmem := mem40 s.L i c9
        rw [← hx.out] at hr hmem
        rw [hr] at x0
        obtain ⟨F, hF⟩ : ∃ F, rd_T40 s.L x = F := ⟨_, rfl⟩
        rw [hF] at x0 y0 hmem
        have hnum := HI.out.num _ hmem
        have HWF := Aside0.mk (wfn hnum.1 (show F.f0 ≤ 9223372036854775807 by omega))
        have hw : wrap64 (x + 1) = x + 1 := by have := HI.out.len; have := hx.out; unfold wrap64; omega
        have HWR := Aside0.mk hw
        have HCI := Aside0.mk c9
        have X0 := Aside0.mk x0
        have Y0 := Aside0.mk y0
        clear c9 hF hw hr hmem hnum x0 y0 y1 y2
        have x0 := (HW.out.cell (World.block_lt_of_cell? _ _ X0.out)).trans X0.out
        have p2 := eq_true p1
        have q2 := eq_true q1
        have HDW := Aside0.mk (HD.out.up HW.out)
        have HRW := Aside0.mk (HR.out.up HW.out)
        go_upto_region 9 with (first
          | ((with_reducible refine gate_callee (f := 17) rfl ?_); refine goesL_ (some _) rfl rfl Try.func17 (by kernel_rfl) rfl #[.pointer (some ⟨p, 0, none⟩), .int .i64 F.f0] rfl My.gx ?_; (refine (disk_Disk_Read.calls HDW.out F.f0 HWF.out).mono ?_); rintro e W4 ⟨rfl, hb⟩; refine ⟨_, rfl, ?_⟩; replace HRW := Aside0.mk (HRW.out.up hb); have HW4 := Aside0.mk (HW.out.trans (hb.mono HW.out.size)); replace x0 := (hb.cell (World.block_lt_of_cell? _ _ x0)).trans x0; clear hb)
          | ((with_reducible refine gate_callee (f := 38) rfl ?_); refine goesL_ (some _) rfl rfl Try.func38 (by kernel_rfl) rfl #[.pointer (some ⟨q, 0, none⟩), .int .i64 F.f0] rfl My.gx ?_; (refine (ref_Read.calls HRW.out F.f0).mono ?_); rintro e W5 ⟨rfl, hb⟩; refine ⟨_, rfl, ?_⟩; have HW5 := Aside0.mk (HW4.out.trans (hb.mono HW4.out.size)); clear hb x0))
        have x0 := (HW5.out.cell (World.block_lt_of_cell? _ _ X0.out)).trans X0.out
        have y0 := (HW5.out.cell (World.block_lt_of_cell? _ _ Y0.out)).trans Y0.out
        have k4 := (HW5.out.cell (World.block_lt_of_cell? _ _ K4.out)).trans K4.out
        go_quiet (fail)
        clear x0 y0 k4
        go_wp2
        have hI := HCI.out
        have hx1 := hx.out
        have hk1 := hk.out
        go_roundg (s.L.length - i)
        case measure => omega
        case rel => exact ⟨i + 1, x + 1, by first | rfl | (rw [HWR.out]), ⟨by omega⟩, ⟨by omega⟩, ⟨by omega⟩, ⟨pw_below_drewN HW5.out _⟩⟩
      · have c3 : decide (x < (s.L.length : Int)) = false := decide_eq_false (by have := hi.out; have := hx.out; omega)
        clear c9
        go_wp2
        go_ret
        exact ⟨rfl, HB.out.trans (HW.out.mono HB.out.size)⟩
end

end Go.Proofs.Ytjdpgkfhicpepaa.PA
