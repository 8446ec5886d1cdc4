/- A log on a disk, and the document's, walked by hand; Lean checks it. -/
import Derived.Test.YtkcpgaplpmbmoaaGreatPAx16
import Derived.Test.YtkcpgaplpmbmoaaGreatPAx5
namespace Go.Proofs.YtkcpgaplpmbmoaaGreat.PA
open Go.RowKit Go.Proofs.YtkcpgaplpmbmoaaGreatW.PrintWords Go.Proofs.YtkcpgaplpmbmoaaGreatW.PrintLast Go.Proofs.YtkcpgaplpmbmoaaGreatW.PrintMore
attribute [local go_sem] max2_int min2_int max_two min_two max_three min_three max_four min_four
set_option linter.unusedVariables false
set_option linter.unusedSimpArgs false

/-! #### a log on a disk: its file -/
/-- What a call turns: these blocks alone. -/
structure FrX (X : Nat → Prop) (W W' : World) : Prop where
  os : W'.os = W.os
  tape : W'.tape = W.tape
  output : W'.output = W.output
  size : W.heap.size ≤ W'.heap.size
  block : ∀ k, k < W.heap.size → ¬ X k → W'.heap[k]? = W.heap[k]?
theorem FrX.refl (X : Nat → Prop) (W : World) : FrX X W W := ⟨rfl, rfl, rfl, Nat.le_refl _, fun _ _ _ => rfl⟩
theorem FrX.trans {X : Nat → Prop} {a b c : World} (h : FrX X a b) (k : FrX X b c) : FrX X a c :=
  ⟨k.os.trans h.os, k.tape.trans h.tape, k.output.trans h.output, Nat.le_trans h.size k.size, fun i hi h1 => (k.block i (Nat.lt_of_lt_of_le hi h.size) h1).trans (h.block i hi h1)⟩
theorem FrX.mono {X Y : Nat → Prop} {a b : World} (h : FrX X a b) (hx : ∀ k, X k → Y k) : FrX Y a b :=
  ⟨h.os, h.tape, h.output, h.size, fun i hi h1 => h.block i hi (fun hX => h1 (hx i hX))⟩
theorem FrX.of {X : Nat → Prop} {a b : World} (h : Below a.heap.size a b) : FrX X a b := ⟨h.os, h.tape, h.output, h.size, fun k hk _ => h.block k hk⟩
theorem FrX.fr {X : Nat → Prop} {p bm : Nat} {a b : World} (h : Fr p bm a b) (h1 : X p) (h2 : X bm) : FrX X a b :=
  ⟨h.os, h.tape, h.output, h.size, fun k hk hX => h.block k hk (fun e => hX (e ▸ h1)) (fun e => hX (e ▸ h2))⟩
theorem FrX.set {X : Nat → Prop} {a b : World} (h : FrX X a b) (g i : Nat) (u : Value) (hg : a.heap.size ≤ g ∨ X g) : FrX X a (b.setCell ⟨g, i, none⟩ u) :=
  ⟨h.os, h.tape, h.output, by simpa using h.size, fun k hk hX => (Below.heap_setCell b ⟨g, i, none⟩ u k (by show k ≠ g; rintro rfl; rcases hg with hg | hg; omega; exact hX hg)).trans (h.block k hk hX)⟩
theorem FrX.below {X : Nat → Prop} {base : Nat} {W0 a b : World} (h : FrX X a b) (hb : Below base W0 a) (hX : ∀ k, X k → base ≤ k) (hle : base ≤ a.heap.size) : Below base W0 b :=
  ⟨h.os.trans hb.os, h.tape.trans hb.tape, h.output.trans hb.output, Nat.le_trans hb.size h.size, fun k hk => (h.block k (by omega) (fun hx => by have := hX k hx; omega)).trans (hb.block k hk)⟩
def writeS (s : DS) (n : Int) (d : ByteArray) : DS × Int := if (appS s n d).2 = 0 then syncS (appS s n d).1 n else appS s n d
def writeZ (s : DS) (n z : Int) (d : ByteArray) : Int := if (appS s n d).2 = 0 then z + (d.size : Int) else z
def FileAt (W : World) (g p : Nat) (n z : Int) : Prop := W.heap[g]? = some (.cells #[.pointer (some ⟨p, 0, none⟩), .int .i64 n, .int .i64 z] 62 (0, 0))
def wr.T1 : Bool × List (List Nat × List Nat) := (true, [([], []), ([0], [0]), ([1], [1]), ([2], [2]), ([], []), ([4], [4]), ([5], [5]), ([6], [6]), ([], []), ([3, 7, 8], [3, 7, 8]), ([9, 9, 0, 1, 2, 3, 4, 5, 6, 7, 8, 9], [9])])
def wr.B1 : List Nat := [0, 1, 3, 7, 0, 16, 48, 112, 0, 511, 1023]
theorem wr.tab1 : rtab .any (opsOf Tryz.f32 1) = wr.T1 := by kernel_rfl
theorem wr.bits1 : waitsOk wr.T1.2 wr.B1 = true := by kernel_rfl
def wr.T5 : Bool × List (List Nat × List Nat) := (true, [([], []), ([0], [0]), ([1], [1]), ([2], [2]), ([], []), ([4], [4]), ([5], [5]), ([6], [6]), ([3, 7], [3, 7]), ([8, 8, 0, 1, 2, 3, 4, 5, 6, 7, 8], [8])])
def wr.B5 : List Nat := [0, 1, 3, 7, 0, 16, 48, 112, 255, 511]
theorem wr.tab5 : rtab .any (opsOf Tryz.f32 5) = wr.T5 := by kernel_rfl
theorem wr.bits5 : waitsOk wr.T5.2 wr.B5 = true := by kernel_rfl
section
variable {base p bm g : Nat} {w w0 : World} {s : DS} {n z : Int}
set_option maxHeartbeats 16000000 in
set_option maxRecDepth 100000 in
theorem file_write.calls (hD : DiskAt base w p bm s) (hF : FileAt w g p n z) (hn : (Lit.int .i64 n).wf = true) (hz : 0 ≤ z ∧ z ≤ 1000000000000) (d : ByteArray) (hds : d.size ≤ 140737488351232) :
    Calls Tryz.prog 32 #[.pointer (some ⟨g, 0, none⟩), .string d] w fun e w' => e = .returned (.int .i64 (writeS s n d).2) ∧ DiskAt base w' p bm (writeS s n d).1 ∧ FileAt w' g p n (writeZ s n z d) ∧ FrX (fun k => k = p ∨ k = bm ∨ k = g) w w' := by
  have HD := Aside0.mk hD
  have HY := My.am hF
  have HN := Aside0.mk hn
  have HZ := Aside0.mk hz
  have HS := Aside0.mk hds
  unfold writeS writeZ FileAt
  obtain ⟨⟨s1, e1⟩, hR⟩ : ∃ R : DS × Int, appS s n d = R := ⟨_, rfl⟩
  rw [hR]
  have HRR := Aside0.mk hR
  dsimp only
  clear hD hF hn hz hds hR
  by_cases c : e1 = 0
  · subst c
    simp only [if_true]
    obtain ⟨⟨s2, e2⟩, hR2⟩ : ∃ R : DS × Int, syncS s1 n = R := ⟨_, rfl⟩
    rw [hR2]
    have HR2 := Aside0.mk hR2
    obtain ⟨z2, hz2⟩ : ∃ z2 : Int, z + (d.size : Int) = z2 := ⟨_, rfl⟩
    have hw2 : wrap64 (z + (d.size : Int)) = z2 := by have := HZ.out; have := HS.out; unfold wrap64; omega
    have hw3 : IntKind.i64.wrap (z + (d.size : Int)) = z2 := by rw [IntKind.wrap_i64]; have := HZ.out; have := HS.out; omega
    rw [hz2]
    have HW2 := Aside0.mk hw2
    have HW3 := Aside0.mk hw3
    dsimp only
    clear hR2 hz2 hw2 hw3
    go_enter Tryz.func32, Tryz.ntmps32
    go_upto_region 1 with (fail)
    refine start_ (n := 11) (S := fun w' => w'.heap[g]? = some (.cells #[.pointer (some ⟨p, 0, none⟩), .int .i64 n, .int .i64 z] 62 (0, 0))) (ds := []) #[false, false, false, false, false, false, false, false, false, false, false] (by kernel_rfl) rfl rfl HY.out (fun hHeld => ?_); refine with_tabW wr.tab1 wr.bits1 (fun HT_ HW_ => ?_)
    replace HD := Aside0.mk (HD.out.move (W' := w.drew) (fun _ _ _ => rfl))
    have HFX := Aside0.mk (FrX.of (X := fun k => k = p ∨ k = bm ∨ k = g) (Below.drew (Below.refl w.heap.size w)))
    generalize w.drew = W3 at HD HFX hHeld ⊢
    refine My.pv_ 0 6 11 1 HT_.out ?_
    refine My.pv_ 1 7 11 3 HT_.out ?_
    refine My.pv_ 2 8 11 7 HT_.out ?_
    refine My.tv_ 3 9 11 15 HT_.out HW_.out hHeld rfl rfl (by rintro w' hS; have hz := My.cz3 (My.am hS); go_simp; with_reducible rfl) ?_
    refine My.pv_ 4 10 11 31 HT_.out ?_
    refine My.pv_ 5 11 11 63 HT_.out ?_
    refine My.pv_ 6 12 11 127 HT_.out ?_
    refine My.tv_ 7 13 11 255 HT_.out HW_.out hHeld rfl rfl (by rintro w' hS; have hz := My.cz3 (My.am hS); go_simp; with_reducible rfl) ?_
    refine My.pv_ 8 14 11 511 HT_.out ?_
    refine one_ (i := 9) (N := some 15) (My.Mb 11 1023) rfl rfl (one_of HT_.out (by kernel_rfl)) (by decide) (fun K hK => ?_)
    refine goes_ Tryz.func58 (by kernel_rfl) rfl #[.pointer (some ⟨p, 0, none⟩), .int .i64 n, .string d] (by rfl) rfl rfl My.gx ?_
    refine (disk_Disk_Append.calls HD.out n HN.out d HS.out).mono ?_
    rintro e W4 ⟨rfl, hD4, hF4⟩
    refine ⟨_, rfl, ?_⟩
    rw [HRR.out] at hD4 ⊢
    dsimp only at hD4 ⊢
    have hY4 := (hF4.block g (blk_lt hHeld) (neOf hHeld (cellsOf HD.out) (by decide)) (neMap hHeld HD.out)).trans hHeld
    have HD2 := Aside0.mk hD4
    have HFX2 := Aside0.mk (HFX.out.trans (FrX.fr (X := fun k => k = p ∨ k = bm ∨ k = g) hF4 (.inl rfl) (.inr (.inl rfl))))
    clear hD4 hF4
    refine hK.out _ _ hY4 (fun hHeld => ?_)
    clear hK K
    refine My.nm 15 ?_
    refine My.pv_ 10 5 11 2047 HT_.out ?_
    refine done_ (done_of HT_.out (by kernel_rfl)) ?_
    clear HT_ HW_
    have HY4 := My.am hHeld
    have hz := My.cz3 HY4
    have hw2 := HW2.out
    have hw3 := HW3.out
    go_upto_region 5 with (fail)
    refine at_world (J := fun W => DiskAt base W p bm s1 ∧ W.heap[g]? = some (.cells #[.pointer (some ⟨p, 0, none⟩), .int .i64 n, .int .i64 z2] 62 (0, 0)) ∧ FrX (fun k => k = p ∨ k = bm ∨ k = g) w W) ⟨HD2.out.set_ HY4.out (by decide) (by decide), by first | exact blk_put HY4.out 2 (.int .i64 z2) rfl | (rw [← HW2.out]; exact blk_put HY4.out 2 _ rfl), HFX2.out.set g 2 _ (.inr (.inr (.inr rfl)))⟩ ?_
    clear hz hw2 hw3 HY4 HD2 HFX2 hHeld
    rintro W5 ⟨D5, Y5, F5⟩
    have HD := Aside0.mk D5
    have HFX := Aside0.mk F5
    clear D5 F5
    refine start_ (n := 10) (S := fun w' => w'.heap[g]? = some (.cells #[.pointer (some ⟨p, 0, none⟩), .int .i64 n, .int .i64 z2] 62 (0, 0))) (ds := []) #[false, false, false, false, false, false, false, false, false, false] (by kernel_rfl) rfl rfl Y5 (fun hHeld => ?_); refine with_tabW wr.tab5 wr.bits5 (fun HT_ HW_ => ?_)
    replace HD := Aside0.mk (HD.out.move (W' := W5.drew) (fun _ _ _ => rfl))
    replace HFX := Aside0.mk (HFX.out.trans (FrX.of (X := fun k => k = p ∨ k = bm ∨ k = g) (Below.drew (Below.refl W5.heap.size W5))))
    clear Y5
    generalize W5.drew = W3 at HD HFX hHeld ⊢
    refine My.pv_ 0 28 10 1 HT_.out ?_
    refine My.pv_ 1 29 10 3 HT_.out ?_
    refine My.pv_ 2 30 10 7 HT_.out ?_
    refine My.tv_ 3 31 10 15 HT_.out HW_.out hHeld rfl rfl (by rintro w' hS; have hz := My.cz3 (My.am hS); go_simp; with_reducible rfl) ?_
    refine My.pv_ 4 32 10 31 HT_.out ?_
    refine My.pv_ 5 33 10 63 HT_.out ?_
    refine My.pv_ 6 34 10 127 HT_.out ?_
    refine My.tv_ 7 35 10 255 HT_.out HW_.out hHeld rfl rfl (by rintro w' hS; have hz := My.cz3 (My.am hS); go_simp; with_reducible rfl) ?_
    refine one_ (i := 8) (N := some 36) (My.Mb 10 511) rfl rfl (one_of HT_.out (by kernel_rfl)) (by decide) (fun K hK => ?_)
    refine goes_ Tryz.func59 (by kernel_rfl) rfl #[.pointer (some ⟨p, 0, none⟩), .int .i64 n] (by rfl) rfl rfl My.gx ?_
    refine (disk_Disk_Sync.calls HD.out n HN.out).mono ?_
    rintro e W4 ⟨rfl, hD4, hF4⟩
    refine ⟨_, rfl, ?_⟩
    rw [HR2.out] at hD4 ⊢
    dsimp only at hD4 ⊢
    have hY4 := (hF4.block g (blk_lt hHeld) (neOf hHeld (cellsOf HD.out) (by decide)) (neMap hHeld HD.out)).trans hHeld
    have HD2 := Aside0.mk hD4
    have HFX2 := Aside0.mk (HFX.out.trans (FrX.fr (X := fun k => k = p ∨ k = bm ∨ k = g) hF4 (.inl rfl) (.inr (.inl rfl))))
    clear hD4 hF4
    refine hK.out _ _ hY4 (fun hHeld => ?_)
    clear hK K
    refine My.nm 36 ?_
    refine My.pv_ 9 4 10 1023 HT_.out ?_
    refine done_ (done_of HT_.out (by kernel_rfl)) ?_
    go_wp2
    go_ret
    exact ⟨rfl, HD2.out, hHeld, HFX2.out⟩
  · simp only [if_neg c]
    have m1 : decide (e1 = 0) = false := decide_eq_false c
    have m2 : (e1 == 0) = false := beq_eq_false_iff_ne.2 c
    have m3 : (e1 != 0) = true := by simp [bne, m2]
    clear c
    go_enter Tryz.func32, Tryz.ntmps32
    go_upto_region 1 with (fail)
    refine start_ (n := 11) (S := fun w' => w'.heap[g]? = some (.cells #[.pointer (some ⟨p, 0, none⟩), .int .i64 n, .int .i64 z] 62 (0, 0))) (ds := []) #[false, false, false, false, false, false, false, false, false, false, false] (by kernel_rfl) rfl rfl HY.out (fun hHeld => ?_); refine with_tabW wr.tab1 wr.bits1 (fun HT_ HW_ => ?_)
    replace HD := Aside0.mk (HD.out.move (W' := w.drew) (fun _ _ _ => rfl))
    have HFX := Aside0.mk (FrX.of (X := fun k => k = p ∨ k = bm ∨ k = g) (Below.drew (Below.refl w.heap.size w)))
    generalize w.drew = W3 at HD HFX hHeld ⊢
    refine My.pv_ 0 6 11 1 HT_.out ?_
    refine My.pv_ 1 7 11 3 HT_.out ?_
    refine My.pv_ 2 8 11 7 HT_.out ?_
    refine My.tv_ 3 9 11 15 HT_.out HW_.out hHeld rfl rfl (by rintro w' hS; have hz := My.cz3 (My.am hS); go_simp; with_reducible rfl) ?_
    refine My.pv_ 4 10 11 31 HT_.out ?_
    refine My.pv_ 5 11 11 63 HT_.out ?_
    refine My.pv_ 6 12 11 127 HT_.out ?_
    refine My.tv_ 7 13 11 255 HT_.out HW_.out hHeld rfl rfl (by rintro w' hS; have hz := My.cz3 (My.am hS); go_simp; with_reducible rfl) ?_
    refine My.pv_ 8 14 11 511 HT_.out ?_
    refine one_ (i := 9) (N := some 15) (My.Mb 11 1023) rfl rfl (one_of HT_.out (by kernel_rfl)) (by decide) (fun K hK => ?_)
    refine goes_ Tryz.func58 (by kernel_rfl) rfl #[.pointer (some ⟨p, 0, none⟩), .int .i64 n, .string d] (by rfl) rfl rfl My.gx ?_
    refine (disk_Disk_Append.calls HD.out n HN.out d HS.out).mono ?_
    rintro e W4 ⟨rfl, hD4, hF4⟩
    refine ⟨_, rfl, ?_⟩
    rw [HRR.out] at hD4 ⊢
    dsimp only at hD4 ⊢
    have hY4 := (hF4.block g (blk_lt hHeld) (neOf hHeld (cellsOf HD.out) (by decide)) (neMap hHeld HD.out)).trans hHeld
    have HD2 := Aside0.mk hD4
    have HFX2 := Aside0.mk (HFX.out.trans (FrX.fr (X := fun k => k = p ∨ k = bm ∨ k = g) hF4 (.inl rfl) (.inr (.inl rfl))))
    clear hD4 hF4
    refine hK.out _ _ hY4 (fun hHeld => ?_)
    clear hK K
    refine My.nm 15 ?_
    refine My.pv_ 10 5 11 2047 HT_.out ?_
    refine done_ (done_of HT_.out (by kernel_rfl)) ?_
    clear HT_ HW_
    go_wp2
    go_ret
    exact ⟨rfl, HD2.out, hHeld, HFX2.out⟩
end
/-! #### beginning a file; dropping files -/
section
variable {base p bm g q : Nat} {w w0 : World} {s : DS} {n z : Int}
theorem FrX.keep3 {W : World} {A : Option Addr} {ks : List Int} (h : (Kd.int .i64).C w A ks.length ks) (hb : Below w.heap.size w W) : (Kd.int .i64).C W A ks.length ks := Kd.C_below h hb
set_option maxHeartbeats 8000000 in
set_option maxRecDepth 100000 in
theorem file_begin.ok (hD : DiskAt base w p bm s) (hF : FileAt w g p n z) (m : Int) (hm : (Lit.int .i64 m).wf = true) (body r1 : ByteArray) (k : Nat) (hB : segment_Begin.f k body = some (r1, 0)) (hr : r1.size ≤ 140737488351232) :
    Calls Tryz.prog 22 #[.pointer (some ⟨g, 0, none⟩), .int .i64 m, .string body] w fun e w' => e = .returned (.int .i64 (writeS s m r1).2) ∧ DiskAt base w' p bm (writeS s m r1).1 ∧ FileAt w' g p m (writeZ s m 0 r1) ∧ FrX (fun k => k = p ∨ k = bm ∨ k = g) w w' := by
  have HD := Aside0.mk hD
  have HY := My.am hF
  have HM := Aside0.mk hm
  have HB := Aside0.mk hB
  have HR1 := Aside0.mk hr
  have HLT := Aside0.mk (blk_lt hF)
  clear hD hF hm hB hr
  obtain ⟨R, hR⟩ : ∃ R : DS × Int, writeS s m r1 = R := ⟨_, rfl⟩
  obtain ⟨z2, hz2⟩ : ∃ z2 : Int, writeZ s m 0 r1 = z2 := ⟨_, rfl⟩
  rw [hR, hz2]
  have HRR := Aside0.mk hR
  have HZ2 := Aside0.mk hz2
  clear hR hz2
  go_enter Tryz.func22, Tryz.ntmps22
  go_upto_region 4 with ((with_reducible refine gate_callee (f := 46) rfl ?_); refine goesL_ (some 11) rfl rfl Tryz.func46 (by kernel_rfl) rfl #[.string body] rfl My.gx ?_; (refine (segment_Begin.calls k body _ _ _ HB.out).mono ?_); rintro e W11 ⟨rfl, hb⟩; refine ⟨_, rfl, ?_⟩; replace HD := Aside0.mk (HD.out.up hb); replace HY := My.am ((hb.block _ HLT.out).trans HY.out); have HFX := Aside0.mk (FrX.of (X := (fun k => k = p ∨ k = bm ∨ k = g)) hb); clear hb)
  have hz := My.cz3 HY
  go_upto_region 5 with (fail)
  refine at_world (J := fun W => DiskAt base W p bm s ∧ FileAt W g p m 0 ∧ FrX (fun k => k = p ∨ k = bm ∨ k = g) w W) ⟨(HD.out.set_ HY.out (by decide) (by decide)).set_ (blk_put HY.out 1 (.int .i64 m) rfl) (by decide) (by decide), blk_put (blk_put HY.out 1 (.int .i64 m) rfl) 2 (.int .i64 0) rfl, (HFX.out.set g 1 _ (.inr (.inr (.inr rfl)))).set g 2 _ (.inr (.inr (.inr rfl)))⟩ ?_
  clear hz HD HY HFX
  rintro W5 ⟨D5, Y5, F5⟩
  have HD := Aside0.mk D5
  have HY := Aside0.mk Y5
  have HFX := Aside0.mk F5
  clear D5 Y5 F5
  go_wp2_with ((with_reducible refine gate_callee (f := 32) rfl ?_); refine goesL_ (some 26) rfl rfl Tryz.func32 (by kernel_rfl) rfl #[.pointer (some ⟨g, 0, none⟩), .string r1] rfl My.gx ?_; (refine (file_write.calls HD.out HY.out HM.out (by decide) r1 HR1.out).mono ?_); rintro e W26 ⟨rfl, hD, hY, hF⟩; refine ⟨_, rfl, ?_⟩; rw [HRR.out] at hD ⊢; rw [HZ2.out] at hY; have HD2 := Aside0.mk hD; have HY2 := Aside0.mk hY; have HFX2 := Aside0.mk (HFX.out.trans hF); clear hD hY hF)
  go_ret
  exact ⟨rfl, HD2.out, HY2.out, HFX2.out⟩
set_option maxHeartbeats 8000000 in
set_option maxRecDepth 100000 in
theorem file_begin.bad (hD : DiskAt base w p bm s) (hF : FileAt w g p n z) (m : Int) (body r1 : ByteArray) (r2 : Int) (k : Nat) (hB : segment_Begin.f k body = some (r1, r2)) (h2 : r2 ≠ 0) :
    Calls Tryz.prog 22 #[.pointer (some ⟨g, 0, none⟩), .int .i64 m, .string body] w fun e w' => e = .returned (.int .i64 r2) ∧ DiskAt base w' p bm s ∧ FileAt w' g p n z ∧ FrX (fun k => k = p ∨ k = bm ∨ k = g) w w' := by
  have HD := Aside0.mk hD
  have HY := My.am hF
  have HB := Aside0.mk hB
  have HLT := Aside0.mk (blk_lt hF)
  have m1 : decide (r2 = 0) = false := decide_eq_false h2
  have m2 : (r2 == 0) = false := beq_eq_false_iff_ne.2 h2
  have m3 : (r2 != 0) = true := by simp [bne, m2]
  clear hD hF hB h2
  go_enter Tryz.func22, Tryz.ntmps22
  go_wp2_with ((with_reducible refine gate_callee (f := 46) rfl ?_); refine goesL_ (some 11) rfl rfl Tryz.func46 (by kernel_rfl) rfl #[.string body] rfl My.gx ?_; (refine (segment_Begin.calls k body _ _ _ HB.out).mono ?_); rintro e W11 ⟨rfl, hb⟩; refine ⟨_, rfl, ?_⟩; replace HD := Aside0.mk (HD.out.up hb); replace HY := My.am ((hb.block _ HLT.out).trans HY.out); have HFX := Aside0.mk (FrX.of (X := (fun k => k = p ∨ k = bm ∨ k = g)) hb); clear hb)
  go_ret
  exact ⟨rfl, HD.out, HY.out, HFX.out⟩
def dropS : DS → List Int → DS × Int
  | s, [] => (s, 0)
  | s, n :: r => if (remS s n).2 = 0 then dropS (remS s n).1 r else remS s n
theorem dropS_one (s : DS) (n : Int) : dropS s [n] = remS s n := by
  unfold dropS dropS
  split
  · next h => rw [← h]
  · rfl
theorem drop_I (l : List Int) (i : Nat) (h : i < l.length) : l.drop i = rd l (i : Int) :: l.drop (i + 1) := by
  rw [List.drop_eq_getElem_cons h]
  congr 1
  unfold rd
  rw [Int.toNat_natCast, List.getD_eq_getElem?_getD, List.getElem?_eq_getElem h]
  rfl
set_option maxHeartbeats 8000000 in
set_option maxRecDepth 100000 in
theorem wal_drop.calls (hD : DiskAt base w p bm s) (A : Option Addr) (c : Nat) (l : List Int) (hl : l.length ≤ 1000000) (hw : ∀ x ∈ l, (Lit.int .i64 x).wf = true) (hkeep : ∀ W, Fr p bm w W → (Kd.int .i64).C W A l.length l) :
    Calls Tryz.prog 21 #[.pointer (some ⟨p, 0, none⟩), .slice A l.length c] w fun e w' => e = .returned (.int .i64 (dropS s l).2) ∧ DiskAt base w' p bm (dropS s l).1 ∧ Fr p bm w w' := by
  have HD0 := Aside0.mk hD
  have HK := Aside0.mk hkeep
  have HL := Aside0.mk hl
  have HWF := Aside0.mk hw
  clear hD hl hw hkeep
  obtain ⟨R, hR⟩ : ∃ R : DS × Int, dropS s l = R := ⟨_, rfl⟩
  rw [hR]
  have HRR := Aside0.mk hR
  clear hR
  go_enter Tryz.func21, Tryz.ntmps21
  go_wp2
  go_loopg [10] (l.length + 1) (fun kq v10 w' => ∃ (i : Nat) (x : Int) (S : DS), v10 = .int .i64 x ∧ Aside0 (x = (i : Int)) ∧ Aside0 (kq + i = l.length + 1) ∧ Aside0 (i ≤ l.length) ∧ Aside0 (DiskAt base w' p bm S) ∧ Aside0 (Fr p bm w w') ∧ Aside0 (dropS S (l.drop i) = R))
  case atStart => exact ⟨0, _, _, rfl, ⟨rfl⟩, ⟨rfl⟩, ⟨Nat.zero_le _⟩, HD0, ⟨Fr.refl _ _ _⟩, HRR⟩
  case round =>
    clear HD0 HRR
    obtain ⟨i, x, S, rfl, hx, hk, hi, HD, HF, HRR⟩ := hrel
    by_cases c9 : i < l.length
    · have q1 : x < (l.length : Int) := by have := hx.out; omega
      have p1 : (0 : Int) ≤ x := by have := hx.out; omega
      have c3 : decide (x < (l.length : Int)) = true := decide_eq_true q1
      obtain ⟨ad, e1, x0⟩ := at_I (HK.out _ HF.out) x p1 q1
      cases e1
      have hd := drop_I l i c9
      rw [← hx.out] at hd
      have hmem : rd l x ∈ l := by have : rd l x ∈ l.drop i := by rw [hd]; exact List.mem_cons_self
                                   exact List.mem_of_mem_drop this
      have hwf := HWF.out _ hmem
      have hr := HRR.out
      rw [hd] at hr
      obtain ⟨y, hy⟩ : ∃ y, rd l x = y := ⟨_, rfl⟩
      rw [hy] at x0 hwf hr
      have HWY := Aside0.mk hwf
      rw [dropS] at hr
      have hw1 : wrap64 (x + 1) = x + 1 := by have := HL.out; unfold wrap64; omega
      have hw2 : IntKind.i64.wrap (x + 1) = x + 1 := by rw [IntKind.wrap_i64]; have := HL.out; omega
      have HI := Aside0.mk c9
      have p2 := eq_true p1
      have q2 := eq_true q1
      obtain ⟨⟨s1, e1⟩, hR1⟩ : ∃ R1 : DS × Int, remS S y = R1 := ⟨_, rfl⟩
      rw [hR1] at hr
      dsimp only at hr
      have HR1 := Aside0.mk hR1
      clear hd hmem hwf hy c9 hR1 HRR
      by_cases c : e1 = 0
      · rw [if_pos c] at hr
        subst c
        have HRN := Aside0.mk hr
        clear hr
        go_wp2_with ((with_reducible refine gate_callee (f := 45) rfl ?_); refine goesL_ (some 16) rfl rfl Tryz.func45 (by kernel_rfl) rfl #[.pointer (some ⟨p, 0, none⟩), .int .i64 y] rfl My.gx ?_; (refine (disk_Disk_Remove.calls HD.out y HWY.out).mono ?_); rintro e W16 ⟨rfl, hD, hF⟩; refine ⟨_, rfl, ?_⟩; rw [HR1.out] at hD ⊢; dsimp only at hD ⊢; have HD2 := Aside0.mk hD; have HF2 := Aside0.mk (HF.out.trans hF); clear hD hF x0)
        have hI := HI.out
        have hx1 := hx.out
        have hk1 := hk.out
        go_roundg (l.length - i)
        case measure => omega
        case rel => exact ⟨i + 1, x + 1, s1, by first | rfl | (rw [hw1]) | (rw [hw2]), ⟨by omega⟩, ⟨by omega⟩, ⟨by omega⟩, HD2, HF2, HRN⟩
      · rw [if_neg c] at hr
        have m1 : decide (e1 = 0) = false := decide_eq_false c
        have m2 : (e1 == 0) = false := beq_eq_false_iff_ne.2 c
        have m3 : (e1 != 0) = true := by simp [bne, m2]
        subst hr
        clear c
        go_wp2_with ((with_reducible refine gate_callee (f := 45) rfl ?_); refine goesL_ (some 16) rfl rfl Tryz.func45 (by kernel_rfl) rfl #[.pointer (some ⟨p, 0, none⟩), .int .i64 y] rfl My.gx ?_; (refine (disk_Disk_Remove.calls HD.out y HWY.out).mono ?_); rintro e W16 ⟨rfl, hD, hF⟩; refine ⟨_, rfl, ?_⟩; rw [HR1.out] at hD ⊢; dsimp only at hD ⊢; have HD2 := Aside0.mk hD; have HF2 := Aside0.mk (HF.out.trans hF); clear hD hF x0)
        go_ret
        exact ⟨rfl, HD2.out, HF2.out⟩
    · have c3 : decide (x < (l.length : Int)) = false := decide_eq_false (by have := hi.out; have := hx.out; omega)
      have hr := HRR.out
      rw [List.drop_eq_nil_of_le (by omega), dropS] at hr
      subst hr
      clear c9 HRR
      go_wp2
      go_ret
      exact ⟨rfl, HD.out, HF.out⟩
end
/-! #### the log -/
structure WS where
  num : Int
  size : Int
  broken : Bool
/-- In block q lies a log; its file is in block g, its disk in p. -/
structure LogAt (W : World) (q g p : Nat) (x : WS) : Prop where
  l : W.heap[q]? = some (.cells #[.pointer (some ⟨g, 0, none⟩), .bool x.broken] 67 (0, 0))
  f : FileAt W g p x.num x.size
theorem LogAt.ne {W : World} {q g p : Nat} {x : WS} (h : LogAt W q g p x) : q ≠ g := by
  rintro rfl
  have h1 := h.l
  have h2 : W.heap[q]? = some (.cells #[.pointer (some ⟨p, 0, none⟩), .int .i64 x.num, .int .i64 x.size] 62 (0, 0)) := h.f
  rw [h1] at h2
  injection h2 with h2
  injection h2 with _ h2
  cases h2
section
variable {base p bm g q : Nat} {w w0 : World} {s : DS} {x : WS}
theorem LogAt.up {W : World} (h : LogAt w q g p x) (hb : Below w.heap.size w W) : LogAt W q g p x :=
  ⟨(hb.block _ (blk_lt h.l)).trans h.l, (hb.block _ (blk_lt h.f)).trans h.f⟩
theorem LogAt.fr {W : World} {X : Nat → Prop} (h : LogAt w q g p x) (hf : FrX X w W) (hq : ¬ X q) (hg : ¬ X g) : LogAt W q g p x :=
  ⟨(hf.block _ (blk_lt h.l) hq).trans h.l, (hf.block _ (blk_lt h.f) hg).trans h.f⟩
theorem LogAt.qp (h : LogAt w q g p x) (hD : DiskAt base w p bm s) : q ≠ p ∧ q ≠ bm ∧ g ≠ p ∧ g ≠ bm :=
  ⟨neOf h.l (cellsOf hD) (by decide), neMap h.l hD, neOf h.f (cellsOf hD) (by decide), neMap h.f hD⟩
set_option maxHeartbeats 4000000 in
set_option maxRecDepth 100000 in
theorem log_ready.nil (w : World) : Calls Tryz.prog 29 #[.pointer none] w fun e w' => e = .returned (.int .i64 1) ∧ Below w.heap.size w w' := by
  go_enter Tryz.func29, Tryz.ntmps29
  go_wp2
  go_ret
  exact ⟨rfl, Below.refl _ _⟩
set_option maxHeartbeats 4000000 in
set_option maxRecDepth 100000 in
theorem log_ready.empty (hl : w.heap[q]? = some (.cells #[.pointer none, .bool false] 67 (0, 0))) : Calls Tryz.prog 29 #[.pointer (some ⟨q, 0, none⟩)] w fun e w' => e = .returned (.int .i64 1) ∧ Below w.heap.size w w' := by
  have HY := My.am hl
  clear hl
  have hz := My.cz2 HY
  go_enter Tryz.func29, Tryz.ntmps29
  go_wp2
  go_ret
  exact ⟨rfl, Below.refl _ _⟩
set_option maxHeartbeats 4000000 in
set_option maxRecDepth 100000 in
theorem log_ready.dead (hl : w.heap[q]? = some (.cells #[.pointer (some ⟨g, 0, none⟩), .bool true] 67 (0, 0))) : Calls Tryz.prog 29 #[.pointer (some ⟨q, 0, none⟩)] w fun e w' => e = .returned (.int .i64 150) ∧ Below w.heap.size w w' := by
  have HY := My.am hl
  clear hl
  have hz := My.cz2 HY
  go_enter Tryz.func29, Tryz.ntmps29
  go_wp2
  go_ret
  exact ⟨rfl, Below.refl _ _⟩
set_option maxHeartbeats 4000000 in
set_option maxRecDepth 100000 in
theorem log_ready.live (hl : w.heap[q]? = some (.cells #[.pointer (some ⟨g, 0, none⟩), .bool false] 67 (0, 0))) : Calls Tryz.prog 29 #[.pointer (some ⟨q, 0, none⟩)] w fun e w' => e = .returned (.int .i64 0) ∧ Below w.heap.size w w' := by
  have HY := My.am hl
  clear hl
  have hz := My.cz2 HY
  go_enter Tryz.func29, Tryz.ntmps29
  go_wp2
  go_ret
  exact ⟨rfl, Below.refl _ _⟩
set_option maxHeartbeats 4000000 in
set_option maxRecDepth 100000 in
theorem file_Number.nil (w : World) : Calls Tryz.prog 33 #[.pointer none] w fun e w' => e = .returned (.int .i64 0) ∧ Below w.heap.size w w' := by
  go_enter Tryz.func33, Tryz.ntmps33
  go_wp2
  go_ret
  exact ⟨rfl, Below.refl _ _⟩
set_option maxHeartbeats 4000000 in
set_option maxRecDepth 100000 in
theorem file_Number.calls {n z : Int} (hF : FileAt w g p n z) : Calls Tryz.prog 33 #[.pointer (some ⟨g, 0, none⟩)] w fun e w' => e = .returned (.int .i64 n) ∧ Below w.heap.size w w' := by
  have HY := My.am hF
  clear hF
  have hz := My.cz3 HY
  go_enter Tryz.func33, Tryz.ntmps33
  go_wp2
  go_ret
  exact ⟨rfl, Below.refl _ _⟩
set_option maxHeartbeats 4000000 in
set_option maxRecDepth 100000 in
theorem log_Number.nil (w : World) : Calls Tryz.prog 15 #[.pointer none] w fun e w' => e = .returned (.int .i64 0) ∧ Below w.heap.size w w' := by
  go_enter Tryz.func15, Tryz.ntmps15
  go_wp2
  go_ret
  exact ⟨rfl, Below.refl _ _⟩
set_option maxHeartbeats 4000000 in
set_option maxRecDepth 100000 in
theorem log_Number.empty (hl : w.heap[q]? = some (.cells #[.pointer none, .bool false] 67 (0, 0))) : Calls Tryz.prog 15 #[.pointer (some ⟨q, 0, none⟩)] w fun e w' => e = .returned (.int .i64 0) ∧ Below w.heap.size w w' := by
  have HY := My.am hl
  clear hl
  have hz := My.cz2 HY
  go_enter Tryz.func15, Tryz.ntmps15
  go_wp2_with ((with_reducible refine gate_callee (f := 33) rfl ?_); refine goesL_ (some 9) rfl rfl Tryz.func33 (by kernel_rfl) rfl #[.pointer none] rfl My.gx ?_; (refine (file_Number.nil _).mono ?_); rintro e W9 ⟨rfl, hb⟩; refine ⟨_, rfl, ?_⟩; have HB := Aside0.mk hb; clear hb hz)
  go_ret
  exact ⟨rfl, HB.out⟩
set_option maxHeartbeats 4000000 in
set_option maxRecDepth 100000 in
theorem log_Number.calls (h : LogAt w q g p x) : Calls Tryz.prog 15 #[.pointer (some ⟨q, 0, none⟩)] w fun e w' => e = .returned (.int .i64 x.num) ∧ Below w.heap.size w w' := by
  have HY := My.am h.l
  have HF := Aside0.mk h.f
  clear h
  have hz := My.cz2 HY
  go_enter Tryz.func15, Tryz.ntmps15
  go_wp2_with ((with_reducible refine gate_callee (f := 33) rfl ?_); refine goesL_ (some 9) rfl rfl Tryz.func33 (by kernel_rfl) rfl #[.pointer (some ⟨g, 0, none⟩)] rfl My.gx ?_; (refine (file_Number.calls HF.out).mono ?_); rintro e W9 ⟨rfl, hb⟩; refine ⟨_, rfl, ?_⟩; have HB := Aside0.mk hb; clear hb hz)
  go_ret
  exact ⟨rfl, HB.out⟩
set_option maxHeartbeats 4000000 in
set_option maxRecDepth 100000 in
theorem file_Size.nil (w : World) : Calls Tryz.prog 34 #[.pointer none] w fun e w' => e = .returned (.int .i64 0) ∧ Below w.heap.size w w' := by
  go_enter Tryz.func34, Tryz.ntmps34
  go_wp2
  go_ret
  exact ⟨rfl, Below.refl _ _⟩
set_option maxHeartbeats 4000000 in
set_option maxRecDepth 100000 in
theorem file_Size.calls {n z : Int} (hF : FileAt w g p n z) : Calls Tryz.prog 34 #[.pointer (some ⟨g, 0, none⟩)] w fun e w' => e = .returned (.int .i64 z) ∧ Below w.heap.size w w' := by
  have HY := My.am hF
  clear hF
  have hz := My.cz3 HY
  go_enter Tryz.func34, Tryz.ntmps34
  go_wp2
  go_ret
  exact ⟨rfl, Below.refl _ _⟩
set_option maxHeartbeats 4000000 in
set_option maxRecDepth 100000 in
theorem log_Size.nil (w : World) : Calls Tryz.prog 16 #[.pointer none] w fun e w' => e = .returned (.int .i64 0) ∧ Below w.heap.size w w' := by
  go_enter Tryz.func16, Tryz.ntmps16
  go_wp2
  go_ret
  exact ⟨rfl, Below.refl _ _⟩
set_option maxHeartbeats 4000000 in
set_option maxRecDepth 100000 in
theorem log_Size.empty (hl : w.heap[q]? = some (.cells #[.pointer none, .bool false] 67 (0, 0))) : Calls Tryz.prog 16 #[.pointer (some ⟨q, 0, none⟩)] w fun e w' => e = .returned (.int .i64 0) ∧ Below w.heap.size w w' := by
  have HY := My.am hl
  clear hl
  have hz := My.cz2 HY
  go_enter Tryz.func16, Tryz.ntmps16
  go_wp2_with ((with_reducible refine gate_callee (f := 34) rfl ?_); refine goesL_ (some 9) rfl rfl Tryz.func34 (by kernel_rfl) rfl #[.pointer none] rfl My.gx ?_; (refine (file_Size.nil _).mono ?_); rintro e W9 ⟨rfl, hb⟩; refine ⟨_, rfl, ?_⟩; have HB := Aside0.mk hb; clear hb hz)
  go_ret
  exact ⟨rfl, HB.out⟩
set_option maxHeartbeats 4000000 in
set_option maxRecDepth 100000 in
theorem log_Size.calls (h : LogAt w q g p x) : Calls Tryz.prog 16 #[.pointer (some ⟨q, 0, none⟩)] w fun e w' => e = .returned (.int .i64 x.size) ∧ Below w.heap.size w w' := by
  have HY := My.am h.l
  have HF := Aside0.mk h.f
  clear h
  have hz := My.cz2 HY
  go_enter Tryz.func16, Tryz.ntmps16
  go_wp2_with ((with_reducible refine gate_callee (f := 34) rfl ?_); refine goesL_ (some 9) rfl rfl Tryz.func34 (by kernel_rfl) rfl #[.pointer (some ⟨g, 0, none⟩)] rfl My.gx ?_; (refine (file_Size.calls HF.out).mono ?_); rintro e W9 ⟨rfl, hb⟩; refine ⟨_, rfl, ?_⟩; have HB := Aside0.mk hb; clear hb hz)
  go_ret
  exact ⟨rfl, HB.out⟩
set_option maxHeartbeats 4000000 in
set_option maxRecDepth 100000 in
theorem log_told.calls {v : Value} {b : Bool} (hl : w.heap[q]? = some (.cells #[v, .bool b] 67 (0, 0))) (e1 : Int) : Calls Tryz.prog 31 #[.pointer (some ⟨q, 0, none⟩), .int .i64 e1] w fun e w' => e = .returned (.int .i64 e1) ∧ w'.heap[q]? = some (.cells #[v, .bool (decide (e1 = 150))] 67 (0, 0)) ∧ FrX (fun k => k = q) w w' := by
  have HY := My.am hl
  clear hl
  have hz := My.cz2 HY
  by_cases c : e1 = 150
  · subst c
    go_enter Tryz.func31, Tryz.ntmps31
    go_wp2
    go_ret
    exact ⟨rfl, blk_put HY.out 1 (.bool true) rfl, (FrX.refl _ _).set q 1 _ (.inr rfl)⟩
  · have m1 : decide (e1 = 150) = false := decide_eq_false c
    have m2 : (e1 == 150) = false := beq_eq_false_iff_ne.2 c
    clear c
    rw [m1]
    go_enter Tryz.func31, Tryz.ntmps31
    go_wp2
    go_ret
    exact ⟨rfl, blk_put HY.out 1 (.bool false) rfl, (FrX.refl _ _).set q 1 _ (.inr rfl)⟩
end

end Go.Proofs.YtkcpgaplpmbmoaaGreat.PA
