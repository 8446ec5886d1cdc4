/- A log on a disk, and the document's, walked by hand; Lean checks it. -/
import Derived.Test.YtkcpgaplpmbmoaaGreatPAx17
import Derived.Test.YtkcpgaplpmbmoaaGreatPAx4
namespace Go.Proofs.YtkcpgaplpmbmoaaGreat.PA
open Go.RowKit Go.Proofs.YtkcpgaplpmbmoaaGreatW.PrintWords Go.Proofs.YtkcpgaplpmbmoaaGreatW.PrintLast Go.Proofs.YtkcpgaplpmbmoaaGreatW.PrintMore
attribute [local go_sem] max2_int min2_int max_two min_two max_three min_three max_four min_four
set_option linter.unusedVariables false
set_option linter.unusedSimpArgs false

/-! #### the log: Append and Turn -/
section
variable {base p bm g q : Nat} {w w0 : World} {s : DS} {n z : Int}
theorem DiskAt.frx {W : World} {cs : Array Value} {t : Nat} (h : DiskAt base w p bm s) (hf : FrX (fun k => k = q) w W) (hl : w.heap[q]? = some (.cells cs t (0, 0))) (h1 : t ≠ 52) (h3 : t ≠ 3) : DiskAt base W p bm s := by
  obtain ⟨kv, hb, hk⟩ := h.blk
  obtain ⟨es, clock, hm⟩ := h.map.blk
  have n1 : p ≠ q := fun e => (neOf hl (cellsOf h) h1) e.symm
  have n2 : bm ≠ q := fun e => (neMap hl h) e.symm
  refine ⟨h.inv, ⟨kv, (hf.block p (blk_lt hb) n1).trans hb, Kd.R_mono (Kd.R_step (Kd.R_bound hk) (fun k ho hlt => hf.block k hlt ?_)) (fun _ _ => trivial)⟩, h.map.move (hf.block bm (blk_lt hm) n2), h.hp, h.hm⟩
  obtain ⟨_, _, _, t', ht, cells, hc⟩ := ho
  obtain rfl : t' = 3 := by simpa [Kd.int, Kd.scalar] using ht
  rintro rfl
  rw [hl] at hc
  injection hc with hc
  injection hc with _ hc
  exact h3 hc
theorem FrX.trans' {X Y : Nat → Prop} {a b c : World} (h : FrX Y a b) (k : FrX X b c) (hx : ∀ i, X i → Y i ∨ a.heap.size ≤ i) : FrX Y a c :=
  ⟨k.os.trans h.os, k.tape.trans h.tape, k.output.trans h.output, Nat.le_trans h.size k.size, fun i hi h1 => (k.block i (Nat.lt_of_lt_of_le hi h.size) (fun hX => by rcases hx i hX with h2 | h2; exact h1 h2; omega)).trans (h.block i hi h1)⟩
theorem one_str (W : World) (body : ByteArray) : Kd.C Kd.string (W.alloc (.cells #[.string body] 9)) (some ⟨W.heap.size, 0, none⟩) [body].length [body] := by
  have h1 : (W.alloc (.cells #[.string body] 9)).heap[W.heap.size]? = some (.cells #[.string body] 9 (0, 0)) := (MapKept.heap_alloc W _).1
  have hR : Kd.string.R 9 (W.alloc (.cells #[.string body] 9)) 0 (fun _ => True) (.slice (some ⟨W.heap.size, 0, none⟩) 1 1) [body] := ⟨fun _ _ => trivial, [.string body], ⟨rfl, .inr ⟨W.heap.size, 1, #[.string body], rfl, Nat.zero_le _, h1, Nat.le_refl _, by unfold maxLen; omega, rfl, rfl⟩⟩, My.enc_reps (fun x => .string x) [body]⟩
  exact (Kd.R_reads' hR).2.2
theorem keep_one (h : DiskAt base w p bm s) (n : Int) : ∀ W, Fr p bm (w.alloc (.cells #[.int .i64 n] 3)) W → (Kd.int .i64).C W (some ⟨w.heap.size, 0, none⟩) [n].length [n] := by
  intro W hf
  have h1 : W.heap[w.heap.size]? = some (.cells #[.int .i64 n] 3 (0, 0)) := by
    rw [hf.block _ (by simp) (by have := h.lt; omega) (by have := h.ltm; omega)]
    exact (MapKept.heap_alloc w _).1
  have hR : (Kd.int .i64).R 3 W 0 (fun _ => True) (.slice (some ⟨w.heap.size, 0, none⟩) 1 1) [n] := ⟨fun _ _ => trivial, [.int .i64 n], ⟨rfl, .inr ⟨w.heap.size, 1, #[.int .i64 n], rfl, Nat.zero_le _, h1, Nat.le_refl _, by unfold maxLen; omega, rfl, rfl⟩⟩, My.enc_reps (fun x => .int .i64 x) [n]⟩
  exact (Kd.R_reads' hR).2.2
set_option maxHeartbeats 8000000 in
set_option maxRecDepth 100000 in
theorem log_Append.dead (hD : DiskAt base w p bm s) (hL : LogAt w q g p ⟨n, z, true⟩) (body : ByteArray) :
    Calls Tryz.prog 13 #[.pointer (some ⟨q, 0, none⟩), .string body] w fun e w' => e = .returned (.int .i64 150) ∧ DiskAt base w' p bm s ∧ LogAt w' q g p ⟨n, z, true⟩ ∧ FrX (fun k => k = p ∨ k = bm ∨ k = g ∨ k = q) w w' := by
  have HD := Aside0.mk hD
  have HL := Aside0.mk hL
  have HFX := Aside0.mk (FrX.refl (fun k => k = p ∨ k = bm ∨ k = g ∨ k = q) w)
  clear hD hL
  go_enter Tryz.func13, Tryz.ntmps13
  go_wp2_with ((with_reducible refine gate_callee (f := 29) rfl ?_); refine goesL_ (some 9) rfl rfl Tryz.func29 (by kernel_rfl) rfl #[.pointer (some ⟨q, 0, none⟩)] rfl My.gx ?_; (refine (log_ready.dead HL.out.l).mono ?_); rintro e W9 ⟨rfl, hb⟩; refine ⟨_, rfl, ?_⟩; replace HD := Aside0.mk (HD.out.up hb); replace HL := Aside0.mk (HL.out.up hb); replace HFX := Aside0.mk (HFX.out.trans (FrX.of hb)); clear hb)
  go_ret
  exact ⟨rfl, HD.out, HL.out, HFX.out⟩
set_option maxHeartbeats 8000000 in
set_option maxRecDepth 100000 in
theorem log_Append.bad (hD : DiskAt base w p bm s) (hL : LogAt w q g p ⟨n, z, false⟩) (body r1 : ByteArray) (r2 : Int) (k : Nat) (hB : segment_Next.f k [body] = some (r1, r2)) (h2 : r2 ≠ 0) :
    Calls Tryz.prog 13 #[.pointer (some ⟨q, 0, none⟩), .string body] w fun e w' => e = .returned (.int .i64 r2) ∧ DiskAt base w' p bm s ∧ LogAt w' q g p ⟨n, z, false⟩ ∧ FrX (fun k => k = p ∨ k = bm ∨ k = g ∨ k = q) w w' := by
  have HD := Aside0.mk hD
  have HL := Aside0.mk hL
  have HFX := Aside0.mk (FrX.refl (fun k => k = p ∨ k = bm ∨ k = g ∨ k = q) w)
  have HB := Aside0.mk hB
  have m1 : decide (r2 = 0) = false := decide_eq_false h2
  have m2 : (r2 == 0) = false := beq_eq_false_iff_ne.2 h2
  have m3 : (r2 != 0) = true := by simp [bne, m2]
  clear hD hL hB h2
  go_enter Tryz.func13, Tryz.ntmps13
  go_wp2_with (first
      | ((with_reducible refine gate_callee (f := 29) rfl ?_); refine goesL_ (some 9) rfl rfl Tryz.func29 (by kernel_rfl) rfl #[.pointer (some ⟨q, 0, none⟩)] rfl My.gx ?_; (refine (log_ready.live HL.out.l).mono ?_); rintro e W9 ⟨rfl, hb⟩; refine ⟨_, rfl, ?_⟩; replace HD := Aside0.mk (HD.out.up hb); replace HL := Aside0.mk (HL.out.up hb); replace HFX := Aside0.mk (HFX.out.trans (FrX.of hb)); clear hb)
      | ((with_reducible refine gate_callee (f := 30) rfl ?_); refine goesL_ (some 16) rfl rfl Tryz.func30 (by kernel_rfl) rfl #[.slice (some ⟨W9.heap.size, 0, none⟩) [body].length 1] rfl My.gx ?_; (refine (segment_Next.calls k _ 1 [body] _ _ _ (one_str W9 body) (Nat.le_refl _) HB.out).mono ?_); rintro e W16 ⟨rfl, hb⟩; refine ⟨_, rfl, ?_⟩; replace HD := Aside0.mk ((HD.out.up (below_alloc (Below.refl _ _) _)).up hb); replace HL := Aside0.mk ((HL.out.up (below_alloc (Below.refl _ _) _)).up hb); replace HFX := Aside0.mk ((HFX.out.trans (FrX.of (below_alloc (Below.refl _ _) _))).trans (FrX.of hb)); clear hb))
  go_ret
  exact ⟨rfl, HD.out, HL.out, HFX.out⟩
set_option maxHeartbeats 8000000 in
set_option maxRecDepth 100000 in
theorem log_Append.ok (hD : DiskAt base w p bm s) (hL : LogAt w q g p ⟨n, z, false⟩) (hn : (Lit.int .i64 n).wf = true) (hz : 0 ≤ z ∧ z ≤ 1000000000000) (body r1 : ByteArray) (k : Nat) (hB : segment_Next.f k [body] = some (r1, 0)) (hr : r1.size ≤ 140737488351232) :
    Calls Tryz.prog 13 #[.pointer (some ⟨q, 0, none⟩), .string body] w fun e w' => e = .returned (.int .i64 (writeS s n r1).2) ∧ DiskAt base w' p bm (writeS s n r1).1 ∧ LogAt w' q g p ⟨n, writeZ s n z r1, decide ((writeS s n r1).2 = 150)⟩ ∧ FrX (fun k => k = p ∨ k = bm ∨ k = g ∨ k = q) w w' := by
  have HD := Aside0.mk hD
  have HL := Aside0.mk hL
  have HFX := Aside0.mk (FrX.refl (fun k => k = p ∨ k = bm ∨ k = g ∨ k = q) w)
  have HB := Aside0.mk hB
  have HN := Aside0.mk hn
  have HZ := Aside0.mk hz
  have HR1 := Aside0.mk hr
  obtain ⟨⟨s1, e1⟩, hR⟩ : ∃ R : DS × Int, writeS s n r1 = R := ⟨_, rfl⟩
  obtain ⟨z2, hz2⟩ : ∃ z2 : Int, writeZ s n z r1 = z2 := ⟨_, rfl⟩
  rw [hR, hz2]
  dsimp only
  have HRR := Aside0.mk hR
  have HZ2 := Aside0.mk hz2
  clear hD hL hB hn hz hr hR hz2
  go_enter Tryz.func13, Tryz.ntmps13
  go_upto_region 7 with (first
      | ((with_reducible refine gate_callee (f := 29) rfl ?_); refine goesL_ (some 9) rfl rfl Tryz.func29 (by kernel_rfl) rfl #[.pointer (some ⟨q, 0, none⟩)] rfl My.gx ?_; (refine (log_ready.live HL.out.l).mono ?_); rintro e W9 ⟨rfl, hb⟩; refine ⟨_, rfl, ?_⟩; replace HD := Aside0.mk (HD.out.up hb); replace HL := Aside0.mk (HL.out.up hb); replace HFX := Aside0.mk (HFX.out.trans (FrX.of hb)); clear hb)
      | ((with_reducible refine gate_callee (f := 30) rfl ?_); refine goesL_ (some 16) rfl rfl Tryz.func30 (by kernel_rfl) rfl #[.slice (some ⟨W9.heap.size, 0, none⟩) [body].length 1] rfl My.gx ?_; (refine (segment_Next.calls k _ 1 [body] _ _ _ (one_str W9 body) (Nat.le_refl _) HB.out).mono ?_); rintro e W16 ⟨rfl, hb⟩; refine ⟨_, rfl, ?_⟩; replace HD := Aside0.mk ((HD.out.up (below_alloc (Below.refl _ _) _)).up hb); replace HL := Aside0.mk ((HL.out.up (below_alloc (Below.refl _ _) _)).up hb); replace HFX := Aside0.mk ((HFX.out.trans (FrX.of (below_alloc (Below.refl _ _) _))).trans (FrX.of hb)); clear hb))
  have hz := My.cz2 (My.am HL.out.l)
  go_wp2_with (first
      | ((with_reducible refine gate_callee (f := 32) rfl ?_); refine goesL_ (some 28) rfl rfl Tryz.func32 (by kernel_rfl) rfl #[.pointer (some ⟨g, 0, none⟩), .string r1] rfl My.gx ?_; (refine (file_write.calls HD.out HL.out.f HN.out HZ.out r1 HR1.out).mono ?_); rintro e W28 ⟨rfl, hD, hY, hF⟩; refine ⟨_, rfl, ?_⟩; rw [HRR.out] at hD ⊢; rw [HZ2.out] at hY; dsimp only at hD ⊢; have HD2 := Aside0.mk hD; have HY2 := Aside0.mk hY; have HQL := Aside0.mk ((hF.block q (blk_lt HL.out.l) (fun h => by obtain ⟨h1, h2, _, _⟩ := HL.out.qp HD.out; rcases h with h | h | h; exact h1 h; exact h2 h; exact HL.out.ne h)).trans HL.out.l); have HFX2 := Aside0.mk (HFX.out.trans (hF.mono (Y := (fun k => k = p ∨ k = bm ∨ k = g ∨ k = q)) (fun k hk => by rcases hk with h | h | h; exact .inl h; exact .inr (.inl h); exact .inr (.inr (.inl h))))); clear hD hY hF hz)
      | ((with_reducible refine gate_callee (f := 31) rfl ?_); refine goesL_ (some 29) rfl rfl Tryz.func31 (by kernel_rfl) rfl #[.pointer (some ⟨q, 0, none⟩), .int .i64 e1] rfl My.gx ?_; (refine (log_told.calls HQL.out e1).mono ?_); rintro e W29 ⟨rfl, hl, hF⟩; refine ⟨_, rfl, ?_⟩; replace HD2 := Aside0.mk (HD2.out.frx hF HQL.out (by decide) (by decide)); have HL2 := Aside0.mk (LogAt.mk (x := ⟨n, z2, decide (e1 = 150)⟩) hl ((hF.block g (blk_lt HY2.out) (fun h => HL.out.ne h.symm)).trans HY2.out)); replace HFX2 := Aside0.mk (HFX2.out.trans (hF.mono (Y := (fun k => k = p ∨ k = bm ∨ k = g ∨ k = q)) (fun k hk => .inr (.inr (.inr hk))))); clear hl hF))
  go_ret
  exact ⟨rfl, HD2.out, HL2.out, HFX2.out⟩
set_option maxHeartbeats 8000000 in
set_option maxRecDepth 100000 in
theorem log_Turn.dead (hD : DiskAt base w p bm s) (hL : LogAt w q g p ⟨n, z, true⟩) (body : ByteArray) :
    Calls Tryz.prog 14 #[.pointer (some ⟨q, 0, none⟩), .string body] w fun e w' => e = .returned (.int .i64 150) ∧ DiskAt base w' p bm s ∧ LogAt w' q g p ⟨n, z, true⟩ ∧ FrX (fun k => k = p ∨ k = bm ∨ k = g ∨ k = q) w w' := by
  have HD := Aside0.mk hD
  have HL := Aside0.mk hL
  have HFX := Aside0.mk (FrX.refl (fun k => k = p ∨ k = bm ∨ k = g ∨ k = q) w)
  clear hD hL
  go_enter Tryz.func14, Tryz.ntmps14
  go_wp2_with ((with_reducible refine gate_callee (f := 29) rfl ?_); refine goesL_ (some 10) rfl rfl Tryz.func29 (by kernel_rfl) rfl #[.pointer (some ⟨q, 0, none⟩)] rfl My.gx ?_; (refine (log_ready.dead HL.out.l).mono ?_); rintro e W10 ⟨rfl, hb⟩; refine ⟨_, rfl, ?_⟩; replace HD := Aside0.mk (HD.out.up hb); replace HL := Aside0.mk (HL.out.up hb); replace HFX := Aside0.mk (HFX.out.trans (FrX.of hb)); clear hb)
  go_ret
  exact ⟨rfl, HD.out, HL.out, HFX.out⟩
set_option maxHeartbeats 8000000 in
set_option maxRecDepth 100000 in
theorem log_Turn.full (hD : DiskAt base w p bm s) (hL : LogAt w q g p ⟨n, z, false⟩) (hn : n = 1000000) (body : ByteArray) :
    Calls Tryz.prog 14 #[.pointer (some ⟨q, 0, none⟩), .string body] w fun e w' => e = .returned (.int .i64 151) ∧ DiskAt base w' p bm s ∧ LogAt w' q g p ⟨n, z, false⟩ ∧ FrX (fun k => k = p ∨ k = bm ∨ k = g ∨ k = q) w w' := by
  have HD := Aside0.mk hD
  have HL := Aside0.mk hL
  have HFX := Aside0.mk (FrX.refl (fun k => k = p ∨ k = bm ∨ k = g ∨ k = q) w)
  have m1 : decide (n = 1000000) = true := decide_eq_true hn
  have m2 : (n == 1000000) = true := by simp [hn]
  clear hD hL hn
  go_enter Tryz.func14, Tryz.ntmps14
  go_upto_region 4 with ((with_reducible refine gate_callee (f := 29) rfl ?_); refine goesL_ (some 10) rfl rfl Tryz.func29 (by kernel_rfl) rfl #[.pointer (some ⟨q, 0, none⟩)] rfl My.gx ?_; (refine (log_ready.live HL.out.l).mono ?_); rintro e W10 ⟨rfl, hb⟩; refine ⟨_, rfl, ?_⟩; replace HD := Aside0.mk (HD.out.up hb); replace HL := Aside0.mk (HL.out.up hb); replace HFX := Aside0.mk (HFX.out.trans (FrX.of hb)); clear hb)
  have hz := My.cz2 (My.am HL.out.l)
  have hz2 := My.cz3 (My.am HL.out.f)
  go_wp2
  go_ret
  exact ⟨rfl, HD.out, HL.out, HFX.out⟩
set_option maxHeartbeats 16000000 in
set_option maxRecDepth 100000 in
theorem log_Turn.bad (hD : DiskAt base w p bm s) (hL : LogAt w q g p ⟨n, z, false⟩) (hn : 0 ≤ n ∧ n < 1000000) (body r1 : ByteArray) (r2 : Int) (k : Nat) (hB : segment_Begin.f k body = some (r1, r2)) (h2 : r2 ≠ 0) :
    Calls Tryz.prog 14 #[.pointer (some ⟨q, 0, none⟩), .string body] w fun e w' => e = .returned (.int .i64 r2) ∧ DiskAt base w' p bm s ∧ LogAt w' q g p ⟨n, z, decide (r2 = 150)⟩ ∧ FrX (fun k => k = p ∨ k = bm ∨ k = g ∨ k = q) w w' := by
  have HD := Aside0.mk hD
  have HL := Aside0.mk hL
  have HFX := Aside0.mk (FrX.refl (fun k => k = p ∨ k = bm ∨ k = g ∨ k = q) w)
  have hwn : wrap64 (n + 1) = n + 1 := by unfold wrap64; omega
  have m1 : decide (n = 1000000) = false := decide_eq_false (by omega)
  have m2 : (n == 1000000) = false := beq_eq_false_iff_ne.2 (by omega)
  have HLT := Aside0.mk (show q < w.heap.size ∧ g < w.heap.size from ⟨blk_lt hL.l, blk_lt hL.f⟩)
  have HB := Aside0.mk hB
  have HNZ := Aside0.mk h2
  have m4 : decide (r2 = 0) = false := decide_eq_false h2
  have m5 : (r2 == 0) = false := beq_eq_false_iff_ne.2 h2
  have m6 : (r2 != 0) = true := by simp [bne, m5]
  have HWN := Aside0.mk hwn
  have HWN2 := Aside0.mk (show IntKind.i64.wrap (n + 1) = n + 1 by rw [IntKind.wrap_i64]; omega)
  clear hD hL hn hB h2 hwn
  go_enter Tryz.func14, Tryz.ntmps14
  go_upto_region 4 with ((with_reducible refine gate_callee (f := 29) rfl ?_); refine goesL_ (some 10) rfl rfl Tryz.func29 (by kernel_rfl) rfl #[.pointer (some ⟨q, 0, none⟩)] rfl My.gx ?_; (refine (log_ready.live HL.out.l).mono ?_); rintro e W10 ⟨rfl, hb⟩; refine ⟨_, rfl, ?_⟩; replace HD := Aside0.mk (HD.out.up hb); replace HL := Aside0.mk (HL.out.up hb); replace HFX := Aside0.mk (HFX.out.trans (FrX.of hb)); clear hb)
  have hz := My.cz2 (My.am HL.out.l)
  have hz2 := My.cz3 (My.am HL.out.f)
  go_upto_region 7 with ((with_reducible refine gate_dst (N := 30) rfl ?_); refine My.bx 30 #[.pointer (some ⟨p, 0, none⟩), .int .i64 0, .int .i64 0] 62 ?_; intro g1 hg w30 hbox hb; have HG1 := Aside0.mk (show w.heap.size ≤ g1 by rw [hg]; exact HFX.out.size); have HY1 := My.am hbox; have LQ := Aside0.mk (show g1 ≠ q by have h1 := HLT.out.1; have h2 := HG1.out; omega); have LG := Aside0.mk (show g1 ≠ g by have h1 := HLT.out.2; have h2 := HG1.out; omega); replace HD := Aside0.mk (HD.out.up hb); replace HL := Aside0.mk (HL.out.up hb); replace HFX := Aside0.mk (HFX.out.trans (FrX.of hb)); clear hb hbox hg)
  clear hz hz2
  have hz := My.cz2 (My.am HL.out.l)
  have hz2 := My.cz3 (My.am HL.out.f)
  have hwn := HWN.out
  have hwn2 := HWN2.out
  go_wp2_with (first
      | ((with_reducible refine gate_callee (f := 22) rfl ?_); refine goesL_ (some 41) rfl rfl Tryz.func22 (by kernel_rfl) rfl #[.pointer (some ⟨g1, 0, none⟩), .int .i64 (n + 1), .string body] rfl My.gx ?_; (refine (file_begin.bad HD.out HY1.out (n + 1) body r1 r2 k HB.out HNZ.out).mono ?_); rintro e W41 ⟨rfl, hD, hY, hF⟩; refine ⟨_, rfl, ?_⟩; have LQP := Aside0.mk (HL.out.qp HD.out); replace HL := Aside0.mk (HL.out.fr hF (fun h => by rcases h with h | h | h; exact LQP.out.1 h; exact LQP.out.2.1 h; exact LQ.out h.symm) (fun h => by rcases h with h | h | h; exact LQP.out.2.2.1 h; exact LQP.out.2.2.2 h; exact LG.out h.symm)); replace HFX := Aside0.mk (HFX.out.trans' hF (fun i hi => by rcases hi with h | h | h; exact .inl (.inl h); exact .inl (.inr (.inl h)); exact .inr (by rw [h]; exact HG1.out))); replace HD := Aside0.mk hD; clear hD hY hF hz hz2 HY1)
      | ((with_reducible refine gate_callee (f := 31) rfl ?_); refine goesL_ (some 46) rfl rfl Tryz.func31 (by kernel_rfl) rfl #[.pointer (some ⟨q, 0, none⟩), .int .i64 r2] rfl My.gx ?_; (refine (log_told.calls HL.out.l r2).mono ?_); rintro e W46 ⟨rfl, hl, hF⟩; refine ⟨_, rfl, ?_⟩; replace HD := Aside0.mk (HD.out.frx hF HL.out.l (by decide) (by decide)); replace HL := Aside0.mk (LogAt.mk (x := ⟨n, z, decide (r2 = 150)⟩) hl ((hF.block g (blk_lt HL.out.f) (fun h => HL.out.ne h.symm)).trans HL.out.f)); replace HFX := Aside0.mk (HFX.out.trans (hF.mono (Y := (fun k => k = p ∨ k = bm ∨ k = g ∨ k = q)) (fun k hk => .inr (.inr (.inr hk))))); clear hl hF))
  go_ret
  exact ⟨rfl, HD.out, HL.out, HFX.out⟩
set_option maxHeartbeats 16000000 in
set_option maxRecDepth 100000 in
theorem log_Turn.fell (hD : DiskAt base w p bm s) (hL : LogAt w q g p ⟨n, z, false⟩) (hn : 0 ≤ n ∧ n < 1000000) (body r1 : ByteArray) (k : Nat) (hB : segment_Begin.f k body = some (r1, 0)) (hr : r1.size ≤ 140737488351232) (h2 : (writeS s (n + 1) r1).2 ≠ 0) :
    Calls Tryz.prog 14 #[.pointer (some ⟨q, 0, none⟩), .string body] w fun e w' => e = .returned (.int .i64 (writeS s (n + 1) r1).2) ∧ DiskAt base w' p bm (writeS s (n + 1) r1).1 ∧ LogAt w' q g p ⟨n, z, decide ((writeS s (n + 1) r1).2 = 150)⟩ ∧ FrX (fun k => k = p ∨ k = bm ∨ k = g ∨ k = q) w w' := by
  obtain ⟨m, hm⟩ : ∃ m, n + 1 = m := ⟨_, rfl⟩
  rw [hm] at h2 ⊢
  obtain ⟨⟨s1, r2⟩, hR⟩ : ∃ R : DS × Int, writeS s m r1 = R := ⟨_, rfl⟩
  rw [hR] at h2 ⊢
  dsimp only at h2 ⊢
  have HD := Aside0.mk hD
  have HL := Aside0.mk hL
  have HFX := Aside0.mk (FrX.refl (fun k => k = p ∨ k = bm ∨ k = g ∨ k = q) w)
  have hwn : wrap64 (n + 1) = n + 1 := by unfold wrap64; omega
  have m1 : decide (n = 1000000) = false := decide_eq_false (by omega)
  have m2 : (n == 1000000) = false := beq_eq_false_iff_ne.2 (by omega)
  have HLT := Aside0.mk (show q < w.heap.size ∧ g < w.heap.size from ⟨blk_lt hL.l, blk_lt hL.f⟩)
  have HB := Aside0.mk hB
  have HR1 := Aside0.mk hr
  have HRR := Aside0.mk hR
  have HM := Aside0.mk (wfn (x := m) (by omega) (by omega))
  have m4 : decide (r2 = 0) = false := decide_eq_false h2
  have m5 : (r2 == 0) = false := beq_eq_false_iff_ne.2 h2
  have m6 : (r2 != 0) = true := by simp [bne, m5]
  rw [hm] at hwn
  have HWN := Aside0.mk hwn
  have HWN2 := Aside0.mk (show IntKind.i64.wrap (n + 1) = m by rw [IntKind.wrap_i64]; omega)
  clear hD hL hn hB h2 hwn hr hR hm
  go_enter Tryz.func14, Tryz.ntmps14
  go_upto_region 4 with ((with_reducible refine gate_callee (f := 29) rfl ?_); refine goesL_ (some 10) rfl rfl Tryz.func29 (by kernel_rfl) rfl #[.pointer (some ⟨q, 0, none⟩)] rfl My.gx ?_; (refine (log_ready.live HL.out.l).mono ?_); rintro e W10 ⟨rfl, hb⟩; refine ⟨_, rfl, ?_⟩; replace HD := Aside0.mk (HD.out.up hb); replace HL := Aside0.mk (HL.out.up hb); replace HFX := Aside0.mk (HFX.out.trans (FrX.of hb)); clear hb)
  have hz := My.cz2 (My.am HL.out.l)
  have hz2 := My.cz3 (My.am HL.out.f)
  go_upto_region 7 with ((with_reducible refine gate_dst (N := 30) rfl ?_); refine My.bx 30 #[.pointer (some ⟨p, 0, none⟩), .int .i64 0, .int .i64 0] 62 ?_; intro g1 hg w30 hbox hb; have HG1 := Aside0.mk (show w.heap.size ≤ g1 by rw [hg]; exact HFX.out.size); have HY1 := My.am hbox; have LQ := Aside0.mk (show g1 ≠ q by have h1 := HLT.out.1; have h2 := HG1.out; omega); have LG := Aside0.mk (show g1 ≠ g by have h1 := HLT.out.2; have h2 := HG1.out; omega); replace HD := Aside0.mk (HD.out.up hb); replace HL := Aside0.mk (HL.out.up hb); replace HFX := Aside0.mk (HFX.out.trans (FrX.of hb)); clear hb hbox hg)
  clear hz hz2
  have hz := My.cz2 (My.am HL.out.l)
  have hz2 := My.cz3 (My.am HL.out.f)
  have hwn := HWN.out
  have hwn2 := HWN2.out
  go_wp2_with (first
      | ((with_reducible refine gate_callee (f := 22) rfl ?_); refine goesL_ (some 41) rfl rfl Tryz.func22 (by kernel_rfl) rfl #[.pointer (some ⟨g1, 0, none⟩), .int .i64 m, .string body] rfl My.gx ?_; (refine (file_begin.ok HD.out HY1.out m HM.out body r1 k HB.out HR1.out).mono ?_); rintro e W41 ⟨rfl, hD, hY, hF⟩; refine ⟨_, rfl, ?_⟩; rw [HRR.out] at hD ⊢; dsimp only at hD ⊢; have LQP := Aside0.mk (HL.out.qp HD.out); replace HL := Aside0.mk (HL.out.fr hF (fun h => by rcases h with h | h | h; exact LQP.out.1 h; exact LQP.out.2.1 h; exact LQ.out h.symm) (fun h => by rcases h with h | h | h; exact LQP.out.2.2.1 h; exact LQP.out.2.2.2 h; exact LG.out h.symm)); replace HFX := Aside0.mk (HFX.out.trans' hF (fun i hi => by rcases hi with h | h | h; exact .inl (.inl h); exact .inl (.inr (.inl h)); exact .inr (by rw [h]; exact HG1.out))); replace HD := Aside0.mk hD; clear hD hY hF hz hz2 HY1)
      | ((with_reducible refine gate_callee (f := 31) rfl ?_); refine goesL_ (some 46) rfl rfl Tryz.func31 (by kernel_rfl) rfl #[.pointer (some ⟨q, 0, none⟩), .int .i64 r2] rfl My.gx ?_; (refine (log_told.calls HL.out.l r2).mono ?_); rintro e W46 ⟨rfl, hl, hF⟩; refine ⟨_, rfl, ?_⟩; replace HD := Aside0.mk (HD.out.frx hF HL.out.l (by decide) (by decide)); replace HL := Aside0.mk (LogAt.mk (x := ⟨n, z, decide (r2 = 150)⟩) hl ((hF.block g (blk_lt HL.out.f) (fun h => HL.out.ne h.symm)).trans HL.out.f)); replace HFX := Aside0.mk (HFX.out.trans (hF.mono (Y := (fun k => k = p ∨ k = bm ∨ k = g ∨ k = q)) (fun k hk => .inr (.inr (.inr hk))))); clear hl hF))
  go_ret
  exact ⟨rfl, HD.out, HL.out, HFX.out⟩
set_option maxHeartbeats 16000000 in
set_option maxRecDepth 100000 in
theorem log_Turn.ok (hD : DiskAt base w p bm s) (hL : LogAt w q g p ⟨n, z, false⟩) (hn : 0 ≤ n ∧ n < 1000000) (body r1 : ByteArray) (k : Nat) (hB : segment_Begin.f k body = some (r1, 0)) (hr : r1.size ≤ 140737488351232) (h2 : (writeS s (n + 1) r1).2 = 0) :
    Calls Tryz.prog 14 #[.pointer (some ⟨q, 0, none⟩), .string body] w fun e w' => e = .returned (.int .i64 (remS (writeS s (n + 1) r1).1 n).2) ∧ DiskAt base w' p bm (remS (writeS s (n + 1) r1).1 n).1 ∧ ∃ g', w.heap.size ≤ g' ∧ LogAt w' q g' p ⟨n + 1, writeZ s (n + 1) 0 r1, decide ((remS (writeS s (n + 1) r1).1 n).2 = 150)⟩ ∧ FrX (fun k => k = p ∨ k = bm ∨ k = g ∨ k = q) w w' := by
  obtain ⟨m, hm⟩ : ∃ m, n + 1 = m := ⟨_, rfl⟩
  rw [hm] at h2 ⊢
  obtain ⟨⟨s1, r2⟩, hR⟩ : ∃ R : DS × Int, writeS s m r1 = R := ⟨_, rfl⟩
  rw [hR] at h2 ⊢
  dsimp only at h2 ⊢
  subst h2
  obtain ⟨⟨s2, e2⟩, hR2⟩ : ∃ R : DS × Int, remS s1 n = R := ⟨_, rfl⟩
  rw [hR2]
  obtain ⟨z2, hz2⟩ : ∃ z2 : Int, writeZ s m 0 r1 = z2 := ⟨_, rfl⟩
  rw [hz2]
  dsimp only
  have HD := Aside0.mk hD
  have HL := Aside0.mk hL
  have HFX := Aside0.mk (FrX.refl (fun k => k = p ∨ k = bm ∨ k = g ∨ k = q) w)
  have hwn : wrap64 (n + 1) = n + 1 := by unfold wrap64; omega
  have m1 : decide (n = 1000000) = false := decide_eq_false (by omega)
  have m2 : (n == 1000000) = false := beq_eq_false_iff_ne.2 (by omega)
  have HLT := Aside0.mk (show q < w.heap.size ∧ g < w.heap.size from ⟨blk_lt hL.l, blk_lt hL.f⟩)
  have HB := Aside0.mk hB
  have HR1 := Aside0.mk hr
  have HRR := Aside0.mk hR
  have HR2 := Aside0.mk hR2
  have HZ2 := Aside0.mk hz2
  have HM := Aside0.mk (wfn (x := m) (by omega) (by omega))
  have HN := Aside0.mk (wfn (x := n) (by omega) (by omega))
  rw [hm] at hwn
  have HWN := Aside0.mk hwn
  have HWN2 := Aside0.mk (show IntKind.i64.wrap (n + 1) = m by rw [IntKind.wrap_i64]; omega)
  clear hD hL hn hB hwn hr hR hm hR2 hz2
  go_enter Tryz.func14, Tryz.ntmps14
  go_upto_region 4 with ((with_reducible refine gate_callee (f := 29) rfl ?_); refine goesL_ (some 10) rfl rfl Tryz.func29 (by kernel_rfl) rfl #[.pointer (some ⟨q, 0, none⟩)] rfl My.gx ?_; (refine (log_ready.live HL.out.l).mono ?_); rintro e W10 ⟨rfl, hb⟩; refine ⟨_, rfl, ?_⟩; replace HD := Aside0.mk (HD.out.up hb); replace HL := Aside0.mk (HL.out.up hb); replace HFX := Aside0.mk (HFX.out.trans (FrX.of hb)); clear hb)
  have hz := My.cz2 (My.am HL.out.l)
  have hz2 := My.cz3 (My.am HL.out.f)
  go_upto_region 7 with ((with_reducible refine gate_dst (N := 30) rfl ?_); refine My.bx 30 #[.pointer (some ⟨p, 0, none⟩), .int .i64 0, .int .i64 0] 62 ?_; intro g1 hg w30 hbox hb; have HG1 := Aside0.mk (show w.heap.size ≤ g1 by rw [hg]; exact HFX.out.size); have HY1 := My.am hbox; have LQ := Aside0.mk (show g1 ≠ q by have h1 := HLT.out.1; have h2 := HG1.out; omega); have LG := Aside0.mk (show g1 ≠ g by have h1 := HLT.out.2; have h2 := HG1.out; omega); replace HD := Aside0.mk (HD.out.up hb); replace HL := Aside0.mk (HL.out.up hb); replace HFX := Aside0.mk (HFX.out.trans (FrX.of hb)); clear hb hbox hg)
  clear hz hz2
  have hz := My.cz2 (My.am HL.out.l)
  have hz2 := My.cz3 (My.am HL.out.f)
  have hwn := HWN.out
  have hwn2 := HWN2.out
  go_upto_region 10 with ((with_reducible refine gate_callee (f := 22) rfl ?_); refine goesL_ (some 41) rfl rfl Tryz.func22 (by kernel_rfl) rfl #[.pointer (some ⟨g1, 0, none⟩), .int .i64 m, .string body] rfl My.gx ?_; (refine (file_begin.ok HD.out HY1.out m HM.out body r1 k HB.out HR1.out).mono ?_); rintro e W41 ⟨rfl, hD, hY, hF⟩; refine ⟨_, rfl, ?_⟩; rw [HRR.out] at hD ⊢; dsimp only at hD ⊢; have LQP := Aside0.mk (HL.out.qp HD.out); replace HL := Aside0.mk (HL.out.fr hF (fun h => by rcases h with h | h | h; exact LQP.out.1 h; exact LQP.out.2.1 h; exact LQ.out h.symm) (fun h => by rcases h with h | h | h; exact LQP.out.2.2.1 h; exact LQP.out.2.2.2 h; exact LG.out h.symm)); replace HFX := Aside0.mk (HFX.out.trans' hF (fun i hi => by rcases hi with h | h | h; exact .inl (.inl h); exact .inl (.inr (.inl h)); exact .inr (by rw [h]; exact HG1.out))); replace HD := Aside0.mk hD; replace HY1 := Aside0.mk (show FileAt _ g1 p m z2 by rw [HZ2.out] at hY; exact hY); clear hD hY hF)
  clear hz hz2
  have HY := My.am HL.out.l
  have hz := My.cz2 HY
  have hz3 := My.cz3 (My.am HL.out.f)
  go_upto_region 12 with (fail)
  refine at_world (J := fun W => DiskAt base W p bm s1 ∧ LogAt W q g1 p ⟨m, z2, false⟩ ∧ FrX (fun k => k = p ∨ k = bm ∨ k = g ∨ k = q) w W) ⟨HD.out.set_ HY.out (by decide) (by decide), ⟨blk_put HY.out 0 (.pointer (some ⟨g1, 0, none⟩)) rfl, (Below.heap_setCell _ ⟨q, 0, none⟩ _ g1 (fun e => LQ.out e)).trans HY1.out⟩, HFX.out.set q 0 _ (.inr (.inr (.inr (.inr rfl))))⟩ ?_
  clear hz hz3 HY HY1 HD HL HFX
  rintro W5 ⟨D5, L5, F5⟩
  have HD := Aside0.mk D5
  have HL := Aside0.mk L5
  have HFX := Aside0.mk F5
  clear D5 L5 F5
  have hz := My.cz2 (My.am HL.out.l)
  have hz3 := My.cz3 (My.am HL.out.f)
  go_wp2_with (first
      | ((with_reducible refine gate_callee (f := 21) rfl ?_); refine goesL_ (some 68) rfl rfl Tryz.func21 (by kernel_rfl) rfl #[.pointer (some ⟨p, 0, none⟩), .slice (some ⟨W5.heap.size, 0, none⟩) [n].length 1] rfl My.gx ?_; (refine (wal_drop.calls (HD.out.up (below_alloc (Below.refl _ _) _)) _ 1 [n] (by simp) (fun x hx => by rcases List.mem_singleton.1 hx with rfl; exact HN.out) (keep_one HD.out n)).mono ?_); rintro e W68 ⟨rfl, hD, hF⟩; refine ⟨_, rfl, ?_⟩; rw [dropS_one, HR2.out] at hD ⊢; dsimp only at hD ⊢; have LQP := Aside0.mk (HL.out.qp HD.out); have HD2 := Aside0.mk hD; have HL1 := Aside0.mk ((HL.out.up (below_alloc (Below.refl _ _) _)).fr (FrX.fr (X := fun k => k = p ∨ k = bm) hF (.inl rfl) (.inr rfl)) (fun h => by rcases h with h | h; exact LQP.out.1 h; exact LQP.out.2.1 h) (fun h => by rcases h with h | h; exact LQP.out.2.2.1 h; exact LQP.out.2.2.2 h)); have HFX2 := Aside0.mk ((HFX.out.trans (FrX.of (below_alloc (Below.refl _ _) _))).trans (FrX.fr (X := (fun k => k = p ∨ k = bm ∨ k = g ∨ k = q)) hF (.inl rfl) (.inr (.inl rfl)))); clear hD hF hz hz3)
      | ((with_reducible refine gate_callee (f := 31) rfl ?_); refine goesL_ (some 69) rfl rfl Tryz.func31 (by kernel_rfl) rfl #[.pointer (some ⟨q, 0, none⟩), .int .i64 e2] rfl My.gx ?_; (refine (log_told.calls HL1.out.l e2).mono ?_); rintro e W69 ⟨rfl, hl, hF⟩; refine ⟨_, rfl, ?_⟩; have HL2 := Aside0.mk (LogAt.mk (x := ⟨m, z2, decide (e2 = 150)⟩) hl ((hF.block g1 (blk_lt HL1.out.f) (fun h => LQ.out h)).trans HL1.out.f)); replace HD2 := Aside0.mk (HD2.out.frx hF HL1.out.l (by decide) (by decide)); replace HFX2 := Aside0.mk (HFX2.out.trans (hF.mono (Y := (fun k => k = p ∨ k = bm ∨ k = g ∨ k = q)) (fun k hk => .inr (.inr (.inr hk))))); clear hl hF))
  go_ret
  exact ⟨rfl, HD2.out, g1, HG1.out, HL2.out, HFX2.out⟩
end
/-! #### opening a log -/
section
variable {w : World} {g t : Nat} {a0 a1 a2 a3 : Value}
theorem cz4' (h : Aside0 (w.heap[g]? = some (.cells #[a0, a1, a2, a3] t (0, 0)))) : w.cell? ⟨g, 0, none⟩ = some a0 ∧ w.cell? ⟨g, 1, none⟩ = some a1 ∧ w.cell? ⟨g, 2, none⟩ = some a2 ∧ w.cell? ⟨g, 3, none⟩ = some a3 ∧ ∀ i, w.frozen? ⟨g, i, none⟩ = false := ⟨My.b_ h 0, My.b_ h 1, My.b_ h 2, My.b_ h 3, fun i => blk_frozen h.out i⟩
theorem put4' {v0 v1 v2 v3 : Value} (h : w.heap[g]? = some (.cells #[a0, a1, a2, a3] t (0, 0))) : ((((w.setCell ⟨g, 0, none⟩ v0).setCell ⟨g, 1, none⟩ v1).setCell ⟨g, 2, none⟩ v2).setCell ⟨g, 3, none⟩ v3).heap[g]? = some (.cells #[v0, v1, v2, v3] t (0, 0)) :=
  blk_put (cs' := #[v0, v1, v2, v3]) (blk_put (cs' := #[v0, v1, v2, a3]) (blk_put (cs' := #[v0, v1, a2, a3]) (blk_put (cs' := #[v0, a1, a2, a3]) h 0 _ rfl) 1 _ rfl) 2 _ rfl) 3 _ rfl
end
def cutO (s : DS) (num good : Int) : DS × Int := if 0 ≤ num ∧ good < ((findF s num).f1.size : Int) then cutS s num good else (s, 0)
def dropO (R : DS × Int) (l : List Int) : DS × Int := if R.2 = 0 then dropS R.1 l else R
def begO (R : DS × Int) (num : Int) (r1 : ByteArray) (r2 : Int) : DS × Int := if R.2 = 0 ∧ num < 0 then (if r2 = 0 then writeS R.1 1 r1 else (R.1, r2)) else R
def openX (R : DS × Int) (num good : Int) (r1 : ByteArray) : WS := if num < 0 then ⟨1, writeZ R.1 1 0 r1, false⟩ else ⟨num, good, false⟩
def openB (num : Int) (bodies : List ByteArray) (first : ByteArray) : List ByteArray := if num < 0 then [first] else bodies
theorem one_row (W : World) (base : Nat) (hb : base ≤ W.heap.size) (body : ByteArray) : Kd.string.R 9 (W.alloc (.cells #[.string body] 9)) base (fun _ => True) (.slice (some ⟨W.heap.size, 0, none⟩) 1 1) [body] := by
  have h1 : (W.alloc (.cells #[.string body] 9)).heap[W.heap.size]? = some (.cells #[.string body] 9 (0, 0)) := (MapKept.heap_alloc W _).1
  exact ⟨fun _ _ => trivial, [.string body], ⟨rfl, .inr ⟨W.heap.size, 1, #[.string body], rfl, hb, h1, Nat.le_refl _, by unfold maxLen; omega, rfl, rfl⟩⟩, My.enc_reps (fun x => .string x) [body]⟩
/-- What an opening comes to. -/
def OpenPost (base p bm : Nat) (w : World) (s3 : DS) (e3 : Int) (X : WS) (bs : List ByteArray) (e : Ending) (w' : World) : Prop :=
  DiskAt base w' p bm s3 ∧ FrX (fun k => k = p ∨ k = bm) w w' ∧ ((e3 ≠ 0 ∧ e = .returned (.tuple #[.pointer none, .slice none 0 0, .int .i64 e3])) ∨ (e3 = 0 ∧ ∃ q g A c, e = .returned (.tuple #[.pointer (some ⟨q, 0, none⟩), .slice A bs.length c, .int .i64 0]) ∧ w.heap.size ≤ q ∧ w.heap.size ≤ g ∧ LogAt w' q g p X ∧ Kd.string.R 9 w' w.heap.size (fun _ => True) (.slice A bs.length c) bs))
def op.T19 : Bool × List (List Nat × List Nat) := (true, [([], []), ([0], [0]), ([1], [1]), ([], []), ([3], [3]), ([2, 0, 1, 2], [2]), ([4, 5, 0, 1, 2, 3, 4, 5], [4]), ([6, 0, 1, 2, 3, 4, 5, 6], [])])
def op.B19 : List Nat := [0, 1, 3, 0, 8, 7, 63, 127]
theorem op.tab19 : rtab .any (opsOf Tryz.f7 19) = op.T19 := by kernel_rfl
theorem op.bits19 : waitsOk op.T19.2 op.B19 = true := by kernel_rfl
section
variable {base p bm g q : Nat} {w w0 : World} {s : DS}
theorem FrX.fresh {X Y : Nat → Prop} {a b c : World} (h : FrX Y a b) (k : FrX X b c) (hx : ∀ i, X i → Y i ∨ a.heap.size ≤ i) : FrX Y a c := h.trans' k hx
theorem Fr.toX {W : World} (h : Fr p bm w W) : FrX (fun k => k = p ∨ k = bm) w W := FrX.fr h (.inl rfl) (.inr rfl)
set_option maxHeartbeats 8000000 in
set_option maxRecDepth 100000 in
theorem wal_Open.dead (hD : DiskAt base w p bm s) (hd : s.dead = true) (first : ByteArray) :
    Calls Tryz.prog 7 #[.pointer (some ⟨p, 0, none⟩), .string first] w fun e w' => e = .returned (.tuple #[.pointer none, .slice none 0 0, .int .i64 150]) ∧ Below w.heap.size w w' := by
  have HD := Aside0.mk hD
  have HE := Aside0.mk (show findE s (-1) = 150 by simp [findE, hd])
  clear hD hd
  go_enter Tryz.func7, Tryz.ntmps7
  go_wp2_with ((with_reducible refine gate_callee (f := 18) rfl ?_); refine goesL_ (some 16) rfl rfl Tryz.func18 (by kernel_rfl) rfl #[.pointer (some ⟨p, 0, none⟩), .int .i64 (-1)] rfl My.gx ?_; (refine (disk_Disk_Read.calls HD.out (-1) (by decide)).mono ?_); rintro e W16 ⟨rfl, hb⟩; refine ⟨_, rfl, ?_⟩; rw [HE.out]; have HB := Aside0.mk hb; clear hb)
  go_ret3
  exact ⟨rfl, HB.out⟩
theorem find_neg (h : Inv s) (hd : s.dead = false) : findE s (-1) = 152 := by
  have : hasL s.L (-1) = false := by
    unfold hasL
    rw [List.any_eq_false]
    intro x hx
    have := (h.num x hx).1
    simp only [decide_eq_true_eq]
    omega
  simp [findE, hd, this]
set_option maxHeartbeats 8000000 in
set_option maxRecDepth 100000 in
theorem wal_Open.bad (hD : DiskAt base w p bm s) (hd : s.dead = false) (first : ByteArray) (k : Nat) (num good : Int) (bodies : List ByteArray) (drop : List Int) (er : Int) (hK : segment_Look.f k s.L = some (num, good, bodies, drop, er)) (her : er ≠ 0) :
    Calls Tryz.prog 7 #[.pointer (some ⟨p, 0, none⟩), .string first] w fun e w' => e = .returned (.tuple #[.pointer none, .slice none 0 0, .int .i64 er]) ∧ Below w.heap.size w w' := by
  have HD := Aside0.mk hD
  have HE := Aside0.mk (find_neg hD.inv hd)
  have HK := Aside0.mk hK
  have HFX := Aside0.mk (FrX.refl (fun k => k = p ∨ k = bm) w)
  have m1 : decide (er = 0) = false := decide_eq_false her
  have m2 : (er == 0) = false := beq_eq_false_iff_ne.2 her
  have m3 : (er != 0) = true := by simp [bne, m2]
  have HB := Aside0.mk (Below.refl w.heap.size w)
  clear hD hd hK her
  have hu68 := Tryz.underlying57
  go_enter Tryz.func7, Tryz.ntmps7
  go_upto_region 5 with (first
      | ((with_reducible refine gate_callee (f := 18) rfl ?_); refine goesL_ (some 16) rfl rfl Tryz.func18 (by kernel_rfl) rfl #[.pointer (some ⟨p, 0, none⟩), .int .i64 (-1)] rfl My.gx ?_; (refine (disk_Disk_Read.calls HD.out (-1) (by decide)).mono ?_); rintro e W16 ⟨rfl, hb⟩; refine ⟨_, rfl, ?_⟩; rw [HE.out]; replace HD := Aside0.mk (HD.out.up hb); replace HFX := Aside0.mk (HFX.out.trans (FrX.of hb)); replace HB := Aside0.mk (HB.out.trans (hb.mono HB.out.size)); clear hb)
      | ((with_reducible refine gate_callee (f := 11) rfl ?_); refine goesL_ (some 24) rfl rfl Tryz.func11 (by kernel_rfl) rfl #[.pointer (some ⟨p, 0, none⟩)] rfl My.gx ?_; (refine (disk_Disk_Image.calls HD.out).mono ?_); rintro e W24 ⟨v, rfl, hR, hb⟩; refine ⟨_, rfl, ?_⟩; obtain ⟨A, c, rfl, hlc, hC⟩ := Kd.R_reads hR; have HC := Aside0.mk hC; have HLC := Aside0.mk hlc; replace HD := Aside0.mk (HD.out.up hb); replace HFX := Aside0.mk (HFX.out.trans (FrX.of hb)); replace HB := Aside0.mk (HB.out.trans (hb.mono HB.out.size)); clear hb hR hC hlc)
      | ((with_reducible refine gate_callee (f := 19) rfl ?_); refine goesL_ (some 25) rfl rfl Tryz.func19 (by kernel_rfl) rfl #[.slice A s.L.length c] rfl My.gx ?_; (refine (segment_Look.calls k A c s.L _ _ _ _ _ _ HC.out HLC.out HK.out).mono ?_); rintro e W25 ⟨v2, v3, rfl, hR2, hR3, hb⟩; refine ⟨_, rfl, ?_⟩; obtain ⟨A2, c2, rfl, hl2, hC2⟩ := Kd.R_reads hR2; obtain ⟨A3, c3, rfl, hl3, hC3⟩ := Kd.R_reads hR3; have HRB := Aside0.mk (Kd.R_lower hR2 HB.out.size); have HRD := Aside0.mk (Kd.R_lower hR3 HB.out.size); replace HD := Aside0.mk (HD.out.up hb); replace HFX := Aside0.mk (HFX.out.trans (FrX.of hb)); replace HB := Aside0.mk (HB.out.trans (hb.mono HB.out.size)); clear hb hR2 hR3 hl2 hC2 hl3 hC3 HC HLC)
      | ((with_reducible refine gate_dst (N := 9) rfl ?_); refine My.bx 9 #[.int .i64 0, .int .i64 0, .slice none 0 0, .slice none 0 0] 57 ?_; intro g9 hg w9 hbox hb; have BX := My.am hbox; have G9 := Aside0.mk (show w.heap.size ≤ g9 by rw [hg]; exact HB.out.size); replace HRB := Aside0.mk (Kd.R_below HRB.out hb); replace HRD := Aside0.mk (Kd.R_below HRD.out hb); replace HD := Aside0.mk (HD.out.up hb); replace HFX := Aside0.mk (HFX.out.trans (FrX.of hb)); replace HB := Aside0.mk (HB.out.trans (hb.mono HB.out.size)); clear hb hbox hg; have hz := cz4' BX))
  refine at_world (J := fun W => Below w.heap.size w W) (below_set (below_set (below_set (below_set HB.out G9.out) G9.out) G9.out) G9.out) ?_
  clear HB HD HFX BX hz
  rintro W2 B2
  have HB := Aside0.mk B2
  clear B2
  go_wp2
  go_ret3
  exact ⟨rfl, HB.out⟩
set_option maxHeartbeats 32000000 in
set_option maxRecDepth 100000 in
theorem wal_Open.calls (hD : DiskAt base w p bm s) (hd : s.dead = false) (first : ByteArray) (k : Nat) (num good : Int) (bodies : List ByteArray) (drop : List Int) (hK : segment_Look.f k s.L = some (num, good, bodies, drop, 0)) (r1 : ByteArray) (r2 : Int) (hB : segment_Begin.f k first = some (r1, r2)) (hr : r1.size ≤ 140737488351232)
    (hnum : (Lit.int .i64 num).wf = true) (hlen : drop.length ≤ 1000000) (hdw : ∀ x ∈ drop, (Lit.int .i64 x).wf = true) :
    Calls Tryz.prog 7 #[.pointer (some ⟨p, 0, none⟩), .string first] w fun e w' => OpenPost base p bm w (begO (dropO (cutO s num good) drop) num r1 r2).1 (begO (dropO (cutO s num good) drop) num r1 r2).2 (openX (dropO (cutO s num good) drop) num good r1) (openB num bodies first) e w' := by
  have HD := Aside0.mk hD
  have HE := Aside0.mk (find_neg hD.inv hd)
  have HK := Aside0.mk hK
  have HBG := Aside0.mk hB
  have HR1 := Aside0.mk hr
  have HNW := Aside0.mk hnum
  have HLN := Aside0.mk hlen
  have HDW := Aside0.mk hdw
  have HFX := Aside0.mk (FrX.refl (fun k => k = p ∨ k = bm) w)
  have HB := Aside0.mk (Below.refl w.heap.size w)
  obtain ⟨⟨s1, e1⟩, hR1⟩ : ∃ R : DS × Int, cutO s num good = R := ⟨_, rfl⟩
  rw [hR1]
  obtain ⟨⟨s2, e2⟩, hR2⟩ : ∃ R : DS × Int, dropO (s1, e1) drop = R := ⟨_, rfl⟩
  rw [hR2]
  obtain ⟨⟨s3, e3⟩, hR3⟩ : ∃ R : DS × Int, begO (s2, e2) num r1 r2 = R := ⟨_, rfl⟩
  rw [hR3]
  obtain ⟨X, hX⟩ : ∃ X, openX (s2, e2) num good r1 = X := ⟨_, rfl⟩
  rw [hX]
  obtain ⟨bs, hbs⟩ : ∃ bs, openB num bodies first = bs := ⟨_, rfl⟩
  rw [hbs]
  dsimp only
  have C1 := Aside0.mk hR1
  have C2 := Aside0.mk hR2
  have C3 := Aside0.mk hR3
  have HX := Aside0.mk hX
  have HBS := Aside0.mk hbs
  clear hD hd hK hB hr hnum hlen hdw hR1 hR2 hR3 hX hbs
  have hu68 := Tryz.underlying57
  go_enter Tryz.func7, Tryz.ntmps7
  go_upto_region 5 with (first
      | ((with_reducible refine gate_callee (f := 18) rfl ?_); refine goesL_ (some 16) rfl rfl Tryz.func18 (by kernel_rfl) rfl #[.pointer (some ⟨p, 0, none⟩), .int .i64 (-1)] rfl My.gx ?_; (refine (disk_Disk_Read.calls HD.out (-1) (by decide)).mono ?_); rintro e W16 ⟨rfl, hb⟩; refine ⟨_, rfl, ?_⟩; rw [HE.out]; replace HD := Aside0.mk (HD.out.up hb); replace HFX := Aside0.mk (HFX.out.trans (FrX.of hb)); replace HB := Aside0.mk (HB.out.trans (hb.mono HB.out.size)); clear hb)
      | ((with_reducible refine gate_callee (f := 11) rfl ?_); refine goesL_ (some 24) rfl rfl Tryz.func11 (by kernel_rfl) rfl #[.pointer (some ⟨p, 0, none⟩)] rfl My.gx ?_; (refine (disk_Disk_Image.calls HD.out).mono ?_); rintro e W24 ⟨v, rfl, hR, hb⟩; refine ⟨_, rfl, ?_⟩; obtain ⟨A, c, rfl, hlc, hC⟩ := Kd.R_reads hR; have HC := Aside0.mk hC; have HLC := Aside0.mk hlc; replace HD := Aside0.mk (HD.out.up hb); replace HFX := Aside0.mk (HFX.out.trans (FrX.of hb)); replace HB := Aside0.mk (HB.out.trans (hb.mono HB.out.size)); clear hb hR hC hlc)
      | ((with_reducible refine gate_callee (f := 19) rfl ?_); refine goesL_ (some 25) rfl rfl Tryz.func19 (by kernel_rfl) rfl #[.slice A s.L.length c] rfl My.gx ?_; (refine (segment_Look.calls k A c s.L _ _ _ _ _ _ HC.out HLC.out HK.out).mono ?_); rintro e W25 ⟨v2, v3, rfl, hR2, hR3, hb⟩; refine ⟨_, rfl, ?_⟩; obtain ⟨A2, c2, rfl, hl2, hC2⟩ := Kd.R_reads hR2; obtain ⟨A3, c3, rfl, hl3, hC3⟩ := Kd.R_reads hR3; have HRB := Aside0.mk (Kd.R_lower hR2 HB.out.size); have HRD := Aside0.mk (Kd.R_lower hR3 HB.out.size); replace HD := Aside0.mk (HD.out.up hb); replace HFX := Aside0.mk (HFX.out.trans (FrX.of hb)); replace HB := Aside0.mk (HB.out.trans (hb.mono HB.out.size)); clear hb hR2 hR3 hl2 hC2 hl3 hC3 HC HLC)
      | ((with_reducible refine gate_dst (N := 9) rfl ?_); refine My.bx 9 #[.int .i64 0, .int .i64 0, .slice none 0 0, .slice none 0 0] 57 ?_; intro g9 hg w9 hbox hb; have BX := My.am hbox; have G9 := Aside0.mk (show w.heap.size ≤ g9 by rw [hg]; exact HB.out.size); replace HRB := Aside0.mk (Kd.R_below HRB.out hb); replace HRD := Aside0.mk (Kd.R_below HRD.out hb); replace HD := Aside0.mk (HD.out.up hb); replace HFX := Aside0.mk (HFX.out.trans (FrX.of hb)); replace HB := Aside0.mk (HB.out.trans (hb.mono HB.out.size)); clear hb hbox hg; have hz := cz4' BX))
  refine at_world (J := fun W => DiskAt base W p bm s ∧ W.heap[g9]? = some (.cells #[.int .i64 num, .int .i64 good, .slice A2 bodies.length c2, .slice A3 drop.length c3] 57 (0, 0)) ∧ Kd.string.R 9 W w.heap.size (fun _ => True) (.slice A2 bodies.length c2) bodies ∧ (Kd.int .i64).R 3 W w.heap.size (fun _ => True) (.slice A3 drop.length c3) drop ∧ FrX (fun k => k = p ∨ k = bm) w W) ⟨(((HD.out.set_ BX.out (by decide) (by decide)).set_ (blk_put BX.out 0 (.int .i64 num) rfl) (by decide) (by decide)).set_ (blk_put (blk_put BX.out 0 (.int .i64 num) rfl) 1 (.int .i64 good) rfl) (by decide) (by decide)).set_ (blk_put (blk_put (blk_put BX.out 0 (.int .i64 num) rfl) 1 (.int .i64 good) rfl) 2 (.slice A2 bodies.length c2) rfl) (by decide) (by decide), put4' BX.out,
    Kd.R_set (Kd.R_set (Kd.R_set (Kd.R_set HRB.out BX.out (by decide) 0 _) (blk_put BX.out 0 (.int .i64 num) rfl) (by decide) 1 _) (blk_put (blk_put BX.out 0 (.int .i64 num) rfl) 1 (.int .i64 good) rfl) (by decide) 2 _) (blk_put (blk_put (blk_put BX.out 0 (.int .i64 num) rfl) 1 (.int .i64 good) rfl) 2 (.slice A2 bodies.length c2) rfl) (by decide) 3 _,
    Kd.R_set (Kd.R_set (Kd.R_set (Kd.R_set HRD.out BX.out (by decide) 0 _) (blk_put BX.out 0 (.int .i64 num) rfl) (by decide) 1 _) (blk_put (blk_put BX.out 0 (.int .i64 num) rfl) 1 (.int .i64 good) rfl) (by decide) 2 _) (blk_put (blk_put (blk_put BX.out 0 (.int .i64 num) rfl) 1 (.int .i64 good) rfl) 2 (.slice A2 bodies.length c2) rfl) (by decide) 3 _,
    (((HFX.out.set g9 0 _ (.inl G9.out)).set g9 1 _ (.inl G9.out)).set g9 2 _ (.inl G9.out)).set g9 3 _ (.inl G9.out)⟩ ?_
  clear HB HD HFX BX HRB HRD hz
  rintro W2 ⟨D2, Y2, RB2, RD2, F2⟩
  have HD := Aside0.mk D2
  have HY := My.am Y2
  have HRB := Aside0.mk RB2
  have HRD := Aside0.mk RD2
  have HFX := Aside0.mk F2
  clear D2 Y2 RB2 RD2 F2
  have hz := cz4' HY
  go_upto_region 8 with ((with_reducible refine gate_dst (N := 37) rfl ?_); refine My.bx 37 #[.pointer (some ⟨p, 0, none⟩), .int .i64 num, .int .i64 good] 62 ?_; intro g hg w37 hbox hb; have HFA := Aside0.mk (show FileAt w37 g p num good from hbox); have GG := Aside0.mk (show w.heap.size ≤ g by rw [hg]; exact HFX.out.size); have GG9 := Aside0.mk G9.out; have NG := Aside0.mk (show g9 ≠ g by rw [hg]; exact Nat.ne_of_lt (blk_lt HY.out)); replace HD := Aside0.mk (HD.out.up hb); replace HRB := Aside0.mk (Kd.R_below HRB.out hb); replace HRD := Aside0.mk (Kd.R_below HRD.out hb); replace HFX := Aside0.mk (HFX.out.trans (FrX.of hb)); replace HY := My.am ((hb.block g9 (blk_lt HY.out)).trans HY.out); clear hb hbox hg)
  clear hz
  have hz := cz4' HY
  go_upto_if 40 with (fail)
  go_cut [10] (fun v10 wc => v10 = .int .i64 e1 ∧ Aside0 (DiskAt base wc p bm s1) ∧ Aside0 (wc.heap[g9]? = some (.cells #[.int .i64 num, .int .i64 good, .slice A2 bodies.length c2, .slice A3 drop.length c3] 57 (0, 0))) ∧ Aside0 (Kd.string.R 9 wc w.heap.size (fun _ => True) (.slice A2 bodies.length c2) bodies) ∧ Aside0 ((Kd.int .i64).R 3 wc w.heap.size (fun _ => True) (.slice A3 drop.length c3) drop) ∧ Aside0 (FrX (fun k => k = p ∨ k = bm) w wc) ∧ Aside0 (FileAt wc g p num good))
  case first =>
    have hz := cz4' HY
    by_cases c0 : 0 ≤ num
    · have t0 : decide (0 ≤ num) = true := decide_eq_true c0
      have t5 : decide (num < 0) = false := decide_eq_false (by omega)
      have C0 := Aside0.mk c0
      by_cases c1 : good < ((findF s num).f1.size : Int)
      · have t1 : decide (good < ((findF s num).f1.size : Int)) = true := decide_eq_true c1
        have C1' := Aside0.mk (show cutS s num good = (s1, e1) by rw [← C1.out]; unfold cutO; rw [if_pos ⟨c0, c1⟩])
        clear c0 c1
        go_wp2_with (first
      | ((with_reducible refine gate_callee (f := 18) rfl ?_); refine goesL_ (some 45) rfl rfl Tryz.func18 (by kernel_rfl) rfl #[.pointer (some ⟨p, 0, none⟩), .int .i64 num] rfl My.gx ?_; (refine (disk_Disk_Read.calls HD.out num HNW.out).mono ?_); rintro e W45 ⟨rfl, hb⟩; refine ⟨_, rfl, ?_⟩; clear hz; replace HRB := Aside0.mk (Kd.R_below HRB.out hb); replace HRD := Aside0.mk (Kd.R_below HRD.out hb); replace HY := My.am ((hb.block g9 (blk_lt HY.out)).trans HY.out); replace HFA := Aside0.mk (show FileAt _ g p num good from (hb.block g (blk_lt HFA.out)).trans HFA.out); replace HD := Aside0.mk (HD.out.up hb); replace HFX := Aside0.mk (HFX.out.trans (FrX.of hb)); clear hb; have hz := cz4' HY)
      | ((with_reducible refine gate_callee (f := 20) rfl ?_); refine goesL_ (some 58) rfl rfl Tryz.func20 (by kernel_rfl) rfl #[.pointer (some ⟨p, 0, none⟩), .int .i64 num, .int .i64 good] rfl My.gx ?_; (refine (disk_Disk_Cut.calls HD.out num HNW.out good).mono ?_); rintro e W58 ⟨rfl, hD, hF⟩; refine ⟨_, rfl, ?_⟩; rw [C1'.out] at hD ⊢; dsimp only at hD ⊢; clear hz; replace HRB := Aside0.mk (HD.out.row hF HRB.out (by decide)); replace HRD := Aside0.mk (HD.out.row hF HRD.out (by decide)); replace HY := My.am ((hF.block g9 (blk_lt HY.out) (neOf HY.out (cellsOf HD.out) (by decide)) (neMap HY.out HD.out)).trans HY.out); replace HFA := Aside0.mk (show FileAt _ g p num good from (hF.block g (blk_lt HFA.out) (neOf HFA.out (cellsOf HD.out) (by decide)) (neMap HFA.out HD.out)).trans HFA.out); replace HFX := Aside0.mk (HFX.out.trans hF.toX); replace HD := Aside0.mk hD; clear hD hF))
        all_goals first | (exfalso; have hC := C0.out; omega) | (go_meet; exact ⟨rfl, HD, HY, HRB, HRD, HFX, HFA⟩)
      · have t1 : decide (good < ((findF s num).f1.size : Int)) = false := decide_eq_false c1
        have e : ((s, (0:Int)) : DS × Int) = (s1, e1) := by rw [← C1.out]; unfold cutO; rw [if_neg (fun h => c1 h.2)]
        injection e with ea eb
        subst ea eb
        clear c0 c1
        go_wp2_with (first
      | ((with_reducible refine gate_callee (f := 18) rfl ?_); refine goesL_ (some 45) rfl rfl Tryz.func18 (by kernel_rfl) rfl #[.pointer (some ⟨p, 0, none⟩), .int .i64 num] rfl My.gx ?_; (refine (disk_Disk_Read.calls HD.out num HNW.out).mono ?_); rintro e W45 ⟨rfl, hb⟩; refine ⟨_, rfl, ?_⟩; clear hz; replace HRB := Aside0.mk (Kd.R_below HRB.out hb); replace HRD := Aside0.mk (Kd.R_below HRD.out hb); replace HY := My.am ((hb.block g9 (blk_lt HY.out)).trans HY.out); replace HFA := Aside0.mk (show FileAt _ g p num good from (hb.block g (blk_lt HFA.out)).trans HFA.out); replace HD := Aside0.mk (HD.out.up hb); replace HFX := Aside0.mk (HFX.out.trans (FrX.of hb)); clear hb; have hz := cz4' HY)
      | ((with_reducible refine gate_callee (f := 20) rfl ?_); refine goesL_ (some 58) rfl rfl Tryz.func20 (by kernel_rfl) rfl #[.pointer (some ⟨p, 0, none⟩), .int .i64 num, .int .i64 good] rfl My.gx ?_; (refine (disk_Disk_Cut.calls HD.out num HNW.out good).mono ?_); rintro e W58 ⟨rfl, hD, hF⟩; refine ⟨_, rfl, ?_⟩; rw [C1'.out] at hD ⊢; dsimp only at hD ⊢; clear hz; replace HRB := Aside0.mk (HD.out.row hF HRB.out (by decide)); replace HRD := Aside0.mk (HD.out.row hF HRD.out (by decide)); replace HY := My.am ((hF.block g9 (blk_lt HY.out) (neOf HY.out (cellsOf HD.out) (by decide)) (neMap HY.out HD.out)).trans HY.out); replace HFA := Aside0.mk (show FileAt _ g p num good from (hF.block g (blk_lt HFA.out) (neOf HFA.out (cellsOf HD.out) (by decide)) (neMap HFA.out HD.out)).trans HFA.out); replace HFX := Aside0.mk (HFX.out.trans hF.toX); replace HD := Aside0.mk hD; clear hD hF))
        all_goals first | (exfalso; have hC := C0.out; omega) | (go_meet; exact ⟨rfl, HD, HY, HRB, HRD, HFX, HFA⟩)
    · have t0 : decide (0 ≤ num) = false := decide_eq_false c0
      have t5 : decide (num < 0) = true := decide_eq_true (by omega)
      have C0 := Aside0.mk c0
      have e : ((s, (0:Int)) : DS × Int) = (s1, e1) := by rw [← C1.out]; unfold cutO; rw [if_neg (fun h => c0 h.1)]
      injection e with ea eb
      subst ea eb
      clear c0
      go_wp2_with (first
      | ((with_reducible refine gate_callee (f := 18) rfl ?_); refine goesL_ (some 45) rfl rfl Tryz.func18 (by kernel_rfl) rfl #[.pointer (some ⟨p, 0, none⟩), .int .i64 num] rfl My.gx ?_; (refine (disk_Disk_Read.calls HD.out num HNW.out).mono ?_); rintro e W45 ⟨rfl, hb⟩; refine ⟨_, rfl, ?_⟩; clear hz; replace HRB := Aside0.mk (Kd.R_below HRB.out hb); replace HRD := Aside0.mk (Kd.R_below HRD.out hb); replace HY := My.am ((hb.block g9 (blk_lt HY.out)).trans HY.out); replace HFA := Aside0.mk (show FileAt _ g p num good from (hb.block g (blk_lt HFA.out)).trans HFA.out); replace HD := Aside0.mk (HD.out.up hb); replace HFX := Aside0.mk (HFX.out.trans (FrX.of hb)); clear hb; have hz := cz4' HY)
      | ((with_reducible refine gate_callee (f := 20) rfl ?_); refine goesL_ (some 58) rfl rfl Tryz.func20 (by kernel_rfl) rfl #[.pointer (some ⟨p, 0, none⟩), .int .i64 num, .int .i64 good] rfl My.gx ?_; (refine (disk_Disk_Cut.calls HD.out num HNW.out good).mono ?_); rintro e W58 ⟨rfl, hD, hF⟩; refine ⟨_, rfl, ?_⟩; rw [C1'.out] at hD ⊢; dsimp only at hD ⊢; clear hz; replace HRB := Aside0.mk (HD.out.row hF HRB.out (by decide)); replace HRD := Aside0.mk (HD.out.row hF HRD.out (by decide)); replace HY := My.am ((hF.block g9 (blk_lt HY.out) (neOf HY.out (cellsOf HD.out) (by decide)) (neMap HY.out HD.out)).trans HY.out); replace HFA := Aside0.mk (show FileAt _ g p num good from (hF.block g (blk_lt HFA.out) (neOf HFA.out (cellsOf HD.out) (by decide)) (neMap HFA.out HD.out)).trans HFA.out); replace HFX := Aside0.mk (HFX.out.trans hF.toX); replace HD := Aside0.mk hD; clear hD hF))
      all_goals first | (exfalso; have hC := C0.out; omega) | (go_meet; exact ⟨rfl, HD, HY, HRB, HRD, HFX, HFA⟩)
  case rest =>
  clear HD HY HRB HRD HFX HFA hz
  obtain ⟨rfl, HD, HY, HRB, HRD, HFX, HFA⟩ := hcut
  go_upto_if 60 with (fail)
  go_cut [10] (fun v10 wc => v10 = .int .i64 e2 ∧ Aside0 (DiskAt base wc p bm s2) ∧ Aside0 (wc.heap[g9]? = some (.cells #[.int .i64 num, .int .i64 good, .slice A2 bodies.length c2, .slice A3 drop.length c3] 57 (0, 0))) ∧ Aside0 (Kd.string.R 9 wc w.heap.size (fun _ => True) (.slice A2 bodies.length c2) bodies) ∧ Aside0 ((Kd.int .i64).R 3 wc w.heap.size (fun _ => True) (.slice A3 drop.length c3) drop) ∧ Aside0 (FrX (fun k => k = p ∨ k = bm) w wc) ∧ Aside0 (FileAt wc g p num good))
  case first =>
    have hz := cz4' HY
    by_cases c0 : e1 = 0
    · have C2' := Aside0.mk (show dropS s1 drop = (s2, e2) by rw [← C2.out]; unfold dropO; rw [if_pos c0])
      have t0 : decide (e1 = 0) = true := decide_eq_true c0
      have t1 : (e1 == 0) = true := by simp [c0]
      clear c0
      go_wp2_with ((with_reducible refine gate_callee (f := 21) rfl ?_); refine goesL_ (some 64) rfl rfl Tryz.func21 (by kernel_rfl) rfl #[.pointer (some ⟨p, 0, none⟩), .slice A3 drop.length c3] rfl My.gx ?_; (refine (wal_drop.calls HD.out A3 c3 drop HLN.out HDW.out (fun W hF => (Kd.R_reads' (HD.out.row hF HRD.out (by decide))).2.2)).mono ?_); rintro e W64 ⟨rfl, hD, hF⟩; refine ⟨_, rfl, ?_⟩; rw [C2'.out] at hD ⊢; dsimp only at hD ⊢; clear hz; replace HRB := Aside0.mk (HD.out.row hF HRB.out (by decide)); replace HRD := Aside0.mk (HD.out.row hF HRD.out (by decide)); replace HY := My.am ((hF.block g9 (blk_lt HY.out) (neOf HY.out (cellsOf HD.out) (by decide)) (neMap HY.out HD.out)).trans HY.out); replace HFA := Aside0.mk (show FileAt _ g p num good from (hF.block g (blk_lt HFA.out) (neOf HFA.out (cellsOf HD.out) (by decide)) (neMap HFA.out HD.out)).trans HFA.out); replace HFX := Aside0.mk (HFX.out.trans hF.toX); replace HD := Aside0.mk hD; clear hD hF)
      go_meet
      case rel => exact ⟨rfl, HD, HY, HRB, HRD, HFX, HFA⟩
    · have e : ((s1, e1) : DS × Int) = (s2, e2) := by rw [← C2.out]; unfold dropO; rw [if_neg c0]
      have t0 : decide (e1 = 0) = false := decide_eq_false c0
      have t1 : (e1 == 0) = false := beq_eq_false_iff_ne.2 c0
      injection e with ea eb
      subst ea eb
      clear c0
      go_wp2
      go_meet
      case rel => exact ⟨rfl, HD, HY, HRB, HRD, HFX, HFA⟩
  case rest =>
  clear HD HY HRB HRD HFX HFA
  obtain ⟨rfl, HD, HY, HRB, HRD, HFX, HFA⟩ := hcut
  have hz := cz4' HY
  by_cases c0 : e2 = 0
  · have t0 : decide (e2 = 0) = true := decide_eq_true c0
    have t1 : (e2 == 0) = true := by simp [c0]
    by_cases c1 : num < 0
    · have t2 : decide (num < 0) = true := decide_eq_true c1
      have hx := HX.out
      have hbs := HBS.out
      have h3 := C3.out
      unfold openX at hx
      unfold openB at hbs
      unfold begO at h3
      rw [if_pos c1] at hx hbs
      rw [if_pos ⟨c0, c1⟩] at h3
      subst hbs
      by_cases c2 : r2 = 0
      · rw [if_pos c2] at h3
        subst c2
        obtain ⟨z2, hz2⟩ : ∃ z2 : Int, writeZ s2 1 0 r1 = z2 := ⟨_, rfl⟩
        dsimp only at hx h3
        rw [hz2] at hx
        have HX2 := Aside0.mk hx
        have H3 := Aside0.mk h3
        have HZ2 := Aside0.mk hz2
        clear c0 c1 hx h3 hz2
        by_cases c4 : e3 = 0
        · subst c4
          go_upto_region 17 with ((with_reducible refine gate_callee (f := 22) rfl ?_); refine goesL_ (some 74) rfl rfl Tryz.func22 (by kernel_rfl) rfl #[.pointer (some ⟨g, 0, none⟩), .int .i64 1, .string first] rfl My.gx ?_; (refine (file_begin.ok HD.out HFA.out 1 (by decide) first r1 k HBG.out HR1.out).mono ?_); rintro e W74 ⟨rfl, hD, hA, hF⟩; refine ⟨_, rfl, ?_⟩; rw [H3.out] at hD ⊢; dsimp only at hD ⊢; rw [HZ2.out] at hA; clear hz; replace HY := My.am ((hF.block g9 (blk_lt HY.out) (fun h => by rcases h with h | h | h; exact neOf HY.out (cellsOf HD.out) (by decide) h; exact neMap HY.out HD.out h; exact NG.out h)).trans HY.out); replace HFX := Aside0.mk (HFX.out.fresh hF (fun i hi => by rcases hi with h | h | h; exact .inl (.inl h); exact .inl (.inr h); exact .inr (by rw [h]; exact GG.out))); replace HFA := Aside0.mk hA; replace HD := Aside0.mk hD; clear hD hF hA; have hz := cz4' HY; have hzA := cz4' (My.am ((below_alloc (Below.refl W74.heap.size W74) (.cells #[.string first] 9)).block g9 (blk_lt HY.out) |>.trans HY.out)))
          refine at_world (J := fun W => DiskAt base W p bm s3 ∧ W.heap[g9]? = some (.cells #[.int .i64 num, .int .i64 good, .slice (some ⟨W74.heap.size, 0, none⟩) 1 1, .slice A3 drop.length c3] 57 (0, 0)) ∧ Kd.string.R 9 W w.heap.size (fun _ => True) (.slice (some ⟨W74.heap.size, 0, none⟩) 1 1) [first] ∧ FrX (fun k => k = p ∨ k = bm) w W ∧ FileAt W g p 1 z2) ⟨(HD.out.up (below_alloc (Below.refl _ _) _)).set_ ((below_alloc (Below.refl W74.heap.size W74) _).block g9 (blk_lt HY.out) |>.trans HY.out) (by decide) (by decide), blk_put ((below_alloc (Below.refl W74.heap.size W74) _).block g9 (blk_lt HY.out) |>.trans HY.out) 2 (.slice (some ⟨W74.heap.size, 0, none⟩) 1 1) rfl, Kd.R_set (one_row W74 w.heap.size HFX.out.size first) ((below_alloc (Below.refl W74.heap.size W74) _).block g9 (blk_lt HY.out) |>.trans HY.out) (by decide) 2 _, (HFX.out.trans (FrX.of (below_alloc (Below.refl _ _) _))).set g9 2 _ (.inl GG9.out), (Below.heap_setCell _ ⟨g9, 2, none⟩ _ g (fun e => NG.out e.symm)).trans (((below_alloc (Below.refl W74.heap.size W74) _).block g (blk_lt HFA.out)).trans HFA.out)⟩ ?_
          clear HD HY HRB HRD HFX HFA hz hzA
          rintro W5 ⟨D5, Y5, RB5, F5, FA5⟩
          have HD := Aside0.mk D5
          have HY := My.am Y5
          have HRB := Aside0.mk RB5
          have HFX := Aside0.mk F5
          have HFA := Aside0.mk FA5
          clear D5 Y5 RB5 F5 FA5
          have hz5 := cz4' HY
          go_upto_region 19 with (fail)
          clear hz5
          refine start_ (n := 8) (S := fun w' => w'.heap[g9]? = some (.cells #[.int .i64 num, .int .i64 good, .slice (some ⟨W74.heap.size, 0, none⟩) 1 1, .slice A3 drop.length c3] 57 (0, 0))) (ds := []) #[false, false, false, false, false, false, false, false] (by kernel_rfl) rfl rfl HY.out (fun hHeld => ?_); refine with_tabW op.tab19 op.bits19 (fun HT_ HW_ => ?_)
          replace HD := Aside0.mk (HD.out.move (W' := W5.drew) (fun _ _ _ => rfl))
          replace HRB := Aside0.mk (Kd.R_drew HRB.out)
          replace HFA := Aside0.mk (show FileAt W5.drew g p _ _ from HFA.out)
          replace HFX := Aside0.mk (HFX.out.trans (FrX.of (X := (fun k => k = p ∨ k = bm)) (Below.drew (Below.refl W5.heap.size W5))))
          clear HY
          generalize W5.drew = W6 at HD HRB HFA HFX hHeld ⊢
          refine My.pv_ 0 81 8 1 HT_.out ?_
          refine My.pv_ 1 82 8 3 HT_.out ?_
          refine My.pv_ 3 84 8 11 HT_.out ?_
          refine My.tv_ 4 85 8 27 HT_.out HW_.out hHeld rfl rfl (by rintro w' hS; have hz := cz4' (My.am hS); go_simp; with_reducible rfl) ?_
          refine one_ (i := 2) (N := some 83) (My.Mb 8 31) rfl rfl (one_of HT_.out (by kernel_rfl)) (by decide) (fun K hK => ?_)
          refine box_step ?hg (N := 83) ?hd (cs := #[.pointer (some ⟨g, 0, none⟩), .bool false]) (t := 67) ?hr ?_; (case hd => rfl); (case hg => rfl); (case hr => first | (go_simp; done) | (go_simp; rfl))
          intro q hg w15 hbox hb
          have GQ := Aside0.mk (show w.heap.size ≤ q by rw [hg]; exact HFX.out.size)
          have hY4 := (hb.block g9 (blk_lt hHeld)).trans hHeld
          have HQL := Aside0.mk hbox
          replace HRB := Aside0.mk (Kd.R_below HRB.out hb)
          replace HFA := Aside0.mk ((hb.block g (blk_lt HFA.out)).trans HFA.out)
          replace HD := Aside0.mk (HD.out.up hb)
          replace HFX := Aside0.mk (HFX.out.trans (FrX.of hb))
          clear hbox hb hg
          refine hK.out _ _ hY4 (fun hHeld => ?_)
          clear hK K
          refine My.nm 83 ?_
          refine My.pv_ 5 4 8 63 HT_.out ?_
          refine My.pv_ 6 5 8 127 HT_.out ?_
          refine My.pv_ 7 6 8 255 HT_.out ?_
          refine done_ (done_of HT_.out (by kernel_rfl)) ?_
          clear HT_ HW_ hHeld
          go_wp2
          go_ret3
          unfold OpenPost
          refine ⟨HD.out, HFX.out, .inr ⟨rfl, q, g, _, _, rfl, GQ.out, GG.out, ?_, HRB.out⟩⟩
          rw [← HX2.out]
          exact ⟨HQL.out, HFA.out⟩
        · have HC4 := Aside0.mk c4
          have m1 : decide (e3 = 0) = false := decide_eq_false c4
          have m2 : (e3 == 0) = false := beq_eq_false_iff_ne.2 c4
          have m3 : (e3 != 0) = true := by simp [bne, m2]
          clear c4
          go_upto_region 17 with ((with_reducible refine gate_callee (f := 22) rfl ?_); refine goesL_ (some 74) rfl rfl Tryz.func22 (by kernel_rfl) rfl #[.pointer (some ⟨g, 0, none⟩), .int .i64 1, .string first] rfl My.gx ?_; (refine (file_begin.ok HD.out HFA.out 1 (by decide) first r1 k HBG.out HR1.out).mono ?_); rintro e W74 ⟨rfl, hD, hA, hF⟩; refine ⟨_, rfl, ?_⟩; rw [H3.out] at hD ⊢; dsimp only at hD ⊢; rw [HZ2.out] at hA; clear hz; replace HY := My.am ((hF.block g9 (blk_lt HY.out) (fun h => by rcases h with h | h | h; exact neOf HY.out (cellsOf HD.out) (by decide) h; exact neMap HY.out HD.out h; exact NG.out h)).trans HY.out); replace HFX := Aside0.mk (HFX.out.fresh hF (fun i hi => by rcases hi with h | h | h; exact .inl (.inl h); exact .inl (.inr h); exact .inr (by rw [h]; exact GG.out))); replace HFA := Aside0.mk hA; replace HD := Aside0.mk hD; clear hD hF hA; have hz := cz4' HY; have hzA := cz4' (My.am ((below_alloc (Below.refl W74.heap.size W74) (.cells #[.string first] 9)).block g9 (blk_lt HY.out) |>.trans HY.out)))
          refine at_world (J := fun W => DiskAt base W p bm s3 ∧ FrX (fun k => k = p ∨ k = bm) w W) ⟨(HD.out.up (below_alloc (Below.refl _ _) _)).set_ ((below_alloc (Below.refl W74.heap.size W74) _).block g9 (blk_lt HY.out) |>.trans HY.out) (by decide) (by decide), (HFX.out.trans (FrX.of (below_alloc (Below.refl _ _) _))).set g9 2 _ (.inl GG9.out)⟩ ?_
          clear HD HY HRB HRD HFX HFA hz hzA
          rintro W5 ⟨D5, F5⟩
          have HD := Aside0.mk D5
          have HFX := Aside0.mk F5
          clear D5 F5
          go_wp2
          go_ret3
          unfold OpenPost
          exact ⟨HD.out, HFX.out, .inl ⟨HC4.out, rfl⟩⟩
      · rw [if_neg c2] at h3
        injection h3 with h3a h3b
        subst h3a h3b
        have HC2 := Aside0.mk c2
        have m1 : decide (r2 = 0) = false := decide_eq_false c2
        have m2 : (r2 == 0) = false := beq_eq_false_iff_ne.2 c2
        have m3 : (r2 != 0) = true := by simp [bne, m2]
        clear c0 c1 c2
        go_upto_region 17 with ((with_reducible refine gate_callee (f := 22) rfl ?_); refine goesL_ (some 74) rfl rfl Tryz.func22 (by kernel_rfl) rfl #[.pointer (some ⟨g, 0, none⟩), .int .i64 1, .string first] rfl My.gx ?_; (refine (file_begin.bad HD.out HFA.out 1 first r1 r2 k HBG.out HC2.out).mono ?_); rintro e W74 ⟨rfl, hD, hA, hF⟩; refine ⟨_, rfl, ?_⟩; clear hz; replace HY := My.am ((hF.block g9 (blk_lt HY.out) (fun h => by rcases h with h | h | h; exact neOf HY.out (cellsOf HD.out) (by decide) h; exact neMap HY.out HD.out h; exact NG.out h)).trans HY.out); replace HFX := Aside0.mk (HFX.out.fresh hF (fun i hi => by rcases hi with h | h | h; exact .inl (.inl h); exact .inl (.inr h); exact .inr (by rw [h]; exact GG.out))); replace HFA := Aside0.mk hA; replace HD := Aside0.mk hD; clear hD hF hA; have hz := cz4' HY; have hzA := cz4' (My.am ((below_alloc (Below.refl W74.heap.size W74) (.cells #[.string first] 9)).block g9 (blk_lt HY.out) |>.trans HY.out)))
        refine at_world (J := fun W => DiskAt base W p bm s2 ∧ FrX (fun k => k = p ∨ k = bm) w W) ⟨(HD.out.up (below_alloc (Below.refl _ _) _)).set_ ((below_alloc (Below.refl W74.heap.size W74) _).block g9 (blk_lt HY.out) |>.trans HY.out) (by decide) (by decide), (HFX.out.trans (FrX.of (below_alloc (Below.refl _ _) _))).set g9 2 _ (.inl GG9.out)⟩ ?_
        clear HD HY HRB HRD HFX HFA hz hzA
        rintro W5 ⟨D5, F5⟩
        have HD := Aside0.mk D5
        have HFX := Aside0.mk F5
        clear D5 F5
        go_wp2
        go_ret3
        unfold OpenPost
        exact ⟨HD.out, HFX.out, .inl ⟨HC2.out, rfl⟩⟩
    · have t2 : decide (num < 0) = false := decide_eq_false c1
      have hx := HX.out
      have hbs := HBS.out
      have h3 := C3.out
      unfold openX at hx
      unfold openB at hbs
      unfold begO at h3
      rw [if_neg c1] at hx hbs
      rw [if_neg (fun h => c1 h.2)] at h3
      injection h3 with h3a h3b
      subst h3a h3b c0 hbs
      have HX2 := Aside0.mk hx
      clear c1 hx
      have hz5 := cz4' HY
      go_upto_region 19 with (fail)
      clear hz5
      refine start_ (n := 8) (S := fun w' => w'.heap[g9]? = some (.cells #[.int .i64 num, .int .i64 good, .slice A2 bodies.length c2, .slice A3 drop.length c3] 57 (0, 0))) (ds := []) #[false, false, false, false, false, false, false, false] (by kernel_rfl) rfl rfl HY.out (fun hHeld => ?_); refine with_tabW op.tab19 op.bits19 (fun HT_ HW_ => ?_)
      replace HD := Aside0.mk (HD.out.move (W' := wc.drew) (fun _ _ _ => rfl))
      replace HRB := Aside0.mk (Kd.R_drew HRB.out)
      replace HFA := Aside0.mk (show FileAt wc.drew g p _ _ from HFA.out)
      replace HFX := Aside0.mk (HFX.out.trans (FrX.of (X := (fun k => k = p ∨ k = bm)) (Below.drew (Below.refl wc.heap.size wc))))
      clear HY
      generalize wc.drew = W6 at HD HRB HFA HFX hHeld ⊢
      refine My.pv_ 0 81 8 1 HT_.out ?_
      refine My.pv_ 1 82 8 3 HT_.out ?_
      refine My.pv_ 3 84 8 11 HT_.out ?_
      refine My.tv_ 4 85 8 27 HT_.out HW_.out hHeld rfl rfl (by rintro w' hS; have hz := cz4' (My.am hS); go_simp; with_reducible rfl) ?_
      refine one_ (i := 2) (N := some 83) (My.Mb 8 31) rfl rfl (one_of HT_.out (by kernel_rfl)) (by decide) (fun K hK => ?_)
      refine box_step ?hg (N := 83) ?hd (cs := #[.pointer (some ⟨g, 0, none⟩), .bool false]) (t := 67) ?hr ?_; (case hd => rfl); (case hg => rfl); (case hr => first | (go_simp; done) | (go_simp; rfl))
      intro q hg w15 hbox hb
      have GQ := Aside0.mk (show w.heap.size ≤ q by rw [hg]; exact HFX.out.size)
      have hY4 := (hb.block g9 (blk_lt hHeld)).trans hHeld
      have HQL := Aside0.mk hbox
      replace HRB := Aside0.mk (Kd.R_below HRB.out hb)
      replace HFA := Aside0.mk ((hb.block g (blk_lt HFA.out)).trans HFA.out)
      replace HD := Aside0.mk (HD.out.up hb)
      replace HFX := Aside0.mk (HFX.out.trans (FrX.of hb))
      clear hbox hb hg
      refine hK.out _ _ hY4 (fun hHeld => ?_)
      clear hK K
      refine My.nm 83 ?_
      refine My.pv_ 5 4 8 63 HT_.out ?_
      refine My.pv_ 6 5 8 127 HT_.out ?_
      refine My.pv_ 7 6 8 255 HT_.out ?_
      refine done_ (done_of HT_.out (by kernel_rfl)) ?_
      clear HT_ HW_ hHeld
      go_wp2
      go_ret3
      unfold OpenPost
      refine ⟨HD.out, HFX.out, .inr ⟨rfl, q, g, _, _, rfl, GQ.out, GG.out, ?_, HRB.out⟩⟩
      rw [← HX2.out]
      exact ⟨HQL.out, HFA.out⟩
  · have t0 : decide (e2 = 0) = false := decide_eq_false c0
    have t1 : (e2 == 0) = false := beq_eq_false_iff_ne.2 c0
    have t2 : (e2 != 0) = true := by simp [bne, t1]
    have h3 := C3.out
    unfold begO at h3
    rw [if_neg (fun h => c0 h.1)] at h3
    injection h3 with h3a h3b
    subst h3a h3b
    have HC0 := Aside0.mk c0
    clear c0
    go_wp2
    go_ret3
    unfold OpenPost
    exact ⟨HD.out, HFX.out, .inl ⟨HC0.out, rfl⟩⟩
end
/-! #### awake: what it comes to -/
def awX : ByteArray := ((segment_Begin.f 60 ⟨#[120]⟩).getD (⟨#[]⟩, 0)).1
def awA : ByteArray := ((segment_Next.f 60 [⟨#[97]⟩]).getD (⟨#[]⟩, 0)).1
def awB : ByteArray := ((segment_Begin.f 60 ⟨#[98]⟩).getD (⟨#[]⟩, 0)).1
def awC : ByteArray := ((segment_Next.f 60 [⟨#[99]⟩]).getD (⟨#[]⟩, 0)).1
theorem aw_x : segment_Begin.f 60 ⟨#[120]⟩ = some (awX, 0) := by decide +kernel
theorem aw_a : segment_Next.f 60 [⟨#[97]⟩] = some (awA, 0) := by decide +kernel
theorem aw_b : segment_Begin.f 60 ⟨#[98]⟩ = some (awB, 0) := by decide +kernel
theorem aw_c : segment_Next.f 60 [⟨#[99]⟩] = some (awC, 0) := by decide +kernel
theorem aw_l0 : segment_Look.f 60 (newS 1000).L = some (-1, 0, [], [], 0) := by decide +kernel
def aw1 : DS := (begO (dropO (cutO (newS 1000) (-1) 0) []) (-1) awX 0).1
theorem aw_1 : (begO (dropO (cutO (newS 1000) (-1) 0) []) (-1) awX 0).2 = 0 := by decide +kernel
def awz1 : Int := writeZ (dropO (cutO (newS 1000) (-1) 0) []).1 1 0 awX
def aw2 : DS := (writeS aw1 1 awA).1
theorem aw_2 : (writeS aw1 1 awA).2 = 0 := by decide +kernel
def awz2 : Int := writeZ aw1 1 awz1 awA
def aw3 : DS := (writeS aw2 2 awB).1
theorem aw_3 : (writeS aw2 2 awB).2 = 0 := by decide +kernel
def awz3 : Int := writeZ aw2 2 0 awB
def aw4 : DS := (remS aw3 1).1
theorem aw_4 : (remS aw3 1).2 = 0 := by decide +kernel
def aw5 : DS := (writeS aw4 2 awC).1
theorem aw_5 : (writeS aw4 2 awC).2 = 0 := by decide +kernel
def awz5 : Int := writeZ aw4 2 awz3 awC
theorem aw_d : aw5.dead = false := by decide +kernel
theorem aw_l5 : segment_Look.f 60 aw5.L = some (2, awz5, [⟨#[98]⟩, ⟨#[99]⟩], [], 0) := by decide +kernel
theorem aw_6 : (begO (dropO (cutO aw5 2 awz5) []) 2 awX 0).2 = 0 := by decide +kernel
theorem aw_p : 0 < awz5 := by decide +kernel
theorem aw_s1 : awX.size = 12 ∧ awA.size = 12 ∧ awB.size = 12 ∧ awC.size = 12 := by decide +kernel
theorem aw_z1 : 0 ≤ awz1 ∧ awz1 ≤ 1000 := by decide +kernel
theorem aw_z3 : 0 ≤ awz3 ∧ awz3 ≤ 1000 := by decide +kernel
theorem aw_same1 : ententeref01_Same.f 60 [⟨#[120]⟩] [⟨#[120]⟩] = some true := by decide +kernel
theorem aw_same2 : ententeref01_Same.f 60 [⟨#[98]⟩, ⟨#[99]⟩] [⟨#[98]⟩, ⟨#[99]⟩] = some true := by decide +kernel
def NoDisk (w : World) (a : Option Addr) : Prop := a = none ∨ ∃ g, a = some ⟨g, 0, none⟩ ∧ w.heap[g]? = some (.cells #[.bool false, .bool false, .int .i64 0, .int .i64 0, .slice none 0 0, .map none] 52 (0, 0))
section
variable {w : World} {a : Option Addr}
theorem NoDisk.up {W : World} (h : NoDisk w a) (hb : Below w.heap.size w W) : NoDisk W a := by
  rcases h with h | ⟨g, h, hg⟩
  · exact .inl h
  · exact .inr ⟨g, h, (hb.block g (blk_lt hg)).trans hg⟩
set_option maxHeartbeats 4000000 in
set_option maxRecDepth 100000 in
theorem nb_none.calls (h : NoDisk w a) : Calls Tryz.prog 54 #[.pointer a] w fun e w' => e = .returned (.bool true) ∧ Below w.heap.size w w' := by
  rcases h with rfl | ⟨g, rfl, hg⟩
  · go_enter Tryz.func54, Tryz.ntmps54
    go_wp2
    go_ret
    exact ⟨rfl, Below.refl _ _⟩
  · have c0 : w.cell? ⟨g, 0, none⟩ = some (.bool false) := blk_cell hg 0
    clear hg
    go_enter Tryz.func54, Tryz.ntmps54
    go_wp2
    go_ret
    exact ⟨rfl, Below.refl _ _⟩
set_option maxHeartbeats 4000000 in
set_option maxRecDepth 100000 in
theorem nb_ready.calls (h : NoDisk w a) : Calls Tryz.prog 60 #[.pointer a] w fun e w' => e = .returned (.int .i64 1) ∧ Below w.heap.size w w' := by
  have hu40 := Tryz.underlying24
  have HN := Aside0.mk h
  have HB := Aside0.mk (Below.refl w.heap.size w)
  clear h
  go_enter Tryz.func60, Tryz.ntmps60
  go_wp2_with ((with_reducible refine gate_callee (f := 54) rfl ?_); refine goesL_ (some _) rfl rfl Tryz.func54 (by kernel_rfl) rfl #[.pointer a] rfl My.gx ?_; (refine (nb_none.calls HN.out).mono ?_); rintro e W1 ⟨rfl, hb⟩; refine ⟨_, rfl, ?_⟩; replace HN := Aside0.mk (HN.out.up hb); replace HB := Aside0.mk (HB.out.trans (hb.mono HB.out.size)); clear hb)
  go_ret
  exact ⟨rfl, HB.out⟩
set_option maxHeartbeats 4000000 in
set_option maxRecDepth 100000 in
theorem nb_find.calls (h : NoDisk w a) (n : Int) : Calls Tryz.prog 35 #[.pointer a, .int .i64 n] w fun e w' => e = .returned (.tuple #[valD z24, .int .i64 1]) ∧ Below w.heap.size w w' := by
  have hu40 := Tryz.underlying24
  have HN := Aside0.mk h
  have HB := Aside0.mk (Below.refl w.heap.size w)
  clear h
  go_enter Tryz.func35, Tryz.ntmps35
  go_wp2_with (first
      | ((with_reducible refine gate_dst (N := 4) rfl ?_); refine My.bx 4 #[.int .i64 0, .string ⟨#[]⟩, .int .i64 0] 24 ?_; intro g4 hg4 w4 hbox hb; have BX := My.am hbox; have G4 := My.nge hg4 HB.out; replace HN := Aside0.mk (HN.out.up hb); replace HB := My.st HB hb; clear hb hbox hg4)
      | ((with_reducible refine gate_callee (f := 60) rfl ?_); refine goesL_ (some _) rfl rfl Tryz.func60 (by kernel_rfl) rfl #[.pointer a] rfl My.gx ?_; (refine (nb_ready.calls HN.out).mono ?_); rintro e W1 ⟨rfl, hb⟩; refine ⟨_, rfl, ?_⟩; replace HN := Aside0.mk (HN.out.up hb); replace BX := My.ab BX hb; replace HB := Aside0.mk (HB.out.trans (hb.mono HB.out.size)); clear hb; have hz := My.cz3 BX))
  have X := My.put3 (v0 := .int .i64 0) (v1 := .string ⟨#[]⟩) (v2 := .int .i64 0) BX.out
  refine bodyPost_ret (find_results rfl _ z24 1 rfl rfl X) rfl ?_
  exact ⟨rfl, My.bl_ HB⟩
set_option maxHeartbeats 4000000 in
set_option maxRecDepth 100000 in
theorem nb_Read.calls (h : NoDisk w a) (n : Int) : Calls Tryz.prog 18 #[.pointer a, .int .i64 n] w fun e w' => e = .returned (.tuple #[.string ⟨#[]⟩, .int .i64 1]) ∧ Below w.heap.size w w' := by
  have hu40 := Tryz.underlying24
  have HN := Aside0.mk h
  have HB := Aside0.mk (Below.refl w.heap.size w)
  clear h
  go_enter Tryz.func18, Tryz.ntmps18
  go_wp2_with (first
      | ((with_reducible refine gate_callee (f := 35) rfl ?_); refine goesL_ (some _) rfl rfl Tryz.func35 (by kernel_rfl) rfl #[.pointer a, .int .i64 n] rfl My.gx ?_; (refine (nb_find.calls HN.out n).mono ?_); rintro e W1 ⟨rfl, hb⟩; refine ⟨_, rfl, ?_⟩; replace HB := Aside0.mk (HB.out.trans (hb.mono HB.out.size)); clear hb; unfold valD)
      | ((with_reducible refine gate_dst (N := 6) rfl ?_); refine My.bx 6 #[.int .i64 0, .string ⟨#[]⟩, .int .i64 0] 24 ?_; intro gx hgx wx hbox hb; have BX := My.am hbox; have GX := My.nge hgx HB.out; replace HB := My.st HB hb; clear hb hbox hgx; have hz := My.cz3 BX))
  go_ret2
  exact ⟨rfl, below_set (below_set (below_set HB.out GX.out) GX.out) GX.out⟩
set_option maxHeartbeats 8000000 in
set_option maxRecDepth 100000 in
theorem nb_Open.calls (h : NoDisk w a) (first : ByteArray) : Calls Tryz.prog 7 #[.pointer a, .string first] w fun e w' => e = .returned (.tuple #[.pointer none, .slice none 0 0, .int .i64 1]) ∧ Below w.heap.size w w' := by
  have HN := Aside0.mk h
  clear h
  go_enter Tryz.func7, Tryz.ntmps7
  go_wp2_with ((with_reducible refine gate_callee (f := 18) rfl ?_); refine goesL_ (some 16) rfl rfl Tryz.func18 (by kernel_rfl) rfl #[.pointer a, .int .i64 (-1)] rfl My.gx ?_; (refine (nb_Read.calls HN.out (-1)).mono ?_); rintro e W16 ⟨rfl, hb⟩; refine ⟨_, rfl, ?_⟩; have HB := Aside0.mk hb; clear hb)
  go_ret3
  exact ⟨rfl, HB.out⟩
end
section
variable {base p bm g q : Nat} {w w0 : World} {s : DS}
theorem aw_open1 (hD : DiskAt base w p bm (newS 1000)) : Calls Tryz.prog 7 #[.pointer (some ⟨p, 0, none⟩), .string ⟨#[120]⟩] w fun e w' => ∃ q g A c, e = .returned (.tuple #[.pointer (some ⟨q, 0, none⟩), .slice A 1 c, .int .i64 0]) ∧ DiskAt base w' p bm aw1 ∧ FrX (fun k => k = p ∨ k = bm) w w' ∧ w.heap.size ≤ q ∧ w.heap.size ≤ g ∧ LogAt w' q g p ⟨1, awz1, false⟩ ∧ Kd.C Kd.string w' A 1 [⟨#[120]⟩] ∧ 1 ≤ c := by
  refine (wal_Open.calls hD rfl ⟨#[120]⟩ 60 (-1) 0 [] [] aw_l0 awX 0 aw_x (by rw [aw_s1.1]; decide) (by decide) (by decide) (by simp)).mono ?_
  rintro e w' ⟨h1, h2, ⟨h3, _⟩ | ⟨_, q, g, A, c, rfl, hq, hg, hL, hR⟩⟩
  · exact absurd aw_1 h3
  · exact ⟨q, g, A, c, rfl, h1, h2, hq, hg, hL, (Kd.R_reads' hR).2.2, (Kd.R_reads' hR).2.1⟩
theorem aw_open2 (hD : DiskAt base w p bm aw5) : Calls Tryz.prog 7 #[.pointer (some ⟨p, 0, none⟩), .string ⟨#[120]⟩] w fun e w' => ∃ q g A c, e = .returned (.tuple #[.pointer (some ⟨q, 0, none⟩), .slice A 2 c, .int .i64 0]) ∧ FrX (fun k => k = p ∨ k = bm) w w' ∧ w.heap.size ≤ q ∧ w.heap.size ≤ g ∧ LogAt w' q g p ⟨2, awz5, false⟩ ∧ Kd.C Kd.string w' A 2 [⟨#[98]⟩, ⟨#[99]⟩] ∧ 2 ≤ c := by
  refine (wal_Open.calls hD aw_d ⟨#[120]⟩ 60 2 awz5 [⟨#[98]⟩, ⟨#[99]⟩] [] aw_l5 awX 0 aw_x (by rw [aw_s1.1]; decide) (by decide) (by decide) (by simp)).mono ?_
  rintro e w' ⟨h1, h2, ⟨h3, _⟩ | ⟨_, q, g, A, c, rfl, hq, hg, hL, hR⟩⟩
  · exact absurd aw_6 h3
  · exact ⟨q, g, A, c, rfl, h2, hq, hg, hL, (Kd.R_reads' hR).2.2, (Kd.R_reads' hR).2.1⟩
theorem aw_app1 (hD : DiskAt base w p bm aw1) (hL : LogAt w q g p ⟨1, awz1, false⟩) : Calls Tryz.prog 13 #[.pointer (some ⟨q, 0, none⟩), .string ⟨#[97]⟩] w fun e w' => e = .returned (.int .i64 0) ∧ DiskAt base w' p bm aw2 ∧ LogAt w' q g p ⟨1, awz2, false⟩ ∧ FrX (fun k => k = p ∨ k = bm ∨ k = g ∨ k = q) w w' := by
  refine (log_Append.ok hD hL (by decide) ⟨aw_z1.1, by have := aw_z1.2; omega⟩ ⟨#[97]⟩ awA 60 aw_a (by rw [aw_s1.2.1]; decide)).mono ?_
  rintro e w' ⟨rfl, h1, h2, h3⟩
  rw [aw_2] at h2 ⊢
  exact ⟨rfl, h1, h2, h3⟩
theorem aw_turn1 (hD : DiskAt base w p bm aw2) (hL : LogAt w q g p ⟨1, awz2, false⟩) : Calls Tryz.prog 14 #[.pointer (some ⟨q, 0, none⟩), .string ⟨#[98]⟩] w fun e w' => e = .returned (.int .i64 0) ∧ DiskAt base w' p bm aw4 ∧ ∃ g', w.heap.size ≤ g' ∧ LogAt w' q g' p ⟨2, awz3, false⟩ ∧ FrX (fun k => k = p ∨ k = bm ∨ k = g ∨ k = q) w w' := by
  refine (log_Turn.ok hD hL (by decide) ⟨#[98]⟩ awB 60 aw_b (by rw [aw_s1.2.2.1]; decide) aw_3).mono ?_
  rintro e w' ⟨rfl, h1, g', hg, h2, h3⟩
  rw [show (remS (writeS aw2 (1 + 1) awB).1 1).2 = 0 from aw_4] at h2 ⊢
  exact ⟨rfl, h1, g', hg, h2, h3⟩
theorem aw_app2 (hD : DiskAt base w p bm aw4) (hL : LogAt w q g p ⟨2, awz3, false⟩) : Calls Tryz.prog 13 #[.pointer (some ⟨q, 0, none⟩), .string ⟨#[99]⟩] w fun e w' => e = .returned (.int .i64 0) ∧ DiskAt base w' p bm aw5 ∧ LogAt w' q g p ⟨2, awz5, false⟩ ∧ FrX (fun k => k = p ∨ k = bm ∨ k = g ∨ k = q) w w' := by
  refine (log_Append.ok hD hL (by decide) ⟨aw_z3.1, by have := aw_z3.2; omega⟩ ⟨#[99]⟩ awC 60 aw_c (by rw [aw_s1.2.2.2]; decide)).mono ?_
  rintro e w' ⟨rfl, h1, h2, h3⟩
  rw [aw_5] at h2 ⊢
  exact ⟨rfl, h1, h2, h3⟩
theorem two_str (W : World) (x y : ByteArray) : Kd.C Kd.string (W.alloc (.cells #[.string x, .string y] 9)) (some ⟨W.heap.size, 0, none⟩) 2 [x, y] := by
  have h1 : (W.alloc (.cells #[.string x, .string y] 9)).heap[W.heap.size]? = some (.cells #[.string x, .string y] 9 (0, 0)) := (MapKept.heap_alloc W _).1
  have hR : Kd.string.R 9 (W.alloc (.cells #[.string x, .string y] 9)) 0 (fun _ => True) (.slice (some ⟨W.heap.size, 0, none⟩) 2 2) [x, y] := ⟨fun _ _ => trivial, [.string x, .string y], ⟨rfl, .inr ⟨W.heap.size, 2, #[.string x, .string y], rfl, Nat.zero_le _, h1, Nat.le_refl _, by unfold maxLen; omega, rfl, rfl⟩⟩, My.enc_reps (fun x => .string x) [x, y]⟩
  exact (Kd.R_reads' hR).2.2
set_option maxHeartbeats 16000000 in
set_option maxRecDepth 100000 in
theorem awake.calls (w : World) : Calls Tryz.prog 4 #[] w fun e w' => e = .returned (.bool true) ∧ Below w.heap.size w w' := by
  have HN : Aside0 (Calls Tryz.prog 12 #[.int .i64 1000] w fun e w' => ∃ p bm, e = .returned (.tuple #[.pointer (some ⟨p, 0, none⟩), .int .i64 0]) ∧ Below w.heap.size w w' ∧ DiskAt w.heap.size w' p bm (newS 1000)) := ⟨(disk_New.calls w 1000).mono (by
    rintro e W1 ⟨hb, ⟨_, _, p, bm, rfl, hD⟩ | ⟨hno, _⟩⟩
    · exact ⟨p, bm, rfl, hb, hD⟩
    · exact absurd ⟨by decide, by decide⟩ hno)⟩
  have HPZ := Aside0.mk aw_p
  obtain ⟨z5, hz5⟩ : ∃ z, awz5 = z := ⟨_, rfl⟩
  have HZ5 := Aside0.mk hz5
  have t1 : decide (0 < z5) = true := decide_eq_true (by rw [← hz5]; exact aw_p)
  clear hz5
  go_enter Tryz.func4, Tryz.ntmps4
  go_wp2_with (first
      | ((with_reducible refine gate_callee (f := 12) rfl ?_); refine goesL_ (some 10) rfl rfl Tryz.func12 (by kernel_rfl) rfl #[.int .i64 1000] rfl My.gx ?_; (refine (HN.out).mono ?_); rintro e W10 ⟨p, bm, rfl, hb, hD⟩; refine ⟨_, rfl, ?_⟩; have HD := Aside0.mk hD; have HB := Aside0.mk hb; clear hD hb)
      | ((with_reducible refine gate_callee (f := 7) rfl ?_); refine goesL_ (some 15) rfl rfl Tryz.func7 (by kernel_rfl) rfl #[.pointer (some ⟨p, 0, none⟩), .string ⟨#[120]⟩] rfl My.gx ?_; (refine (aw_open1 HD.out).mono ?_); rintro e W15 ⟨q, g, A1, c1, rfl, hD, hF, hq, hg, hL, hC, hc⟩; refine ⟨_, rfl, ?_⟩; have HQ := Aside0.mk (Nat.le_trans HB.out.size hq); have HG := Aside0.mk (Nat.le_trans HB.out.size hg); replace HB := Aside0.mk (hF.below HB.out (fun k hk => by rcases hk with h | h; exact h ▸ HD.out.hp; exact h ▸ HD.out.hm) HB.out.size); replace HD := Aside0.mk hD; have HL := Aside0.mk hL; have HC := Aside0.mk hC; have HCC := Aside0.mk hc; clear hD hF hq hg hL hC hc)
      | ((with_reducible refine gate_callee (f := 9) rfl ?_); (refine gate_guard (by rfl) ?_; dsimp only); refine goesL_ (some 32) rfl rfl Tryz.func9 (by kernel_rfl) rfl #[.slice A1 1 c1, .slice (some ⟨W15.heap.size, 0, none⟩) 1 1] rfl My.gx ?_; (refine (ententeref01_Same.calls 60 A1 c1 [⟨#[120]⟩] _ 1 [⟨#[120]⟩] true _ (Kd.C_below HC.out (below_alloc (Below.refl _ _) _)) HCC.out (one_str W15 ⟨#[120]⟩) (Nat.le_refl _) aw_same1).mono ?_); rintro e W32 ⟨rfl, hdr⟩; refine ⟨_, rfl, ?_⟩; have hb := hdr.below; replace HD := Aside0.mk ((HD.out.up (below_alloc (Below.refl _ _) _)).up hb); replace HL := Aside0.mk ((HL.out.up (below_alloc (Below.refl _ _) _)).up hb); replace HB := Aside0.mk ((HB.out.alloc HB.out.size _).trans (hb.mono (by have := HB.out.size; simp; omega))); clear hb hdr HC HCC)
      | ((with_reducible refine gate_callee (f := 13) rfl ?_); (refine gate_guard (by rfl) ?_; dsimp only); refine goesL_ (some 37) rfl rfl Tryz.func13 (by kernel_rfl) rfl #[.pointer (some ⟨q, 0, none⟩), .string ⟨#[97]⟩] rfl My.gx ?_; (refine (aw_app1 HD.out HL.out).mono ?_); rintro e W37 ⟨rfl, hD, hL, hF⟩; refine ⟨_, rfl, ?_⟩; replace HB := Aside0.mk (hF.below HB.out (fun k hk => by rcases hk with h | h | h | h; exact h ▸ HD.out.hp; exact h ▸ HD.out.hm; exact h ▸ HG.out; exact h ▸ HQ.out) HB.out.size); replace HD := Aside0.mk hD; replace HL := Aside0.mk hL; clear hD hL hF)
      | ((with_reducible refine gate_callee (f := 14) rfl ?_); (refine gate_guard (by rfl) ?_; dsimp only); refine goesL_ (some 42) rfl rfl Tryz.func14 (by kernel_rfl) rfl #[.pointer (some ⟨q, 0, none⟩), .string ⟨#[98]⟩] rfl My.gx ?_; (refine (aw_turn1 HD.out HL.out).mono ?_); rintro e W42 ⟨rfl, hD, g2, hg2, hL, hF⟩; refine ⟨_, rfl, ?_⟩; have HB42 := Aside0.mk HB.out.size; replace HB := Aside0.mk (hF.below HB.out (fun k hk => by rcases hk with h | h | h | h; exact h ▸ HD.out.hp; exact h ▸ HD.out.hm; exact h ▸ HG.out; exact h ▸ HQ.out) HB.out.size); clear HG; have HG := Aside0.mk (Nat.le_trans HB42.out hg2); replace HD := Aside0.mk hD; replace HL := Aside0.mk hL; clear hD hL hF hg2)
      | ((with_reducible refine gate_callee (f := 13) rfl ?_); (refine gate_guard (by rfl) ?_; dsimp only); refine goesL_ (some 47) rfl rfl Tryz.func13 (by kernel_rfl) rfl #[.pointer (some ⟨q, 0, none⟩), .string ⟨#[99]⟩] rfl My.gx ?_; (refine (aw_app2 HD.out HL.out).mono ?_); rintro e W47 ⟨rfl, hD, hL, hF⟩; refine ⟨_, rfl, ?_⟩; replace HB := Aside0.mk (hF.below HB.out (fun k hk => by rcases hk with h | h | h | h; exact h ▸ HD.out.hp; exact h ▸ HD.out.hm; exact h ▸ HG.out; exact h ▸ HQ.out) HB.out.size); replace HD := Aside0.mk hD; replace HL := Aside0.mk hL; clear hD hL hF)
      | ((with_reducible refine gate_callee (f := 7) rfl ?_); refine goesL_ (some 52) rfl rfl Tryz.func7 (by kernel_rfl) rfl #[.pointer (some ⟨p, 0, none⟩), .string ⟨#[120]⟩] rfl My.gx ?_; (refine (aw_open2 HD.out).mono ?_); rintro e W52 ⟨q2, g3, A1, c1, rfl, hF, hq, hg, hL, hC, hc⟩; refine ⟨_, rfl, ?_⟩; replace HB := Aside0.mk (hF.below HB.out (fun k hk => by rcases hk with h | h; exact h ▸ HD.out.hp; exact h ▸ HD.out.hm) HB.out.size); have LQP := Aside0.mk (HL.out.qp HD.out); replace HL := Aside0.mk (HL.out.fr hF (fun h => by rcases h with h | h; exact LQP.out.1 h; exact LQP.out.2.1 h) (fun h => by rcases h with h | h; exact LQP.out.2.2.1 h; exact LQP.out.2.2.2 h)); have HL2 := Aside0.mk hL; have HC := Aside0.mk hC; have HCC := Aside0.mk hc; clear hF hq hg hL hC hc HD LQP; rw [HZ5.out] at HL HL2)
      | ((with_reducible refine gate_callee (f := 9) rfl ?_); (refine gate_guard (by rfl) ?_; dsimp only); refine goesL_ (some 65) rfl rfl Tryz.func9 (by kernel_rfl) rfl #[.slice A1 2 c1, .slice (some ⟨W52.heap.size, 0, none⟩) 2 2] rfl My.gx ?_; (refine (ententeref01_Same.calls 60 A1 c1 [⟨#[98]⟩, ⟨#[99]⟩] _ 2 [⟨#[98]⟩, ⟨#[99]⟩] true _ (Kd.C_below HC.out (below_alloc (Below.refl _ _) _)) HCC.out (two_str W52 ⟨#[98]⟩ ⟨#[99]⟩) (Nat.le_refl _) aw_same2).mono ?_); rintro e W65 ⟨rfl, hdr⟩; refine ⟨_, rfl, ?_⟩; have hb := hdr.below; replace HL := Aside0.mk ((HL.out.up (below_alloc (Below.refl _ _) _)).up hb); replace HL2 := Aside0.mk ((HL2.out.up (below_alloc (Below.refl _ _) _)).up hb); replace HB := Aside0.mk ((HB.out.alloc HB.out.size _).trans (hb.mono (by have := HB.out.size; simp; omega))); clear hb hdr HC HCC)
      | ((with_reducible refine gate_callee (f := 15) rfl ?_); (refine gate_guard (by rfl) ?_; dsimp only); refine goesL_ (some 69) rfl rfl Tryz.func15 (by kernel_rfl) rfl #[.pointer (some ⟨q2, 0, none⟩)] rfl My.gx ?_; (refine (log_Number.calls HL2.out).mono ?_); rintro e W69 ⟨rfl, hb⟩; refine ⟨_, rfl, ?_⟩; replace HL := Aside0.mk (HL.out.up hb); replace HL2 := Aside0.mk (HL2.out.up hb); replace HB := Aside0.mk (HB.out.trans (hb.mono HB.out.size)); clear hb; dsimp only)
      | ((with_reducible refine gate_callee (f := 16) rfl ?_); (refine gate_guard (by rfl) ?_; dsimp only); refine goesL_ (some 74) rfl rfl Tryz.func16 (by kernel_rfl) rfl #[.pointer (some ⟨q2, 0, none⟩)] rfl My.gx ?_; (refine (log_Size.calls HL2.out).mono ?_); rintro e W74 ⟨rfl, hb⟩; refine ⟨_, rfl, ?_⟩; replace HL := Aside0.mk (HL.out.up hb); replace HL2 := Aside0.mk (HL2.out.up hb); replace HB := Aside0.mk (HB.out.trans (hb.mono HB.out.size)); clear hb; dsimp only)
      | ((with_reducible refine gate_callee (f := 16) rfl ?_); (refine gate_guard (by rfl) ?_; dsimp only); refine goesL_ (some 76) rfl rfl Tryz.func16 (by kernel_rfl) rfl #[.pointer (some ⟨q, 0, none⟩)] rfl My.gx ?_; (refine (log_Size.calls HL.out).mono ?_); rintro e W76 ⟨rfl, hb⟩; refine ⟨_, rfl, ?_⟩; replace HL := Aside0.mk (HL.out.up hb); replace HL2 := Aside0.mk (HL2.out.up hb); replace HB := Aside0.mk (HB.out.trans (hb.mono HB.out.size)); clear hb; dsimp only)
      | ((with_reducible refine gate_callee (f := 16) rfl ?_); (refine gate_guard (by rfl) ?_; dsimp only); refine goesL_ (some 81) rfl rfl Tryz.func16 (by kernel_rfl) rfl #[.pointer (some ⟨q2, 0, none⟩)] rfl My.gx ?_; (refine (log_Size.calls HL2.out).mono ?_); rintro e W81 ⟨rfl, hb⟩; refine ⟨_, rfl, ?_⟩; replace HL := Aside0.mk (HL.out.up hb); replace HL2 := Aside0.mk (HL2.out.up hb); replace HB := Aside0.mk (HB.out.trans (hb.mono HB.out.size)); clear hb; dsimp only))
  go_ret
  exact ⟨rfl, HB.out⟩
end

end Go.Proofs.YtkcpgaplpmbmoaaGreat.PA
