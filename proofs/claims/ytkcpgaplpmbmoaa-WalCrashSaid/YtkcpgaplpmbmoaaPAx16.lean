/- A log on a disk, walked by hand; Lean checks it. -/
import Derived.Test.YtkcpgaplpmbmoaaPAx15
import Derived.Test.YtkcpgaplpmbmoaaPAx5
namespace Go.Proofs.Ytkcpgaplpmbmoaa.PA
open Go.RowKit Go.Proofs.YtkcpgaplpmbmoaaW.PrintWords Go.Proofs.YtkcpgaplpmbmoaaW.PrintLast Go.Proofs.YtkcpgaplpmbmoaaW.PrintMore
attribute [local go_sem] max2_int min2_int max_two min_two max_three min_three max_four min_four
set_option linter.unusedVariables false
set_option linter.unusedSimpArgs false

/-! #### the log: Append and Turn -/
section
variable {base p bm g q : Nat} {w w0 : World} {s : DS} {n z : Int}
theorem DiskAt.frx {W : World} {cs : Array Value} {t : Nat} (h : DiskAt base w p bm s) (hf : FrX (fun k => k = q) w W) (hl : w.heap[q]? = some (.cells cs t (0, 0))) (h1 : t ≠ 37) (h3 : t ≠ 3) : DiskAt base W p bm s := by
  obtain ⟨kv, hb, hk⟩ := h.blk
  obtain ⟨es, clock, hm⟩ := h.map.blk
  have n1 : p ≠ q := fun e => (neOf hl (cellsOf h) h1) e.symm
  have n2 : bm ≠ q := fun e => (neMap hl h) e.symm
  refine ⟨h.inv, ⟨kv, (hf.block p (blk_lt hb) n1).trans hb, Kd.R_mono (Kd.R_step (Kd.R_bound hk) (fun k ho hlt => hf.block k hlt ?_)) (fun _ _ => trivial)⟩, h.map.move (hf.block bm (blk_lt hm) n2), h.hp, h.hm⟩
  obtain ⟨_, _, _, t', ht, cells, hc⟩ := ho
  obtain rfl : t' = 3 := by simpa [Kd.int, Kd.scalar] using ht
  rintro rfl
  rw [hl] at hc
  injection hc with hc
  injection hc with _ hc
  exact h3 hc
theorem FrX.trans' {X Y : Nat → Prop} {a b c : World} (h : FrX Y a b) (k : FrX X b c) (hx : ∀ i, X i → Y i ∨ a.heap.size ≤ i) : FrX Y a c :=
  ⟨k.os.trans h.os, k.tape.trans h.tape, k.output.trans h.output, Nat.le_trans h.size k.size, fun i hi h1 => (k.block i (Nat.lt_of_lt_of_le hi h.size) (fun hX => by rcases hx i hX with h2 | h2; exact h1 h2; omega)).trans (h.block i hi h1)⟩
theorem one_str (W : World) (body : ByteArray) : Kd.C Kd.string (W.alloc (.cells #[.string body] 9)) (some ⟨W.heap.size, 0, none⟩) [body].length [body] := by
  have h1 : (W.alloc (.cells #[.string body] 9)).heap[W.heap.size]? = some (.cells #[.string body] 9 (0, 0)) := (MapKept.heap_alloc W _).1
  have hR : Kd.string.R 9 (W.alloc (.cells #[.string body] 9)) 0 (fun _ => True) (.slice (some ⟨W.heap.size, 0, none⟩) 1 1) [body] := ⟨fun _ _ => trivial, [.string body], ⟨rfl, .inr ⟨W.heap.size, 1, #[.string body], rfl, Nat.zero_le _, h1, Nat.le_refl _, by unfold maxLen; omega, rfl, rfl⟩⟩, My.enc_reps (fun x => .string x) [body]⟩
  exact (Kd.R_reads' hR).2.2
theorem keep_one (h : DiskAt base w p bm s) (n : Int) : ∀ W, Fr p bm (w.alloc (.cells #[.int .i64 n] 3)) W → (Kd.int .i64).C W (some ⟨w.heap.size, 0, none⟩) [n].length [n] := by
  intro W hf
  have h1 : W.heap[w.heap.size]? = some (.cells #[.int .i64 n] 3 (0, 0)) := by
    rw [hf.block _ (by simp) (by have := h.lt; omega) (by have := h.ltm; omega)]
    exact (MapKept.heap_alloc w _).1
  have hR : (Kd.int .i64).R 3 W 0 (fun _ => True) (.slice (some ⟨w.heap.size, 0, none⟩) 1 1) [n] := ⟨fun _ _ => trivial, [.int .i64 n], ⟨rfl, .inr ⟨w.heap.size, 1, #[.int .i64 n], rfl, Nat.zero_le _, h1, Nat.le_refl _, by unfold maxLen; omega, rfl, rfl⟩⟩, My.enc_reps (fun x => .int .i64 x) [n]⟩
  exact (Kd.R_reads' hR).2.2
set_option maxHeartbeats 8000000 in
set_option maxRecDepth 100000 in
theorem log_Append.dead (hD : DiskAt base w p bm s) (hL : LogAt w q g p ⟨n, z, true⟩) (body : ByteArray) :
    Calls Try.prog 6 #[.pointer (some ⟨q, 0, none⟩), .string body] w fun e w' => e = .returned (.int .i64 150) ∧ DiskAt base w' p bm s ∧ LogAt w' q g p ⟨n, z, true⟩ ∧ FrX (fun k => k = p ∨ k = bm ∨ k = g ∨ k = q) w w' := by
  have HD := Aside0.mk hD
  have HL := Aside0.mk hL
  have HFX := Aside0.mk (FrX.refl (fun k => k = p ∨ k = bm ∨ k = g ∨ k = q) w)
  clear hD hL
  go_enter Try.func6, Try.ntmps6
  go_wp2_with ((with_reducible refine gate_callee (f := 23) rfl ?_); refine goesL_ (some 9) rfl rfl Try.func23 (by kernel_rfl) rfl #[.pointer (some ⟨q, 0, none⟩)] rfl My.gx ?_; (refine (log_ready.dead HL.out.l).mono ?_); rintro e W9 ⟨rfl, hb⟩; refine ⟨_, rfl, ?_⟩; replace HD := Aside0.mk (HD.out.up hb); replace HL := Aside0.mk (HL.out.up hb); replace HFX := Aside0.mk (HFX.out.trans (FrX.of hb)); clear hb)
  go_ret
  exact ⟨rfl, HD.out, HL.out, HFX.out⟩
set_option maxHeartbeats 8000000 in
set_option maxRecDepth 100000 in
theorem log_Append.bad (hD : DiskAt base w p bm s) (hL : LogAt w q g p ⟨n, z, false⟩) (body r1 : ByteArray) (r2 : Int) (k : Nat) (hB : segment_Next.f k [body] = some (r1, r2)) (h2 : r2 ≠ 0) :
    Calls Try.prog 6 #[.pointer (some ⟨q, 0, none⟩), .string body] w fun e w' => e = .returned (.int .i64 r2) ∧ DiskAt base w' p bm s ∧ LogAt w' q g p ⟨n, z, false⟩ ∧ FrX (fun k => k = p ∨ k = bm ∨ k = g ∨ k = q) w w' := by
  have HD := Aside0.mk hD
  have HL := Aside0.mk hL
  have HFX := Aside0.mk (FrX.refl (fun k => k = p ∨ k = bm ∨ k = g ∨ k = q) w)
  have HB := Aside0.mk hB
  have m1 : decide (r2 = 0) = false := decide_eq_false h2
  have m2 : (r2 == 0) = false := beq_eq_false_iff_ne.2 h2
  have m3 : (r2 != 0) = true := by simp [bne, m2]
  clear hD hL hB h2
  go_enter Try.func6, Try.ntmps6
  go_wp2_with (first
      | ((with_reducible refine gate_callee (f := 23) rfl ?_); refine goesL_ (some 9) rfl rfl Try.func23 (by kernel_rfl) rfl #[.pointer (some ⟨q, 0, none⟩)] rfl My.gx ?_; (refine (log_ready.live HL.out.l).mono ?_); rintro e W9 ⟨rfl, hb⟩; refine ⟨_, rfl, ?_⟩; replace HD := Aside0.mk (HD.out.up hb); replace HL := Aside0.mk (HL.out.up hb); replace HFX := Aside0.mk (HFX.out.trans (FrX.of hb)); clear hb)
      | ((with_reducible refine gate_callee (f := 24) rfl ?_); refine goesL_ (some 16) rfl rfl Try.func24 (by kernel_rfl) rfl #[.slice (some ⟨W9.heap.size, 0, none⟩) [body].length 1] rfl My.gx ?_; (refine (segment_Next.calls k _ 1 [body] _ _ _ (one_str W9 body) (Nat.le_refl _) HB.out).mono ?_); rintro e W16 ⟨rfl, hb⟩; refine ⟨_, rfl, ?_⟩; replace HD := Aside0.mk ((HD.out.up (below_alloc (Below.refl _ _) _)).up hb); replace HL := Aside0.mk ((HL.out.up (below_alloc (Below.refl _ _) _)).up hb); replace HFX := Aside0.mk ((HFX.out.trans (FrX.of (below_alloc (Below.refl _ _) _))).trans (FrX.of hb)); clear hb))
  go_ret
  exact ⟨rfl, HD.out, HL.out, HFX.out⟩
set_option maxHeartbeats 8000000 in
set_option maxRecDepth 100000 in
theorem log_Append.ok (hD : DiskAt base w p bm s) (hL : LogAt w q g p ⟨n, z, false⟩) (hn : (Lit.int .i64 n).wf = true) (hz : 0 ≤ z ∧ z ≤ 1000000000000) (body r1 : ByteArray) (k : Nat) (hB : segment_Next.f k [body] = some (r1, 0)) (hr : r1.size ≤ 140737488351232) :
    Calls Try.prog 6 #[.pointer (some ⟨q, 0, none⟩), .string body] w fun e w' => e = .returned (.int .i64 (writeS s n r1).2) ∧ DiskAt base w' p bm (writeS s n r1).1 ∧ LogAt w' q g p ⟨n, writeZ s n z r1, decide ((writeS s n r1).2 = 150)⟩ ∧ FrX (fun k => k = p ∨ k = bm ∨ k = g ∨ k = q) w w' := by
  have HD := Aside0.mk hD
  have HL := Aside0.mk hL
  have HFX := Aside0.mk (FrX.refl (fun k => k = p ∨ k = bm ∨ k = g ∨ k = q) w)
  have HB := Aside0.mk hB
  have HN := Aside0.mk hn
  have HZ := Aside0.mk hz
  have HR1 := Aside0.mk hr
  obtain ⟨⟨s1, e1⟩, hR⟩ : ∃ R : DS × Int, writeS s n r1 = R := ⟨_, rfl⟩
  obtain ⟨z2, hz2⟩ : ∃ z2 : Int, writeZ s n z r1 = z2 := ⟨_, rfl⟩
  rw [hR, hz2]
  dsimp only
  have HRR := Aside0.mk hR
  have HZ2 := Aside0.mk hz2
  clear hD hL hB hn hz hr hR hz2
  go_enter Try.func6, Try.ntmps6
  go_upto_region 7 with (first
      | ((with_reducible refine gate_callee (f := 23) rfl ?_); refine goesL_ (some 9) rfl rfl Try.func23 (by kernel_rfl) rfl #[.pointer (some ⟨q, 0, none⟩)] rfl My.gx ?_; (refine (log_ready.live HL.out.l).mono ?_); rintro e W9 ⟨rfl, hb⟩; refine ⟨_, rfl, ?_⟩; replace HD := Aside0.mk (HD.out.up hb); replace HL := Aside0.mk (HL.out.up hb); replace HFX := Aside0.mk (HFX.out.trans (FrX.of hb)); clear hb)
      | ((with_reducible refine gate_callee (f := 24) rfl ?_); refine goesL_ (some 16) rfl rfl Try.func24 (by kernel_rfl) rfl #[.slice (some ⟨W9.heap.size, 0, none⟩) [body].length 1] rfl My.gx ?_; (refine (segment_Next.calls k _ 1 [body] _ _ _ (one_str W9 body) (Nat.le_refl _) HB.out).mono ?_); rintro e W16 ⟨rfl, hb⟩; refine ⟨_, rfl, ?_⟩; replace HD := Aside0.mk ((HD.out.up (below_alloc (Below.refl _ _) _)).up hb); replace HL := Aside0.mk ((HL.out.up (below_alloc (Below.refl _ _) _)).up hb); replace HFX := Aside0.mk ((HFX.out.trans (FrX.of (below_alloc (Below.refl _ _) _))).trans (FrX.of hb)); clear hb))
  have hz := My.cz2 (My.am HL.out.l)
  go_wp2_with (first
      | ((with_reducible refine gate_callee (f := 26) rfl ?_); refine goesL_ (some 28) rfl rfl Try.func26 (by kernel_rfl) rfl #[.pointer (some ⟨g, 0, none⟩), .string r1] rfl My.gx ?_; (refine (file_write.calls HD.out HL.out.f HN.out HZ.out r1 HR1.out).mono ?_); rintro e W28 ⟨rfl, hD, hY, hF⟩; refine ⟨_, rfl, ?_⟩; rw [HRR.out] at hD ⊢; rw [HZ2.out] at hY; dsimp only at hD ⊢; have HD2 := Aside0.mk hD; have HY2 := Aside0.mk hY; have HQL := Aside0.mk ((hF.block q (blk_lt HL.out.l) (fun h => by obtain ⟨h1, h2, _, _⟩ := HL.out.qp HD.out; rcases h with h | h | h; exact h1 h; exact h2 h; exact HL.out.ne h)).trans HL.out.l); have HFX2 := Aside0.mk (HFX.out.trans (hF.mono (Y := (fun k => k = p ∨ k = bm ∨ k = g ∨ k = q)) (fun k hk => by rcases hk with h | h | h; exact .inl h; exact .inr (.inl h); exact .inr (.inr (.inl h))))); clear hD hY hF hz)
      | ((with_reducible refine gate_callee (f := 25) rfl ?_); refine goesL_ (some 29) rfl rfl Try.func25 (by kernel_rfl) rfl #[.pointer (some ⟨q, 0, none⟩), .int .i64 e1] rfl My.gx ?_; (refine (log_told.calls HQL.out e1).mono ?_); rintro e W29 ⟨rfl, hl, hF⟩; refine ⟨_, rfl, ?_⟩; replace HD2 := Aside0.mk (HD2.out.frx hF HQL.out (by decide) (by decide)); have HL2 := Aside0.mk (LogAt.mk (x := ⟨n, z2, decide (e1 = 150)⟩) hl ((hF.block g (blk_lt HY2.out) (fun h => HL.out.ne h.symm)).trans HY2.out)); replace HFX2 := Aside0.mk (HFX2.out.trans (hF.mono (Y := (fun k => k = p ∨ k = bm ∨ k = g ∨ k = q)) (fun k hk => .inr (.inr (.inr hk))))); clear hl hF))
  go_ret
  exact ⟨rfl, HD2.out, HL2.out, HFX2.out⟩
set_option maxHeartbeats 8000000 in
set_option maxRecDepth 100000 in
theorem log_Turn.dead (hD : DiskAt base w p bm s) (hL : LogAt w q g p ⟨n, z, true⟩) (body : ByteArray) :
    Calls Try.prog 7 #[.pointer (some ⟨q, 0, none⟩), .string body] w fun e w' => e = .returned (.int .i64 150) ∧ DiskAt base w' p bm s ∧ LogAt w' q g p ⟨n, z, true⟩ ∧ FrX (fun k => k = p ∨ k = bm ∨ k = g ∨ k = q) w w' := by
  have HD := Aside0.mk hD
  have HL := Aside0.mk hL
  have HFX := Aside0.mk (FrX.refl (fun k => k = p ∨ k = bm ∨ k = g ∨ k = q) w)
  clear hD hL
  go_enter Try.func7, Try.ntmps7
  go_wp2_with ((with_reducible refine gate_callee (f := 23) rfl ?_); refine goesL_ (some 10) rfl rfl Try.func23 (by kernel_rfl) rfl #[.pointer (some ⟨q, 0, none⟩)] rfl My.gx ?_; (refine (log_ready.dead HL.out.l).mono ?_); rintro e W10 ⟨rfl, hb⟩; refine ⟨_, rfl, ?_⟩; replace HD := Aside0.mk (HD.out.up hb); replace HL := Aside0.mk (HL.out.up hb); replace HFX := Aside0.mk (HFX.out.trans (FrX.of hb)); clear hb)
  go_ret
  exact ⟨rfl, HD.out, HL.out, HFX.out⟩
set_option maxHeartbeats 8000000 in
set_option maxRecDepth 100000 in
theorem log_Turn.full (hD : DiskAt base w p bm s) (hL : LogAt w q g p ⟨n, z, false⟩) (hn : n = 1000000) (body : ByteArray) :
    Calls Try.prog 7 #[.pointer (some ⟨q, 0, none⟩), .string body] w fun e w' => e = .returned (.int .i64 151) ∧ DiskAt base w' p bm s ∧ LogAt w' q g p ⟨n, z, false⟩ ∧ FrX (fun k => k = p ∨ k = bm ∨ k = g ∨ k = q) w w' := by
  have HD := Aside0.mk hD
  have HL := Aside0.mk hL
  have HFX := Aside0.mk (FrX.refl (fun k => k = p ∨ k = bm ∨ k = g ∨ k = q) w)
  have m1 : decide (n = 1000000) = true := decide_eq_true hn
  have m2 : (n == 1000000) = true := by simp [hn]
  clear hD hL hn
  go_enter Try.func7, Try.ntmps7
  go_upto_region 4 with ((with_reducible refine gate_callee (f := 23) rfl ?_); refine goesL_ (some 10) rfl rfl Try.func23 (by kernel_rfl) rfl #[.pointer (some ⟨q, 0, none⟩)] rfl My.gx ?_; (refine (log_ready.live HL.out.l).mono ?_); rintro e W10 ⟨rfl, hb⟩; refine ⟨_, rfl, ?_⟩; replace HD := Aside0.mk (HD.out.up hb); replace HL := Aside0.mk (HL.out.up hb); replace HFX := Aside0.mk (HFX.out.trans (FrX.of hb)); clear hb)
  have hz := My.cz2 (My.am HL.out.l)
  have hz2 := My.cz3 (My.am HL.out.f)
  go_wp2
  go_ret
  exact ⟨rfl, HD.out, HL.out, HFX.out⟩
set_option maxHeartbeats 16000000 in
set_option maxRecDepth 100000 in
theorem log_Turn.bad (hD : DiskAt base w p bm s) (hL : LogAt w q g p ⟨n, z, false⟩) (hn : 0 ≤ n ∧ n < 1000000) (body r1 : ByteArray) (r2 : Int) (k : Nat) (hB : segment_Begin.f k body = some (r1, r2)) (h2 : r2 ≠ 0) :
    Calls Try.prog 7 #[.pointer (some ⟨q, 0, none⟩), .string body] w fun e w' => e = .returned (.int .i64 r2) ∧ DiskAt base w' p bm s ∧ LogAt w' q g p ⟨n, z, decide (r2 = 150)⟩ ∧ FrX (fun k => k = p ∨ k = bm ∨ k = g ∨ k = q) w w' := by
  have HD := Aside0.mk hD
  have HL := Aside0.mk hL
  have HFX := Aside0.mk (FrX.refl (fun k => k = p ∨ k = bm ∨ k = g ∨ k = q) w)
  have hwn : wrap64 (n + 1) = n + 1 := by unfold wrap64; omega
  have m1 : decide (n = 1000000) = false := decide_eq_false (by omega)
  have m2 : (n == 1000000) = false := beq_eq_false_iff_ne.2 (by omega)
  have HLT := Aside0.mk (show q < w.heap.size ∧ g < w.heap.size from ⟨blk_lt hL.l, blk_lt hL.f⟩)
  have HB := Aside0.mk hB
  have HNZ := Aside0.mk h2
  have m4 : decide (r2 = 0) = false := decide_eq_false h2
  have m5 : (r2 == 0) = false := beq_eq_false_iff_ne.2 h2
  have m6 : (r2 != 0) = true := by simp [bne, m5]
  have HWN := Aside0.mk hwn
  have HWN2 := Aside0.mk (show IntKind.i64.wrap (n + 1) = n + 1 by rw [IntKind.wrap_i64]; omega)
  clear hD hL hn hB h2 hwn
  go_enter Try.func7, Try.ntmps7
  go_upto_region 4 with ((with_reducible refine gate_callee (f := 23) rfl ?_); refine goesL_ (some 10) rfl rfl Try.func23 (by kernel_rfl) rfl #[.pointer (some ⟨q, 0, none⟩)] rfl My.gx ?_; (refine (log_ready.live HL.out.l).mono ?_); rintro e W10 ⟨rfl, hb⟩; refine ⟨_, rfl, ?_⟩; replace HD := Aside0.mk (HD.out.up hb); replace HL := Aside0.mk (HL.out.up hb); replace HFX := Aside0.mk (HFX.out.trans (FrX.of hb)); clear hb)
  have hz := My.cz2 (My.am HL.out.l)
  have hz2 := My.cz3 (My.am HL.out.f)
  go_upto_region 7 with ((with_reducible refine gate_dst (N := 30) rfl ?_); refine My.bx 30 #[.pointer (some ⟨p, 0, none⟩), .int .i64 0, .int .i64 0] 63 ?_; intro g1 hg w30 hbox hb; have HG1 := Aside0.mk (show w.heap.size ≤ g1 by rw [hg]; exact HFX.out.size); have HY1 := My.am hbox; have LQ := Aside0.mk (show g1 ≠ q by have h1 := HLT.out.1; have h2 := HG1.out; omega); have LG := Aside0.mk (show g1 ≠ g by have h1 := HLT.out.2; have h2 := HG1.out; omega); replace HD := Aside0.mk (HD.out.up hb); replace HL := Aside0.mk (HL.out.up hb); replace HFX := Aside0.mk (HFX.out.trans (FrX.of hb)); clear hb hbox hg)
  clear hz hz2
  have hz := My.cz2 (My.am HL.out.l)
  have hz2 := My.cz3 (My.am HL.out.f)
  have hwn := HWN.out
  have hwn2 := HWN2.out
  go_wp2_with (first
      | ((with_reducible refine gate_callee (f := 27) rfl ?_); refine goesL_ (some 41) rfl rfl Try.func27 (by kernel_rfl) rfl #[.pointer (some ⟨g1, 0, none⟩), .int .i64 (n + 1), .string body] rfl My.gx ?_; (refine (file_begin.bad HD.out HY1.out (n + 1) body r1 r2 k HB.out HNZ.out).mono ?_); rintro e W41 ⟨rfl, hD, hY, hF⟩; refine ⟨_, rfl, ?_⟩; have LQP := Aside0.mk (HL.out.qp HD.out); replace HL := Aside0.mk (HL.out.fr hF (fun h => by rcases h with h | h | h; exact LQP.out.1 h; exact LQP.out.2.1 h; exact LQ.out h.symm) (fun h => by rcases h with h | h | h; exact LQP.out.2.2.1 h; exact LQP.out.2.2.2 h; exact LG.out h.symm)); replace HFX := Aside0.mk (HFX.out.trans' hF (fun i hi => by rcases hi with h | h | h; exact .inl (.inl h); exact .inl (.inr (.inl h)); exact .inr (by rw [h]; exact HG1.out))); replace HD := Aside0.mk hD; clear hD hY hF hz hz2 HY1)
      | ((with_reducible refine gate_callee (f := 25) rfl ?_); refine goesL_ (some 46) rfl rfl Try.func25 (by kernel_rfl) rfl #[.pointer (some ⟨q, 0, none⟩), .int .i64 r2] rfl My.gx ?_; (refine (log_told.calls HL.out.l r2).mono ?_); rintro e W46 ⟨rfl, hl, hF⟩; refine ⟨_, rfl, ?_⟩; replace HD := Aside0.mk (HD.out.frx hF HL.out.l (by decide) (by decide)); replace HL := Aside0.mk (LogAt.mk (x := ⟨n, z, decide (r2 = 150)⟩) hl ((hF.block g (blk_lt HL.out.f) (fun h => HL.out.ne h.symm)).trans HL.out.f)); replace HFX := Aside0.mk (HFX.out.trans (hF.mono (Y := (fun k => k = p ∨ k = bm ∨ k = g ∨ k = q)) (fun k hk => .inr (.inr (.inr hk))))); clear hl hF))
  go_ret
  exact ⟨rfl, HD.out, HL.out, HFX.out⟩
set_option maxHeartbeats 16000000 in
set_option maxRecDepth 100000 in
theorem log_Turn.fell (hD : DiskAt base w p bm s) (hL : LogAt w q g p ⟨n, z, false⟩) (hn : 0 ≤ n ∧ n < 1000000) (body r1 : ByteArray) (k : Nat) (hB : segment_Begin.f k body = some (r1, 0)) (hr : r1.size ≤ 140737488351232) (h2 : (writeS s (n + 1) r1).2 ≠ 0) :
    Calls Try.prog 7 #[.pointer (some ⟨q, 0, none⟩), .string body] w fun e w' => e = .returned (.int .i64 (writeS s (n + 1) r1).2) ∧ DiskAt base w' p bm (writeS s (n + 1) r1).1 ∧ LogAt w' q g p ⟨n, z, decide ((writeS s (n + 1) r1).2 = 150)⟩ ∧ FrX (fun k => k = p ∨ k = bm ∨ k = g ∨ k = q) w w' := by
  obtain ⟨m, hm⟩ : ∃ m, n + 1 = m := ⟨_, rfl⟩
  rw [hm] at h2 ⊢
  obtain ⟨⟨s1, r2⟩, hR⟩ : ∃ R : DS × Int, writeS s m r1 = R := ⟨_, rfl⟩
  rw [hR] at h2 ⊢
  dsimp only at h2 ⊢
  have HD := Aside0.mk hD
  have HL := Aside0.mk hL
  have HFX := Aside0.mk (FrX.refl (fun k => k = p ∨ k = bm ∨ k = g ∨ k = q) w)
  have hwn : wrap64 (n + 1) = n + 1 := by unfold wrap64; omega
  have m1 : decide (n = 1000000) = false := decide_eq_false (by omega)
  have m2 : (n == 1000000) = false := beq_eq_false_iff_ne.2 (by omega)
  have HLT := Aside0.mk (show q < w.heap.size ∧ g < w.heap.size from ⟨blk_lt hL.l, blk_lt hL.f⟩)
  have HB := Aside0.mk hB
  have HR1 := Aside0.mk hr
  have HRR := Aside0.mk hR
  have HM := Aside0.mk (wfn (x := m) (by omega) (by omega))
  have m4 : decide (r2 = 0) = false := decide_eq_false h2
  have m5 : (r2 == 0) = false := beq_eq_false_iff_ne.2 h2
  have m6 : (r2 != 0) = true := by simp [bne, m5]
  rw [hm] at hwn
  have HWN := Aside0.mk hwn
  have HWN2 := Aside0.mk (show IntKind.i64.wrap (n + 1) = m by rw [IntKind.wrap_i64]; omega)
  clear hD hL hn hB h2 hwn hr hR hm
  go_enter Try.func7, Try.ntmps7
  go_upto_region 4 with ((with_reducible refine gate_callee (f := 23) rfl ?_); refine goesL_ (some 10) rfl rfl Try.func23 (by kernel_rfl) rfl #[.pointer (some ⟨q, 0, none⟩)] rfl My.gx ?_; (refine (log_ready.live HL.out.l).mono ?_); rintro e W10 ⟨rfl, hb⟩; refine ⟨_, rfl, ?_⟩; replace HD := Aside0.mk (HD.out.up hb); replace HL := Aside0.mk (HL.out.up hb); replace HFX := Aside0.mk (HFX.out.trans (FrX.of hb)); clear hb)
  have hz := My.cz2 (My.am HL.out.l)
  have hz2 := My.cz3 (My.am HL.out.f)
  go_upto_region 7 with ((with_reducible refine gate_dst (N := 30) rfl ?_); refine My.bx 30 #[.pointer (some ⟨p, 0, none⟩), .int .i64 0, .int .i64 0] 63 ?_; intro g1 hg w30 hbox hb; have HG1 := Aside0.mk (show w.heap.size ≤ g1 by rw [hg]; exact HFX.out.size); have HY1 := My.am hbox; have LQ := Aside0.mk (show g1 ≠ q by have h1 := HLT.out.1; have h2 := HG1.out; omega); have LG := Aside0.mk (show g1 ≠ g by have h1 := HLT.out.2; have h2 := HG1.out; omega); replace HD := Aside0.mk (HD.out.up hb); replace HL := Aside0.mk (HL.out.up hb); replace HFX := Aside0.mk (HFX.out.trans (FrX.of hb)); clear hb hbox hg)
  clear hz hz2
  have hz := My.cz2 (My.am HL.out.l)
  have hz2 := My.cz3 (My.am HL.out.f)
  have hwn := HWN.out
  have hwn2 := HWN2.out
  go_wp2_with (first
      | ((with_reducible refine gate_callee (f := 27) rfl ?_); refine goesL_ (some 41) rfl rfl Try.func27 (by kernel_rfl) rfl #[.pointer (some ⟨g1, 0, none⟩), .int .i64 m, .string body] rfl My.gx ?_; (refine (file_begin.ok HD.out HY1.out m HM.out body r1 k HB.out HR1.out).mono ?_); rintro e W41 ⟨rfl, hD, hY, hF⟩; refine ⟨_, rfl, ?_⟩; rw [HRR.out] at hD ⊢; dsimp only at hD ⊢; have LQP := Aside0.mk (HL.out.qp HD.out); replace HL := Aside0.mk (HL.out.fr hF (fun h => by rcases h with h | h | h; exact LQP.out.1 h; exact LQP.out.2.1 h; exact LQ.out h.symm) (fun h => by rcases h with h | h | h; exact LQP.out.2.2.1 h; exact LQP.out.2.2.2 h; exact LG.out h.symm)); replace HFX := Aside0.mk (HFX.out.trans' hF (fun i hi => by rcases hi with h | h | h; exact .inl (.inl h); exact .inl (.inr (.inl h)); exact .inr (by rw [h]; exact HG1.out))); replace HD := Aside0.mk hD; clear hD hY hF hz hz2 HY1)
      | ((with_reducible refine gate_callee (f := 25) rfl ?_); refine goesL_ (some 46) rfl rfl Try.func25 (by kernel_rfl) rfl #[.pointer (some ⟨q, 0, none⟩), .int .i64 r2] rfl My.gx ?_; (refine (log_told.calls HL.out.l r2).mono ?_); rintro e W46 ⟨rfl, hl, hF⟩; refine ⟨_, rfl, ?_⟩; replace HD := Aside0.mk (HD.out.frx hF HL.out.l (by decide) (by decide)); replace HL := Aside0.mk (LogAt.mk (x := ⟨n, z, decide (r2 = 150)⟩) hl ((hF.block g (blk_lt HL.out.f) (fun h => HL.out.ne h.symm)).trans HL.out.f)); replace HFX := Aside0.mk (HFX.out.trans (hF.mono (Y := (fun k => k = p ∨ k = bm ∨ k = g ∨ k = q)) (fun k hk => .inr (.inr (.inr hk))))); clear hl hF))
  go_ret
  exact ⟨rfl, HD.out, HL.out, HFX.out⟩
set_option maxHeartbeats 16000000 in
set_option maxRecDepth 100000 in
theorem log_Turn.ok (hD : DiskAt base w p bm s) (hL : LogAt w q g p ⟨n, z, false⟩) (hn : 0 ≤ n ∧ n < 1000000) (body r1 : ByteArray) (k : Nat) (hB : segment_Begin.f k body = some (r1, 0)) (hr : r1.size ≤ 140737488351232) (h2 : (writeS s (n + 1) r1).2 = 0) :
    Calls Try.prog 7 #[.pointer (some ⟨q, 0, none⟩), .string body] w fun e w' => e = .returned (.int .i64 (remS (writeS s (n + 1) r1).1 n).2) ∧ DiskAt base w' p bm (remS (writeS s (n + 1) r1).1 n).1 ∧ ∃ g', w.heap.size ≤ g' ∧ LogAt w' q g' p ⟨n + 1, writeZ s (n + 1) 0 r1, decide ((remS (writeS s (n + 1) r1).1 n).2 = 150)⟩ ∧ FrX (fun k => k = p ∨ k = bm ∨ k = g ∨ k = q) w w' := by
  obtain ⟨m, hm⟩ : ∃ m, n + 1 = m := ⟨_, rfl⟩
  rw [hm] at h2 ⊢
  obtain ⟨⟨s1, r2⟩, hR⟩ : ∃ R : DS × Int, writeS s m r1 = R := ⟨_, rfl⟩
  rw [hR] at h2 ⊢
  dsimp only at h2 ⊢
  subst h2
  obtain ⟨⟨s2, e2⟩, hR2⟩ : ∃ R : DS × Int, remS s1 n = R := ⟨_, rfl⟩
  rw [hR2]
  obtain ⟨z2, hz2⟩ : ∃ z2 : Int, writeZ s m 0 r1 = z2 := ⟨_, rfl⟩
  rw [hz2]
  dsimp only
  have HD := Aside0.mk hD
  have HL := Aside0.mk hL
  have HFX := Aside0.mk (FrX.refl (fun k => k = p ∨ k = bm ∨ k = g ∨ k = q) w)
  have hwn : wrap64 (n + 1) = n + 1 := by unfold wrap64; omega
  have m1 : decide (n = 1000000) = false := decide_eq_false (by omega)
  have m2 : (n == 1000000) = false := beq_eq_false_iff_ne.2 (by omega)
  have HLT := Aside0.mk (show q < w.heap.size ∧ g < w.heap.size from ⟨blk_lt hL.l, blk_lt hL.f⟩)
  have HB := Aside0.mk hB
  have HR1 := Aside0.mk hr
  have HRR := Aside0.mk hR
  have HR2 := Aside0.mk hR2
  have HZ2 := Aside0.mk hz2
  have HM := Aside0.mk (wfn (x := m) (by omega) (by omega))
  have HN := Aside0.mk (wfn (x := n) (by omega) (by omega))
  rw [hm] at hwn
  have HWN := Aside0.mk hwn
  have HWN2 := Aside0.mk (show IntKind.i64.wrap (n + 1) = m by rw [IntKind.wrap_i64]; omega)
  clear hD hL hn hB hwn hr hR hm hR2 hz2
  go_enter Try.func7, Try.ntmps7
  go_upto_region 4 with ((with_reducible refine gate_callee (f := 23) rfl ?_); refine goesL_ (some 10) rfl rfl Try.func23 (by kernel_rfl) rfl #[.pointer (some ⟨q, 0, none⟩)] rfl My.gx ?_; (refine (log_ready.live HL.out.l).mono ?_); rintro e W10 ⟨rfl, hb⟩; refine ⟨_, rfl, ?_⟩; replace HD := Aside0.mk (HD.out.up hb); replace HL := Aside0.mk (HL.out.up hb); replace HFX := Aside0.mk (HFX.out.trans (FrX.of hb)); clear hb)
  have hz := My.cz2 (My.am HL.out.l)
  have hz2 := My.cz3 (My.am HL.out.f)
  go_upto_region 7 with ((with_reducible refine gate_dst (N := 30) rfl ?_); refine My.bx 30 #[.pointer (some ⟨p, 0, none⟩), .int .i64 0, .int .i64 0] 63 ?_; intro g1 hg w30 hbox hb; have HG1 := Aside0.mk (show w.heap.size ≤ g1 by rw [hg]; exact HFX.out.size); have HY1 := My.am hbox; have LQ := Aside0.mk (show g1 ≠ q by have h1 := HLT.out.1; have h2 := HG1.out; omega); have LG := Aside0.mk (show g1 ≠ g by have h1 := HLT.out.2; have h2 := HG1.out; omega); replace HD := Aside0.mk (HD.out.up hb); replace HL := Aside0.mk (HL.out.up hb); replace HFX := Aside0.mk (HFX.out.trans (FrX.of hb)); clear hb hbox hg)
  clear hz hz2
  have hz := My.cz2 (My.am HL.out.l)
  have hz2 := My.cz3 (My.am HL.out.f)
  have hwn := HWN.out
  have hwn2 := HWN2.out
  go_upto_region 10 with ((with_reducible refine gate_callee (f := 27) rfl ?_); refine goesL_ (some 41) rfl rfl Try.func27 (by kernel_rfl) rfl #[.pointer (some ⟨g1, 0, none⟩), .int .i64 m, .string body] rfl My.gx ?_; (refine (file_begin.ok HD.out HY1.out m HM.out body r1 k HB.out HR1.out).mono ?_); rintro e W41 ⟨rfl, hD, hY, hF⟩; refine ⟨_, rfl, ?_⟩; rw [HRR.out] at hD ⊢; dsimp only at hD ⊢; have LQP := Aside0.mk (HL.out.qp HD.out); replace HL := Aside0.mk (HL.out.fr hF (fun h => by rcases h with h | h | h; exact LQP.out.1 h; exact LQP.out.2.1 h; exact LQ.out h.symm) (fun h => by rcases h with h | h | h; exact LQP.out.2.2.1 h; exact LQP.out.2.2.2 h; exact LG.out h.symm)); replace HFX := Aside0.mk (HFX.out.trans' hF (fun i hi => by rcases hi with h | h | h; exact .inl (.inl h); exact .inl (.inr (.inl h)); exact .inr (by rw [h]; exact HG1.out))); replace HD := Aside0.mk hD; replace HY1 := Aside0.mk (show FileAt _ g1 p m z2 by rw [HZ2.out] at hY; exact hY); clear hD hY hF)
  clear hz hz2
  have HY := My.am HL.out.l
  have hz := My.cz2 HY
  have hz3 := My.cz3 (My.am HL.out.f)
  go_upto_region 12 with (fail)
  refine at_world (J := fun W => DiskAt base W p bm s1 ∧ LogAt W q g1 p ⟨m, z2, false⟩ ∧ FrX (fun k => k = p ∨ k = bm ∨ k = g ∨ k = q) w W) ⟨HD.out.set_ HY.out (by decide) (by decide), ⟨blk_put HY.out 0 (.pointer (some ⟨g1, 0, none⟩)) rfl, (Below.heap_setCell _ ⟨q, 0, none⟩ _ g1 (fun e => LQ.out e)).trans HY1.out⟩, HFX.out.set q 0 _ (.inr (.inr (.inr (.inr rfl))))⟩ ?_
  clear hz hz3 HY HY1 HD HL HFX
  rintro W5 ⟨D5, L5, F5⟩
  have HD := Aside0.mk D5
  have HL := Aside0.mk L5
  have HFX := Aside0.mk F5
  clear D5 L5 F5
  have hz := My.cz2 (My.am HL.out.l)
  have hz3 := My.cz3 (My.am HL.out.f)
  go_wp2_with (first
      | ((with_reducible refine gate_callee (f := 28) rfl ?_); refine goesL_ (some 68) rfl rfl Try.func28 (by kernel_rfl) rfl #[.pointer (some ⟨p, 0, none⟩), .slice (some ⟨W5.heap.size, 0, none⟩) [n].length 1] rfl My.gx ?_; (refine (wal_drop.calls (HD.out.up (below_alloc (Below.refl _ _) _)) _ 1 [n] (by simp) (fun x hx => by rcases List.mem_singleton.1 hx with rfl; exact HN.out) (keep_one HD.out n)).mono ?_); rintro e W68 ⟨rfl, hD, hF⟩; refine ⟨_, rfl, ?_⟩; rw [dropS_one, HR2.out] at hD ⊢; dsimp only at hD ⊢; have LQP := Aside0.mk (HL.out.qp HD.out); have HD2 := Aside0.mk hD; have HL1 := Aside0.mk ((HL.out.up (below_alloc (Below.refl _ _) _)).fr (FrX.fr (X := fun k => k = p ∨ k = bm) hF (.inl rfl) (.inr rfl)) (fun h => by rcases h with h | h; exact LQP.out.1 h; exact LQP.out.2.1 h) (fun h => by rcases h with h | h; exact LQP.out.2.2.1 h; exact LQP.out.2.2.2 h)); have HFX2 := Aside0.mk ((HFX.out.trans (FrX.of (below_alloc (Below.refl _ _) _))).trans (FrX.fr (X := (fun k => k = p ∨ k = bm ∨ k = g ∨ k = q)) hF (.inl rfl) (.inr (.inl rfl)))); clear hD hF hz hz3)
      | ((with_reducible refine gate_callee (f := 25) rfl ?_); refine goesL_ (some 69) rfl rfl Try.func25 (by kernel_rfl) rfl #[.pointer (some ⟨q, 0, none⟩), .int .i64 e2] rfl My.gx ?_; (refine (log_told.calls HL1.out.l e2).mono ?_); rintro e W69 ⟨rfl, hl, hF⟩; refine ⟨_, rfl, ?_⟩; have HL2 := Aside0.mk (LogAt.mk (x := ⟨m, z2, decide (e2 = 150)⟩) hl ((hF.block g1 (blk_lt HL1.out.f) (fun h => LQ.out h)).trans HL1.out.f)); replace HD2 := Aside0.mk (HD2.out.frx hF HL1.out.l (by decide) (by decide)); replace HFX2 := Aside0.mk (HFX2.out.trans (hF.mono (Y := (fun k => k = p ∨ k = bm ∨ k = g ∨ k = q)) (fun k hk => .inr (.inr (.inr hk))))); clear hl hF))
  go_ret
  exact ⟨rfl, HD2.out, g1, HG1.out, HL2.out, HFX2.out⟩
end
/-! #### opening a log -/
section
variable {w : World} {g t : Nat} {a0 a1 a2 a3 : Value}
theorem cz4' (h : Aside0 (w.heap[g]? = some (.cells #[a0, a1, a2, a3] t (0, 0)))) : w.cell? ⟨g, 0, none⟩ = some a0 ∧ w.cell? ⟨g, 1, none⟩ = some a1 ∧ w.cell? ⟨g, 2, none⟩ = some a2 ∧ w.cell? ⟨g, 3, none⟩ = some a3 ∧ ∀ i, w.frozen? ⟨g, i, none⟩ = false := ⟨My.b_ h 0, My.b_ h 1, My.b_ h 2, My.b_ h 3, fun i => blk_frozen h.out i⟩
theorem put4' {v0 v1 v2 v3 : Value} (h : w.heap[g]? = some (.cells #[a0, a1, a2, a3] t (0, 0))) : ((((w.setCell ⟨g, 0, none⟩ v0).setCell ⟨g, 1, none⟩ v1).setCell ⟨g, 2, none⟩ v2).setCell ⟨g, 3, none⟩ v3).heap[g]? = some (.cells #[v0, v1, v2, v3] t (0, 0)) :=
  blk_put (cs' := #[v0, v1, v2, v3]) (blk_put (cs' := #[v0, v1, v2, a3]) (blk_put (cs' := #[v0, v1, a2, a3]) (blk_put (cs' := #[v0, a1, a2, a3]) h 0 _ rfl) 1 _ rfl) 2 _ rfl) 3 _ rfl
end
def cutO (s : DS) (num good : Int) : DS × Int := if 0 ≤ num ∧ good < ((findF s num).f1.size : Int) then cutS s num good else (s, 0)
def dropO (R : DS × Int) (l : List Int) : DS × Int := if R.2 = 0 then dropS R.1 l else R
def begO (R : DS × Int) (num : Int) (r1 : ByteArray) (r2 : Int) : DS × Int := if R.2 = 0 ∧ num < 0 then (if r2 = 0 then writeS R.1 1 r1 else (R.1, r2)) else R
def openX (R : DS × Int) (num good : Int) (r1 : ByteArray) : WS := if num < 0 then ⟨1, writeZ R.1 1 0 r1, false⟩ else ⟨num, good, false⟩
def openB (num : Int) (bodies : List ByteArray) (first : ByteArray) : List ByteArray := if num < 0 then [first] else bodies
theorem one_row (W : World) (base : Nat) (hb : base ≤ W.heap.size) (body : ByteArray) : Kd.string.R 9 (W.alloc (.cells #[.string body] 9)) base (fun _ => True) (.slice (some ⟨W.heap.size, 0, none⟩) 1 1) [body] := by
  have h1 : (W.alloc (.cells #[.string body] 9)).heap[W.heap.size]? = some (.cells #[.string body] 9 (0, 0)) := (MapKept.heap_alloc W _).1
  exact ⟨fun _ _ => trivial, [.string body], ⟨rfl, .inr ⟨W.heap.size, 1, #[.string body], rfl, hb, h1, Nat.le_refl _, by unfold maxLen; omega, rfl, rfl⟩⟩, My.enc_reps (fun x => .string x) [body]⟩
/-- What an opening comes to. -/
def OpenPost (base p bm : Nat) (w : World) (s3 : DS) (e3 : Int) (X : WS) (bs : List ByteArray) (e : Ending) (w' : World) : Prop :=
  DiskAt base w' p bm s3 ∧ FrX (fun k => k = p ∨ k = bm) w w' ∧ ((e3 ≠ 0 ∧ e = .returned (.tuple #[.pointer none, .slice none 0 0, .int .i64 e3])) ∨ (e3 = 0 ∧ ∃ q g A c, e = .returned (.tuple #[.pointer (some ⟨q, 0, none⟩), .slice A bs.length c, .int .i64 0]) ∧ w.heap.size ≤ q ∧ w.heap.size ≤ g ∧ LogAt w' q g p X ∧ Kd.string.R 9 w' w.heap.size (fun _ => True) (.slice A bs.length c) bs))
def op.T19 : Bool × List (List Nat × List Nat) := (true, [([], []), ([0], [0]), ([1], [1]), ([], []), ([3], [3]), ([2, 0, 1, 2], [2]), ([4, 5, 0, 1, 2, 3, 4, 5], [4]), ([6, 0, 1, 2, 3, 4, 5, 6], [])])
def op.B19 : List Nat := [0, 1, 3, 0, 8, 7, 63, 127]
theorem op.tab19 : rtab .any (opsOf Try.f10 19) = op.T19 := by kernel_rfl
theorem op.bits19 : waitsOk op.T19.2 op.B19 = true := by kernel_rfl
section
variable {base p bm g q : Nat} {w w0 : World} {s : DS}
theorem FrX.fresh {X Y : Nat → Prop} {a b c : World} (h : FrX Y a b) (k : FrX X b c) (hx : ∀ i, X i → Y i ∨ a.heap.size ≤ i) : FrX Y a c := h.trans' k hx
theorem Fr.toX {W : World} (h : Fr p bm w W) : FrX (fun k => k = p ∨ k = bm) w W := FrX.fr h (.inl rfl) (.inr rfl)
set_option maxHeartbeats 8000000 in
set_option maxRecDepth 100000 in
theorem wal_Open.dead (hD : DiskAt base w p bm s) (hd : s.dead = true) (first : ByteArray) :
    Calls Try.prog 10 #[.pointer (some ⟨p, 0, none⟩), .string first] w fun e w' => e = .returned (.tuple #[.pointer none, .slice none 0 0, .int .i64 150]) ∧ Below w.heap.size w w' := by
  have HD := Aside0.mk hD
  have HE := Aside0.mk (show findE s (-1) = 150 by simp [findE, hd])
  clear hD hd
  go_enter Try.func10, Try.ntmps10
  go_wp2_with ((with_reducible refine gate_callee (f := 31) rfl ?_); refine goesL_ (some 16) rfl rfl Try.func31 (by kernel_rfl) rfl #[.pointer (some ⟨p, 0, none⟩), .int .i64 (-1)] rfl My.gx ?_; (refine (disk_Disk_Read.calls HD.out (-1) (by decide)).mono ?_); rintro e W16 ⟨rfl, hb⟩; refine ⟨_, rfl, ?_⟩; rw [HE.out]; have HB := Aside0.mk hb; clear hb)
  go_ret3
  exact ⟨rfl, HB.out⟩
theorem find_neg (h : Inv s) (hd : s.dead = false) : findE s (-1) = 152 := by
  have : hasL s.L (-1) = false := by
    unfold hasL
    rw [List.any_eq_false]
    intro x hx
    have := (h.num x hx).1
    simp only [decide_eq_true_eq]
    omega
  simp [findE, hd, this]
set_option maxHeartbeats 8000000 in
set_option maxRecDepth 100000 in
theorem wal_Open.bad (hD : DiskAt base w p bm s) (hd : s.dead = false) (first : ByteArray) (k : Nat) (num good : Int) (bodies : List ByteArray) (drop : List Int) (er : Int) (hK : segment_Look.f k s.L = some (num, good, bodies, drop, er)) (her : er ≠ 0) :
    Calls Try.prog 10 #[.pointer (some ⟨p, 0, none⟩), .string first] w fun e w' => e = .returned (.tuple #[.pointer none, .slice none 0 0, .int .i64 er]) ∧ Below w.heap.size w w' := by
  have HD := Aside0.mk hD
  have HE := Aside0.mk (find_neg hD.inv hd)
  have HK := Aside0.mk hK
  have HFX := Aside0.mk (FrX.refl (fun k => k = p ∨ k = bm) w)
  have m1 : decide (er = 0) = false := decide_eq_false her
  have m2 : (er == 0) = false := beq_eq_false_iff_ne.2 her
  have m3 : (er != 0) = true := by simp [bne, m2]
  have HB := Aside0.mk (Below.refl w.heap.size w)
  clear hD hd hK her
  have hu68 := Try.underlying68
  go_enter Try.func10, Try.ntmps10
  go_upto_region 5 with (first
      | ((with_reducible refine gate_callee (f := 31) rfl ?_); refine goesL_ (some 16) rfl rfl Try.func31 (by kernel_rfl) rfl #[.pointer (some ⟨p, 0, none⟩), .int .i64 (-1)] rfl My.gx ?_; (refine (disk_Disk_Read.calls HD.out (-1) (by decide)).mono ?_); rintro e W16 ⟨rfl, hb⟩; refine ⟨_, rfl, ?_⟩; rw [HE.out]; replace HD := Aside0.mk (HD.out.up hb); replace HFX := Aside0.mk (HFX.out.trans (FrX.of hb)); replace HB := Aside0.mk (HB.out.trans (hb.mono HB.out.size)); clear hb)
      | ((with_reducible refine gate_callee (f := 14) rfl ?_); refine goesL_ (some 24) rfl rfl Try.func14 (by kernel_rfl) rfl #[.pointer (some ⟨p, 0, none⟩)] rfl My.gx ?_; (refine (disk_Disk_Image.calls HD.out).mono ?_); rintro e W24 ⟨v, rfl, hR, hb⟩; refine ⟨_, rfl, ?_⟩; obtain ⟨A, c, rfl, hlc, hC⟩ := Kd.R_reads hR; have HC := Aside0.mk hC; have HLC := Aside0.mk hlc; replace HD := Aside0.mk (HD.out.up hb); replace HFX := Aside0.mk (HFX.out.trans (FrX.of hb)); replace HB := Aside0.mk (HB.out.trans (hb.mono HB.out.size)); clear hb hR hC hlc)
      | ((with_reducible refine gate_callee (f := 32) rfl ?_); refine goesL_ (some 25) rfl rfl Try.func32 (by kernel_rfl) rfl #[.slice A s.L.length c] rfl My.gx ?_; (refine (segment_Look.calls k A c s.L _ _ _ _ _ _ HC.out HLC.out HK.out).mono ?_); rintro e W25 ⟨v2, v3, rfl, hR2, hR3, hb⟩; refine ⟨_, rfl, ?_⟩; obtain ⟨A2, c2, rfl, hl2, hC2⟩ := Kd.R_reads hR2; obtain ⟨A3, c3, rfl, hl3, hC3⟩ := Kd.R_reads hR3; have HRB := Aside0.mk (Kd.R_lower hR2 HB.out.size); have HRD := Aside0.mk (Kd.R_lower hR3 HB.out.size); replace HD := Aside0.mk (HD.out.up hb); replace HFX := Aside0.mk (HFX.out.trans (FrX.of hb)); replace HB := Aside0.mk (HB.out.trans (hb.mono HB.out.size)); clear hb hR2 hR3 hl2 hC2 hl3 hC3 HC HLC)
      | ((with_reducible refine gate_dst (N := 9) rfl ?_); refine My.bx 9 #[.int .i64 0, .int .i64 0, .slice none 0 0, .slice none 0 0] 68 ?_; intro g9 hg w9 hbox hb; have BX := My.am hbox; have G9 := Aside0.mk (show w.heap.size ≤ g9 by rw [hg]; exact HB.out.size); replace HRB := Aside0.mk (Kd.R_below HRB.out hb); replace HRD := Aside0.mk (Kd.R_below HRD.out hb); replace HD := Aside0.mk (HD.out.up hb); replace HFX := Aside0.mk (HFX.out.trans (FrX.of hb)); replace HB := Aside0.mk (HB.out.trans (hb.mono HB.out.size)); clear hb hbox hg; have hz := cz4' BX))
  refine at_world (J := fun W => Below w.heap.size w W) (below_set (below_set (below_set (below_set HB.out G9.out) G9.out) G9.out) G9.out) ?_
  clear HB HD HFX BX hz
  rintro W2 B2
  have HB := Aside0.mk B2
  clear B2
  go_wp2
  go_ret3
  exact ⟨rfl, HB.out⟩
set_option maxHeartbeats 32000000 in
set_option maxRecDepth 100000 in
theorem wal_Open.calls (hD : DiskAt base w p bm s) (hd : s.dead = false) (first : ByteArray) (k : Nat) (num good : Int) (bodies : List ByteArray) (drop : List Int) (hK : segment_Look.f k s.L = some (num, good, bodies, drop, 0)) (r1 : ByteArray) (r2 : Int) (hB : segment_Begin.f k first = some (r1, r2)) (hr : r1.size ≤ 140737488351232)
    (hnum : (Lit.int .i64 num).wf = true) (hlen : drop.length ≤ 1000000) (hdw : ∀ x ∈ drop, (Lit.int .i64 x).wf = true) :
    Calls Try.prog 10 #[.pointer (some ⟨p, 0, none⟩), .string first] w fun e w' => OpenPost base p bm w (begO (dropO (cutO s num good) drop) num r1 r2).1 (begO (dropO (cutO s num good) drop) num r1 r2).2 (openX (dropO (cutO s num good) drop) num good r1) (openB num bodies first) e w' := by
  have HD := Aside0.mk hD
  have HE := Aside0.mk (find_neg hD.inv hd)
  have HK := Aside0.mk hK
  have HBG := Aside0.mk hB
  have HR1 := Aside0.mk hr
  have HNW := Aside0.mk hnum
  have HLN := Aside0.mk hlen
  have HDW := Aside0.mk hdw
  have HFX := Aside0.mk (FrX.refl (fun k => k = p ∨ k = bm) w)
  have HB := Aside0.mk (Below.refl w.heap.size w)
  obtain ⟨⟨s1, e1⟩, hR1⟩ : ∃ R : DS × Int, cutO s num good = R := ⟨_, rfl⟩
  rw [hR1]
  obtain ⟨⟨s2, e2⟩, hR2⟩ : ∃ R : DS × Int, dropO (s1, e1) drop = R := ⟨_, rfl⟩
  rw [hR2]
  obtain ⟨⟨s3, e3⟩, hR3⟩ : ∃ R : DS × Int, begO (s2, e2) num r1 r2 = R := ⟨_, rfl⟩
  rw [hR3]
  obtain ⟨X, hX⟩ : ∃ X, openX (s2, e2) num good r1 = X := ⟨_, rfl⟩
  rw [hX]
  obtain ⟨bs, hbs⟩ : ∃ bs, openB num bodies first = bs := ⟨_, rfl⟩
  rw [hbs]
  dsimp only
  have C1 := Aside0.mk hR1
  have C2 := Aside0.mk hR2
  have C3 := Aside0.mk hR3
  have HX := Aside0.mk hX
  have HBS := Aside0.mk hbs
  clear hD hd hK hB hr hnum hlen hdw hR1 hR2 hR3 hX hbs
  have hu68 := Try.underlying68
  go_enter Try.func10, Try.ntmps10
  go_upto_region 5 with (first
      | ((with_reducible refine gate_callee (f := 31) rfl ?_); refine goesL_ (some 16) rfl rfl Try.func31 (by kernel_rfl) rfl #[.pointer (some ⟨p, 0, none⟩), .int .i64 (-1)] rfl My.gx ?_; (refine (disk_Disk_Read.calls HD.out (-1) (by decide)).mono ?_); rintro e W16 ⟨rfl, hb⟩; refine ⟨_, rfl, ?_⟩; rw [HE.out]; replace HD := Aside0.mk (HD.out.up hb); replace HFX := Aside0.mk (HFX.out.trans (FrX.of hb)); replace HB := Aside0.mk (HB.out.trans (hb.mono HB.out.size)); clear hb)
      | ((with_reducible refine gate_callee (f := 14) rfl ?_); refine goesL_ (some 24) rfl rfl Try.func14 (by kernel_rfl) rfl #[.pointer (some ⟨p, 0, none⟩)] rfl My.gx ?_; (refine (disk_Disk_Image.calls HD.out).mono ?_); rintro e W24 ⟨v, rfl, hR, hb⟩; refine ⟨_, rfl, ?_⟩; obtain ⟨A, c, rfl, hlc, hC⟩ := Kd.R_reads hR; have HC := Aside0.mk hC; have HLC := Aside0.mk hlc; replace HD := Aside0.mk (HD.out.up hb); replace HFX := Aside0.mk (HFX.out.trans (FrX.of hb)); replace HB := Aside0.mk (HB.out.trans (hb.mono HB.out.size)); clear hb hR hC hlc)
      | ((with_reducible refine gate_callee (f := 32) rfl ?_); refine goesL_ (some 25) rfl rfl Try.func32 (by kernel_rfl) rfl #[.slice A s.L.length c] rfl My.gx ?_; (refine (segment_Look.calls k A c s.L _ _ _ _ _ _ HC.out HLC.out HK.out).mono ?_); rintro e W25 ⟨v2, v3, rfl, hR2, hR3, hb⟩; refine ⟨_, rfl, ?_⟩; obtain ⟨A2, c2, rfl, hl2, hC2⟩ := Kd.R_reads hR2; obtain ⟨A3, c3, rfl, hl3, hC3⟩ := Kd.R_reads hR3; have HRB := Aside0.mk (Kd.R_lower hR2 HB.out.size); have HRD := Aside0.mk (Kd.R_lower hR3 HB.out.size); replace HD := Aside0.mk (HD.out.up hb); replace HFX := Aside0.mk (HFX.out.trans (FrX.of hb)); replace HB := Aside0.mk (HB.out.trans (hb.mono HB.out.size)); clear hb hR2 hR3 hl2 hC2 hl3 hC3 HC HLC)
      | ((with_reducible refine gate_dst (N := 9) rfl ?_); refine My.bx 9 #[.int .i64 0, .int .i64 0, .slice none 0 0, .slice none 0 0] 68 ?_; intro g9 hg w9 hbox hb; have BX := My.am hbox; have G9 := Aside0.mk (show w.heap.size ≤ g9 by rw [hg]; exact HB.out.size); replace HRB := Aside0.mk (Kd.R_below HRB.out hb); replace HRD := Aside0.mk (Kd.R_below HRD.out hb); replace HD := Aside0.mk (HD.out.up hb); replace HFX := Aside0.mk (HFX.out.trans (FrX.of hb)); replace HB := Aside0.mk (HB.out.trans (hb.mono HB.out.size)); clear hb hbox hg; have hz := cz4' BX))
  refine at_world (J := fun W => DiskAt base W p bm s ∧ W.heap[g9]? = some (.cells #[.int .i64 num, .int .i64 good, .slice A2 bodies.length c2, .slice A3 drop.length c3] 68 (0, 0)) ∧ Kd.string.R 9 W w.heap.size (fun _ => True) (.slice A2 bodies.length c2) bodies ∧ (Kd.int .i64).R 3 W w.heap.size (fun _ => True) (.slice A3 drop.length c3) drop ∧ FrX (fun k => k = p ∨ k = bm) w W) ⟨(((HD.out.set_ BX.out (by decide) (by decide)).set_ (blk_put BX.out 0 (.int .i64 num) rfl) (by decide) (by decide)).set_ (blk_put (blk_put BX.out 0 (.int .i64 num) rfl) 1 (.int .i64 good) rfl) (by decide) (by decide)).set_ (blk_put (blk_put (blk_put BX.out 0 (.int .i64 num) rfl) 1 (.int .i64 good) rfl) 2 (.slice A2 bodies.length c2) rfl) (by decide) (by decide), put4' BX.out,
    Kd.R_set (Kd.R_set (Kd.R_set (Kd.R_set HRB.out BX.out (by decide) 0 _) (blk_put BX.out 0 (.int .i64 num) rfl) (by decide) 1 _) (blk_put (blk_put BX.out 0 (.int .i64 num) rfl) 1 (.int .i64 good) rfl) (by decide) 2 _) (blk_put (blk_put (blk_put BX.out 0 (.int .i64 num) rfl) 1 (.int .i64 good) rfl) 2 (.slice A2 bodies.length c2) rfl) (by decide) 3 _,
    Kd.R_set (Kd.R_set (Kd.R_set (Kd.R_set HRD.out BX.out (by decide) 0 _) (blk_put BX.out 0 (.int .i64 num) rfl) (by decide) 1 _) (blk_put (blk_put BX.out 0 (.int .i64 num) rfl) 1 (.int .i64 good) rfl) (by decide) 2 _) (blk_put (blk_put (blk_put BX.out 0 (.int .i64 num) rfl) 1 (.int .i64 good) rfl) 2 (.slice A2 bodies.length c2) rfl) (by decide) 3 _,
    (((HFX.out.set g9 0 _ (.inl G9.out)).set g9 1 _ (.inl G9.out)).set g9 2 _ (.inl G9.out)).set g9 3 _ (.inl G9.out)⟩ ?_
  clear HB HD HFX BX HRB HRD hz
  rintro W2 ⟨D2, Y2, RB2, RD2, F2⟩
  have HD := Aside0.mk D2
  have HY := My.am Y2
  have HRB := Aside0.mk RB2
  have HRD := Aside0.mk RD2
  have HFX := Aside0.mk F2
  clear D2 Y2 RB2 RD2 F2
  have hz := cz4' HY
  go_upto_region 8 with ((with_reducible refine gate_dst (N := 37) rfl ?_); refine My.bx 37 #[.pointer (some ⟨p, 0, none⟩), .int .i64 num, .int .i64 good] 63 ?_; intro g hg w37 hbox hb; have HFA := Aside0.mk (show FileAt w37 g p num good from hbox); have GG := Aside0.mk (show w.heap.size ≤ g by rw [hg]; exact HFX.out.size); have GG9 := Aside0.mk G9.out; have NG := Aside0.mk (show g9 ≠ g by rw [hg]; exact Nat.ne_of_lt (blk_lt HY.out)); replace HD := Aside0.mk (HD.out.up hb); replace HRB := Aside0.mk (Kd.R_below HRB.out hb); replace HRD := Aside0.mk (Kd.R_below HRD.out hb); replace HFX := Aside0.mk (HFX.out.trans (FrX.of hb)); replace HY := My.am ((hb.block g9 (blk_lt HY.out)).trans HY.out); clear hb hbox hg)
  clear hz
  have hz := cz4' HY
  go_upto_if 40 with (fail)
  go_cut [10] (fun v10 wc => v10 = .int .i64 e1 ∧ Aside0 (DiskAt base wc p bm s1) ∧ Aside0 (wc.heap[g9]? = some (.cells #[.int .i64 num, .int .i64 good, .slice A2 bodies.length c2, .slice A3 drop.length c3] 68 (0, 0))) ∧ Aside0 (Kd.string.R 9 wc w.heap.size (fun _ => True) (.slice A2 bodies.length c2) bodies) ∧ Aside0 ((Kd.int .i64).R 3 wc w.heap.size (fun _ => True) (.slice A3 drop.length c3) drop) ∧ Aside0 (FrX (fun k => k = p ∨ k = bm) w wc) ∧ Aside0 (FileAt wc g p num good))
  case first =>
    have hz := cz4' HY
    by_cases c0 : 0 ≤ num
    · have t0 : decide (0 ≤ num) = true := decide_eq_true c0
      have t5 : decide (num < 0) = false := decide_eq_false (by omega)
      have C0 := Aside0.mk c0
      by_cases c1 : good < ((findF s num).f1.size : Int)
      · have t1 : decide (good < ((findF s num).f1.size : Int)) = true := decide_eq_true c1
        have C1' := Aside0.mk (show cutS s num good = (s1, e1) by rw [← C1.out]; unfold cutO; rw [if_pos ⟨c0, c1⟩])
        clear c0 c1
        go_wp2_with (first
      | ((with_reducible refine gate_callee (f := 31) rfl ?_); refine goesL_ (some 45) rfl rfl Try.func31 (by kernel_rfl) rfl #[.pointer (some ⟨p, 0, none⟩), .int .i64 num] rfl My.gx ?_; (refine (disk_Disk_Read.calls HD.out num HNW.out).mono ?_); rintro e W45 ⟨rfl, hb⟩; refine ⟨_, rfl, ?_⟩; clear hz; replace HRB := Aside0.mk (Kd.R_below HRB.out hb); replace HRD := Aside0.mk (Kd.R_below HRD.out hb); replace HY := My.am ((hb.block g9 (blk_lt HY.out)).trans HY.out); replace HFA := Aside0.mk (show FileAt _ g p num good from (hb.block g (blk_lt HFA.out)).trans HFA.out); replace HD := Aside0.mk (HD.out.up hb); replace HFX := Aside0.mk (HFX.out.trans (FrX.of hb)); clear hb; have hz := cz4' HY)
      | ((with_reducible refine gate_callee (f := 33) rfl ?_); refine goesL_ (some 58) rfl rfl Try.func33 (by kernel_rfl) rfl #[.pointer (some ⟨p, 0, none⟩), .int .i64 num, .int .i64 good] rfl My.gx ?_; (refine (disk_Disk_Cut.calls HD.out num HNW.out good).mono ?_); rintro e W58 ⟨rfl, hD, hF⟩; refine ⟨_, rfl, ?_⟩; rw [C1'.out] at hD ⊢; dsimp only at hD ⊢; clear hz; replace HRB := Aside0.mk (HD.out.row hF HRB.out (by decide)); replace HRD := Aside0.mk (HD.out.row hF HRD.out (by decide)); replace HY := My.am ((hF.block g9 (blk_lt HY.out) (neOf HY.out (cellsOf HD.out) (by decide)) (neMap HY.out HD.out)).trans HY.out); replace HFA := Aside0.mk (show FileAt _ g p num good from (hF.block g (blk_lt HFA.out) (neOf HFA.out (cellsOf HD.out) (by decide)) (neMap HFA.out HD.out)).trans HFA.out); replace HFX := Aside0.mk (HFX.out.trans hF.toX); replace HD := Aside0.mk hD; clear hD hF))
        all_goals first | (exfalso; have hC := C0.out; omega) | (go_meet; exact ⟨rfl, HD, HY, HRB, HRD, HFX, HFA⟩)
      · have t1 : decide (good < ((findF s num).f1.size : Int)) = false := decide_eq_false c1
        have e : ((s, (0:Int)) : DS × Int) = (s1, e1) := by rw [← C1.out]; unfold cutO; rw [if_neg (fun h => c1 h.2)]
        injection e with ea eb
        subst ea eb
        clear c0 c1
        go_wp2_with (first
      | ((with_reducible refine gate_callee (f := 31) rfl ?_); refine goesL_ (some 45) rfl rfl Try.func31 (by kernel_rfl) rfl #[.pointer (some ⟨p, 0, none⟩), .int .i64 num] rfl My.gx ?_; (refine (disk_Disk_Read.calls HD.out num HNW.out).mono ?_); rintro e W45 ⟨rfl, hb⟩; refine ⟨_, rfl, ?_⟩; clear hz; replace HRB := Aside0.mk (Kd.R_below HRB.out hb); replace HRD := Aside0.mk (Kd.R_below HRD.out hb); replace HY := My.am ((hb.block g9 (blk_lt HY.out)).trans HY.out); replace HFA := Aside0.mk (show FileAt _ g p num good from (hb.block g (blk_lt HFA.out)).trans HFA.out); replace HD := Aside0.mk (HD.out.up hb); replace HFX := Aside0.mk (HFX.out.trans (FrX.of hb)); clear hb; have hz := cz4' HY)
      | ((with_reducible refine gate_callee (f := 33) rfl ?_); refine goesL_ (some 58) rfl rfl Try.func33 (by kernel_rfl) rfl #[.pointer (some ⟨p, 0, none⟩), .int .i64 num, .int .i64 good] rfl My.gx ?_; (refine (disk_Disk_Cut.calls HD.out num HNW.out good).mono ?_); rintro e W58 ⟨rfl, hD, hF⟩; refine ⟨_, rfl, ?_⟩; rw [C1'.out] at hD ⊢; dsimp only at hD ⊢; clear hz; replace HRB := Aside0.mk (HD.out.row hF HRB.out (by decide)); replace HRD := Aside0.mk (HD.out.row hF HRD.out (by decide)); replace HY := My.am ((hF.block g9 (blk_lt HY.out) (neOf HY.out (cellsOf HD.out) (by decide)) (neMap HY.out HD.out)).trans HY.out); replace HFA := Aside0.mk (show FileAt _ g p num good from (hF.block g (blk_lt HFA.out) (neOf HFA.out (cellsOf HD.out) (by decide)) (neMap HFA.out HD.out)).trans HFA.out); replace HFX := Aside0.mk (HFX.out.trans hF.toX); replace HD := Aside0.mk hD; clear hD hF))
        all_goals first | (exfalso; have hC := C0.out; omega) | (go_meet; exact ⟨rfl, HD, HY, HRB, HRD, HFX, HFA⟩)
    · have t0 : decide (0 ≤ num) = false := decide_eq_false c0
      have t5 : decide (num < 0) = true := decide_eq_true (by omega)
      have C0 := Aside0.mk c0
      have e : ((s, (0:Int)) : DS × Int) = (s1, e1) := by rw [← C1.out]; unfold cutO; rw [if_neg (fun h => c0 h.1)]
      injection e with ea eb
      subst ea eb
      clear c0
      go_wp2_with (first
      | ((with_reducible refine gate_callee (f := 31) rfl ?_); refine goesL_ (some 45) rfl rfl Try.func31 (by kernel_rfl) rfl #[.pointer (some ⟨p, 0, none⟩), .int .i64 num] rfl My.gx ?_; (refine (disk_Disk_Read.calls HD.out num HNW.out).mono ?_); rintro e W45 ⟨rfl, hb⟩; refine ⟨_, rfl, ?_⟩; clear hz; replace HRB := Aside0.mk (Kd.R_below HRB.out hb); replace HRD := Aside0.mk (Kd.R_below HRD.out hb); replace HY := My.am ((hb.block g9 (blk_lt HY.out)).trans HY.out); replace HFA := Aside0.mk (show FileAt _ g p num good from (hb.block g (blk_lt HFA.out)).trans HFA.out); replace HD := Aside0.mk (HD.out.up hb); replace HFX := Aside0.mk (HFX.out.trans (FrX.of hb)); clear hb; have hz := cz4' HY)
      | ((with_reducible refine gate_callee (f := 33) rfl ?_); refine goesL_ (some 58) rfl rfl Try.func33 (by kernel_rfl) rfl #[.pointer (some ⟨p, 0, none⟩), .int .i64 num, .int .i64 good] rfl My.gx ?_; (refine (disk_Disk_Cut.calls HD.out num HNW.out good).mono ?_); rintro e W58 ⟨rfl, hD, hF⟩; refine ⟨_, rfl, ?_⟩; rw [C1'.out] at hD ⊢; dsimp only at hD ⊢; clear hz; replace HRB := Aside0.mk (HD.out.row hF HRB.out (by decide)); replace HRD := Aside0.mk (HD.out.row hF HRD.out (by decide)); replace HY := My.am ((hF.block g9 (blk_lt HY.out) (neOf HY.out (cellsOf HD.out) (by decide)) (neMap HY.out HD.out)).trans HY.out); replace HFA := Aside0.mk (show FileAt _ g p num good from (hF.block g (blk_lt HFA.out) (neOf HFA.out (cellsOf HD.out) (by decide)) (neMap HFA.out HD.out)).trans HFA.out); replace HFX := Aside0.mk (HFX.out.trans hF.toX); replace HD := Aside0.mk hD; clear hD hF))
      all_goals first | (exfalso; have hC := C0.out; omega) | (go_meet; exact ⟨rfl, HD, HY, HRB, HRD, HFX, HFA⟩)
  case rest =>
  clear HD HY HRB HRD HFX HFA hz
  obtain ⟨rfl, HD, HY, HRB, HRD, HFX, HFA⟩ := hcut
  go_upto_if 60 with (fail)
  go_cut [10] (fun v10 wc => v10 = .int .i64 e2 ∧ Aside0 (DiskAt base wc p bm s2) ∧ Aside0 (wc.heap[g9]? = some (.cells #[.int .i64 num, .int .i64 good, .slice A2 bodies.length c2, .slice A3 drop.length c3] 68 (0, 0))) ∧ Aside0 (Kd.string.R 9 wc w.heap.size (fun _ => True) (.slice A2 bodies.length c2) bodies) ∧ Aside0 ((Kd.int .i64).R 3 wc w.heap.size (fun _ => True) (.slice A3 drop.length c3) drop) ∧ Aside0 (FrX (fun k => k = p ∨ k = bm) w wc) ∧ Aside0 (FileAt wc g p num good))
  case first =>
    have hz := cz4' HY
    by_cases c0 : e1 = 0
    · have C2' := Aside0.mk (show dropS s1 drop = (s2, e2) by rw [← C2.out]; unfold dropO; rw [if_pos c0])
      have t0 : decide (e1 = 0) = true := decide_eq_true c0
      have t1 : (e1 == 0) = true := by simp [c0]
      clear c0
      go_wp2_with ((with_reducible refine gate_callee (f := 28) rfl ?_); refine goesL_ (some 64) rfl rfl Try.func28 (by kernel_rfl) rfl #[.pointer (some ⟨p, 0, none⟩), .slice A3 drop.length c3] rfl My.gx ?_; (refine (wal_drop.calls HD.out A3 c3 drop HLN.out HDW.out (fun W hF => (Kd.R_reads' (HD.out.row hF HRD.out (by decide))).2.2)).mono ?_); rintro e W64 ⟨rfl, hD, hF⟩; refine ⟨_, rfl, ?_⟩; rw [C2'.out] at hD ⊢; dsimp only at hD ⊢; clear hz; replace HRB := Aside0.mk (HD.out.row hF HRB.out (by decide)); replace HRD := Aside0.mk (HD.out.row hF HRD.out (by decide)); replace HY := My.am ((hF.block g9 (blk_lt HY.out) (neOf HY.out (cellsOf HD.out) (by decide)) (neMap HY.out HD.out)).trans HY.out); replace HFA := Aside0.mk (show FileAt _ g p num good from (hF.block g (blk_lt HFA.out) (neOf HFA.out (cellsOf HD.out) (by decide)) (neMap HFA.out HD.out)).trans HFA.out); replace HFX := Aside0.mk (HFX.out.trans hF.toX); replace HD := Aside0.mk hD; clear hD hF)
      go_meet
      case rel => exact ⟨rfl, HD, HY, HRB, HRD, HFX, HFA⟩
    · have e : ((s1, e1) : DS × Int) = (s2, e2) := by rw [← C2.out]; unfold dropO; rw [if_neg c0]
      have t0 : decide (e1 = 0) = false := decide_eq_false c0
      have t1 : (e1 == 0) = false := beq_eq_false_iff_ne.2 c0
      injection e with ea eb
      subst ea eb
      clear c0
      go_wp2
      go_meet
      case rel => exact ⟨rfl, HD, HY, HRB, HRD, HFX, HFA⟩
  case rest =>
  clear HD HY HRB HRD HFX HFA
  obtain ⟨rfl, HD, HY, HRB, HRD, HFX, HFA⟩ := hcut
  have hz := cz4' HY
  by_cases c0 : e2 = 0
  · have t0 : decide (e2 = 0) = true := decide_eq_true c0
    have t1 : (e2 == 0) = true := by simp [c0]
    by_cases c1 : num < 0
    · have t2 : decide (num < 0) = true := decide_eq_true c1
      have hx := HX.out
      have hbs := HBS.out
      have h3 := C3.out
      unfold openX at hx
      unfold openB at hbs
      unfold begO at h3
      rw [if_pos c1] at hx hbs
      rw [if_pos ⟨c0, c1⟩] at h3
      subst hbs
      by_cases c2 : r2 = 0
      · rw [if_pos c2] at h3
        subst c2
        obtain ⟨z2, hz2⟩ : ∃ z2 : Int, writeZ s2 1 0 r1 = z2 := ⟨_, rfl⟩
        dsimp only at hx h3
        rw [hz2] at hx
        have HX2 := Aside0.mk hx
        have H3 := Aside0.mk h3
        have HZ2 := Aside0.mk hz2
        clear c0 c1 hx h3 hz2
        by_cases c4 : e3 = 0
        · subst c4
          go_upto_region 17 with ((with_reducible refine gate_callee (f := 27) rfl ?_); refine goesL_ (some 74) rfl rfl Try.func27 (by kernel_rfl) rfl #[.pointer (some ⟨g, 0, none⟩), .int .i64 1, .string first] rfl My.gx ?_; (refine (file_begin.ok HD.out HFA.out 1 (by decide) first r1 k HBG.out HR1.out).mono ?_); rintro e W74 ⟨rfl, hD, hA, hF⟩; refine ⟨_, rfl, ?_⟩; rw [H3.out] at hD ⊢; dsimp only at hD ⊢; rw [HZ2.out] at hA; clear hz; replace HY := My.am ((hF.block g9 (blk_lt HY.out) (fun h => by rcases h with h | h | h; exact neOf HY.out (cellsOf HD.out) (by decide) h; exact neMap HY.out HD.out h; exact NG.out h)).trans HY.out); replace HFX := Aside0.mk (HFX.out.fresh hF (fun i hi => by rcases hi with h | h | h; exact .inl (.inl h); exact .inl (.inr h); exact .inr (by rw [h]; exact GG.out))); replace HFA := Aside0.mk hA; replace HD := Aside0.mk hD; clear hD hF hA; have hz := cz4' HY; have hzA := cz4' (My.am ((below_alloc (Below.refl W74.heap.size W74) (.cells #[.string first] 9)).block g9 (blk_lt HY.out) |>.trans HY.out)))
          refine at_world (J := fun W => DiskAt base W p bm s3 ∧ W.heap[g9]? = some (.cells #[.int .i64 num, .int .i64 good, .slice (some ⟨W74.heap.size, 0, none⟩) 1 1, .slice A3 drop.length c3] 68 (0, 0)) ∧ Kd.string.R 9 W w.heap.size (fun _ => True) (.slice (some ⟨W74.heap.size, 0, none⟩) 1 1) [first] ∧ FrX (fun k => k = p ∨ k = bm) w W ∧ FileAt W g p 1 z2) ⟨(HD.out.up (below_alloc (Below.refl _ _) _)).set_ ((below_alloc (Below.refl W74.heap.size W74) _).block g9 (blk_lt HY.out) |>.trans HY.out) (by decide) (by decide), blk_put ((below_alloc (Below.refl W74.heap.size W74) _).block g9 (blk_lt HY.out) |>.trans HY.out) 2 (.slice (some ⟨W74.heap.size, 0, none⟩) 1 1) rfl, Kd.R_set (one_row W74 w.heap.size HFX.out.size first) ((below_alloc (Below.refl W74.heap.size W74) _).block g9 (blk_lt HY.out) |>.trans HY.out) (by decide) 2 _, (HFX.out.trans (FrX.of (below_alloc (Below.refl _ _) _))).set g9 2 _ (.inl GG9.out), (Below.heap_setCell _ ⟨g9, 2, none⟩ _ g (fun e => NG.out e.symm)).trans (((below_alloc (Below.refl W74.heap.size W74) _).block g (blk_lt HFA.out)).trans HFA.out)⟩ ?_
          clear HD HY HRB HRD HFX HFA hz hzA
          rintro W5 ⟨D5, Y5, RB5, F5, FA5⟩
          have HD := Aside0.mk D5
          have HY := My.am Y5
          have HRB := Aside0.mk RB5
          have HFX := Aside0.mk F5
          have HFA := Aside0.mk FA5
          clear D5 Y5 RB5 F5 FA5
          have hz5 := cz4' HY
          go_upto_region 19 with (fail)
          clear hz5
          refine start_ (n := 8) (S := fun w' => w'.heap[g9]? = some (.cells #[.int .i64 num, .int .i64 good, .slice (some ⟨W74.heap.size, 0, none⟩) 1 1, .slice A3 drop.length c3] 68 (0, 0))) (ds := []) #[false, false, false, false, false, false, false, false] (by kernel_rfl) rfl rfl HY.out (fun hHeld => ?_); refine with_tabW op.tab19 op.bits19 (fun HT_ HW_ => ?_)
          replace HD := Aside0.mk (HD.out.move (W' := W5.drew) (fun _ _ _ => rfl))
          replace HRB := Aside0.mk (Kd.R_drew HRB.out)
          replace HFA := Aside0.mk (show FileAt W5.drew g p _ _ from HFA.out)
          replace HFX := Aside0.mk (HFX.out.trans (FrX.of (X := (fun k => k = p ∨ k = bm)) (Below.drew (Below.refl W5.heap.size W5))))
          clear HY
          generalize W5.drew = W6 at HD HRB HFA HFX hHeld ⊢
          refine My.pv_ 0 81 8 1 HT_.out ?_
          refine My.pv_ 1 82 8 3 HT_.out ?_
          refine My.pv_ 3 84 8 11 HT_.out ?_
          refine My.tv_ 4 85 8 27 HT_.out HW_.out hHeld rfl rfl (by rintro w' hS; have hz := cz4' (My.am hS); go_simp; with_reducible rfl) ?_
          refine one_ (i := 2) (N := some 83) (My.Mb 8 31) rfl rfl (one_of HT_.out (by kernel_rfl)) (by decide) (fun K hK => ?_)
          refine box_step ?hg (N := 83) ?hd (cs := #[.pointer (some ⟨g, 0, none⟩), .bool false]) (t := 25) ?hr ?_; (case hd => rfl); (case hg => rfl); (case hr => first | (go_simp; done) | (go_simp; rfl))
          intro q hg w15 hbox hb
          have GQ := Aside0.mk (show w.heap.size ≤ q by rw [hg]; exact HFX.out.size)
          have hY4 := (hb.block g9 (blk_lt hHeld)).trans hHeld
          have HQL := Aside0.mk hbox
          replace HRB := Aside0.mk (Kd.R_below HRB.out hb)
          replace HFA := Aside0.mk ((hb.block g (blk_lt HFA.out)).trans HFA.out)
          replace HD := Aside0.mk (HD.out.up hb)
          replace HFX := Aside0.mk (HFX.out.trans (FrX.of hb))
          clear hbox hb hg
          refine hK.out _ _ hY4 (fun hHeld => ?_)
          clear hK K
          refine My.nm 83 ?_
          refine My.pv_ 5 4 8 63 HT_.out ?_
          refine My.pv_ 6 5 8 127 HT_.out ?_
          refine My.pv_ 7 6 8 255 HT_.out ?_
          refine done_ (done_of HT_.out (by kernel_rfl)) ?_
          clear HT_ HW_ hHeld
          go_wp2
          go_ret3
          unfold OpenPost
          refine ⟨HD.out, HFX.out, .inr ⟨rfl, q, g, _, _, rfl, GQ.out, GG.out, ?_, HRB.out⟩⟩
          rw [← HX2.out]
          exact ⟨HQL.out, HFA.out⟩
        · have HC4 := Aside0.mk c4
          have m1 : decide (e3 = 0) = false := decide_eq_false c4
          have m2 : (e3 == 0) = false := beq_eq_false_iff_ne.2 c4
          have m3 : (e3 != 0) = true := by simp [bne, m2]
          clear c4
          go_upto_region 17 with ((with_reducible refine gate_callee (f := 27) rfl ?_); refine goesL_ (some 74) rfl rfl Try.func27 (by kernel_rfl) rfl #[.pointer (some ⟨g, 0, none⟩), .int .i64 1, .string first] rfl My.gx ?_; (refine (file_begin.ok HD.out HFA.out 1 (by decide) first r1 k HBG.out HR1.out).mono ?_); rintro e W74 ⟨rfl, hD, hA, hF⟩; refine ⟨_, rfl, ?_⟩; rw [H3.out] at hD ⊢; dsimp only at hD ⊢; rw [HZ2.out] at hA; clear hz; replace HY := My.am ((hF.block g9 (blk_lt HY.out) (fun h => by rcases h with h | h | h; exact neOf HY.out (cellsOf HD.out) (by decide) h; exact neMap HY.out HD.out h; exact NG.out h)).trans HY.out); replace HFX := Aside0.mk (HFX.out.fresh hF (fun i hi => by rcases hi with h | h | h; exact .inl (.inl h); exact .inl (.inr h); exact .inr (by rw [h]; exact GG.out))); replace HFA := Aside0.mk hA; replace HD := Aside0.mk hD; clear hD hF hA; have hz := cz4' HY; have hzA := cz4' (My.am ((below_alloc (Below.refl W74.heap.size W74) (.cells #[.string first] 9)).block g9 (blk_lt HY.out) |>.trans HY.out)))
          refine at_world (J := fun W => DiskAt base W p bm s3 ∧ FrX (fun k => k = p ∨ k = bm) w W) ⟨(HD.out.up (below_alloc (Below.refl _ _) _)).set_ ((below_alloc (Below.refl W74.heap.size W74) _).block g9 (blk_lt HY.out) |>.trans HY.out) (by decide) (by decide), (HFX.out.trans (FrX.of (below_alloc (Below.refl _ _) _))).set g9 2 _ (.inl GG9.out)⟩ ?_
          clear HD HY HRB HRD HFX HFA hz hzA
          rintro W5 ⟨D5, F5⟩
          have HD := Aside0.mk D5
          have HFX := Aside0.mk F5
          clear D5 F5
          go_wp2
          go_ret3
          unfold OpenPost
          exact ⟨HD.out, HFX.out, .inl ⟨HC4.out, rfl⟩⟩
      · rw [if_neg c2] at h3
        injection h3 with h3a h3b
        subst h3a h3b
        have HC2 := Aside0.mk c2
        have m1 : decide (r2 = 0) = false := decide_eq_false c2
        have m2 : (r2 == 0) = false := beq_eq_false_iff_ne.2 c2
        have m3 : (r2 != 0) = true := by simp [bne, m2]
        clear c0 c1 c2
        go_upto_region 17 with ((with_reducible refine gate_callee (f := 27) rfl ?_); refine goesL_ (some 74) rfl rfl Try.func27 (by kernel_rfl) rfl #[.pointer (some ⟨g, 0, none⟩), .int .i64 1, .string first] rfl My.gx ?_; (refine (file_begin.bad HD.out HFA.out 1 first r1 r2 k HBG.out HC2.out).mono ?_); rintro e W74 ⟨rfl, hD, hA, hF⟩; refine ⟨_, rfl, ?_⟩; clear hz; replace HY := My.am ((hF.block g9 (blk_lt HY.out) (fun h => by rcases h with h | h | h; exact neOf HY.out (cellsOf HD.out) (by decide) h; exact neMap HY.out HD.out h; exact NG.out h)).trans HY.out); replace HFX := Aside0.mk (HFX.out.fresh hF (fun i hi => by rcases hi with h | h | h; exact .inl (.inl h); exact .inl (.inr h); exact .inr (by rw [h]; exact GG.out))); replace HFA := Aside0.mk hA; replace HD := Aside0.mk hD; clear hD hF hA; have hz := cz4' HY; have hzA := cz4' (My.am ((below_alloc (Below.refl W74.heap.size W74) (.cells #[.string first] 9)).block g9 (blk_lt HY.out) |>.trans HY.out)))
        refine at_world (J := fun W => DiskAt base W p bm s2 ∧ FrX (fun k => k = p ∨ k = bm) w W) ⟨(HD.out.up (below_alloc (Below.refl _ _) _)).set_ ((below_alloc (Below.refl W74.heap.size W74) _).block g9 (blk_lt HY.out) |>.trans HY.out) (by decide) (by decide), (HFX.out.trans (FrX.of (below_alloc (Below.refl _ _) _))).set g9 2 _ (.inl GG9.out)⟩ ?_
        clear HD HY HRB HRD HFX HFA hz hzA
        rintro W5 ⟨D5, F5⟩
        have HD := Aside0.mk D5
        have HFX := Aside0.mk F5
        clear D5 F5
        go_wp2
        go_ret3
        unfold OpenPost
        exact ⟨HD.out, HFX.out, .inl ⟨HC2.out, rfl⟩⟩
    · have t2 : decide (num < 0) = false := decide_eq_false c1
      have hx := HX.out
      have hbs := HBS.out
      have h3 := C3.out
      unfold openX at hx
      unfold openB at hbs
      unfold begO at h3
      rw [if_neg c1] at hx hbs
      rw [if_neg (fun h => c1 h.2)] at h3
      injection h3 with h3a h3b
      subst h3a h3b c0 hbs
      have HX2 := Aside0.mk hx
      clear c1 hx
      have hz5 := cz4' HY
      go_upto_region 19 with (fail)
      clear hz5
      refine start_ (n := 8) (S := fun w' => w'.heap[g9]? = some (.cells #[.int .i64 num, .int .i64 good, .slice A2 bodies.length c2, .slice A3 drop.length c3] 68 (0, 0))) (ds := []) #[false, false, false, false, false, false, false, false] (by kernel_rfl) rfl rfl HY.out (fun hHeld => ?_); refine with_tabW op.tab19 op.bits19 (fun HT_ HW_ => ?_)
      replace HD := Aside0.mk (HD.out.move (W' := wc.drew) (fun _ _ _ => rfl))
      replace HRB := Aside0.mk (Kd.R_drew HRB.out)
      replace HFA := Aside0.mk (show FileAt wc.drew g p _ _ from HFA.out)
      replace HFX := Aside0.mk (HFX.out.trans (FrX.of (X := (fun k => k = p ∨ k = bm)) (Below.drew (Below.refl wc.heap.size wc))))
      clear HY
      generalize wc.drew = W6 at HD HRB HFA HFX hHeld ⊢
      refine My.pv_ 0 81 8 1 HT_.out ?_
      refine My.pv_ 1 82 8 3 HT_.out ?_
      refine My.pv_ 3 84 8 11 HT_.out ?_
      refine My.tv_ 4 85 8 27 HT_.out HW_.out hHeld rfl rfl (by rintro w' hS; have hz := cz4' (My.am hS); go_simp; with_reducible rfl) ?_
      refine one_ (i := 2) (N := some 83) (My.Mb 8 31) rfl rfl (one_of HT_.out (by kernel_rfl)) (by decide) (fun K hK => ?_)
      refine box_step ?hg (N := 83) ?hd (cs := #[.pointer (some ⟨g, 0, none⟩), .bool false]) (t := 25) ?hr ?_; (case hd => rfl); (case hg => rfl); (case hr => first | (go_simp; done) | (go_simp; rfl))
      intro q hg w15 hbox hb
      have GQ := Aside0.mk (show w.heap.size ≤ q by rw [hg]; exact HFX.out.size)
      have hY4 := (hb.block g9 (blk_lt hHeld)).trans hHeld
      have HQL := Aside0.mk hbox
      replace HRB := Aside0.mk (Kd.R_below HRB.out hb)
      replace HFA := Aside0.mk ((hb.block g (blk_lt HFA.out)).trans HFA.out)
      replace HD := Aside0.mk (HD.out.up hb)
      replace HFX := Aside0.mk (HFX.out.trans (FrX.of hb))
      clear hbox hb hg
      refine hK.out _ _ hY4 (fun hHeld => ?_)
      clear hK K
      refine My.nm 83 ?_
      refine My.pv_ 5 4 8 63 HT_.out ?_
      refine My.pv_ 6 5 8 127 HT_.out ?_
      refine My.pv_ 7 6 8 255 HT_.out ?_
      refine done_ (done_of HT_.out (by kernel_rfl)) ?_
      clear HT_ HW_ hHeld
      go_wp2
      go_ret3
      unfold OpenPost
      refine ⟨HD.out, HFX.out, .inr ⟨rfl, q, g, _, _, rfl, GQ.out, GG.out, ?_, HRB.out⟩⟩
      rw [← HX2.out]
      exact ⟨HQL.out, HFA.out⟩
  · have t0 : decide (e2 = 0) = false := decide_eq_false c0
    have t1 : (e2 == 0) = false := beq_eq_false_iff_ne.2 c0
    have t2 : (e2 != 0) = true := by simp [bne, t1]
    have h3 := C3.out
    unfold begO at h3
    rw [if_neg (fun h => c0 h.1)] at h3
    injection h3 with h3a h3b
    subst h3a h3b
    have HC0 := Aside0.mk c0
    clear c0
    go_wp2
    go_ret3
    unfold OpenPost
    exact ⟨HD.out, HFX.out, .inl ⟨HC0.out, rfl⟩⟩
end

end Go.Proofs.Ytkcpgaplpmbmoaa.PA
