/- A log on a disk, walked by hand; Lean checks it. -/
import Derived.Test.YtkcpgaplpmbmoaaPAx16
namespace Go.Proofs.Ytkcpgaplpmbmoaa.PA
open Go.RowKit Go.Proofs.YtkcpgaplpmbmoaaW.PrintWords Go.Proofs.YtkcpgaplpmbmoaaW.PrintLast Go.Proofs.YtkcpgaplpmbmoaaW.PrintMore
attribute [local go_sem] max2_int min2_int max_two min_two max_three min_three max_four min_four
set_option linter.unusedVariables false
set_option linter.unusedSimpArgs false

/-! #### awake: what it comes to -/
def newS (room : Int) : DS := ⟨false, room, 0, [], []⟩
def awX : ByteArray := ((segment_Begin.f 60 ⟨#[120]⟩).getD (⟨#[]⟩, 0)).1
def awA : ByteArray := ((segment_Next.f 60 [⟨#[97]⟩]).getD (⟨#[]⟩, 0)).1
def awB : ByteArray := ((segment_Begin.f 60 ⟨#[98]⟩).getD (⟨#[]⟩, 0)).1
def awC : ByteArray := ((segment_Next.f 60 [⟨#[99]⟩]).getD (⟨#[]⟩, 0)).1
theorem aw_x : segment_Begin.f 60 ⟨#[120]⟩ = some (awX, 0) := by decide +kernel
theorem aw_a : segment_Next.f 60 [⟨#[97]⟩] = some (awA, 0) := by decide +kernel
theorem aw_b : segment_Begin.f 60 ⟨#[98]⟩ = some (awB, 0) := by decide +kernel
theorem aw_c : segment_Next.f 60 [⟨#[99]⟩] = some (awC, 0) := by decide +kernel
theorem aw_l0 : segment_Look.f 60 (newS 1000).L = some (-1, 0, [], [], 0) := by decide +kernel
def aw1 : DS := (begO (dropO (cutO (newS 1000) (-1) 0) []) (-1) awX 0).1
theorem aw_1 : (begO (dropO (cutO (newS 1000) (-1) 0) []) (-1) awX 0).2 = 0 := by decide +kernel
def awz1 : Int := writeZ (dropO (cutO (newS 1000) (-1) 0) []).1 1 0 awX
def aw2 : DS := (writeS aw1 1 awA).1
theorem aw_2 : (writeS aw1 1 awA).2 = 0 := by decide +kernel
def awz2 : Int := writeZ aw1 1 awz1 awA
def aw3 : DS := (writeS aw2 2 awB).1
theorem aw_3 : (writeS aw2 2 awB).2 = 0 := by decide +kernel
def awz3 : Int := writeZ aw2 2 0 awB
def aw4 : DS := (remS aw3 1).1
theorem aw_4 : (remS aw3 1).2 = 0 := by decide +kernel
def aw5 : DS := (writeS aw4 2 awC).1
theorem aw_5 : (writeS aw4 2 awC).2 = 0 := by decide +kernel
def awz5 : Int := writeZ aw4 2 awz3 awC
theorem aw_d : aw5.dead = false := by decide +kernel
theorem aw_l5 : segment_Look.f 60 aw5.L = some (2, awz5, [⟨#[98]⟩, ⟨#[99]⟩], [], 0) := by decide +kernel
theorem aw_6 : (begO (dropO (cutO aw5 2 awz5) []) 2 awX 0).2 = 0 := by decide +kernel
theorem aw_p : 0 < awz5 := by decide +kernel
theorem aw_s1 : awX.size = 12 ∧ awA.size = 12 ∧ awB.size = 12 ∧ awC.size = 12 := by decide +kernel
theorem aw_z1 : 0 ≤ awz1 ∧ awz1 ≤ 1000 := by decide +kernel
theorem aw_z3 : 0 ≤ awz3 ∧ awz3 ≤ 1000 := by decide +kernel
theorem aw_same1 : ententeref01_Same.f 60 [⟨#[120]⟩] [⟨#[120]⟩] = some true := by decide +kernel
theorem aw_same2 : ententeref01_Same.f 60 [⟨#[98]⟩, ⟨#[99]⟩] [⟨#[98]⟩, ⟨#[99]⟩] = some true := by decide +kernel
def NoDisk (w : World) (a : Option Addr) : Prop := a = none ∨ ∃ g, a = some ⟨g, 0, none⟩ ∧ w.heap[g]? = some (.cells #[.bool false, .bool false, .int .i64 0, .int .i64 0, .slice none 0 0, .map none] 37 (0, 0))
section
variable {w : World} {a : Option Addr}
theorem NoDisk.up {W : World} (h : NoDisk w a) (hb : Below w.heap.size w W) : NoDisk W a := by
  rcases h with h | ⟨g, h, hg⟩
  · exact .inl h
  · exact .inr ⟨g, h, (hb.block g (blk_lt hg)).trans hg⟩
set_option maxHeartbeats 4000000 in
set_option maxRecDepth 100000 in
theorem nb_none.calls (h : NoDisk w a) : Calls Try.prog 39 #[.pointer a] w fun e w' => e = .returned (.bool true) ∧ Below w.heap.size w w' := by
  rcases h with rfl | ⟨g, rfl, hg⟩
  · go_enter Try.func39, Try.ntmps39
    go_wp2
    go_ret
    exact ⟨rfl, Below.refl _ _⟩
  · have c0 : w.cell? ⟨g, 0, none⟩ = some (.bool false) := blk_cell hg 0
    clear hg
    go_enter Try.func39, Try.ntmps39
    go_wp2
    go_ret
    exact ⟨rfl, Below.refl _ _⟩
set_option maxHeartbeats 4000000 in
set_option maxRecDepth 100000 in
theorem nb_ready.calls (h : NoDisk w a) : Calls Try.prog 37 #[.pointer a] w fun e w' => e = .returned (.int .i64 1) ∧ Below w.heap.size w w' := by
  have hu40 := Try.underlying75
  have HN := Aside0.mk h
  have HB := Aside0.mk (Below.refl w.heap.size w)
  clear h
  go_enter Try.func37, Try.ntmps37
  go_wp2_with ((with_reducible refine gate_callee (f := 39) rfl ?_); refine goesL_ (some _) rfl rfl Try.func39 (by kernel_rfl) rfl #[.pointer a] rfl My.gx ?_; (refine (nb_none.calls HN.out).mono ?_); rintro e W1 ⟨rfl, hb⟩; refine ⟨_, rfl, ?_⟩; replace HN := Aside0.mk (HN.out.up hb); replace HB := Aside0.mk (HB.out.trans (hb.mono HB.out.size)); clear hb)
  go_ret
  exact ⟨rfl, HB.out⟩
set_option maxHeartbeats 4000000 in
set_option maxRecDepth 100000 in
theorem nb_find.calls (h : NoDisk w a) (n : Int) : Calls Try.prog 45 #[.pointer a, .int .i64 n] w fun e w' => e = .returned (.tuple #[valD z75, .int .i64 1]) ∧ Below w.heap.size w w' := by
  have hu40 := Try.underlying75
  have HN := Aside0.mk h
  have HB := Aside0.mk (Below.refl w.heap.size w)
  clear h
  go_enter Try.func45, Try.ntmps45
  go_wp2_with (first
      | ((with_reducible refine gate_dst (N := 4) rfl ?_); refine My.bx 4 #[.int .i64 0, .string ⟨#[]⟩, .int .i64 0] 75 ?_; intro g4 hg4 w4 hbox hb; have BX := My.am hbox; have G4 := My.nge hg4 HB.out; replace HN := Aside0.mk (HN.out.up hb); replace HB := My.st HB hb; clear hb hbox hg4)
      | ((with_reducible refine gate_callee (f := 37) rfl ?_); refine goesL_ (some _) rfl rfl Try.func37 (by kernel_rfl) rfl #[.pointer a] rfl My.gx ?_; (refine (nb_ready.calls HN.out).mono ?_); rintro e W1 ⟨rfl, hb⟩; refine ⟨_, rfl, ?_⟩; replace HN := Aside0.mk (HN.out.up hb); replace BX := My.ab BX hb; replace HB := Aside0.mk (HB.out.trans (hb.mono HB.out.size)); clear hb; have hz := My.cz3 BX))
  have X := My.put3 (v0 := .int .i64 0) (v1 := .string ⟨#[]⟩) (v2 := .int .i64 0) BX.out
  refine bodyPost_ret (find_results rfl _ z75 1 rfl rfl X) rfl ?_
  exact ⟨rfl, My.bl_ HB⟩
set_option maxHeartbeats 4000000 in
set_option maxRecDepth 100000 in
theorem nb_Read.calls (h : NoDisk w a) (n : Int) : Calls Try.prog 31 #[.pointer a, .int .i64 n] w fun e w' => e = .returned (.tuple #[.string ⟨#[]⟩, .int .i64 1]) ∧ Below w.heap.size w w' := by
  have hu40 := Try.underlying75
  have HN := Aside0.mk h
  have HB := Aside0.mk (Below.refl w.heap.size w)
  clear h
  go_enter Try.func31, Try.ntmps31
  go_wp2_with (first
      | ((with_reducible refine gate_callee (f := 45) rfl ?_); refine goesL_ (some _) rfl rfl Try.func45 (by kernel_rfl) rfl #[.pointer a, .int .i64 n] rfl My.gx ?_; (refine (nb_find.calls HN.out n).mono ?_); rintro e W1 ⟨rfl, hb⟩; refine ⟨_, rfl, ?_⟩; replace HB := Aside0.mk (HB.out.trans (hb.mono HB.out.size)); clear hb; unfold valD)
      | ((with_reducible refine gate_dst (N := 6) rfl ?_); refine My.bx 6 #[.int .i64 0, .string ⟨#[]⟩, .int .i64 0] 75 ?_; intro gx hgx wx hbox hb; have BX := My.am hbox; have GX := My.nge hgx HB.out; replace HB := My.st HB hb; clear hb hbox hgx; have hz := My.cz3 BX))
  go_ret2
  exact ⟨rfl, below_set (below_set (below_set HB.out GX.out) GX.out) GX.out⟩
set_option maxHeartbeats 8000000 in
set_option maxRecDepth 100000 in
theorem nb_Open.calls (h : NoDisk w a) (first : ByteArray) : Calls Try.prog 10 #[.pointer a, .string first] w fun e w' => e = .returned (.tuple #[.pointer none, .slice none 0 0, .int .i64 1]) ∧ Below w.heap.size w w' := by
  have HN := Aside0.mk h
  clear h
  go_enter Try.func10, Try.ntmps10
  go_wp2_with ((with_reducible refine gate_callee (f := 31) rfl ?_); refine goesL_ (some 16) rfl rfl Try.func31 (by kernel_rfl) rfl #[.pointer a, .int .i64 (-1)] rfl My.gx ?_; (refine (nb_Read.calls HN.out (-1)).mono ?_); rintro e W16 ⟨rfl, hb⟩; refine ⟨_, rfl, ?_⟩; have HB := Aside0.mk hb; clear hb)
  go_ret3
  exact ⟨rfl, HB.out⟩
end
section
variable {base p bm g q : Nat} {w w0 : World} {s : DS}
theorem aw_open1 (hD : DiskAt base w p bm (newS 1000)) : Calls Try.prog 10 #[.pointer (some ⟨p, 0, none⟩), .string ⟨#[120]⟩] w fun e w' => ∃ q g A c, e = .returned (.tuple #[.pointer (some ⟨q, 0, none⟩), .slice A 1 c, .int .i64 0]) ∧ DiskAt base w' p bm aw1 ∧ FrX (fun k => k = p ∨ k = bm) w w' ∧ w.heap.size ≤ q ∧ w.heap.size ≤ g ∧ LogAt w' q g p ⟨1, awz1, false⟩ ∧ Kd.C Kd.string w' A 1 [⟨#[120]⟩] ∧ 1 ≤ c := by
  refine (wal_Open.calls hD rfl ⟨#[120]⟩ 60 (-1) 0 [] [] aw_l0 awX 0 aw_x (by rw [aw_s1.1]; decide) (by decide) (by decide) (by simp)).mono ?_
  rintro e w' ⟨h1, h2, ⟨h3, _⟩ | ⟨_, q, g, A, c, rfl, hq, hg, hL, hR⟩⟩
  · exact absurd aw_1 h3
  · exact ⟨q, g, A, c, rfl, h1, h2, hq, hg, hL, (Kd.R_reads' hR).2.2, (Kd.R_reads' hR).2.1⟩
theorem aw_open2 (hD : DiskAt base w p bm aw5) : Calls Try.prog 10 #[.pointer (some ⟨p, 0, none⟩), .string ⟨#[120]⟩] w fun e w' => ∃ q g A c, e = .returned (.tuple #[.pointer (some ⟨q, 0, none⟩), .slice A 2 c, .int .i64 0]) ∧ FrX (fun k => k = p ∨ k = bm) w w' ∧ w.heap.size ≤ q ∧ w.heap.size ≤ g ∧ LogAt w' q g p ⟨2, awz5, false⟩ ∧ Kd.C Kd.string w' A 2 [⟨#[98]⟩, ⟨#[99]⟩] ∧ 2 ≤ c := by
  refine (wal_Open.calls hD aw_d ⟨#[120]⟩ 60 2 awz5 [⟨#[98]⟩, ⟨#[99]⟩] [] aw_l5 awX 0 aw_x (by rw [aw_s1.1]; decide) (by decide) (by decide) (by simp)).mono ?_
  rintro e w' ⟨h1, h2, ⟨h3, _⟩ | ⟨_, q, g, A, c, rfl, hq, hg, hL, hR⟩⟩
  · exact absurd aw_6 h3
  · exact ⟨q, g, A, c, rfl, h2, hq, hg, hL, (Kd.R_reads' hR).2.2, (Kd.R_reads' hR).2.1⟩
theorem aw_app1 (hD : DiskAt base w p bm aw1) (hL : LogAt w q g p ⟨1, awz1, false⟩) : Calls Try.prog 6 #[.pointer (some ⟨q, 0, none⟩), .string ⟨#[97]⟩] w fun e w' => e = .returned (.int .i64 0) ∧ DiskAt base w' p bm aw2 ∧ LogAt w' q g p ⟨1, awz2, false⟩ ∧ FrX (fun k => k = p ∨ k = bm ∨ k = g ∨ k = q) w w' := by
  refine (log_Append.ok hD hL (by decide) ⟨aw_z1.1, by have := aw_z1.2; omega⟩ ⟨#[97]⟩ awA 60 aw_a (by rw [aw_s1.2.1]; decide)).mono ?_
  rintro e w' ⟨rfl, h1, h2, h3⟩
  rw [aw_2] at h2 ⊢
  exact ⟨rfl, h1, h2, h3⟩
theorem aw_turn1 (hD : DiskAt base w p bm aw2) (hL : LogAt w q g p ⟨1, awz2, false⟩) : Calls Try.prog 7 #[.pointer (some ⟨q, 0, none⟩), .string ⟨#[98]⟩] w fun e w' => e = .returned (.int .i64 0) ∧ DiskAt base w' p bm aw4 ∧ ∃ g', w.heap.size ≤ g' ∧ LogAt w' q g' p ⟨2, awz3, false⟩ ∧ FrX (fun k => k = p ∨ k = bm ∨ k = g ∨ k = q) w w' := by
  refine (log_Turn.ok hD hL (by decide) ⟨#[98]⟩ awB 60 aw_b (by rw [aw_s1.2.2.1]; decide) aw_3).mono ?_
  rintro e w' ⟨rfl, h1, g', hg, h2, h3⟩
  rw [show (remS (writeS aw2 (1 + 1) awB).1 1).2 = 0 from aw_4] at h2 ⊢
  exact ⟨rfl, h1, g', hg, h2, h3⟩
theorem aw_app2 (hD : DiskAt base w p bm aw4) (hL : LogAt w q g p ⟨2, awz3, false⟩) : Calls Try.prog 6 #[.pointer (some ⟨q, 0, none⟩), .string ⟨#[99]⟩] w fun e w' => e = .returned (.int .i64 0) ∧ DiskAt base w' p bm aw5 ∧ LogAt w' q g p ⟨2, awz5, false⟩ ∧ FrX (fun k => k = p ∨ k = bm ∨ k = g ∨ k = q) w w' := by
  refine (log_Append.ok hD hL (by decide) ⟨aw_z3.1, by have := aw_z3.2; omega⟩ ⟨#[99]⟩ awC 60 aw_c (by rw [aw_s1.2.2.2]; decide)).mono ?_
  rintro e w' ⟨rfl, h1, h2, h3⟩
  rw [aw_5] at h2 ⊢
  exact ⟨rfl, h1, h2, h3⟩
theorem two_str (W : World) (x y : ByteArray) : Kd.C Kd.string (W.alloc (.cells #[.string x, .string y] 9)) (some ⟨W.heap.size, 0, none⟩) 2 [x, y] := by
  have h1 : (W.alloc (.cells #[.string x, .string y] 9)).heap[W.heap.size]? = some (.cells #[.string x, .string y] 9 (0, 0)) := (MapKept.heap_alloc W _).1
  have hR : Kd.string.R 9 (W.alloc (.cells #[.string x, .string y] 9)) 0 (fun _ => True) (.slice (some ⟨W.heap.size, 0, none⟩) 2 2) [x, y] := ⟨fun _ _ => trivial, [.string x, .string y], ⟨rfl, .inr ⟨W.heap.size, 2, #[.string x, .string y], rfl, Nat.zero_le _, h1, Nat.le_refl _, by unfold maxLen; omega, rfl, rfl⟩⟩, My.enc_reps (fun x => .string x) [x, y]⟩
  exact (Kd.R_reads' hR).2.2
set_option maxHeartbeats 16000000 in
set_option maxRecDepth 100000 in
theorem awake.calls (w : World) : Calls Try.prog 11 #[] w fun e w' => e = .returned (.bool true) ∧ Below w.heap.size w w' := by
  have HN : Aside0 (Calls Try.prog 12 #[.int .i64 1000] w fun e w' => ∃ p bm, e = .returned (.tuple #[.pointer (some ⟨p, 0, none⟩), .int .i64 0]) ∧ Below w.heap.size w w' ∧ DiskAt w.heap.size w' p bm (newS 1000)) := ⟨(disk_New.calls w 1000).mono (by
    rintro e W1 ⟨hb, ⟨_, _, p, bm, rfl, hD⟩ | ⟨hno, _⟩⟩
    · exact ⟨p, bm, rfl, hb, hD⟩
    · exact absurd ⟨by decide, by decide⟩ hno)⟩
  have HPZ := Aside0.mk aw_p
  obtain ⟨z5, hz5⟩ : ∃ z, awz5 = z := ⟨_, rfl⟩
  have HZ5 := Aside0.mk hz5
  have t1 : decide (0 < z5) = true := decide_eq_true (by rw [← hz5]; exact aw_p)
  clear hz5
  go_enter Try.func11, Try.ntmps11
  go_wp2_with (first
      | ((with_reducible refine gate_callee (f := 12) rfl ?_); refine goesL_ (some 10) rfl rfl Try.func12 (by kernel_rfl) rfl #[.int .i64 1000] rfl My.gx ?_; (refine (HN.out).mono ?_); rintro e W10 ⟨p, bm, rfl, hb, hD⟩; refine ⟨_, rfl, ?_⟩; have HD := Aside0.mk hD; have HB := Aside0.mk hb; clear hD hb)
      | ((with_reducible refine gate_callee (f := 10) rfl ?_); refine goesL_ (some 15) rfl rfl Try.func10 (by kernel_rfl) rfl #[.pointer (some ⟨p, 0, none⟩), .string ⟨#[120]⟩] rfl My.gx ?_; (refine (aw_open1 HD.out).mono ?_); rintro e W15 ⟨q, g, A1, c1, rfl, hD, hF, hq, hg, hL, hC, hc⟩; refine ⟨_, rfl, ?_⟩; have HQ := Aside0.mk (Nat.le_trans HB.out.size hq); have HG := Aside0.mk (Nat.le_trans HB.out.size hg); replace HB := Aside0.mk (hF.below HB.out (fun k hk => by rcases hk with h | h; exact h ▸ HD.out.hp; exact h ▸ HD.out.hm) HB.out.size); replace HD := Aside0.mk hD; have HL := Aside0.mk hL; have HC := Aside0.mk hC; have HCC := Aside0.mk hc; clear hD hF hq hg hL hC hc)
      | ((with_reducible refine gate_callee (f := 15) rfl ?_); (refine gate_guard (by rfl) ?_; dsimp only); refine goesL_ (some 32) rfl rfl Try.func15 (by kernel_rfl) rfl #[.slice A1 1 c1, .slice (some ⟨W15.heap.size, 0, none⟩) 1 1] rfl My.gx ?_; (refine (ententeref01_Same.calls 60 A1 c1 [⟨#[120]⟩] _ 1 [⟨#[120]⟩] true _ (Kd.C_below HC.out (below_alloc (Below.refl _ _) _)) HCC.out (one_str W15 ⟨#[120]⟩) (Nat.le_refl _) aw_same1).mono ?_); rintro e W32 ⟨rfl, hdr⟩; refine ⟨_, rfl, ?_⟩; have hb := hdr.below; replace HD := Aside0.mk ((HD.out.up (below_alloc (Below.refl _ _) _)).up hb); replace HL := Aside0.mk ((HL.out.up (below_alloc (Below.refl _ _) _)).up hb); replace HB := Aside0.mk ((HB.out.alloc HB.out.size _).trans (hb.mono (by have := HB.out.size; simp; omega))); clear hb hdr HC HCC)
      | ((with_reducible refine gate_callee (f := 6) rfl ?_); (refine gate_guard (by rfl) ?_; dsimp only); refine goesL_ (some 37) rfl rfl Try.func6 (by kernel_rfl) rfl #[.pointer (some ⟨q, 0, none⟩), .string ⟨#[97]⟩] rfl My.gx ?_; (refine (aw_app1 HD.out HL.out).mono ?_); rintro e W37 ⟨rfl, hD, hL, hF⟩; refine ⟨_, rfl, ?_⟩; replace HB := Aside0.mk (hF.below HB.out (fun k hk => by rcases hk with h | h | h | h; exact h ▸ HD.out.hp; exact h ▸ HD.out.hm; exact h ▸ HG.out; exact h ▸ HQ.out) HB.out.size); replace HD := Aside0.mk hD; replace HL := Aside0.mk hL; clear hD hL hF)
      | ((with_reducible refine gate_callee (f := 7) rfl ?_); (refine gate_guard (by rfl) ?_; dsimp only); refine goesL_ (some 42) rfl rfl Try.func7 (by kernel_rfl) rfl #[.pointer (some ⟨q, 0, none⟩), .string ⟨#[98]⟩] rfl My.gx ?_; (refine (aw_turn1 HD.out HL.out).mono ?_); rintro e W42 ⟨rfl, hD, g2, hg2, hL, hF⟩; refine ⟨_, rfl, ?_⟩; have HB42 := Aside0.mk HB.out.size; replace HB := Aside0.mk (hF.below HB.out (fun k hk => by rcases hk with h | h | h | h; exact h ▸ HD.out.hp; exact h ▸ HD.out.hm; exact h ▸ HG.out; exact h ▸ HQ.out) HB.out.size); clear HG; have HG := Aside0.mk (Nat.le_trans HB42.out hg2); replace HD := Aside0.mk hD; replace HL := Aside0.mk hL; clear hD hL hF hg2)
      | ((with_reducible refine gate_callee (f := 6) rfl ?_); (refine gate_guard (by rfl) ?_; dsimp only); refine goesL_ (some 47) rfl rfl Try.func6 (by kernel_rfl) rfl #[.pointer (some ⟨q, 0, none⟩), .string ⟨#[99]⟩] rfl My.gx ?_; (refine (aw_app2 HD.out HL.out).mono ?_); rintro e W47 ⟨rfl, hD, hL, hF⟩; refine ⟨_, rfl, ?_⟩; replace HB := Aside0.mk (hF.below HB.out (fun k hk => by rcases hk with h | h | h | h; exact h ▸ HD.out.hp; exact h ▸ HD.out.hm; exact h ▸ HG.out; exact h ▸ HQ.out) HB.out.size); replace HD := Aside0.mk hD; replace HL := Aside0.mk hL; clear hD hL hF)
      | ((with_reducible refine gate_callee (f := 10) rfl ?_); refine goesL_ (some 52) rfl rfl Try.func10 (by kernel_rfl) rfl #[.pointer (some ⟨p, 0, none⟩), .string ⟨#[120]⟩] rfl My.gx ?_; (refine (aw_open2 HD.out).mono ?_); rintro e W52 ⟨q2, g3, A1, c1, rfl, hF, hq, hg, hL, hC, hc⟩; refine ⟨_, rfl, ?_⟩; replace HB := Aside0.mk (hF.below HB.out (fun k hk => by rcases hk with h | h; exact h ▸ HD.out.hp; exact h ▸ HD.out.hm) HB.out.size); have LQP := Aside0.mk (HL.out.qp HD.out); replace HL := Aside0.mk (HL.out.fr hF (fun h => by rcases h with h | h; exact LQP.out.1 h; exact LQP.out.2.1 h) (fun h => by rcases h with h | h; exact LQP.out.2.2.1 h; exact LQP.out.2.2.2 h)); have HL2 := Aside0.mk hL; have HC := Aside0.mk hC; have HCC := Aside0.mk hc; clear hF hq hg hL hC hc HD LQP; rw [HZ5.out] at HL HL2)
      | ((with_reducible refine gate_callee (f := 15) rfl ?_); (refine gate_guard (by rfl) ?_; dsimp only); refine goesL_ (some 65) rfl rfl Try.func15 (by kernel_rfl) rfl #[.slice A1 2 c1, .slice (some ⟨W52.heap.size, 0, none⟩) 2 2] rfl My.gx ?_; (refine (ententeref01_Same.calls 60 A1 c1 [⟨#[98]⟩, ⟨#[99]⟩] _ 2 [⟨#[98]⟩, ⟨#[99]⟩] true _ (Kd.C_below HC.out (below_alloc (Below.refl _ _) _)) HCC.out (two_str W52 ⟨#[98]⟩ ⟨#[99]⟩) (Nat.le_refl _) aw_same2).mono ?_); rintro e W65 ⟨rfl, hdr⟩; refine ⟨_, rfl, ?_⟩; have hb := hdr.below; replace HL := Aside0.mk ((HL.out.up (below_alloc (Below.refl _ _) _)).up hb); replace HL2 := Aside0.mk ((HL2.out.up (below_alloc (Below.refl _ _) _)).up hb); replace HB := Aside0.mk ((HB.out.alloc HB.out.size _).trans (hb.mono (by have := HB.out.size; simp; omega))); clear hb hdr HC HCC)
      | ((with_reducible refine gate_callee (f := 8) rfl ?_); (refine gate_guard (by rfl) ?_; dsimp only); refine goesL_ (some 69) rfl rfl Try.func8 (by kernel_rfl) rfl #[.pointer (some ⟨q2, 0, none⟩)] rfl My.gx ?_; (refine (log_Number.calls HL2.out).mono ?_); rintro e W69 ⟨rfl, hb⟩; refine ⟨_, rfl, ?_⟩; replace HL := Aside0.mk (HL.out.up hb); replace HL2 := Aside0.mk (HL2.out.up hb); replace HB := Aside0.mk (HB.out.trans (hb.mono HB.out.size)); clear hb; dsimp only)
      | ((with_reducible refine gate_callee (f := 9) rfl ?_); (refine gate_guard (by rfl) ?_; dsimp only); refine goesL_ (some 74) rfl rfl Try.func9 (by kernel_rfl) rfl #[.pointer (some ⟨q2, 0, none⟩)] rfl My.gx ?_; (refine (log_Size.calls HL2.out).mono ?_); rintro e W74 ⟨rfl, hb⟩; refine ⟨_, rfl, ?_⟩; replace HL := Aside0.mk (HL.out.up hb); replace HL2 := Aside0.mk (HL2.out.up hb); replace HB := Aside0.mk (HB.out.trans (hb.mono HB.out.size)); clear hb; dsimp only)
      | ((with_reducible refine gate_callee (f := 9) rfl ?_); (refine gate_guard (by rfl) ?_; dsimp only); refine goesL_ (some 76) rfl rfl Try.func9 (by kernel_rfl) rfl #[.pointer (some ⟨q, 0, none⟩)] rfl My.gx ?_; (refine (log_Size.calls HL.out).mono ?_); rintro e W76 ⟨rfl, hb⟩; refine ⟨_, rfl, ?_⟩; replace HL := Aside0.mk (HL.out.up hb); replace HL2 := Aside0.mk (HL2.out.up hb); replace HB := Aside0.mk (HB.out.trans (hb.mono HB.out.size)); clear hb; dsimp only)
      | ((with_reducible refine gate_callee (f := 9) rfl ?_); (refine gate_guard (by rfl) ?_; dsimp only); refine goesL_ (some 81) rfl rfl Try.func9 (by kernel_rfl) rfl #[.pointer (some ⟨q2, 0, none⟩)] rfl My.gx ?_; (refine (log_Size.calls HL2.out).mono ?_); rintro e W81 ⟨rfl, hb⟩; refine ⟨_, rfl, ?_⟩; replace HL := Aside0.mk (HL.out.up hb); replace HL2 := Aside0.mk (HL2.out.up hb); replace HB := Aside0.mk (HB.out.trans (hb.mono HB.out.size)); clear hb; dsimp only))
  go_ret
  exact ⟨rfl, HB.out⟩
end

end Go.Proofs.Ytkcpgaplpmbmoaa.PA
