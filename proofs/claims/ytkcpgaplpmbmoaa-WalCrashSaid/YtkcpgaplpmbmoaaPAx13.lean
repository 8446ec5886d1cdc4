/- A log on a disk, walked by hand; Lean checks it. -/
import Derived.Test.YtkcpgaplpmbmoaaPAx12
namespace Go.Proofs.Ytkcpgaplpmbmoaa.PA
open Go.RowKit Go.Proofs.YtkcpgaplpmbmoaaW.PrintWords Go.Proofs.YtkcpgaplpmbmoaaW.PrintLast Go.Proofs.YtkcpgaplpmbmoaaW.PrintMore
attribute [local go_sem] max2_int min2_int max_two min_two max_three min_three max_four min_four
set_option linter.unusedVariables false
set_option linter.unusedSimpArgs false

section
variable {base p bm : Nat} {w w0 : World} {s : DS}
set_option maxHeartbeats 8000000 in
set_option maxRecDepth 100000 in
theorem disk_Disk_change.calls (h : DiskAt base w p bm s) (hf0 : Fr p bm w0 w) (fc : FuncId) (fn : Func) (hfn : Try.prog.funcs[fc]? = some fn) (hname : (fn.name == "runtime.NumGoroutine") = false) (hbody : fn.body.isSome = true) (cap : Array Value) (L' : List S75)
    (hc : ∀ W, DiskAt base W p bm (stepS s) → Fr p bm w W → Calls Try.prog fc cap W fun e W' => e = .returned (.tuple #[]) ∧ DiskAt base W' p bm { stepS s with L := L' } ∧ Fr p bm w0 W') :
    Calls Try.prog 53 #[.pointer (some ⟨p, 0, none⟩), .func (.func fc) #[] cap] w fun e w' => e = .returned (.int .i64 (chgS s L').2) ∧ DiskAt base w' p bm (chgS s L').1 ∧ Fr p bm w0 w' := by
  have HD := Aside0.mk h
  have HC := Aside0.mk hc
  have HF0 := Aside0.mk hf0
  clear h hc hf0
  have HCALL := Aside0.mk (disk_Disk_step.calls HD.out)
  cases hls : lastS s with
  | true =>
    have e1 : chgS s L' = (fallS s.keep (stepS s), 150) := by unfold chgS; rw [if_pos hls]
    rw [e1]
    have HK := Aside0.mk (stepS_keep s)
    have HC2 := HCALL.out
    rw [hls] at HC2
    have HCA := Aside0.mk HC2
    clear HCALL hls HC2 e1
    go_enter Try.func53, Try.ntmps53
    go_wp2_with (first
      | ((with_reducible refine gate_callee (f := 61) rfl ?_); refine goesL_ (some _) rfl rfl Try.func61 (by kernel_rfl) rfl #[.pointer (some ⟨p, 0, none⟩)] rfl My.gx ?_; (refine HCA.out.mono ?_); rintro e W6 ⟨rfl, hD6, hF6⟩; refine ⟨_, rfl, ?_⟩; have HF6 := Aside0.mk (HF0.out.trans hF6); obtain ⟨Ak, ck, hck, hfall⟩ := fall_own hD6; rw [HK.out] at hck hfall; have HFA := Aside0.mk hfall; clear hD6 hF6 hfall)
      | ((with_reducible refine gate_callee (f := 62) rfl ?_); refine goesL_ (some _) rfl rfl Try.func62 (by kernel_rfl) rfl #[.pointer (some ⟨p, 0, none⟩), .slice Ak s.keep.length ck] rfl My.gx ?_; (refine HFA.out.mono ?_); rintro e W7 ⟨rfl, hD7, hF7⟩; refine ⟨_, rfl, ?_⟩; have HD7 := Aside0.mk hD7; have HF7 := Aside0.mk (HF6.out.trans hF7); clear hD7 hF7))
    go_ret
    exact ⟨rfl, HD7.out, HF7.out⟩
  | false =>
    have e1 : chgS s L' = ({ stepS s with L := L' }, 0) := by unfold chgS; rw [if_neg (by rw [hls]; decide)]
    rw [e1]
    have HC2 := HCALL.out
    rw [hls] at HC2
    have HCA := Aside0.mk HC2
    clear HCALL hls HC2 e1
    go_enter Try.func53, Try.ntmps53
    go_wp2_with (first
      | ((with_reducible refine gate_callee (f := 61) rfl ?_); refine goesL_ (some _) rfl rfl Try.func61 (by kernel_rfl) rfl #[.pointer (some ⟨p, 0, none⟩)] rfl My.gx ?_; (refine HCA.out.mono ?_); rintro e W6 ⟨rfl, hD6, hF6⟩; refine ⟨_, rfl, ?_⟩; have HD6 := Aside0.mk hD6; have HF6 := Aside0.mk hF6; clear hD6 hF6)
      | ((with_reducible refine gate_dst (N := 14) rfl ?_); refine My.goesV_ (f := fc) (first := #[]) (cap := cap) (some 14) rfl rfl hfn hname hbody cap rfl rfl (by simp) ?_; refine (HC.out _ HD6.out HF6.out).mono ?_; rintro e W7 ⟨rfl, hD7, hF7⟩; refine ⟨_, rfl, ?_⟩; have HD7 := Aside0.mk hD7; have HF7 := Aside0.mk hF7; clear hD7 hF7))
    go_ret
    exact ⟨rfl, HD7.out, HF7.out⟩
/-! the closures -/
set_option maxHeartbeats 8000000 in
set_option maxRecDepth 100000 in
theorem sync1.calls (h : DiskAt base w p bm s) (g0 g1 g2 : Nat) (X : S75) (n : Int) (hX : X.f0 = n) (hL : hasL s.L n = true ∧ getL s.L n = X)
    (b0 : w.heap[g0]? = some (.cells #[.int .i64 X.f0, .string X.f1, .int .i64 X.f2] 75 (0, 0))) (b1 : w.heap[g1]? = some (.cells #[.pointer (some ⟨p, 0, none⟩)] 33 (0, 0))) (b2 : w.heap[g2]? = some (.cells #[.int .i64 n] 3 (0, 0))) (hf : Fr p bm w0 w) (hg0 : w0.heap.size ≤ g0) :
    Calls Try.prog 63 #[.pointer (some ⟨g0, 0, none⟩), .pointer (some ⟨g1, 0, none⟩), .pointer (some ⟨g2, 0, none⟩)] w fun e w' => e = .returned (.tuple #[]) ∧ DiskAt base w' p bm { s with L := putL s.L ⟨n, X.f1, (X.f1.size : Int)⟩ } ∧ Fr p bm w0 w' := by
  have hu40 := Try.underlying75
  have HD := Aside0.mk h
  have B0 := My.am b0
  have B1 := My.am b1
  have B2 := My.am b2
  have HF := Aside0.mk hf
  have HG := Aside0.mk hg0
  have HLL := Aside0.mk hL
  subst hX
  clear h b0 b1 b2 hf hg0 hL
  have hmem := getL_mem' HLL.out.1
  rw [HLL.out.2] at hmem
  have HMEM := Aside0.mk hmem.1
  clear hmem
  go_enter Try.func63, Try.ntmps63
  have hz := My.cz3 B0
  go_upto_region 1 with (fail)
  refine at_world (J := fun W => DiskAt base W p bm s ∧ Fr p bm w0 W ∧ W.heap[g0]? = some (.cells #[.int .i64 X.f0, .string X.f1, .int .i64 (X.f1.size : Int)] 75 (0, 0)) ∧ W.heap[g1]? = some (.cells #[.pointer (some ⟨p, 0, none⟩)] 33 (0, 0)) ∧ W.heap[g2]? = some (.cells #[.int .i64 X.f0] 3 (0, 0))) ⟨HD.out.set_ B0.out (by decide) (by decide), HF.out.fresh HG.out _, blk_put B0.out 2 _ rfl, (Below.heap_setCell _ _ _ _ ?n1).trans B1.out, (Below.heap_setCell _ _ _ _ ?n2).trans B2.out⟩ ?_
  case n1 =>
    rintro rfl
    have h1 := B0.out
    rw [B1.out] at h1
    injection h1 with h1
    injection h1 with _ h1
    exact absurd h1 (by decide)
  case n2 =>
    rintro rfl
    have h1 := B0.out
    rw [B2.out] at h1
    injection h1 with h1
    injection h1 with _ h1
    exact absurd h1 (by decide)
  clear hz HD HF B0 B1 B2
  rintro W4 ⟨D4, F4, Y0, Y1, Y2⟩
  have HD4 := Aside0.mk (show DiskAt base W4.drew p bm s from D4.move (fun _ _ _ => rfl))
  have HF4 := Aside0.mk (show Fr p bm w0 W4.drew from ⟨F4.os, F4.tape, F4.output, F4.size, F4.block⟩)
  have y0 := My.cz3 (My.am Y0)
  have y1 := My.cz1 (My.am Y1)
  have y2 := My.cz1 (My.am Y2)
  obtain ⟨kv, hbp, hk5, k0, k1, k2, k3, k4, k5, fz⟩ := D4.cells
  clear hbp hk5 k0 k1 k2 k3 k4 fz D4 F4 Y0 Y1 Y2
  have hin := HD4.out.inv
  have hnum := hin.num _ HMEM.out
  have hdat := hin.dat _ HMEM.out
  obtain ⟨W5, hr5, hm5, hg5⟩ := HD4.out.map.put ⟨X.f0, X.f1, (X.f1.size : Int)⟩ (by have := hin.len; omega) (wfn hnum.1 (by show X.f0 ≤ _; omega))
  unfold valD at hr5
  have hi5 : Inv { s with L := putL s.L ⟨X.f0, X.f1, (X.f1.size : Int)⟩ } := hin.put (x := ⟨X.f0, X.f1, (X.f1.size : Int)⟩) hnum ⟨by show (0:Int) ≤ (X.f1.size : Int); omega, by show (X.f1.size : Int) ≤ (X.f1.size : Int); omega, hdat.2.2⟩ (by show useL s.L - ((getL s.L X.f0).f1.size : Int) + (X.f1.size : Int) ≤ s.room; rw [HLL.out.2]; have := hin.use; omega) (.inl HLL.out.1)
  have HD5 := Aside0.mk (HD4.out.remap hg5 hm5 hi5)
  have HF5 := Aside0.mk (HF4.out.grown hg5)
  clear hm5 hg5 hi5 hin hnum hdat
  go_still_tail 6, (by kernel_rfl)
  go_wp2
  refine bodyPost_end (results_none rfl _ _ _) rfl ?_
  exact ⟨rfl, HD5.out, HF5.out⟩
end
section
variable {base p bm : Nat} {w w0 : World} {s : DS}
set_option maxHeartbeats 8000000 in
set_option maxRecDepth 100000 in
theorem cut1.calls (h : DiskAt base w p bm s) (g0 g1 g2 g3 : Nat) (X : S75) (z : Int) (hL : hasL s.L X.f0 = true ∧ getL s.L X.f0 = X) (hz1 : 1 ≤ z) (hz2 : z ≤ (X.f1.size : Int))
    (b0 : w.heap[g0]? = some (.cells #[.int .i64 X.f0] 3 (0, 0))) (b1 : w.heap[g1]? = some (.cells #[.int .i64 X.f0, .string X.f1, .int .i64 X.f2] 75 (0, 0))) (b2 : w.heap[g2]? = some (.cells #[.int .i64 z] 3 (0, 0))) (b3 : w.heap[g3]? = some (.cells #[.pointer (some ⟨p, 0, none⟩)] 33 (0, 0))) (hf : Fr p bm w0 w) :
    Calls Try.prog 54 #[.pointer (some ⟨g0, 0, none⟩), .pointer (some ⟨g1, 0, none⟩), .pointer (some ⟨g2, 0, none⟩), .pointer (some ⟨g3, 0, none⟩)] w fun e w' => e = .returned (.tuple #[]) ∧ DiskAt base w' p bm { s with L := putL s.L ⟨X.f0, X.f1.extract 0 z.toNat, z⟩ } ∧ Fr p bm w0 w' := by
  have hu40 := Try.underlying75
  have HLL := Aside0.mk hL
  have hmem := getL_mem' hL.1
  rw [hL.2] at hmem
  have HMEM := Aside0.mk hmem.1
  have y0 := My.cz1 (My.am b0)
  have y1 := My.cz3 (My.am b1)
  have y2 := My.cz1 (My.am b2)
  have y3 := My.cz1 (My.am b3)
  have HD4 := Aside0.mk (show DiskAt base w.drew p bm s from h.move (fun _ _ _ => rfl))
  have HF4 := Aside0.mk (show Fr p bm w0 w.drew from ⟨hf.os, hf.tape, hf.output, hf.size, hf.block⟩)
  obtain ⟨kv, hbp, hk5, k0, k1, k2, k3, k4, k5, fz⟩ := h.cells
  clear hbp hk5 k0 k1 k2 k3 k4 fz hL hmem b0 b1 b2 b3 hf h
  have hin := HD4.out.inv
  have hnum := hin.num _ HMEM.out
  have hdat := hin.dat _ HMEM.out
  have hsz : (((X.f1.extract 0 z.toNat).size : Nat) : Int) = z := by rw [ByteArray.size_extract]; omega
  obtain ⟨W5, hr5, hm5, hg5⟩ := HD4.out.map.put ⟨X.f0, X.f1.extract 0 z.toNat, z⟩ (by have := hin.len; omega) (wfn hnum.1 (by show X.f0 ≤ _; omega))
  unfold valD at hr5
  have hi5 : Inv { s with L := putL s.L ⟨X.f0, X.f1.extract 0 z.toNat, z⟩ } := hin.put (x := ⟨X.f0, X.f1.extract 0 z.toNat, z⟩) hnum ⟨by show (0:Int) ≤ z; omega, by show z ≤ ((X.f1.extract 0 z.toNat).size : Int); omega, by show 0 < (X.f1.extract 0 z.toNat).size; omega⟩ (by show useL s.L - ((getL s.L X.f0).f1.size : Int) + ((X.f1.extract 0 z.toNat).size : Int) ≤ s.room; rw [HLL.out.2]; have := hin.use; omega) (.inl HLL.out.1)
  have HD5 := Aside0.mk (HD4.out.remap hg5 hm5 hi5)
  have HF5 := Aside0.mk (HF4.out.grown hg5)
  have z0 : (0 : Int) ≤ z := by omega
  have z0t := eq_true z0
  have z1t := eq_true hz2
  have z0d := decide_eq_true z0
  have z1d := decide_eq_true hz2
  clear hm5 hg5 hi5 hin hnum hdat hsz
  go_enter Try.func54, Try.ntmps54
  go_still_tail 12, (by kernel_rfl)
  go_wp2
  refine bodyPost_end (results_none rfl _ _ _) rfl ?_
  exact ⟨rfl, HD5.out, HF5.out⟩
set_option maxHeartbeats 8000000 in
set_option maxRecDepth 100000 in
theorem rem1.calls (h : DiskAt base w p bm s) (g0 g1 : Nat) (n : Int) (hn : (Lit.int .i64 n).wf = true) (b0 : w.heap[g0]? = some (.cells #[.pointer (some ⟨p, 0, none⟩)] 33 (0, 0))) (b1 : w.heap[g1]? = some (.cells #[.int .i64 n] 3 (0, 0))) (hf : Fr p bm w0 w) :
    Calls Try.prog 64 #[.pointer (some ⟨g0, 0, none⟩), .pointer (some ⟨g1, 0, none⟩)] w fun e w' => e = .returned (.tuple #[]) ∧ DiskAt base w' p bm { s with L := delL s.L n } ∧ Fr p bm w0 w' := by
  have y0 := My.cz1 (My.am b0)
  have y1 := My.cz1 (My.am b1)
  have HD4 := Aside0.mk (show DiskAt base w.drew p bm s from h.move (fun _ _ _ => rfl))
  have HF4 := Aside0.mk (show Fr p bm w0 w.drew from ⟨hf.os, hf.tape, hf.output, hf.size, hf.block⟩)
  obtain ⟨kv, hbp, hk5, k0, k1, k2, k3, k4, k5, fz⟩ := h.cells
  clear hbp hk5 k0 k1 k2 k3 k4 fz b0 b1 hf h
  obtain ⟨W5, hr5, hm5, hg5⟩ := HD4.out.map.del n hn 0
  have HD5 := Aside0.mk (HD4.out.remap hg5 hm5 (HD4.out.inv.del n))
  have HF5 := Aside0.mk (HF4.out.grown hg5)
  clear hm5 hg5 hn
  go_enter Try.func64, Try.ntmps64
  go_still_tail 5, (by kernel_rfl)
  go_wp2
  refine bodyPost_end (results_none rfl _ _ _) rfl ?_
  exact ⟨rfl, HD5.out, HF5.out⟩
/-! Sync, Cut, Remove -/
def syncS (s : DS) (n : Int) : DS × Int := if findE s n = 0 then chgS s (putL s.L ⟨n, (getL s.L n).f1, ((getL s.L n).f1.size : Int)⟩) else (s, findE s n)
def cutS (s : DS) (n z : Int) : DS × Int := if findE s n = 0 then (if z < 1 ∨ z > ((getL s.L n).f1.size : Int) then (s, 2) else chgS s (putL s.L ⟨n, (getL s.L n).f1.extract 0 z.toNat, z⟩)) else (s, findE s n)
def remS (s : DS) (n : Int) : DS × Int := if findE s n = 0 then chgS s (delL s.L n) else (s, findE s n)
theorem findE_zero {s : DS} {n : Int} (h : findE s n = 0) : s.dead = false ∧ hasL s.L n = true ∧ findF s n = getL s.L n := by
  unfold findE at h
  unfold findF
  by_cases c : s.dead = true
  · rw [if_pos c] at h; omega
  · rw [if_neg c] at h ⊢
    by_cases c2 : hasL s.L n = true
    · rw [if_pos c2]; exact ⟨by simpa using c, c2, rfl⟩
    · rw [if_neg c2] at h; omega
theorem stepS_L (s : DS) : (stepS s).L = s.L := by
  unfold stepS
  split <;> rfl
end
section
variable {base p bm : Nat} {w w0 : World} {s : DS}
theorem cellsOf (h : DiskAt base w p bm s) : ∃ cs, w.heap[p]? = some (.cells cs 37 (0, 0)) := by
  obtain ⟨kv, hb, _⟩ := h.blk
  exact ⟨_, hb⟩
theorem neOf {g t : Nat} {cs : Array Value} (hg : w.heap[g]? = some (.cells cs t (0, 0))) (h : ∃ cs, w.heap[p]? = some (.cells cs 37 (0, 0))) (ht : t ≠ 37) : g ≠ p := by
  obtain ⟨cs', hb⟩ := h
  rintro rfl
  rw [hb] at hg
  injection hg with hg
  injection hg with _ hg
  exact ht hg.symm
theorem neMap {g t : Nat} {cs : Array Value} (hg : w.heap[g]? = some (.cells cs t (0, 0))) (h : DiskAt base w p bm s) : g ≠ bm := by
  obtain ⟨es, clock, hm⟩ := h.map.blk
  rintro rfl
  rw [hm] at hg
  cases hg
set_option maxHeartbeats 8000000 in
set_option maxRecDepth 100000 in
theorem disk_Disk_Sync.calls (h : DiskAt base w p bm s) (n : Int) (hn : (Lit.int .i64 n).wf = true) : Calls Try.prog 42 #[.pointer (some ⟨p, 0, none⟩), .int .i64 n] w fun e w' => e = .returned (.int .i64 (syncS s n).2) ∧ DiskAt base w' p bm (syncS s n).1 ∧ Fr p bm w w' := by
  have hu40 := Try.underlying75
  have HD := Aside0.mk h
  have HN := Aside0.mk hn
  have HB := My.am (Below.refl w.heap.size w)
  clear h hn
  obtain ⟨R, hR⟩ : ∃ R, syncS s n = R := ⟨_, rfl⟩
  rw [hR]
  have HR := Aside0.mk hR
  obtain ⟨F, hF⟩ : ∃ F, findF s n = F := ⟨_, rfl⟩
  obtain ⟨E, hE⟩ : ∃ E, findE s n = E := ⟨_, rfl⟩
  have HF_ := Aside0.mk hF
  have HE_ := Aside0.mk hE
  clear hR hF hE
  go_enter Try.func42, Try.ntmps42
  go_upto_region 2 with (first
    | ((with_reducible refine gate_dst (N := 2) rfl ?_); refine My.bx 2 #[.pointer (some ⟨p, 0, none⟩)] 33 ?_; intro g2 hg w2_ hbox hb; have B2 := My.am hbox; have G2 := My.nge hg HB.out; replace HB := My.st HB hb; clear hb hbox hg; have z2 := My.cz1 B2)
    | ((with_reducible refine gate_dst (N := 3) rfl ?_); refine My.bx 3 #[.int .i64 n] 3 ?_; intro g3 hg w3_ hbox hb; have B3 := My.am hbox; have G3 := My.nge hg HB.out; replace B2 := My.ab B2 hb; replace HB := My.st HB hb; clear hb hbox hg; have z3 := My.cz1 B3; clear z2; have z2 := My.cz1 B2)
    | ((with_reducible refine gate_callee (f := 45) rfl ?_); refine goesL_ (some _) rfl rfl Try.func45 (by kernel_rfl) rfl #[.pointer (some ⟨p, 0, none⟩), .int .i64 n] rfl My.gx ?_; (refine (disk_Disk_find.calls (HD.out.up HB.out) n HN.out).mono ?_); rintro e W1 ⟨rfl, hb⟩; refine ⟨_, rfl, ?_⟩; rw [HF_.out, HE_.out]; unfold valD; replace B2 := My.ab B2 hb; clear z2; replace B3 := My.ab B3 hb; clear z3; replace HB := My.st HB hb; clear hb)
    | ((with_reducible refine gate_dst (N := 5) rfl ?_); refine My.bx 5 #[.int .i64 0, .string ⟨#[]⟩, .int .i64 0] 75 ?_; intro g5 hg w5_ hbox hb; have BX := My.am hbox; have GX := My.nge hg HB.out; have N2 := My.nlt hg B2.out; have N3 := My.nlt hg B3.out; replace B2 := My.ab B2 hb; replace B3 := My.ab B3 hb; replace HB := My.st HB hb; clear hb hbox hg; have zx := My.cz3 BX))
  refine at_world (J := fun W => DiskAt base W p bm s ∧ Fr p bm w W ∧ W.heap[g5]? = some (.cells #[.int .i64 F.f0, .string F.f1, .int .i64 F.f2] 75 (0, 0)) ∧ W.heap[g2]? = some (.cells #[.pointer (some ⟨p, 0, none⟩)] 33 (0, 0)) ∧ W.heap[g3]? = some (.cells #[.int .i64 n] 3 (0, 0))) ⟨(HD.out.up (below_set (below_set (below_set HB.out GX.out) GX.out) GX.out)), Fr.of (below_set (below_set (below_set HB.out GX.out) GX.out) GX.out), My.put3 BX.out, My.farA (My.farA (My.farA B2.out N2) N2) N2, My.farA (My.farA (My.farA B3.out N3) N3) N3⟩ ?_
  clear zx HD BX HB B2 B3
  rintro W2 ⟨D2, F2, YX, Y2, Y3⟩
  have HD := Aside0.mk D2
  have HF := Aside0.mk F2
  have BX := My.am YX
  have B2 := My.am Y2
  have z2 := My.cz1 B2
  have B3 := My.am Y3
  have z3 := My.cz1 B3
  clear D2 F2 YX Y2 Y3
  by_cases he : E = 0
  · subst he
    obtain ⟨hdead, hhas, hff⟩ := findE_zero HE_.out
    rw [HF_.out] at hff
    have HH := Aside0.mk hhas
    have HFF := Aside0.mk hff
    have hf0 : F.f0 = n := by rw [hff]; exact (getL_mem' hhas).2
    have HF0 := Aside0.mk hf0
    clear hdead hhas hff hf0
    have e1 : syncS s n = chgS s (putL (stepS s).L ⟨n, F.f1, (F.f1.size : Int)⟩) := by unfold syncS; rw [if_pos HE_.out, stepS_L, HFF.out]
    rw [e1] at HR
    clear e1
    have HCH := Aside0.mk (disk_Disk_change.calls (w0 := w) HD.out HF.out 63 _ Try.func63 (by kernel_rfl) rfl #[.pointer (some ⟨g5, 0, none⟩), .pointer (some ⟨g2, 0, none⟩), .pointer (some ⟨g3, 0, none⟩)] (putL (stepS s).L ⟨n, F.f1, (F.f1.size : Int)⟩) (fun W hW hFr => sync1.calls hW g5 g2 g3 F n HF0.out (by rw [stepS_L]; exact ⟨HH.out, HFF.out.symm⟩) ((hFr.block _ (blk_lt BX.out) (neOf BX.out (cellsOf HD.out) (by decide)) (neMap BX.out HD.out)).trans BX.out) ((hFr.block _ (blk_lt B2.out) (neOf B2.out (cellsOf HD.out) (by decide)) (neMap B2.out HD.out)).trans B2.out) ((hFr.block _ (blk_lt B3.out) (neOf B3.out (cellsOf HD.out) (by decide)) (neMap B3.out HD.out)).trans B3.out) (HF.out.trans hFr) (by have := GX.out; omega)))
    rw [HR.out] at HCH
    clear HR
    go_wp2_with ((with_reducible refine gate_callee (f := 53) rfl ?_); refine goesL_ (some _) rfl rfl Try.func53 (by kernel_rfl) rfl #[.pointer (some ⟨p, 0, none⟩), .func (.func 63) #[] #[.pointer (some ⟨g5, 0, none⟩), .pointer (some ⟨g2, 0, none⟩), .pointer (some ⟨g3, 0, none⟩)]] rfl My.gx ?_; (refine HCH.out.mono ?_); rintro e W7 ⟨rfl, hD7, hF7⟩; refine ⟨_, rfl, ?_⟩; have HD7 := Aside0.mk hD7; have HF7 := Aside0.mk hF7; clear hD7 hF7)
    go_ret
    exact ⟨rfl, HD7.out, HF7.out⟩
  · have q1 : (E == 0) = false := beq_eq_false_iff_ne.2 he
    have q2 : (E != 0) = true := bne_iff_ne.2 he
    have q3 : decide (E = 0) = false := decide_eq_false he
    have e1 : R = (s, E) := by rw [← HR.out]; unfold syncS; rw [if_neg (by rw [HE_.out]; exact he), HE_.out]
    subst e1
    clear he HR
    go_wp2
    go_ret
    exact ⟨rfl, HD.out, HF.out⟩
set_option maxHeartbeats 8000000 in
set_option maxRecDepth 100000 in
theorem disk_Disk_Remove.calls (h : DiskAt base w p bm s) (n : Int) (hn : (Lit.int .i64 n).wf = true) : Calls Try.prog 44 #[.pointer (some ⟨p, 0, none⟩), .int .i64 n] w fun e w' => e = .returned (.int .i64 (remS s n).2) ∧ DiskAt base w' p bm (remS s n).1 ∧ Fr p bm w w' := by
  have hu40 := Try.underlying75
  have HD := Aside0.mk h
  have HN := Aside0.mk hn
  have HB := My.am (Below.refl w.heap.size w)
  clear h hn
  obtain ⟨R, hR⟩ : ∃ R, remS s n = R := ⟨_, rfl⟩
  rw [hR]
  have HR := Aside0.mk hR
  obtain ⟨F, hF⟩ : ∃ F, findF s n = F := ⟨_, rfl⟩
  obtain ⟨E, hE⟩ : ∃ E, findE s n = E := ⟨_, rfl⟩
  have HF_ := Aside0.mk hF
  have HE_ := Aside0.mk hE
  clear hR hF hE
  go_enter Try.func44, Try.ntmps44
  go_upto_region 2 with (first
    | ((with_reducible refine gate_dst (N := 2) rfl ?_); refine My.bx 2 #[.pointer (some ⟨p, 0, none⟩)] 33 ?_; intro g2 hg w2_ hbox hb; have B2 := My.am hbox; have G2 := My.nge hg HB.out; replace HB := My.st HB hb; clear hb hbox hg; have z2 := My.cz1 B2)
    | ((with_reducible refine gate_dst (N := 3) rfl ?_); refine My.bx 3 #[.int .i64 n] 3 ?_; intro g3 hg w3_ hbox hb; have B3 := My.am hbox; have G3 := My.nge hg HB.out; replace B2 := My.ab B2 hb; replace HB := My.st HB hb; clear hb hbox hg; have z3 := My.cz1 B3; clear z2; have z2 := My.cz1 B2)
    | ((with_reducible refine gate_callee (f := 45) rfl ?_); refine goesL_ (some _) rfl rfl Try.func45 (by kernel_rfl) rfl #[.pointer (some ⟨p, 0, none⟩), .int .i64 n] rfl My.gx ?_; (refine (disk_Disk_find.calls (HD.out.up HB.out) n HN.out).mono ?_); rintro e W1 ⟨rfl, hb⟩; refine ⟨_, rfl, ?_⟩; rw [HF_.out, HE_.out]; unfold valD; replace B2 := My.ab B2 hb; clear z2; replace B3 := My.ab B3 hb; clear z3; replace HB := My.st HB hb; clear hb)
    | ((with_reducible refine gate_dst (N := 5) rfl ?_); refine My.bx 5 #[.int .i64 0, .string ⟨#[]⟩, .int .i64 0] 75 ?_; intro g5 hg w5_ hbox hb; have BX := My.am hbox; have GX := My.nge hg HB.out; have N2 := My.nlt hg B2.out; have N3 := My.nlt hg B3.out; replace B2 := My.ab B2 hb; replace B3 := My.ab B3 hb; replace HB := My.st HB hb; clear hb hbox hg; have zx := My.cz3 BX))
  refine at_world (J := fun W => DiskAt base W p bm s ∧ Fr p bm w W ∧ W.heap[g5]? = some (.cells #[.int .i64 F.f0, .string F.f1, .int .i64 F.f2] 75 (0, 0)) ∧ W.heap[g2]? = some (.cells #[.pointer (some ⟨p, 0, none⟩)] 33 (0, 0)) ∧ W.heap[g3]? = some (.cells #[.int .i64 n] 3 (0, 0))) ⟨(HD.out.up (below_set (below_set (below_set HB.out GX.out) GX.out) GX.out)), Fr.of (below_set (below_set (below_set HB.out GX.out) GX.out) GX.out), My.put3 BX.out, My.farA (My.farA (My.farA B2.out N2) N2) N2, My.farA (My.farA (My.farA B3.out N3) N3) N3⟩ ?_
  clear zx HD BX HB B2 B3
  rintro W2 ⟨D2, F2, YX, Y2, Y3⟩
  have HD := Aside0.mk D2
  have HF := Aside0.mk F2
  have BX := My.am YX
  have B2 := My.am Y2
  have z2 := My.cz1 B2
  have B3 := My.am Y3
  have z3 := My.cz1 B3
  clear D2 F2 YX Y2 Y3
  by_cases he : E = 0
  · subst he
    obtain ⟨hdead, hhas, hff⟩ := findE_zero HE_.out
    rw [HF_.out] at hff
    have HH := Aside0.mk hhas
    have HFF := Aside0.mk hff
    have hf0 : F.f0 = n := by rw [hff]; exact (getL_mem' hhas).2
    have HF0 := Aside0.mk hf0
    clear hdead hhas hff hf0
    have e1 : remS s n = chgS s (delL (stepS s).L n) := by unfold remS; rw [if_pos HE_.out, stepS_L]
    rw [e1] at HR
    clear e1
    have HCH := Aside0.mk (disk_Disk_change.calls (w0 := w) HD.out HF.out 64 _ Try.func64 (by kernel_rfl) rfl #[.pointer (some ⟨g2, 0, none⟩), .pointer (some ⟨g3, 0, none⟩)] (delL (stepS s).L n) (fun W hW hFr => rem1.calls hW g2 g3 n HN.out ((hFr.block _ (blk_lt B2.out) (neOf B2.out (cellsOf HD.out) (by decide)) (neMap B2.out HD.out)).trans B2.out) ((hFr.block _ (blk_lt B3.out) (neOf B3.out (cellsOf HD.out) (by decide)) (neMap B3.out HD.out)).trans B3.out) (HF.out.trans hFr)))
    rw [HR.out] at HCH
    clear HR
    go_wp2_with ((with_reducible refine gate_callee (f := 53) rfl ?_); refine goesL_ (some _) rfl rfl Try.func53 (by kernel_rfl) rfl #[.pointer (some ⟨p, 0, none⟩), .func (.func 64) #[] #[.pointer (some ⟨g2, 0, none⟩), .pointer (some ⟨g3, 0, none⟩)]] rfl My.gx ?_; (refine HCH.out.mono ?_); rintro e W7 ⟨rfl, hD7, hF7⟩; refine ⟨_, rfl, ?_⟩; have HD7 := Aside0.mk hD7; have HF7 := Aside0.mk hF7; clear hD7 hF7)
    go_ret
    exact ⟨rfl, HD7.out, HF7.out⟩
  · have q1 : (E == 0) = false := beq_eq_false_iff_ne.2 he
    have q2 : (E != 0) = true := bne_iff_ne.2 he
    have q3 : decide (E = 0) = false := decide_eq_false he
    have e1 : R = (s, E) := by rw [← HR.out]; unfold remS; rw [if_neg (by rw [HE_.out]; exact he), HE_.out]
    subst e1
    clear he HR
    go_wp2
    go_ret
    exact ⟨rfl, HD.out, HF.out⟩
set_option maxHeartbeats 8000000 in
set_option maxRecDepth 100000 in
theorem disk_Disk_Cut.calls (h : DiskAt base w p bm s) (n : Int) (hn : (Lit.int .i64 n).wf = true) (z : Int) : Calls Try.prog 33 #[.pointer (some ⟨p, 0, none⟩), .int .i64 n, .int .i64 z] w fun e w' => e = .returned (.int .i64 (cutS s n z).2) ∧ DiskAt base w' p bm (cutS s n z).1 ∧ Fr p bm w w' := by
  have hu40 := Try.underlying75
  have HD := Aside0.mk h
  have HN := Aside0.mk hn
  have HB := My.am (Below.refl w.heap.size w)
  clear h hn
  obtain ⟨R, hR⟩ : ∃ R, cutS s n z = R := ⟨_, rfl⟩
  rw [hR]
  have HR := Aside0.mk hR
  obtain ⟨F, hF⟩ : ∃ F, findF s n = F := ⟨_, rfl⟩
  obtain ⟨E, hE⟩ : ∃ E, findE s n = E := ⟨_, rfl⟩
  have HF_ := Aside0.mk hF
  have HE_ := Aside0.mk hE
  clear hR hF hE
  go_enter Try.func33, Try.ntmps33
  go_upto_region 2 with (first
    | ((with_reducible refine gate_dst (N := 3) rfl ?_); refine My.bx 3 #[.pointer (some ⟨p, 0, none⟩)] 33 ?_; intro g3 hg w3_ hbox hb; have B3 := My.am hbox; have G3 := My.nge hg HB.out; replace HB := My.st HB hb; clear hb hbox hg; have z3 := My.cz1 B3)
    | ((with_reducible refine gate_dst (N := 4) rfl ?_); refine My.bx 4 #[.int .i64 n] 3 ?_; intro g4 hg w4_ hbox hb; have B4 := My.am hbox; have G4 := My.nge hg HB.out; replace B3 := My.ab B3 hb; replace HB := My.st HB hb; clear hb hbox hg; have z4 := My.cz1 B4; clear z3; have z3 := My.cz1 B3)
    | ((with_reducible refine gate_dst (N := 5) rfl ?_); refine My.bx 5 #[.int .i64 z] 3 ?_; intro g5 hg w5_ hbox hb; have B5 := My.am hbox; have G5 := My.nge hg HB.out; replace B3 := My.ab B3 hb; replace B4 := My.ab B4 hb; replace HB := My.st HB hb; clear hb hbox hg; have z5 := My.cz1 B5; clear z3; have z3 := My.cz1 B3; clear z4; have z4 := My.cz1 B4)
    | ((with_reducible refine gate_callee (f := 45) rfl ?_); refine goesL_ (some _) rfl rfl Try.func45 (by kernel_rfl) rfl #[.pointer (some ⟨p, 0, none⟩), .int .i64 n] rfl My.gx ?_; (refine (disk_Disk_find.calls (HD.out.up HB.out) n HN.out).mono ?_); rintro e W1 ⟨rfl, hb⟩; refine ⟨_, rfl, ?_⟩; rw [HF_.out, HE_.out]; unfold valD; replace B3 := My.ab B3 hb; clear z3; replace B4 := My.ab B4 hb; clear z4; replace B5 := My.ab B5 hb; clear z5; replace HB := My.st HB hb; clear hb)
    | ((with_reducible refine gate_dst (N := 7) rfl ?_); refine My.bx 7 #[.int .i64 0, .string ⟨#[]⟩, .int .i64 0] 75 ?_; intro g7 hg w7_ hbox hb; have BX := My.am hbox; have GX := My.nge hg HB.out; have N3 := My.nlt hg B3.out; have N4 := My.nlt hg B4.out; have N5 := My.nlt hg B5.out; replace B3 := My.ab B3 hb; replace B4 := My.ab B4 hb; replace B5 := My.ab B5 hb; replace HB := My.st HB hb; clear hb hbox hg; have zx := My.cz3 BX))
  refine at_world (J := fun W => DiskAt base W p bm s ∧ Fr p bm w W ∧ W.heap[g7]? = some (.cells #[.int .i64 F.f0, .string F.f1, .int .i64 F.f2] 75 (0, 0)) ∧ W.heap[g3]? = some (.cells #[.pointer (some ⟨p, 0, none⟩)] 33 (0, 0)) ∧ W.heap[g4]? = some (.cells #[.int .i64 n] 3 (0, 0)) ∧ W.heap[g5]? = some (.cells #[.int .i64 z] 3 (0, 0))) ⟨(HD.out.up (below_set (below_set (below_set HB.out GX.out) GX.out) GX.out)), Fr.of (below_set (below_set (below_set HB.out GX.out) GX.out) GX.out), My.put3 BX.out, My.farA (My.farA (My.farA B3.out N3) N3) N3, My.farA (My.farA (My.farA B4.out N4) N4) N4, My.farA (My.farA (My.farA B5.out N5) N5) N5⟩ ?_
  clear zx HD BX HB B3 B4 B5
  rintro W2 ⟨D2, F2, YX, Y3, Y4, Y5⟩
  have HD := Aside0.mk D2
  have HF := Aside0.mk F2
  have BX := My.am YX
  have B3 := My.am Y3
  have z3 := My.cz1 B3
  have B4 := My.am Y4
  have z4 := My.cz1 B4
  have B5 := My.am Y5
  have z5 := My.cz1 B5
  clear D2 F2 YX Y3 Y4 Y5
  by_cases he : E = 0
  · subst he
    obtain ⟨hdead, hhas, hff⟩ := findE_zero HE_.out
    rw [HF_.out] at hff
    have HH := Aside0.mk hhas
    have HFF := Aside0.mk hff
    have hf0 : F.f0 = n := by rw [hff]; exact (getL_mem' hhas).2
    have HF0 := Aside0.mk hf0
    clear hdead hhas hff hf0
    by_cases hr : z < 1 ∨ z > (F.f1.size : Int)
    · have e1 : R = (s, 2) := by rw [← HR.out]; unfold cutS; rw [if_pos HE_.out, ← HFF.out, if_pos hr]
      subst e1
      clear HR
      have zx := My.cz3 BX
      by_cases d1 : z < 1
      · have b1 : decide (z < 1) = true := decide_eq_true d1
        clear d1 hr
        go_wp2
        go_ret
        exact ⟨rfl, HD.out, HF.out⟩
      · have b1 : decide (z < 1) = false := decide_eq_false d1
        have b2 : decide ((F.f1.size : Int) < z) = true := decide_eq_true (by omega)
        clear d1 hr
        go_wp2
        go_ret
        exact ⟨rfl, HD.out, HF.out⟩
    · have zx := My.cz3 BX
      have b1 : decide (z < 1) = false := decide_eq_false (by omega)
      have b2 : decide ((F.f1.size : Int) < z) = false := decide_eq_false (by omega)
      have HRR := Aside0.mk hr
      have e1 : cutS s n z = chgS s (putL (stepS s).L ⟨F.f0, F.f1.extract 0 z.toNat, z⟩) := by unfold cutS; rw [if_pos HE_.out, ← HFF.out, if_neg hr, stepS_L, HF0.out]
      rw [e1] at HR
      clear e1 hr
      have HCH := Aside0.mk (disk_Disk_change.calls (w0 := w) HD.out HF.out 54 _ Try.func54 (by kernel_rfl) rfl #[.pointer (some ⟨g4, 0, none⟩), .pointer (some ⟨g7, 0, none⟩), .pointer (some ⟨g5, 0, none⟩), .pointer (some ⟨g3, 0, none⟩)] (putL (stepS s).L ⟨F.f0, F.f1.extract 0 z.toNat, z⟩) (fun W hW hFr => cut1.calls hW g4 g7 g5 g3 F z (by rw [stepS_L, HF0.out]; exact ⟨HH.out, HFF.out.symm⟩) (by have := HRR.out; omega) (by have := HRR.out; omega) (by rw [HF0.out]; exact ((hFr.block _ (blk_lt B4.out) (neOf B4.out (cellsOf HD.out) (by decide)) (neMap B4.out HD.out)).trans B4.out)) ((hFr.block _ (blk_lt BX.out) (neOf BX.out (cellsOf HD.out) (by decide)) (neMap BX.out HD.out)).trans BX.out) ((hFr.block _ (blk_lt B5.out) (neOf B5.out (cellsOf HD.out) (by decide)) (neMap B5.out HD.out)).trans B5.out) ((hFr.block _ (blk_lt B3.out) (neOf B3.out (cellsOf HD.out) (by decide)) (neMap B3.out HD.out)).trans B3.out) (HF.out.trans hFr)))
      rw [HR.out] at HCH
      clear HR
      go_wp2_with ((with_reducible refine gate_callee (f := 53) rfl ?_); refine goesL_ (some _) rfl rfl Try.func53 (by kernel_rfl) rfl #[.pointer (some ⟨p, 0, none⟩), .func (.func 54) #[] #[.pointer (some ⟨g4, 0, none⟩), .pointer (some ⟨g7, 0, none⟩), .pointer (some ⟨g5, 0, none⟩), .pointer (some ⟨g3, 0, none⟩)]] rfl My.gx ?_; (refine HCH.out.mono ?_); rintro e W7 ⟨rfl, hD7, hF7⟩; refine ⟨_, rfl, ?_⟩; have HD7 := Aside0.mk hD7; have HF7 := Aside0.mk hF7; clear hD7 hF7)
      go_ret
      exact ⟨rfl, HD7.out, HF7.out⟩
  · have q1 : (E == 0) = false := beq_eq_false_iff_ne.2 he
    have q2 : (E != 0) = true := bne_iff_ne.2 he
    have q3 : decide (E = 0) = false := decide_eq_false he
    have e1 : R = (s, E) := by rw [← HR.out]; unfold cutS; rw [if_neg (by rw [HE_.out]; exact he), HE_.out]
    subst e1
    clear he HR
    go_wp2
    go_ret
    exact ⟨rfl, HD.out, HF.out⟩
end

end Go.Proofs.Ytkcpgaplpmbmoaa.PA
