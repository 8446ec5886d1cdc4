/- A log on a disk, and the document's, walked by hand; Lean checks it. -/
import Derived.Test.YtkcpgaplpmbmoaaGreatPAx14
namespace Go.Proofs.YtkcpgaplpmbmoaaGreat.PA
open Go.RowKit Go.Proofs.YtkcpgaplpmbmoaaGreatW.PrintWords Go.Proofs.YtkcpgaplpmbmoaaGreatW.PrintLast Go.Proofs.YtkcpgaplpmbmoaaGreatW.PrintMore
attribute [local go_sem] max2_int min2_int max_two min_two max_three min_three max_four min_four
set_option linter.unusedVariables false
set_option linter.unusedSimpArgs false

section
variable {base p bm : Nat} {w w0 : World} {s : DS}
set_option maxHeartbeats 8000000 in
set_option maxRecDepth 100000 in
theorem disk_Disk_change.calls (h : DiskAt base w p bm s) (hf0 : Fr p bm w0 w) (fc : FuncId) (fn : Func) (hfn : Tryz.prog.funcs[fc]? = some fn) (hname : (fn.name == "runtime.NumGoroutine") = false) (hbody : fn.body.isSome = true) (cap : Array Value) (L' : List S24)
    (hc : ∀ W, DiskAt base W p bm (stepS s) → Fr p bm w W → Calls Tryz.prog fc cap W fun e W' => e = .returned (.tuple #[]) ∧ DiskAt base W' p bm { stepS s with L := L' } ∧ Fr p bm w0 W') :
    Calls Tryz.prog 43 #[.pointer (some ⟨p, 0, none⟩), .func (.func fc) #[] cap] w fun e w' => e = .returned (.int .i64 (chgS s L').2) ∧ DiskAt base w' p bm (chgS s L').1 ∧ Fr p bm w0 w' := by
  have HD := Aside0.mk h
  have HC := Aside0.mk hc
  have HF0 := Aside0.mk hf0
  clear h hc hf0
  have HCALL := Aside0.mk (disk_Disk_step.calls HD.out)
  cases hls : lastS s with
  | true =>
    have e1 : chgS s L' = (fallS s.keep (stepS s), 150) := by unfold chgS; rw [if_pos hls]
    rw [e1]
    have HK := Aside0.mk (stepS_keep s)
    have HC2 := HCALL.out
    rw [hls] at HC2
    have HCA := Aside0.mk HC2
    clear HCALL hls HC2 e1
    go_enter Tryz.func43, Tryz.ntmps43
    go_wp2_with (first
      | ((with_reducible refine gate_callee (f := 66) rfl ?_); refine goesL_ (some _) rfl rfl Tryz.func66 (by kernel_rfl) rfl #[.pointer (some ⟨p, 0, none⟩)] rfl My.gx ?_; (refine HCA.out.mono ?_); rintro e W6 ⟨rfl, hD6, hF6⟩; refine ⟨_, rfl, ?_⟩; have HF6 := Aside0.mk (HF0.out.trans hF6); obtain ⟨Ak, ck, hck, hfall⟩ := fall_own hD6; rw [HK.out] at hck hfall; have HFA := Aside0.mk hfall; clear hD6 hF6 hfall)
      | ((with_reducible refine gate_callee (f := 67) rfl ?_); refine goesL_ (some _) rfl rfl Tryz.func67 (by kernel_rfl) rfl #[.pointer (some ⟨p, 0, none⟩), .slice Ak s.keep.length ck] rfl My.gx ?_; (refine HFA.out.mono ?_); rintro e W7 ⟨rfl, hD7, hF7⟩; refine ⟨_, rfl, ?_⟩; have HD7 := Aside0.mk hD7; have HF7 := Aside0.mk (HF6.out.trans hF7); clear hD7 hF7))
    go_ret
    exact ⟨rfl, HD7.out, HF7.out⟩
  | false =>
    have e1 : chgS s L' = ({ stepS s with L := L' }, 0) := by unfold chgS; rw [if_neg (by rw [hls]; decide)]
    rw [e1]
    have HC2 := HCALL.out
    rw [hls] at HC2
    have HCA := Aside0.mk HC2
    clear HCALL hls HC2 e1
    go_enter Tryz.func43, Tryz.ntmps43
    go_wp2_with (first
      | ((with_reducible refine gate_callee (f := 66) rfl ?_); refine goesL_ (some _) rfl rfl Tryz.func66 (by kernel_rfl) rfl #[.pointer (some ⟨p, 0, none⟩)] rfl My.gx ?_; (refine HCA.out.mono ?_); rintro e W6 ⟨rfl, hD6, hF6⟩; refine ⟨_, rfl, ?_⟩; have HD6 := Aside0.mk hD6; have HF6 := Aside0.mk hF6; clear hD6 hF6)
      | ((with_reducible refine gate_dst (N := 14) rfl ?_); refine My.goesV_ (f := fc) (first := #[]) (cap := cap) (some 14) rfl rfl hfn hname hbody cap rfl rfl (by simp) ?_; refine (HC.out _ HD6.out HF6.out).mono ?_; rintro e W7 ⟨rfl, hD7, hF7⟩; refine ⟨_, rfl, ?_⟩; have HD7 := Aside0.mk hD7; have HF7 := Aside0.mk hF7; clear hD7 hF7))
    go_ret
    exact ⟨rfl, HD7.out, HF7.out⟩
/-! the closures -/
set_option maxHeartbeats 8000000 in
set_option maxRecDepth 100000 in
theorem sync1.calls (h : DiskAt base w p bm s) (g0 g1 g2 : Nat) (X : S24) (n : Int) (hX : X.f0 = n) (hL : hasL s.L n = true ∧ getL s.L n = X)
    (b0 : w.heap[g0]? = some (.cells #[.int .i64 X.f0, .string X.f1, .int .i64 X.f2] 24 (0, 0))) (b1 : w.heap[g1]? = some (.cells #[.pointer (some ⟨p, 0, none⟩)] 26 (0, 0))) (b2 : w.heap[g2]? = some (.cells #[.int .i64 n] 3 (0, 0))) (hf : Fr p bm w0 w) (hg0 : w0.heap.size ≤ g0) :
    Calls Tryz.prog 79 #[.pointer (some ⟨g0, 0, none⟩), .pointer (some ⟨g1, 0, none⟩), .pointer (some ⟨g2, 0, none⟩)] w fun e w' => e = .returned (.tuple #[]) ∧ DiskAt base w' p bm { s with L := putL s.L ⟨n, X.f1, (X.f1.size : Int)⟩ } ∧ Fr p bm w0 w' := by
  have hu40 := Tryz.underlying24
  have HD := Aside0.mk h
  have B0 := My.am b0
  have B1 := My.am b1
  have B2 := My.am b2
  have HF := Aside0.mk hf
  have HG := Aside0.mk hg0
  have HLL := Aside0.mk hL
  subst hX
  clear h b0 b1 b2 hf hg0 hL
  have hmem := getL_mem' HLL.out.1
  rw [HLL.out.2] at hmem
  have HMEM := Aside0.mk hmem.1
  clear hmem
  go_enter Tryz.func79, Tryz.ntmps79
  have hz := My.cz3 B0
  go_upto_region 1 with (fail)
  refine at_world (J := fun W => DiskAt base W p bm s ∧ Fr p bm w0 W ∧ W.heap[g0]? = some (.cells #[.int .i64 X.f0, .string X.f1, .int .i64 (X.f1.size : Int)] 24 (0, 0)) ∧ W.heap[g1]? = some (.cells #[.pointer (some ⟨p, 0, none⟩)] 26 (0, 0)) ∧ W.heap[g2]? = some (.cells #[.int .i64 X.f0] 3 (0, 0))) ⟨HD.out.set_ B0.out (by decide) (by decide), HF.out.fresh HG.out _, blk_put B0.out 2 _ rfl, (Below.heap_setCell _ _ _ _ ?n1).trans B1.out, (Below.heap_setCell _ _ _ _ ?n2).trans B2.out⟩ ?_
  case n1 =>
    rintro rfl
    have h1 := B0.out
    rw [B1.out] at h1
    injection h1 with h1
    injection h1 with _ h1
    exact absurd h1 (by decide)
  case n2 =>
    rintro rfl
    have h1 := B0.out
    rw [B2.out] at h1
    injection h1 with h1
    injection h1 with _ h1
    exact absurd h1 (by decide)
  clear hz HD HF B0 B1 B2
  rintro W4 ⟨D4, F4, Y0, Y1, Y2⟩
  have HD4 := Aside0.mk (show DiskAt base W4.drew p bm s from D4.move (fun _ _ _ => rfl))
  have HF4 := Aside0.mk (show Fr p bm w0 W4.drew from ⟨F4.os, F4.tape, F4.output, F4.size, F4.block⟩)
  have y0 := My.cz3 (My.am Y0)
  have y1 := My.cz1 (My.am Y1)
  have y2 := My.cz1 (My.am Y2)
  obtain ⟨kv, hbp, hk5, k0, k1, k2, k3, k4, k5, fz⟩ := D4.cells
  clear hbp hk5 k0 k1 k2 k3 k4 fz D4 F4 Y0 Y1 Y2
  have hin := HD4.out.inv
  have hnum := hin.num _ HMEM.out
  have hdat := hin.dat _ HMEM.out
  obtain ⟨W5, hr5, hm5, hg5⟩ := HD4.out.map.put ⟨X.f0, X.f1, (X.f1.size : Int)⟩ (by have := hin.len; omega) (wfn hnum.1 (by show X.f0 ≤ _; omega))
  unfold valD at hr5
  have hi5 : Inv { s with L := putL s.L ⟨X.f0, X.f1, (X.f1.size : Int)⟩ } := hin.put (x := ⟨X.f0, X.f1, (X.f1.size : Int)⟩) hnum ⟨by show (0:Int) ≤ (X.f1.size : Int); omega, by show (X.f1.size : Int) ≤ (X.f1.size : Int); omega, hdat.2.2⟩ (by show useL s.L - ((getL s.L X.f0).f1.size : Int) + (X.f1.size : Int) ≤ s.room; rw [HLL.out.2]; have := hin.use; omega) (.inl HLL.out.1)
  have HD5 := Aside0.mk (HD4.out.remap hg5 hm5 hi5)
  have HF5 := Aside0.mk (HF4.out.grown hg5)
  clear hm5 hg5 hi5 hin hnum hdat
  go_still_tail 6, (by kernel_rfl)
  go_wp2
  refine bodyPost_end (results_none rfl _ _ _) rfl ?_
  exact ⟨rfl, HD5.out, HF5.out⟩
end
section
variable {base p bm : Nat} {w w0 : World} {s : DS}
set_option maxHeartbeats 8000000 in
set_option maxRecDepth 100000 in
theorem cut1.calls (h : DiskAt base w p bm s) (g0 g1 g2 g3 : Nat) (X : S24) (z : Int) (hL : hasL s.L X.f0 = true ∧ getL s.L X.f0 = X) (hz1 : 1 ≤ z) (hz2 : z ≤ (X.f1.size : Int))
    (b0 : w.heap[g0]? = some (.cells #[.int .i64 X.f0] 3 (0, 0))) (b1 : w.heap[g1]? = some (.cells #[.int .i64 X.f0, .string X.f1, .int .i64 X.f2] 24 (0, 0))) (b2 : w.heap[g2]? = some (.cells #[.int .i64 z] 3 (0, 0))) (b3 : w.heap[g3]? = some (.cells #[.pointer (some ⟨p, 0, none⟩)] 26 (0, 0))) (hf : Fr p bm w0 w) :
    Calls Tryz.prog 44 #[.pointer (some ⟨g0, 0, none⟩), .pointer (some ⟨g1, 0, none⟩), .pointer (some ⟨g2, 0, none⟩), .pointer (some ⟨g3, 0, none⟩)] w fun e w' => e = .returned (.tuple #[]) ∧ DiskAt base w' p bm { s with L := putL s.L ⟨X.f0, X.f1.extract 0 z.toNat, z⟩ } ∧ Fr p bm w0 w' := by
  have hu40 := Tryz.underlying24
  have HLL := Aside0.mk hL
  have hmem := getL_mem' hL.1
  rw [hL.2] at hmem
  have HMEM := Aside0.mk hmem.1
  have y0 := My.cz1 (My.am b0)
  have y1 := My.cz3 (My.am b1)
  have y2 := My.cz1 (My.am b2)
  have y3 := My.cz1 (My.am b3)
  have HD4 := Aside0.mk (show DiskAt base w.drew p bm s from h.move (fun _ _ _ => rfl))
  have HF4 := Aside0.mk (show Fr p bm w0 w.drew from ⟨hf.os, hf.tape, hf.output, hf.size, hf.block⟩)
  obtain ⟨kv, hbp, hk5, k0, k1, k2, k3, k4, k5, fz⟩ := h.cells
  clear hbp hk5 k0 k1 k2 k3 k4 fz hL hmem b0 b1 b2 b3 hf h
  have hin := HD4.out.inv
  have hnum := hin.num _ HMEM.out
  have hdat := hin.dat _ HMEM.out
  have hsz : (((X.f1.extract 0 z.toNat).size : Nat) : Int) = z := by rw [ByteArray.size_extract]; omega
  obtain ⟨W5, hr5, hm5, hg5⟩ := HD4.out.map.put ⟨X.f0, X.f1.extract 0 z.toNat, z⟩ (by have := hin.len; omega) (wfn hnum.1 (by show X.f0 ≤ _; omega))
  unfold valD at hr5
  have hi5 : Inv { s with L := putL s.L ⟨X.f0, X.f1.extract 0 z.toNat, z⟩ } := hin.put (x := ⟨X.f0, X.f1.extract 0 z.toNat, z⟩) hnum ⟨by show (0:Int) ≤ z; omega, by show z ≤ ((X.f1.extract 0 z.toNat).size : Int); omega, by show 0 < (X.f1.extract 0 z.toNat).size; omega⟩ (by show useL s.L - ((getL s.L X.f0).f1.size : Int) + ((X.f1.extract 0 z.toNat).size : Int) ≤ s.room; rw [HLL.out.2]; have := hin.use; omega) (.inl HLL.out.1)
  have HD5 := Aside0.mk (HD4.out.remap hg5 hm5 hi5)
  have HF5 := Aside0.mk (HF4.out.grown hg5)
  have z0 : (0 : Int) ≤ z := by omega
  have z0t := eq_true z0
  have z1t := eq_true hz2
  have z0d := decide_eq_true z0
  have z1d := decide_eq_true hz2
  clear hm5 hg5 hi5 hin hnum hdat hsz
  go_enter Tryz.func44, Tryz.ntmps44
  go_still_tail 12, (by kernel_rfl)
  go_wp2
  refine bodyPost_end (results_none rfl _ _ _) rfl ?_
  exact ⟨rfl, HD5.out, HF5.out⟩
set_option maxHeartbeats 8000000 in
set_option maxRecDepth 100000 in
theorem rem1.calls (h : DiskAt base w p bm s) (g0 g1 : Nat) (n : Int) (hn : (Lit.int .i64 n).wf = true) (b0 : w.heap[g0]? = some (.cells #[.pointer (some ⟨p, 0, none⟩)] 26 (0, 0))) (b1 : w.heap[g1]? = some (.cells #[.int .i64 n] 3 (0, 0))) (hf : Fr p bm w0 w) :
    Calls Tryz.prog 68 #[.pointer (some ⟨g0, 0, none⟩), .pointer (some ⟨g1, 0, none⟩)] w fun e w' => e = .returned (.tuple #[]) ∧ DiskAt base w' p bm { s with L := delL s.L n } ∧ Fr p bm w0 w' := by
  have y0 := My.cz1 (My.am b0)
  have y1 := My.cz1 (My.am b1)
  have HD4 := Aside0.mk (show DiskAt base w.drew p bm s from h.move (fun _ _ _ => rfl))
  have HF4 := Aside0.mk (show Fr p bm w0 w.drew from ⟨hf.os, hf.tape, hf.output, hf.size, hf.block⟩)
  obtain ⟨kv, hbp, hk5, k0, k1, k2, k3, k4, k5, fz⟩ := h.cells
  clear hbp hk5 k0 k1 k2 k3 k4 fz b0 b1 hf h
  obtain ⟨W5, hr5, hm5, hg5⟩ := HD4.out.map.del n hn 0
  have HD5 := Aside0.mk (HD4.out.remap hg5 hm5 (HD4.out.inv.del n))
  have HF5 := Aside0.mk (HF4.out.grown hg5)
  clear hm5 hg5 hn
  go_enter Tryz.func68, Tryz.ntmps68
  go_still_tail 5, (by kernel_rfl)
  go_wp2
  refine bodyPost_end (results_none rfl _ _ _) rfl ?_
  exact ⟨rfl, HD5.out, HF5.out⟩
/-! Sync, Cut, Remove -/
def syncS (s : DS) (n : Int) : DS × Int := if findE s n = 0 then chgS s (putL s.L ⟨n, (getL s.L n).f1, ((getL s.L n).f1.size : Int)⟩) else (s, findE s n)
def cutS (s : DS) (n z : Int) : DS × Int := if findE s n = 0 then (if z < 1 ∨ z > ((getL s.L n).f1.size : Int) then (s, 2) else chgS s (putL s.L ⟨n, (getL s.L n).f1.extract 0 z.toNat, z⟩)) else (s, findE s n)
def remS (s : DS) (n : Int) : DS × Int := if findE s n = 0 then chgS s (delL s.L n) else (s, findE s n)
theorem findE_zero {s : DS} {n : Int} (h : findE s n = 0) : s.dead = false ∧ hasL s.L n = true ∧ findF s n = getL s.L n := by
  unfold findE at h
  unfold findF
  by_cases c : s.dead = true
  · rw [if_pos c] at h; omega
  · rw [if_neg c] at h ⊢
    by_cases c2 : hasL s.L n = true
    · rw [if_pos c2]; exact ⟨by simpa using c, c2, rfl⟩
    · rw [if_neg c2] at h; omega
theorem stepS_L (s : DS) : (stepS s).L = s.L := by
  unfold stepS
  split <;> rfl
end
section
variable {base p bm : Nat} {w w0 : World} {s : DS}
theorem cellsOf (h : DiskAt base w p bm s) : ∃ cs, w.heap[p]? = some (.cells cs 52 (0, 0)) := by
  obtain ⟨kv, hb, _⟩ := h.blk
  exact ⟨_, hb⟩
theorem neOf {g t : Nat} {cs : Array Value} (hg : w.heap[g]? = some (.cells cs t (0, 0))) (h : ∃ cs, w.heap[p]? = some (.cells cs 52 (0, 0))) (ht : t ≠ 52) : g ≠ p := by
  obtain ⟨cs', hb⟩ := h
  rintro rfl
  rw [hb] at hg
  injection hg with hg
  injection hg with _ hg
  exact ht hg.symm
theorem neMap {g t : Nat} {cs : Array Value} (hg : w.heap[g]? = some (.cells cs t (0, 0))) (h : DiskAt base w p bm s) : g ≠ bm := by
  obtain ⟨es, clock, hm⟩ := h.map.blk
  rintro rfl
  rw [hm] at hg
  cases hg
set_option maxHeartbeats 8000000 in
set_option maxRecDepth 100000 in
theorem disk_Disk_Sync.calls (h : DiskAt base w p bm s) (n : Int) (hn : (Lit.int .i64 n).wf = true) : Calls Tryz.prog 59 #[.pointer (some ⟨p, 0, none⟩), .int .i64 n] w fun e w' => e = .returned (.int .i64 (syncS s n).2) ∧ DiskAt base w' p bm (syncS s n).1 ∧ Fr p bm w w' := by
  have hu40 := Tryz.underlying24
  have HD := Aside0.mk h
  have HN := Aside0.mk hn
  have HB := My.am (Below.refl w.heap.size w)
  clear h hn
  obtain ⟨R, hR⟩ : ∃ R, syncS s n = R := ⟨_, rfl⟩
  rw [hR]
  have HR := Aside0.mk hR
  obtain ⟨F, hF⟩ : ∃ F, findF s n = F := ⟨_, rfl⟩
  obtain ⟨E, hE⟩ : ∃ E, findE s n = E := ⟨_, rfl⟩
  have HF_ := Aside0.mk hF
  have HE_ := Aside0.mk hE
  clear hR hF hE
  go_enter Tryz.func59, Tryz.ntmps59
  go_upto_region 2 with (first
    | ((with_reducible refine gate_dst (N := 2) rfl ?_); refine My.bx 2 #[.pointer (some ⟨p, 0, none⟩)] 26 ?_; intro g2 hg w2_ hbox hb; have B2 := My.am hbox; have G2 := My.nge hg HB.out; replace HB := My.st HB hb; clear hb hbox hg; have z2 := My.cz1 B2)
    | ((with_reducible refine gate_dst (N := 3) rfl ?_); refine My.bx 3 #[.int .i64 n] 3 ?_; intro g3 hg w3_ hbox hb; have B3 := My.am hbox; have G3 := My.nge hg HB.out; replace B2 := My.ab B2 hb; replace HB := My.st HB hb; clear hb hbox hg; have z3 := My.cz1 B3; clear z2; have z2 := My.cz1 B2)
    | ((with_reducible refine gate_callee (f := 35) rfl ?_); refine goesL_ (some _) rfl rfl Tryz.func35 (by kernel_rfl) rfl #[.pointer (some ⟨p, 0, none⟩), .int .i64 n] rfl My.gx ?_; (refine (disk_Disk_find.calls (HD.out.up HB.out) n HN.out).mono ?_); rintro e W1 ⟨rfl, hb⟩; refine ⟨_, rfl, ?_⟩; rw [HF_.out, HE_.out]; unfold valD; replace B2 := My.ab B2 hb; clear z2; replace B3 := My.ab B3 hb; clear z3; replace HB := My.st HB hb; clear hb)
    | ((with_reducible refine gate_dst (N := 5) rfl ?_); refine My.bx 5 #[.int .i64 0, .string ⟨#[]⟩, .int .i64 0] 24 ?_; intro g5 hg w5_ hbox hb; have BX := My.am hbox; have GX := My.nge hg HB.out; have N2 := My.nlt hg B2.out; have N3 := My.nlt hg B3.out; replace B2 := My.ab B2 hb; replace B3 := My.ab B3 hb; replace HB := My.st HB hb; clear hb hbox hg; have zx := My.cz3 BX))
  refine at_world (J := fun W => DiskAt base W p bm s ∧ Fr p bm w W ∧ W.heap[g5]? = some (.cells #[.int .i64 F.f0, .string F.f1, .int .i64 F.f2] 24 (0, 0)) ∧ W.heap[g2]? = some (.cells #[.pointer (some ⟨p, 0, none⟩)] 26 (0, 0)) ∧ W.heap[g3]? = some (.cells #[.int .i64 n] 3 (0, 0))) ⟨(HD.out.up (below_set (below_set (below_set HB.out GX.out) GX.out) GX.out)), Fr.of (below_set (below_set (below_set HB.out GX.out) GX.out) GX.out), My.put3 BX.out, My.farA (My.farA (My.farA B2.out N2) N2) N2, My.farA (My.farA (My.farA B3.out N3) N3) N3⟩ ?_
  clear zx HD BX HB B2 B3
  rintro W2 ⟨D2, F2, YX, Y2, Y3⟩
  have HD := Aside0.mk D2
  have HF := Aside0.mk F2
  have BX := My.am YX
  have B2 := My.am Y2
  have z2 := My.cz1 B2
  have B3 := My.am Y3
  have z3 := My.cz1 B3
  clear D2 F2 YX Y2 Y3
  by_cases he : E = 0
  · subst he
    obtain ⟨hdead, hhas, hff⟩ := findE_zero HE_.out
    rw [HF_.out] at hff
    have HH := Aside0.mk hhas
    have HFF := Aside0.mk hff
    have hf0 : F.f0 = n := by rw [hff]; exact (getL_mem' hhas).2
    have HF0 := Aside0.mk hf0
    clear hdead hhas hff hf0
    have e1 : syncS s n = chgS s (putL (stepS s).L ⟨n, F.f1, (F.f1.size : Int)⟩) := by unfold syncS; rw [if_pos HE_.out, stepS_L, HFF.out]
    rw [e1] at HR
    clear e1
    have HCH := Aside0.mk (disk_Disk_change.calls (w0 := w) HD.out HF.out 79 _ Tryz.func79 (by kernel_rfl) rfl #[.pointer (some ⟨g5, 0, none⟩), .pointer (some ⟨g2, 0, none⟩), .pointer (some ⟨g3, 0, none⟩)] (putL (stepS s).L ⟨n, F.f1, (F.f1.size : Int)⟩) (fun W hW hFr => sync1.calls hW g5 g2 g3 F n HF0.out (by rw [stepS_L]; exact ⟨HH.out, HFF.out.symm⟩) ((hFr.block _ (blk_lt BX.out) (neOf BX.out (cellsOf HD.out) (by decide)) (neMap BX.out HD.out)).trans BX.out) ((hFr.block _ (blk_lt B2.out) (neOf B2.out (cellsOf HD.out) (by decide)) (neMap B2.out HD.out)).trans B2.out) ((hFr.block _ (blk_lt B3.out) (neOf B3.out (cellsOf HD.out) (by decide)) (neMap B3.out HD.out)).trans B3.out) (HF.out.trans hFr) (by have := GX.out; omega)))
    rw [HR.out] at HCH
    clear HR
    go_wp2_with ((with_reducible refine gate_callee (f := 43) rfl ?_); refine goesL_ (some _) rfl rfl Tryz.func43 (by kernel_rfl) rfl #[.pointer (some ⟨p, 0, none⟩), .func (.func 79) #[] #[.pointer (some ⟨g5, 0, none⟩), .pointer (some ⟨g2, 0, none⟩), .pointer (some ⟨g3, 0, none⟩)]] rfl My.gx ?_; (refine HCH.out.mono ?_); rintro e W7 ⟨rfl, hD7, hF7⟩; refine ⟨_, rfl, ?_⟩; have HD7 := Aside0.mk hD7; have HF7 := Aside0.mk hF7; clear hD7 hF7)
    go_ret
    exact ⟨rfl, HD7.out, HF7.out⟩
  · have q1 : (E == 0) = false := beq_eq_false_iff_ne.2 he
    have q2 : (E != 0) = true := bne_iff_ne.2 he
    have q3 : decide (E = 0) = false := decide_eq_false he
    have e1 : R = (s, E) := by rw [← HR.out]; unfold syncS; rw [if_neg (by rw [HE_.out]; exact he), HE_.out]
    subst e1
    clear he HR
    go_wp2
    go_ret
    exact ⟨rfl, HD.out, HF.out⟩
set_option maxHeartbeats 8000000 in
set_option maxRecDepth 100000 in
theorem disk_Disk_Remove.calls (h : DiskAt base w p bm s) (n : Int) (hn : (Lit.int .i64 n).wf = true) : Calls Tryz.prog 45 #[.pointer (some ⟨p, 0, none⟩), .int .i64 n] w fun e w' => e = .returned (.int .i64 (remS s n).2) ∧ DiskAt base w' p bm (remS s n).1 ∧ Fr p bm w w' := by
  have hu40 := Tryz.underlying24
  have HD := Aside0.mk h
  have HN := Aside0.mk hn
  have HB := My.am (Below.refl w.heap.size w)
  clear h hn
  obtain ⟨R, hR⟩ : ∃ R, remS s n = R := ⟨_, rfl⟩
  rw [hR]
  have HR := Aside0.mk hR
  obtain ⟨F, hF⟩ : ∃ F, findF s n = F := ⟨_, rfl⟩
  obtain ⟨E, hE⟩ : ∃ E, findE s n = E := ⟨_, rfl⟩
  have HF_ := Aside0.mk hF
  have HE_ := Aside0.mk hE
  clear hR hF hE
  go_enter Tryz.func45, Tryz.ntmps45
  go_upto_region 2 with (first
    | ((with_reducible refine gate_dst (N := 2) rfl ?_); refine My.bx 2 #[.pointer (some ⟨p, 0, none⟩)] 26 ?_; intro g2 hg w2_ hbox hb; have B2 := My.am hbox; have G2 := My.nge hg HB.out; replace HB := My.st HB hb; clear hb hbox hg; have z2 := My.cz1 B2)
    | ((with_reducible refine gate_dst (N := 3) rfl ?_); refine My.bx 3 #[.int .i64 n] 3 ?_; intro g3 hg w3_ hbox hb; have B3 := My.am hbox; have G3 := My.nge hg HB.out; replace B2 := My.ab B2 hb; replace HB := My.st HB hb; clear hb hbox hg; have z3 := My.cz1 B3; clear z2; have z2 := My.cz1 B2)
    | ((with_reducible refine gate_callee (f := 35) rfl ?_); refine goesL_ (some _) rfl rfl Tryz.func35 (by kernel_rfl) rfl #[.pointer (some ⟨p, 0, none⟩), .int .i64 n] rfl My.gx ?_; (refine (disk_Disk_find.calls (HD.out.up HB.out) n HN.out).mono ?_); rintro e W1 ⟨rfl, hb⟩; refine ⟨_, rfl, ?_⟩; rw [HF_.out, HE_.out]; unfold valD; replace B2 := My.ab B2 hb; clear z2; replace B3 := My.ab B3 hb; clear z3; replace HB := My.st HB hb; clear hb)
    | ((with_reducible refine gate_dst (N := 5) rfl ?_); refine My.bx 5 #[.int .i64 0, .string ⟨#[]⟩, .int .i64 0] 24 ?_; intro g5 hg w5_ hbox hb; have BX := My.am hbox; have GX := My.nge hg HB.out; have N2 := My.nlt hg B2.out; have N3 := My.nlt hg B3.out; replace B2 := My.ab B2 hb; replace B3 := My.ab B3 hb; replace HB := My.st HB hb; clear hb hbox hg; have zx := My.cz3 BX))
  refine at_world (J := fun W => DiskAt base W p bm s ∧ Fr p bm w W ∧ W.heap[g5]? = some (.cells #[.int .i64 F.f0, .string F.f1, .int .i64 F.f2] 24 (0, 0)) ∧ W.heap[g2]? = some (.cells #[.pointer (some ⟨p, 0, none⟩)] 26 (0, 0)) ∧ W.heap[g3]? = some (.cells #[.int .i64 n] 3 (0, 0))) ⟨(HD.out.up (below_set (below_set (below_set HB.out GX.out) GX.out) GX.out)), Fr.of (below_set (below_set (below_set HB.out GX.out) GX.out) GX.out), My.put3 BX.out, My.farA (My.farA (My.farA B2.out N2) N2) N2, My.farA (My.farA (My.farA B3.out N3) N3) N3⟩ ?_
  clear zx HD BX HB B2 B3
  rintro W2 ⟨D2, F2, YX, Y2, Y3⟩
  have HD := Aside0.mk D2
  have HF := Aside0.mk F2
  have BX := My.am YX
  have B2 := My.am Y2
  have z2 := My.cz1 B2
  have B3 := My.am Y3
  have z3 := My.cz1 B3
  clear D2 F2 YX Y2 Y3
  by_cases he : E = 0
  · subst he
    obtain ⟨hdead, hhas, hff⟩ := findE_zero HE_.out
    rw [HF_.out] at hff
    have HH := Aside0.mk hhas
    have HFF := Aside0.mk hff
    have hf0 : F.f0 = n := by rw [hff]; exact (getL_mem' hhas).2
    have HF0 := Aside0.mk hf0
    clear hdead hhas hff hf0
    have e1 : remS s n = chgS s (delL (stepS s).L n) := by unfold remS; rw [if_pos HE_.out, stepS_L]
    rw [e1] at HR
    clear e1
    have HCH := Aside0.mk (disk_Disk_change.calls (w0 := w) HD.out HF.out 68 _ Tryz.func68 (by kernel_rfl) rfl #[.pointer (some ⟨g2, 0, none⟩), .pointer (some ⟨g3, 0, none⟩)] (delL (stepS s).L n) (fun W hW hFr => rem1.calls hW g2 g3 n HN.out ((hFr.block _ (blk_lt B2.out) (neOf B2.out (cellsOf HD.out) (by decide)) (neMap B2.out HD.out)).trans B2.out) ((hFr.block _ (blk_lt B3.out) (neOf B3.out (cellsOf HD.out) (by decide)) (neMap B3.out HD.out)).trans B3.out) (HF.out.trans hFr)))
    rw [HR.out] at HCH
    clear HR
    go_wp2_with ((with_reducible refine gate_callee (f := 43) rfl ?_); refine goesL_ (some _) rfl rfl Tryz.func43 (by kernel_rfl) rfl #[.pointer (some ⟨p, 0, none⟩), .func (.func 68) #[] #[.pointer (some ⟨g2, 0, none⟩), .pointer (some ⟨g3, 0, none⟩)]] rfl My.gx ?_; (refine HCH.out.mono ?_); rintro e W7 ⟨rfl, hD7, hF7⟩; refine ⟨_, rfl, ?_⟩; have HD7 := Aside0.mk hD7; have HF7 := Aside0.mk hF7; clear hD7 hF7)
    go_ret
    exact ⟨rfl, HD7.out, HF7.out⟩
  · have q1 : (E == 0) = false := beq_eq_false_iff_ne.2 he
    have q2 : (E != 0) = true := bne_iff_ne.2 he
    have q3 : decide (E = 0) = false := decide_eq_false he
    have e1 : R = (s, E) := by rw [← HR.out]; unfold remS; rw [if_neg (by rw [HE_.out]; exact he), HE_.out]
    subst e1
    clear he HR
    go_wp2
    go_ret
    exact ⟨rfl, HD.out, HF.out⟩
set_option maxHeartbeats 8000000 in
set_option maxRecDepth 100000 in
theorem disk_Disk_Cut.calls (h : DiskAt base w p bm s) (n : Int) (hn : (Lit.int .i64 n).wf = true) (z : Int) : Calls Tryz.prog 20 #[.pointer (some ⟨p, 0, none⟩), .int .i64 n, .int .i64 z] w fun e w' => e = .returned (.int .i64 (cutS s n z).2) ∧ DiskAt base w' p bm (cutS s n z).1 ∧ Fr p bm w w' := by
  have hu40 := Tryz.underlying24
  have HD := Aside0.mk h
  have HN := Aside0.mk hn
  have HB := My.am (Below.refl w.heap.size w)
  clear h hn
  obtain ⟨R, hR⟩ : ∃ R, cutS s n z = R := ⟨_, rfl⟩
  rw [hR]
  have HR := Aside0.mk hR
  obtain ⟨F, hF⟩ : ∃ F, findF s n = F := ⟨_, rfl⟩
  obtain ⟨E, hE⟩ : ∃ E, findE s n = E := ⟨_, rfl⟩
  have HF_ := Aside0.mk hF
  have HE_ := Aside0.mk hE
  clear hR hF hE
  go_enter Tryz.func20, Tryz.ntmps20
  go_upto_region 2 with (first
    | ((with_reducible refine gate_dst (N := 3) rfl ?_); refine My.bx 3 #[.pointer (some ⟨p, 0, none⟩)] 26 ?_; intro g3 hg w3_ hbox hb; have B3 := My.am hbox; have G3 := My.nge hg HB.out; replace HB := My.st HB hb; clear hb hbox hg; have z3 := My.cz1 B3)
    | ((with_reducible refine gate_dst (N := 4) rfl ?_); refine My.bx 4 #[.int .i64 n] 3 ?_; intro g4 hg w4_ hbox hb; have B4 := My.am hbox; have G4 := My.nge hg HB.out; replace B3 := My.ab B3 hb; replace HB := My.st HB hb; clear hb hbox hg; have z4 := My.cz1 B4; clear z3; have z3 := My.cz1 B3)
    | ((with_reducible refine gate_dst (N := 5) rfl ?_); refine My.bx 5 #[.int .i64 z] 3 ?_; intro g5 hg w5_ hbox hb; have B5 := My.am hbox; have G5 := My.nge hg HB.out; replace B3 := My.ab B3 hb; replace B4 := My.ab B4 hb; replace HB := My.st HB hb; clear hb hbox hg; have z5 := My.cz1 B5; clear z3; have z3 := My.cz1 B3; clear z4; have z4 := My.cz1 B4)
    | ((with_reducible refine gate_callee (f := 35) rfl ?_); refine goesL_ (some _) rfl rfl Tryz.func35 (by kernel_rfl) rfl #[.pointer (some ⟨p, 0, none⟩), .int .i64 n] rfl My.gx ?_; (refine (disk_Disk_find.calls (HD.out.up HB.out) n HN.out).mono ?_); rintro e W1 ⟨rfl, hb⟩; refine ⟨_, rfl, ?_⟩; rw [HF_.out, HE_.out]; unfold valD; replace B3 := My.ab B3 hb; clear z3; replace B4 := My.ab B4 hb; clear z4; replace B5 := My.ab B5 hb; clear z5; replace HB := My.st HB hb; clear hb)
    | ((with_reducible refine gate_dst (N := 7) rfl ?_); refine My.bx 7 #[.int .i64 0, .string ⟨#[]⟩, .int .i64 0] 24 ?_; intro g7 hg w7_ hbox hb; have BX := My.am hbox; have GX := My.nge hg HB.out; have N3 := My.nlt hg B3.out; have N4 := My.nlt hg B4.out; have N5 := My.nlt hg B5.out; replace B3 := My.ab B3 hb; replace B4 := My.ab B4 hb; replace B5 := My.ab B5 hb; replace HB := My.st HB hb; clear hb hbox hg; have zx := My.cz3 BX))
  refine at_world (J := fun W => DiskAt base W p bm s ∧ Fr p bm w W ∧ W.heap[g7]? = some (.cells #[.int .i64 F.f0, .string F.f1, .int .i64 F.f2] 24 (0, 0)) ∧ W.heap[g3]? = some (.cells #[.pointer (some ⟨p, 0, none⟩)] 26 (0, 0)) ∧ W.heap[g4]? = some (.cells #[.int .i64 n] 3 (0, 0)) ∧ W.heap[g5]? = some (.cells #[.int .i64 z] 3 (0, 0))) ⟨(HD.out.up (below_set (below_set (below_set HB.out GX.out) GX.out) GX.out)), Fr.of (below_set (below_set (below_set HB.out GX.out) GX.out) GX.out), My.put3 BX.out, My.farA (My.farA (My.farA B3.out N3) N3) N3, My.farA (My.farA (My.farA B4.out N4) N4) N4, My.farA (My.farA (My.farA B5.out N5) N5) N5⟩ ?_
  clear zx HD BX HB B3 B4 B5
  rintro W2 ⟨D2, F2, YX, Y3, Y4, Y5⟩
  have HD := Aside0.mk D2
  have HF := Aside0.mk F2
  have BX := My.am YX
  have B3 := My.am Y3
  have z3 := My.cz1 B3
  have B4 := My.am Y4
  have z4 := My.cz1 B4
  have B5 := My.am Y5
  have z5 := My.cz1 B5
  clear D2 F2 YX Y3 Y4 Y5
  by_cases he : E = 0
  · subst he
    obtain ⟨hdead, hhas, hff⟩ := findE_zero HE_.out
    rw [HF_.out] at hff
    have HH := Aside0.mk hhas
    have HFF := Aside0.mk hff
    have hf0 : F.f0 = n := by rw [hff]; exact (getL_mem' hhas).2
    have HF0 := Aside0.mk hf0
    clear hdead hhas hff hf0
    by_cases hr : z < 1 ∨ z > (F.f1.size : Int)
    · have e1 : R = (s, 2) := by rw [← HR.out]; unfold cutS; rw [if_pos HE_.out, ← HFF.out, if_pos hr]
      subst e1
      clear HR
      have zx := My.cz3 BX
      by_cases d1 : z < 1
      · have b1 : decide (z < 1) = true := decide_eq_true d1
        clear d1 hr
        go_wp2
        go_ret
        exact ⟨rfl, HD.out, HF.out⟩
      · have b1 : decide (z < 1) = false := decide_eq_false d1
        have b2 : decide ((F.f1.size : Int) < z) = true := decide_eq_true (by omega)
        clear d1 hr
        go_wp2
        go_ret
        exact ⟨rfl, HD.out, HF.out⟩
    · have zx := My.cz3 BX
      have b1 : decide (z < 1) = false := decide_eq_false (by omega)
      have b2 : decide ((F.f1.size : Int) < z) = false := decide_eq_false (by omega)
      have HRR := Aside0.mk hr
      have e1 : cutS s n z = chgS s (putL (stepS s).L ⟨F.f0, F.f1.extract 0 z.toNat, z⟩) := by unfold cutS; rw [if_pos HE_.out, ← HFF.out, if_neg hr, stepS_L, HF0.out]
      rw [e1] at HR
      clear e1 hr
      have HCH := Aside0.mk (disk_Disk_change.calls (w0 := w) HD.out HF.out 44 _ Tryz.func44 (by kernel_rfl) rfl #[.pointer (some ⟨g4, 0, none⟩), .pointer (some ⟨g7, 0, none⟩), .pointer (some ⟨g5, 0, none⟩), .pointer (some ⟨g3, 0, none⟩)] (putL (stepS s).L ⟨F.f0, F.f1.extract 0 z.toNat, z⟩) (fun W hW hFr => cut1.calls hW g4 g7 g5 g3 F z (by rw [stepS_L, HF0.out]; exact ⟨HH.out, HFF.out.symm⟩) (by have := HRR.out; omega) (by have := HRR.out; omega) (by rw [HF0.out]; exact ((hFr.block _ (blk_lt B4.out) (neOf B4.out (cellsOf HD.out) (by decide)) (neMap B4.out HD.out)).trans B4.out)) ((hFr.block _ (blk_lt BX.out) (neOf BX.out (cellsOf HD.out) (by decide)) (neMap BX.out HD.out)).trans BX.out) ((hFr.block _ (blk_lt B5.out) (neOf B5.out (cellsOf HD.out) (by decide)) (neMap B5.out HD.out)).trans B5.out) ((hFr.block _ (blk_lt B3.out) (neOf B3.out (cellsOf HD.out) (by decide)) (neMap B3.out HD.out)).trans B3.out) (HF.out.trans hFr)))
      rw [HR.out] at HCH
      clear HR
      go_wp2_with ((with_reducible refine gate_callee (f := 43) rfl ?_); refine goesL_ (some _) rfl rfl Tryz.func43 (by kernel_rfl) rfl #[.pointer (some ⟨p, 0, none⟩), .func (.func 44) #[] #[.pointer (some ⟨g4, 0, none⟩), .pointer (some ⟨g7, 0, none⟩), .pointer (some ⟨g5, 0, none⟩), .pointer (some ⟨g3, 0, none⟩)]] rfl My.gx ?_; (refine HCH.out.mono ?_); rintro e W7 ⟨rfl, hD7, hF7⟩; refine ⟨_, rfl, ?_⟩; have HD7 := Aside0.mk hD7; have HF7 := Aside0.mk hF7; clear hD7 hF7)
      go_ret
      exact ⟨rfl, HD7.out, HF7.out⟩
  · have q1 : (E == 0) = false := beq_eq_false_iff_ne.2 he
    have q2 : (E != 0) = true := bne_iff_ne.2 he
    have q3 : decide (E = 0) = false := decide_eq_false he
    have e1 : R = (s, E) := by rw [← HR.out]; unfold cutS; rw [if_neg (by rw [HE_.out]; exact he), HE_.out]
    subst e1
    clear he HR
    go_wp2
    go_ret
    exact ⟨rfl, HD.out, HF.out⟩
end

def slices_Clone_int_int.f (l0 : List Int) : Option (List Int) := if l0.length * 8 ≤ 140737488351232 then some l0 else none
theorem slices_Clone_int_int.info : (Tryz.prog.info? 3).map (fun i => (i.zero, i.size, i.bytes)) = some (some (.int .i64 0), (Kd.int .i64).sz, 8) := by kernel_rfl
section
variable {base p bm : Nat} {w w0 : World} {s : DS}
set_option maxHeartbeats 4000000 in
set_option maxRecDepth 100000 in
theorem disk_Disk_Read.calls (h : DiskAt base w p bm s) (n : Int) (hn : (Lit.int .i64 n).wf = true) : Calls Tryz.prog 18 #[.pointer (some ⟨p, 0, none⟩), .int .i64 n] w fun e w' => e = .returned (.tuple #[.string (findF s n).f1, .int .i64 (findE s n)]) ∧ Below w.heap.size w w' := by
  have hu40 := Tryz.underlying24
  have HD := Aside0.mk h
  have HN := Aside0.mk hn
  have HB := My.am (Below.refl w.heap.size w)
  clear h hn
  obtain ⟨F, hF⟩ : ∃ F, findF s n = F := ⟨_, rfl⟩
  obtain ⟨E, hE⟩ : ∃ E, findE s n = E := ⟨_, rfl⟩
  rw [hF, hE]
  have HF_ := Aside0.mk hF
  have HE_ := Aside0.mk hE
  clear hF hE
  go_enter Tryz.func18, Tryz.ntmps18
  go_wp2_with (first
    | ((with_reducible refine gate_callee (f := 35) rfl ?_); refine goesL_ (some _) rfl rfl Tryz.func35 (by kernel_rfl) rfl #[.pointer (some ⟨p, 0, none⟩), .int .i64 n] rfl My.gx ?_; (refine (disk_Disk_find.calls HD.out n HN.out).mono ?_); rintro e W1 ⟨rfl, hb⟩; refine ⟨_, rfl, ?_⟩; rw [HF_.out, HE_.out]; unfold valD; replace HB := My.st HB hb; clear hb)
    | ((with_reducible refine gate_dst (N := 6) rfl ?_); refine My.bx 6 #[.int .i64 0, .string ⟨#[]⟩, .int .i64 0] 24 ?_; intro g6 hg w6_ hbox hb; have BX := My.am hbox; have GX := My.nge hg HB.out; replace HB := My.st HB hb; clear hb hbox hg; have zx := My.cz3 BX))
  go_ret2
  exact ⟨rfl, below_set (below_set (below_set HB.out GX.out) GX.out) GX.out⟩
def armS (s : DS) (n : Int) (ks : List Int) : DS × Int := if s.dead = true then (s, 150) else if n < 0 then (s, 2) else ({ s with armed := n, keep := ks }, 0)
def crashS (s : DS) (ks : List Int) : DS × Int := if s.dead = true then (s, 150) else (fallS ks s, 0)
theorem arm_inv (h : Inv s) {n : Int} (h0 : 0 ≤ n) (h1 : n ≤ 9223372036854775807) (ks : List Int) : Inv { s with armed := n, keep := ks } := ⟨h.srt, h.num, h.dat, h.use, h.room, h.len, ⟨h0, h1⟩⟩
end
/-! #### a disk is made -/
def okF (l : List S24) (i : Nat) (left : Int) : Prop := 0 ≤ (rd_T24 l (i : Int)).f0 ∧ (rd_T24 l (i : Int)).f0 ≤ 1000000 ∧ (0 < i → (rd_T24 l ((i : Int) - 1)).f0 < (rd_T24 l (i : Int)).f0) ∧ (rd_T24 l (i : Int)).f1.size ≠ 0 ∧ 0 ≤ (rd_T24 l (i : Int)).f2 ∧ (rd_T24 l (i : Int)).f2 ≤ ((rd_T24 l (i : Int)).f1.size : Int) ∧ ((rd_T24 l (i : Int)).f1.size : Int) ≤ left
def okL (room : Int) (l : List S24) : Prop := 0 ≤ room ∧ room ≤ 200000 ∧ l.length ≤ 8 ∧ ∀ i, i < l.length → okF l i (room - useL (l.take i))
theorem rd_take {l : List S24} {i j : Nat} (h : j < i) (hi : i ≤ l.length) : rd_T24 (l.take i) (j : Int) = rd_T24 l (j : Int) := by
  unfold rd_T24
  rw [Int.toNat_natCast, List.getD_eq_getElem?_getD, List.getD_eq_getElem?_getD, List.getElem?_take, if_pos h]
theorem last_lt {A : List S24} {n : Int} (h : A.Pairwise (fun x y => x.f0 < y.f0)) (hl : 0 < A.length → (rd_T24 A ((A.length : Int) - 1)).f0 < n) : ∀ y ∈ A, y.f0 < n := by
  intro y hy
  rcases List.eq_nil_or_concat A with rfl | ⟨B, z, rfl⟩
  · simp at hy
  · rw [List.concat_eq_append] at *
    have h1 := hl (by simp)
    have e : rd_T24 (B ++ [z]) (((B ++ [z]).length : Int) - 1) = z := by
      unfold rd_T24
      have : (((B ++ [z]).length : Int) - 1).toNat = B.length := by simp
      rw [this, List.getD_eq_getElem?_getD, List.getElem?_append_right (Nat.le_refl _)]
      simp
    rw [e] at h1
    rcases List.mem_append.1 hy with hy | hy
    · have := (List.pairwise_append.1 h).2.2 y hy z (by simp)
      omega
    · rw [List.mem_singleton.1 hy]; exact h1
theorem load_step {l : List S24} {room : Int} {i : Nat} (hi : i < l.length) (h : Inv ⟨false, room, 0, [], l.take i⟩) (hok : okF l i (room - useL (l.take i))) (h8 : l.length ≤ 8) : putL (l.take i) (rd_T24 l (i : Int)) = l.take (i + 1) ∧ Inv ⟨false, room, 0, [], l.take (i + 1)⟩ := by
  obtain ⟨o1, o2, o3, o4, o5, o6, o7⟩ := hok
  have hlen : (l.take i).length = i := by rw [List.length_take]; omega
  have hlt : ∀ y ∈ l.take i, y.f0 < (rd_T24 l (i : Int)).f0 := by
    refine last_lt h.srt (fun hp => ?_)
    rw [hlen] at hp ⊢
    have e : ((i : Int) - 1) = ((i - 1 : Nat) : Int) := by omega
    rw [e, rd_take (by omega) (by omega), ← e]
    exact o3 hp
  have e1 : putL (l.take i) (rd_T24 l (i : Int)) = l.take (i + 1) := by
    unfold putL
    rw [(hasL_false (fun y hy => by have := hlt y hy; omega)).2.2, take40 l i hi]
    have := insL_mid (x := rd_T24 l (i : Int)) (r := []) (l.take i) hlt (by simp)
    simpa using this
  refine ⟨e1, ?_⟩
  rw [← e1]
  refine h.put ⟨o1, o2⟩ ⟨o5, o6, by omega⟩ ?_ (.inr ?_)
  · show useL (l.take i) - ((getL (l.take i) (rd_T24 l (i : Int)).f0).f1.size : Int) + ((rd_T24 l (i : Int)).f1.size : Int) ≤ room
    omega
  · show (l.take i).length < 8
    omega
set_option maxHeartbeats 16000000 in
set_option maxRecDepth 100000 in
theorem disk_Load.calls (w : World) (room : Int) (A : Option Addr) (c : Nat) (l : List S24) (hr : Kd.C k24 w A l.length l) (hc : l.length ≤ c) :
    Calls Tryz.prog 5 #[.int .i64 room, .slice A l.length c] w fun e w' => Below w.heap.size w w' ∧ ((okL room l ∧ ∃ p bm, e = .returned (.tuple #[.pointer (some ⟨p, 0, none⟩), .int .i64 0]) ∧ DiskAt w.heap.size w' p bm ⟨false, room, 0, [], l⟩) ∨ (¬ okL room l ∧ e = .returned (.tuple #[.pointer none, .int .i64 2]))) := by
  have hu40 := Tryz.underlying24
  have HR := Aside0.mk hr
  have HB := My.am (Below.refl w.heap.size w)
  clear hr hc
  by_cases hbad : room < 0 ∨ room > 200000 ∨ l.length > 8
  · have hno : ¬ okL room l := fun h => by obtain ⟨h1, h2, h3, _⟩ := h; omega
    have HNO := Aside0.mk hno
    clear hno
    by_cases d1 : room < 0
    · have b1 : decide (room < 0) = true := decide_eq_true d1
      clear d1 hbad
      go_enter Tryz.func5, Tryz.ntmps5
      go_wp2
      go_ret2
      exact ⟨HB.out, .inr ⟨HNO.out, rfl⟩⟩
    · have b1 : decide (room < 0) = false := decide_eq_false d1
      by_cases d2 : room > 200000
      · have b2 : decide (200000 < room) = true := decide_eq_true d2
        clear d1 d2 hbad
        go_enter Tryz.func5, Tryz.ntmps5
        go_wp2
        go_ret2
        exact ⟨HB.out, .inr ⟨HNO.out, rfl⟩⟩
      · have b2 : decide (200000 < room) = false := decide_eq_false d2
        have b3 : decide (8 < (l.length : Int)) = true := decide_eq_true (by omega)
        clear d1 d2 hbad
        go_enter Tryz.func5, Tryz.ntmps5
        go_wp2
        go_ret2
        exact ⟨HB.out, .inr ⟨HNO.out, rfl⟩⟩
  · have b1 : decide (room < 0) = false := decide_eq_false (by omega)
    have b2 : decide (200000 < room) = false := decide_eq_false (by omega)
    have b3 : decide (8 < (l.length : Int)) = false := decide_eq_false (by omega)
    have HG := Aside0.mk hbad
    clear hbad
    have hmk : (Instr.makeMap 50 none).run Tryz.prog w = .ok (.map (some w.heap.size)) (w.alloc (.map #[] 0)) := by kernel_rfl
    go_enter Tryz.func5, Tryz.ntmps5
    go_upto_region 5 with ((with_reducible refine gate_dst (N := 24) rfl ?_); refine My.bx 24 #[.bool true, .bool false, .int .i64 room, .int .i64 0, .slice none 0 0, .map (some w.heap.size)] 52 ?_; intro p hg w24 hbox hb; have BX := My.am hbox; have HG24 := Aside0.mk hg; have HB24 := Aside0.mk hb; clear hb hbox hg)
    refine at_world (J := fun W => DiskAt w.heap.size W p w.heap.size ⟨false, room, 0, [], l.take 0⟩ ∧ Below w.heap.size w W) ⟨⟨⟨by simp, by simp, by simp, by have := HG.out; show useL [] ≤ room; simp [useL]; omega, by have := HG.out; show room ≤ 200000; omega, by simp, by show (0:Int) ≤ 0 ∧ (0:Int) ≤ 9223372036854775807; omega⟩, ⟨_, BX.out, Kd.R_nil _ _ _ _ _⟩, (MapAt.made w).move (HB24.out.block _ (by simp)), by rw [HG24.out]; simp, Nat.le_refl _⟩, ((Below.refl _ w).alloc (Nat.le_refl _) _).trans (HB24.out.mono (by simp))⟩ ?_
    clear BX HG24 HB24 HB b1 b2 b3
    rintro W1 ⟨D1, F1⟩
    have HD := Aside0.mk D1
    have HB := Aside0.mk F1
    clear D1 F1
    go_wp2
    go_loopg [7, 28] (l.length + 1) (fun kq v7 v28 w' => ∃ (i : Nat) (x left : Int), v7 = .int .i64 left ∧ v28 = .int .i64 x ∧ Aside0 (x = (i : Int)) ∧ Aside0 (left = room - useL (l.take i)) ∧ Aside0 (kq + i = l.length + 1) ∧ Aside0 (i ≤ l.length) ∧ Aside0 (∀ j, j < i → okF l j (room - useL (l.take j))) ∧ Aside0 (DiskAt w.heap.size w' p w.heap.size ⟨false, room, 0, [], l.take i⟩) ∧ Aside0 (Below w.heap.size w w'))
    case atStart => exact ⟨0, _, _, rfl, rfl, ⟨rfl⟩, ⟨by simp [useL]⟩, ⟨rfl⟩, ⟨Nat.zero_le _⟩, ⟨fun j hj => absurd hj (Nat.not_lt_zero _)⟩, HD, HB⟩
    case round =>
      clear HD HB
      obtain ⟨i, x, left, rfl, rfl, hx, hleft, hk, hi, HOK, HD, HB⟩ := hrel
      by_cases c9 : i < l.length
      · have q1 : x < (l.length : Int) := by have := hx.out; omega
        have p1 : (0 : Int) ≤ x := by have := hx.out; omega
        have c3 : decide (x < (l.length : Int)) = true := decide_eq_true q1
        obtain ⟨ad, e1, x0, x1, x2⟩ := at_T24 (Kd.C_below HR.out HB.out) x p1 q1
        cases e1
        have HCI := Aside0.mk c9
        clear c9
        have p2 := eq_true p1
        have q2 := eq_true q1
        obtain ⟨F, hF⟩ : ∃ F, rd_T24 l x = F := ⟨_, rfl⟩
        rw [hF] at x0 x1 x2
        have HFX := Aside0.mk hF
        clear hF
        go_upto_region 8 with ((with_reducible refine gate_dst (N := 9) rfl ?_); refine My.bx 9 #[.int .i64 0, .string ⟨#[]⟩, .int .i64 0] 24 ?_; intro g9 hg w9 hbox hb; have BX := My.am hbox; have HB9 := Aside0.mk hb; have G9 := Aside0.mk (show wr.heap.size ≤ g9 by rw [hg]; exact Nat.le_refl _); clear hb hbox hg x0 x1 x2; have hz := My.cz3 BX)
        refine at_world (J := fun W => Below wr.heap.size wr W ∧ W.heap[g9]? = some (.cells #[.int .i64 F.f0, .string F.f1, .int .i64 F.f2] 24 (0, 0))) ⟨below_set (below_set (below_set HB9.out G9.out) G9.out) G9.out, My.put3 BX.out⟩ ?_
        clear BX HB9 hz
        rintro W2 ⟨B2, Y2⟩
        have HB2 := Aside0.mk B2
        have HY2 := My.am Y2
        have HDD := Aside0.mk (HD.out.up B2)
        have HBB := Aside0.mk (HB.out.trans (B2.mono HB.out.size))
        clear B2 Y2 HD
        go_cut [80] (fun v80 wc => ∃ b, v80 = .bool b ∧ Aside0 (b = true ↔ ¬ okF l i left) ∧ Aside0 (DiskAt w.heap.size wc p w.heap.size ⟨false, room, 0, [], l.take i⟩) ∧ Aside0 (Below w.heap.size w wc) ∧ Aside0 (wc.heap[g9]? = some (.cells #[.int .i64 F.f0, .string F.f1, .int .i64 F.f2] 24 (0, 0))))
        case first =>
          have hz := My.cz3 HY2
          by_cases d1 : F.f0 < 0
          · have t1 : decide (F.f0 < 0) = true := decide_eq_true d1
            have DD := Aside0.mk d1
            clear d1
            go_quiet (fail)
            try go_wp2
            go_meet
            case rel => exact ⟨true, by first | rfl | simp, ⟨⟨fun _ h => by have h0 := hx.out; have h1 := HFX.out; subst h0; unfold okF at h; rw [h1] at h; obtain ⟨o1, o2, o3, o4, o5, o6, o7⟩ := h; have := DD.out; omega, fun _ => rfl⟩⟩, ⟨HDD.out.move (fun _ _ _ => rfl)⟩, ⟨pw_below_drewN HBB.out _⟩, ⟨HY2.out⟩⟩
          · have t1 : decide (F.f0 < 0) = false := decide_eq_false d1
            have D1 := Aside0.mk d1
            clear d1
            by_cases d2 : F.f0 > 1000000
            · have t2 : decide (1000000 < F.f0) = true := decide_eq_true d2
              have DD := Aside0.mk d2
              clear d2
              go_quiet (fail)
              try go_wp2
              go_meet
              case rel => exact ⟨true, by first | rfl | simp, ⟨⟨fun _ h => by have h0 := hx.out; have h1 := HFX.out; subst h0; unfold okF at h; rw [h1] at h; obtain ⟨o1, o2, o3, o4, o5, o6, o7⟩ := h; have := DD.out; omega, fun _ => rfl⟩⟩, ⟨HDD.out.move (fun _ _ _ => rfl)⟩, ⟨pw_below_drewN HBB.out _⟩, ⟨HY2.out⟩⟩
            · have t2 : decide (1000000 < F.f0) = false := decide_eq_false d2
              have D2 := Aside0.mk d2
              clear d2
              by_cases d3 : 0 < x
              · have t3 : decide (0 < x) = true := decide_eq_true d3
                have hlr : l.length ≤ 8 := by have := HG.out; omega
                obtain ⟨y, hy⟩ : ∃ y_ : Int, x - 1 = y_ := ⟨_, rfl⟩
                have r1 : (0 : Int) ≤ y := by omega
                have r2 : y < (l.length : Int) := by omega
                have hw1 : wrap64 (x - 1) = y := by unfold wrap64; omega
                have hw2 : IntKind.i64.wrap (x - 1) = y := by rw [IntKind.wrap_i64]; omega
                obtain ⟨ad2, e2, y0, y1, y2⟩ := at_T24 (Kd.C_below HR.out HBB.out) y r1 r2
                cases e2
                obtain ⟨G, hG⟩ : ∃ G, rd_T24 l y = G := ⟨_, rfl⟩
                rw [hG] at y0 y1 y2
                have HGX := Aside0.mk (show rd_T24 l (x - 1) = G by rw [hy]; exact hG)
                have D30 := Aside0.mk d3
                clear hG d3 hlr y1 y2 hy
                replace r1 := eq_true r1
                replace r2 := eq_true r2
                by_cases d4 : F.f0 ≤ G.f0
                · have t4 : decide (F.f0 ≤ G.f0) = true := decide_eq_true d4
                  have DD := Aside0.mk d4
                  clear d4
                  go_quiet (fail)
                  try go_wp2
                  go_meet
                  case rel => exact ⟨true, by first | rfl | simp, ⟨⟨fun _ h => by have h0 := hx.out; have h1 := HFX.out; subst h0; unfold okF at h; rw [h1] at h; obtain ⟨o1, o2, o3, o4, o5, o6, o7⟩ := h; have h2 := o3 (by have := D30.out; omega); rw [HGX.out] at h2; have := DD.out; omega, fun _ => rfl⟩⟩, ⟨HDD.out.move (fun _ _ _ => rfl)⟩, ⟨pw_below_drewN HBB.out _⟩, ⟨HY2.out⟩⟩
                · have t4 : decide (F.f0 ≤ G.f0) = false := decide_eq_false d4
                  have D3 := Aside0.mk (show (0 < i → (rd_T24 l ((i : Int) - 1)).f0 < F.f0) from fun _ => by rw [← hx.out, HGX.out]; omega)
                  have D4 := Aside0.mk d4
                  clear d4
                  by_cases d5 : F.f1.size = 0
                  · have t5 : F.f1.toList.isEmpty = true := by rw [ByteArray.toList_eq, List.isEmpty_iff]; exact List.eq_nil_of_length_eq_zero (by simpa using d5)
                    have DD := Aside0.mk d5
                    clear d5
                    go_quiet (fail)
                    try go_wp2
                    go_meet
                    case rel => exact ⟨true, by first | rfl | simp, ⟨⟨fun _ h => by have h0 := hx.out; have h1 := HFX.out; subst h0; unfold okF at h; rw [h1] at h; obtain ⟨o1, o2, o3, o4, o5, o6, o7⟩ := h; exact o4 DD.out, fun _ => rfl⟩⟩, ⟨HDD.out.move (fun _ _ _ => rfl)⟩, ⟨pw_below_drewN HBB.out _⟩, ⟨HY2.out⟩⟩
                  · have t5 : F.f1.toList.isEmpty = false := by rw [ByteArray.toList_eq, List.isEmpty_eq_false_iff]; intro he; exact d5 (by have := congrArg List.length he; simpa using this)
                    have D5 := Aside0.mk d5
                    clear d5
                    by_cases d6 : F.f2 < 0
                    · have t6 : decide (F.f2 < 0) = true := decide_eq_true d6
                      have DD := Aside0.mk d6
                      clear d6
                      go_quiet (fail)
                      try go_wp2
                      go_meet
                      case rel => exact ⟨true, by first | rfl | simp, ⟨⟨fun _ h => by have h0 := hx.out; have h1 := HFX.out; subst h0; unfold okF at h; rw [h1] at h; obtain ⟨o1, o2, o3, o4, o5, o6, o7⟩ := h; have := DD.out; omega, fun _ => rfl⟩⟩, ⟨HDD.out.move (fun _ _ _ => rfl)⟩, ⟨pw_below_drewN HBB.out _⟩, ⟨HY2.out⟩⟩
                    · have t6 : decide (F.f2 < 0) = false := decide_eq_false d6
                      have D6 := Aside0.mk d6
                      clear d6
                      by_cases d7 : F.f2 > (F.f1.size : Int)
                      · have t7 : decide ((F.f1.size : Int) < F.f2) = true := decide_eq_true d7
                        have DD := Aside0.mk d7
                        clear d7
                        go_quiet (fail)
                        try go_wp2
                        go_meet
                        case rel => exact ⟨true, by first | rfl | simp, ⟨⟨fun _ h => by have h0 := hx.out; have h1 := HFX.out; subst h0; unfold okF at h; rw [h1] at h; obtain ⟨o1, o2, o3, o4, o5, o6, o7⟩ := h; have := DD.out; omega, fun _ => rfl⟩⟩, ⟨HDD.out.move (fun _ _ _ => rfl)⟩, ⟨pw_below_drewN HBB.out _⟩, ⟨HY2.out⟩⟩
                      · have t7 : decide ((F.f1.size : Int) < F.f2) = false := decide_eq_false d7
                        have D7 := Aside0.mk d7
                        clear d7
                        by_cases d8 : (F.f1.size : Int) > left
                        · have t8 : decide (left < (F.f1.size : Int)) = true := decide_eq_true d8
                          have DD := Aside0.mk d8
                          clear d8
                          go_quiet (fail)
                          try go_wp2
                          go_meet
                          case rel => exact ⟨true, by first | rfl | simp, ⟨⟨fun _ h => by have h0 := hx.out; have h1 := HFX.out; subst h0; unfold okF at h; rw [h1] at h; obtain ⟨o1, o2, o3, o4, o5, o6, o7⟩ := h; have := DD.out; omega, fun _ => rfl⟩⟩, ⟨HDD.out.move (fun _ _ _ => rfl)⟩, ⟨pw_below_drewN HBB.out _⟩, ⟨HY2.out⟩⟩
                        · have t8 : decide (left < (F.f1.size : Int)) = false := decide_eq_false d8
                          have D8 := Aside0.mk d8
                          clear d8
                          go_quiet (fail)
                          try go_wp2
                          go_meet
                          case rel => exact ⟨false, by first | rfl | simp, ⟨⟨(fun h => by cases h), fun h => absurd (by have h0 := hx.out; have h1 := HFX.out; subst h0; unfold okF; rw [h1]; exact ⟨by have := D1.out; omega, by have := D2.out; omega, D3.out, D5.out, by have := D6.out; omega, by have := D7.out; omega, by have := D8.out; omega⟩) h⟩⟩, ⟨HDD.out.move (fun _ _ _ => rfl)⟩, ⟨pw_below_drewN HBB.out _⟩, ⟨HY2.out⟩⟩
              · have t3 : decide (0 < x) = false := decide_eq_false d3
                have D3 := Aside0.mk (show (0 < i → (rd_T24 l ((i : Int) - 1)).f0 < F.f0) from fun h => absurd (by have := hx.out; omega) d3)
                clear d3
                by_cases d5 : F.f1.size = 0
                · have t5 : F.f1.toList.isEmpty = true := by rw [ByteArray.toList_eq, List.isEmpty_iff]; exact List.eq_nil_of_length_eq_zero (by simpa using d5)
                  have DD := Aside0.mk d5
                  clear d5
                  go_quiet (fail)
                  try go_wp2
                  go_meet
                  case rel => exact ⟨true, by first | rfl | simp, ⟨⟨fun _ h => by have h0 := hx.out; have h1 := HFX.out; subst h0; unfold okF at h; rw [h1] at h; obtain ⟨o1, o2, o3, o4, o5, o6, o7⟩ := h; exact o4 DD.out, fun _ => rfl⟩⟩, ⟨HDD.out.move (fun _ _ _ => rfl)⟩, ⟨pw_below_drewN HBB.out _⟩, ⟨HY2.out⟩⟩
                · have t5 : F.f1.toList.isEmpty = false := by rw [ByteArray.toList_eq, List.isEmpty_eq_false_iff]; intro he; exact d5 (by have := congrArg List.length he; simpa using this)
                  have D5 := Aside0.mk d5
                  clear d5
                  by_cases d6 : F.f2 < 0
                  · have t6 : decide (F.f2 < 0) = true := decide_eq_true d6
                    have DD := Aside0.mk d6
                    clear d6
                    go_quiet (fail)
                    try go_wp2
                    go_meet
                    case rel => exact ⟨true, by first | rfl | simp, ⟨⟨fun _ h => by have h0 := hx.out; have h1 := HFX.out; subst h0; unfold okF at h; rw [h1] at h; obtain ⟨o1, o2, o3, o4, o5, o6, o7⟩ := h; have := DD.out; omega, fun _ => rfl⟩⟩, ⟨HDD.out.move (fun _ _ _ => rfl)⟩, ⟨pw_below_drewN HBB.out _⟩, ⟨HY2.out⟩⟩
                  · have t6 : decide (F.f2 < 0) = false := decide_eq_false d6
                    have D6 := Aside0.mk d6
                    clear d6
                    by_cases d7 : F.f2 > (F.f1.size : Int)
                    · have t7 : decide ((F.f1.size : Int) < F.f2) = true := decide_eq_true d7
                      have DD := Aside0.mk d7
                      clear d7
                      go_quiet (fail)
                      try go_wp2
                      go_meet
                      case rel => exact ⟨true, by first | rfl | simp, ⟨⟨fun _ h => by have h0 := hx.out; have h1 := HFX.out; subst h0; unfold okF at h; rw [h1] at h; obtain ⟨o1, o2, o3, o4, o5, o6, o7⟩ := h; have := DD.out; omega, fun _ => rfl⟩⟩, ⟨HDD.out.move (fun _ _ _ => rfl)⟩, ⟨pw_below_drewN HBB.out _⟩, ⟨HY2.out⟩⟩
                    · have t7 : decide ((F.f1.size : Int) < F.f2) = false := decide_eq_false d7
                      have D7 := Aside0.mk d7
                      clear d7
                      by_cases d8 : (F.f1.size : Int) > left
                      · have t8 : decide (left < (F.f1.size : Int)) = true := decide_eq_true d8
                        have DD := Aside0.mk d8
                        clear d8
                        go_quiet (fail)
                        try go_wp2
                        go_meet
                        case rel => exact ⟨true, by first | rfl | simp, ⟨⟨fun _ h => by have h0 := hx.out; have h1 := HFX.out; subst h0; unfold okF at h; rw [h1] at h; obtain ⟨o1, o2, o3, o4, o5, o6, o7⟩ := h; have := DD.out; omega, fun _ => rfl⟩⟩, ⟨HDD.out.move (fun _ _ _ => rfl)⟩, ⟨pw_below_drewN HBB.out _⟩, ⟨HY2.out⟩⟩
                      · have t8 : decide (left < (F.f1.size : Int)) = false := decide_eq_false d8
                        have D8 := Aside0.mk d8
                        clear d8
                        go_quiet (fail)
                        try go_wp2
                        go_meet
                        case rel => exact ⟨false, by first | rfl | simp, ⟨⟨(fun h => by cases h), fun h => absurd (by have h0 := hx.out; have h1 := HFX.out; subst h0; unfold okF; rw [h1]; exact ⟨by have := D1.out; omega, by have := D2.out; omega, D3.out, D5.out, by have := D6.out; omega, by have := D7.out; omega, by have := D8.out; omega⟩) h⟩⟩, ⟨HDD.out.move (fun _ _ _ => rfl)⟩, ⟨pw_below_drewN HBB.out _⟩, ⟨HY2.out⟩⟩
        case rest =>
          obtain ⟨b, rfl, hbo, HD3, HB3, HY3⟩ := hcut
          clear HDD HBB HY2 HB2
          have hz := My.cz3 HY3
          cases b with
          | true =>
            have hno : ¬ okL room l := fun h => (hbo.out.1 rfl) (by rw [hleft.out]; exact h.2.2.2 i HCI.out)
            have HNO := Aside0.mk hno
            clear hno
            go_wp2
            go_ret2
            exact ⟨HB3.out, .inr ⟨HNO.out, rfl⟩⟩
          | false =>
            have hok : okF l i left := Classical.byContradiction (fun hn => by have := hbo.out.2 hn; cases this)
            have hl8 : l.length ≤ 8 := by have := HG.out; omega
            have hr2 : room ≤ 200000 := by have := HG.out; omega
            have hst := load_step HCI.out HD3.out.inv (by rw [← hleft.out]; exact hok) hl8
            rw [← hx.out, HFX.out] at hst
            have hu0 := useL_nonneg (l.take i)
            have hwl : wrap64 (left - (F.f1.size : Int)) = left - (F.f1.size : Int) := by
              have h7 := hok.2.2.2.2.2.2
              have h1 := hleft.out
              rw [← hx.out, HFX.out] at h7
              unfold wrap64
              omega
            have hnx : left - (F.f1.size : Int) = room - useL (l.take (i + 1)) := by
              rw [useL_take l i HCI.out, ← hx.out, HFX.out]
              have h1 := hleft.out
              omega
            have hwx : IntKind.i64.wrap (x + 1) = x + 1 := by have := hx.out; have := HCI.out; rw [IntKind.wrap_i64]; omega
            have HOKI := Aside0.mk hok
            have HST := Aside0.mk hst
            have HNX := Aside0.mk hnx
            clear hok hst hl8 hr2 hu0 hnx
            have HWL := Aside0.mk hwl
            go_upto_region 11 with (fail)
            clear hwl
            obtain ⟨kv, hbp, hk5, k0, k1, k2, k3, k4, k5, fz⟩ := HD3.out.cells
            clear hbp hk5 k0 k1 k2 k3 k4 fz
            rename_i wc
            have HDd := Aside0.mk (show DiskAt w.heap.size wc.drew p w.heap.size ⟨false, room, 0, [], l.take i⟩ from HD3.out.move (fun _ _ _ => rfl))
            have hF0 : 0 ≤ F.f0 ∧ F.f0 ≤ 1000000 := by have h1 := HOKI.out.1; have h2 := HOKI.out.2.1; rw [← hx.out, HFX.out] at h1 h2; exact ⟨h1, h2⟩
            obtain ⟨W5, hr5, hm5, hg5⟩ := HDd.out.map.put F (by show (l.take i).length < 1000; rw [List.length_take]; have := HG.out; omega) (wfn hF0.1 (by omega))
            unfold valD at hr5
            simp only [] at hm5
            rw [HST.out.1] at hm5
            have HD5 := Aside0.mk (HDd.out.remap hg5 hm5 HST.out.2)
            have HB5 := Aside0.mk (show Below w.heap.size w W5 from (Below.trans (show Below w.heap.size w wc.drew from ⟨HB3.out.os, HB3.out.tape, HB3.out.output, HB3.out.size, HB3.out.block⟩) ⟨hg5.os, hg5.tape, hg5.output, hg5.size, fun k hk => hg5.block k (Nat.lt_of_lt_of_le hk HB3.out.size) (by intro e; injection e with e; omega)⟩))
            clear hm5 hg5 hF0
            go_still_tail 7, (by kernel_rfl)
            go_wp2
            have hI := HCI.out
            have hx1 := hx.out
            have hk1 := hk.out
            go_roundg (l.length - i)
            case measure => omega
            case rel => exact ⟨i + 1, x + 1, left - (F.f1.size : Int), by first | rfl | (rw [HWL.out]), by first | rfl | (rw [hwx]), ⟨by omega⟩, HNX, ⟨by omega⟩, ⟨by omega⟩, ⟨fun j hj => by
              rcases Nat.lt_or_ge j i with h | h
              · exact HOK.out j h
              · obtain rfl : j = i := by omega
                have := HOKI.out
                rw [hleft.out] at this
                exact this⟩, HD5, HB5⟩
      · have hi2 := hi.out
        have hx1 := hx.out
        have c3 : decide (x < (l.length : Int)) = false := decide_eq_false (by omega)
        have e : l.take i = l := List.take_of_length_le (by omega)
        have h1 := HD.out
        rw [e] at h1
        have HE := Aside0.mk h1
        have hok : okL room l := ⟨by have := HG.out; omega, by have := HG.out; omega, by have := HG.out; omega, fun j hj => HOK.out j (by omega)⟩
        have HOKL := Aside0.mk hok
        clear h1 hi2 hx1 c9 e hok HD
        go_wp2
        go_ret2
        exact ⟨HB.out, .inl ⟨HOKL.out, p, w.heap.size, rfl, HE.out⟩⟩
theorem disk_Load0.calls (w : World) (room : Int) : Calls Tryz.prog 5 #[.int .i64 room, .slice none 0 0] w fun e w' => ∃ v, e = .returned v ∧ Below w.heap.size w w' ∧ ((0 ≤ room ∧ room ≤ 200000 ∧ ∃ p bm, v = .tuple #[.pointer (some ⟨p, 0, none⟩), .int .i64 0] ∧ DiskAt w.heap.size w' p bm ⟨false, room, 0, [], []⟩) ∨ (¬ (0 ≤ room ∧ room ≤ 200000) ∧ v = .tuple #[.pointer none, .int .i64 2])) := by
  refine (disk_Load.calls w room none 0 [] (Kd.C_nil _ _) (Nat.le_refl _)).mono ?_
  rintro e W1 ⟨hb, hc⟩
  rcases hc with ⟨hok, p, bm, rfl, hD⟩ | ⟨hno, rfl⟩
  · exact ⟨_, rfl, hb, .inl ⟨hok.1, hok.2.1, p, bm, rfl, hD⟩⟩
  · exact ⟨_, rfl, hb, .inr ⟨fun h => hno ⟨h.1, h.2, by simp, fun i hi => absurd hi (by simp)⟩, rfl⟩⟩
set_option maxHeartbeats 4000000 in
theorem disk_New.calls (w : World) (room : Int) : Calls Tryz.prog 12 #[.int .i64 room] w fun e w' => Below w.heap.size w w' ∧ ((0 ≤ room ∧ room ≤ 200000 ∧ ∃ p bm, e = .returned (.tuple #[.pointer (some ⟨p, 0, none⟩), .int .i64 0]) ∧ DiskAt w.heap.size w' p bm ⟨false, room, 0, [], []⟩) ∨ (¬ (0 ≤ room ∧ room ≤ 200000) ∧ e = .returned (.tuple #[.pointer none, .int .i64 2]))) := by
  by_cases hok : 0 ≤ room ∧ room ≤ 200000
  · have HL : Aside0 (Calls Tryz.prog 5 #[.int .i64 room, .slice none 0 0] w fun e w' => ∃ p bm, e = .returned (.tuple #[.pointer (some ⟨p, 0, none⟩), .int .i64 0]) ∧ Below w.heap.size w w' ∧ DiskAt w.heap.size w' p bm ⟨false, room, 0, [], []⟩) := ⟨(disk_Load0.calls w room).mono (by
      rintro e W1 ⟨v, rfl, hb, ⟨_, _, p, bm, rfl, hD⟩ | ⟨hno, _⟩⟩
      · exact ⟨p, bm, rfl, hb, hD⟩
      · exact absurd hok hno)⟩
    have HO := Aside0.mk hok
    clear hok
    go_enter Tryz.func12, Tryz.ntmps12
    go_wp2_with ((with_reducible refine gate_callee (f := 5) rfl ?_); refine goesL_ (some _) rfl rfl Tryz.func5 (by kernel_rfl) rfl #[.int .i64 room, .slice none 0 0] rfl My.gx ?_; (refine HL.out.mono ?_); rintro e W1 ⟨p, bm, rfl, hb, hD⟩; refine ⟨_, rfl, ?_⟩; have HD := Aside0.mk hD; have HB := Aside0.mk hb; clear hD hb)
    go_ret2
    exact ⟨HB.out, .inl ⟨HO.out.1, HO.out.2, p, bm, rfl, HD.out⟩⟩
  · have HL : Aside0 (Calls Tryz.prog 5 #[.int .i64 room, .slice none 0 0] w fun e w' => e = .returned (.tuple #[.pointer none, .int .i64 2]) ∧ Below w.heap.size w w') := ⟨(disk_Load0.calls w room).mono (by
      rintro e W1 ⟨v, rfl, hb, ⟨h1, h2, _⟩ | ⟨_, rfl⟩⟩
      · exact absurd ⟨h1, h2⟩ hok
      · exact ⟨rfl, hb⟩)⟩
    have HO := Aside0.mk hok
    clear hok
    go_enter Tryz.func12, Tryz.ntmps12
    go_wp2_with ((with_reducible refine gate_callee (f := 5) rfl ?_); refine goesL_ (some _) rfl rfl Tryz.func5 (by kernel_rfl) rfl #[.int .i64 room, .slice none 0 0] rfl My.gx ?_; (refine HL.out.mono ?_); rintro e W1 ⟨rfl, hb⟩; refine ⟨_, rfl, ?_⟩; have HB := Aside0.mk hb; clear hb)
    go_ret2
    exact ⟨HB.out, .inr ⟨HO.out, rfl⟩⟩
def newS (room : Int) : DS := ⟨false, room, 0, [], []⟩

end Go.Proofs.YtkcpgaplpmbmoaaGreat.PA
