/- c15's own text: a disk, walked by hand; Lean checks it. -/
import Derived.Test.YtjdpgkfhicpepaaPAx8
namespace Go.Proofs.Ytjdpgkfhicpepaa.PA
open Go.RowKit Go.Proofs.YtjdpgkfhicpepaaW.PrintWords Go.Proofs.YtjdpgkfhicpepaaW.PrintLast Go.Proofs.YtjdpgkfhicpepaaW.PrintMore
attribute [local go_sem] max2_int min2_int max_two min_two max_three min_three max_four min_four
set_option linter.unusedVariables false
set_option linter.unusedSimpArgs false

/-! a disk that no call made -/
def NoDisk (w : World) (a : Option Addr) : Prop := a = none ∨ ∃ g, a = some ⟨g, 0, none⟩ ∧ w.heap[g]? = some (.cells #[.bool false, .bool false, .int .i64 0, .int .i64 0, .slice none 0 0, .map none] 46 (0, 0))
section
variable {w : World} {a : Option Addr}
theorem NoDisk.up {W : World} (h : NoDisk w a) (hb : Below w.heap.size w W) : NoDisk W a := by
  rcases h with h | ⟨g, h, hg⟩
  · exact .inl h
  · exact .inr ⟨g, h, (hb.block g (blk_lt hg)).trans hg⟩
set_option maxHeartbeats 4000000 in
theorem nb_none.calls (h : NoDisk w a) : Calls Try.prog 48 #[.pointer a] w fun e w' => e = .returned (.bool true) ∧ Below w.heap.size w w' := by
  rcases h with rfl | ⟨g, rfl, hg⟩
  · go_enter Try.func48, Try.ntmps48
    go_wp2
    go_ret
    exact ⟨rfl, Below.refl _ _⟩
  · have c0 : w.cell? ⟨g, 0, none⟩ = some (.bool false) := blk_cell hg 0
    clear hg
    go_enter Try.func48, Try.ntmps48
    go_wp2
    go_ret
    exact ⟨rfl, Below.refl _ _⟩
set_option maxHeartbeats 4000000 in
set_option maxRecDepth 100000 in
theorem nb_ready.calls (h : NoDisk w a) : Calls Try.prog 40 #[.pointer a] w fun e w' => e = .returned (.int .i64 1) ∧ Below w.heap.size w w' := by
  have hu40 := Try.underlying40
  have HN := Aside0.mk h
  have HB := Aside0.mk (Below.refl w.heap.size w)
  clear h
  go_enter Try.func40, Try.ntmps40
  go_wp2_with ((with_reducible refine gate_callee (f := 48) rfl ?_); refine goesL_ (some _) rfl rfl Try.func48 (by kernel_rfl) rfl #[.pointer a] rfl My.gx ?_; (refine (nb_none.calls HN.out).mono ?_); rintro e W1 ⟨rfl, hb⟩; refine ⟨_, rfl, ?_⟩; replace HN := Aside0.mk (HN.out.up hb); replace HB := Aside0.mk (HB.out.trans (hb.mono HB.out.size)); clear hb)
  go_ret
  exact ⟨rfl, HB.out⟩
set_option maxHeartbeats 4000000 in
set_option maxRecDepth 100000 in
theorem nb_Boot.calls (h : NoDisk w a) : Calls Try.prog 24 #[.pointer a] w fun e w' => e = .returned (.int .i64 1) ∧ Below w.heap.size w w' := by
  have hu40 := Try.underlying40
  have HN := Aside0.mk h
  have HB := Aside0.mk (Below.refl w.heap.size w)
  clear h
  go_enter Try.func24, Try.ntmps24
  go_wp2_with ((with_reducible refine gate_callee (f := 48) rfl ?_); refine goesL_ (some _) rfl rfl Try.func48 (by kernel_rfl) rfl #[.pointer a] rfl My.gx ?_; (refine (nb_none.calls HN.out).mono ?_); rintro e W1 ⟨rfl, hb⟩; refine ⟨_, rfl, ?_⟩; replace HN := Aside0.mk (HN.out.up hb); replace HB := Aside0.mk (HB.out.trans (hb.mono HB.out.size)); clear hb)
  go_ret
  exact ⟨rfl, HB.out⟩
set_option maxHeartbeats 4000000 in
set_option maxRecDepth 100000 in
theorem nb_Dead.calls (h : NoDisk w a) : Calls Try.prog 25 #[.pointer a] w fun e w' => e = .returned (.bool false) ∧ Below w.heap.size w w' := by
  have hu40 := Try.underlying40
  have HN := Aside0.mk h
  have HB := Aside0.mk (Below.refl w.heap.size w)
  clear h
  go_enter Try.func25, Try.ntmps25
  go_wp2_with ((with_reducible refine gate_callee (f := 48) rfl ?_); refine goesL_ (some _) rfl rfl Try.func48 (by kernel_rfl) rfl #[.pointer a] rfl My.gx ?_; (refine (nb_none.calls HN.out).mono ?_); rintro e W1 ⟨rfl, hb⟩; refine ⟨_, rfl, ?_⟩; replace HN := Aside0.mk (HN.out.up hb); replace HB := Aside0.mk (HB.out.trans (hb.mono HB.out.size)); clear hb)
  go_ret
  exact ⟨rfl, HB.out⟩
set_option maxHeartbeats 4000000 in
set_option maxRecDepth 100000 in
theorem nb_Files.calls (h : NoDisk w a) : Calls Try.prog 27 #[.pointer a] w fun e w' => e = .returned (.slice none 0 0) ∧ Below w.heap.size w w' := by
  have hu40 := Try.underlying40
  have HN := Aside0.mk h
  have HB := Aside0.mk (Below.refl w.heap.size w)
  clear h
  go_enter Try.func27, Try.ntmps27
  go_wp2_with ((with_reducible refine gate_callee (f := 48) rfl ?_); refine goesL_ (some _) rfl rfl Try.func48 (by kernel_rfl) rfl #[.pointer a] rfl My.gx ?_; (refine (nb_none.calls HN.out).mono ?_); rintro e W1 ⟨rfl, hb⟩; refine ⟨_, rfl, ?_⟩; replace HN := Aside0.mk (HN.out.up hb); replace HB := Aside0.mk (HB.out.trans (hb.mono HB.out.size)); clear hb)
  go_ret
  exact ⟨rfl, HB.out⟩
set_option maxHeartbeats 4000000 in
set_option maxRecDepth 100000 in
theorem nb_Append.calls (h : NoDisk w a) (n : Int) (d : ByteArray) : Calls Try.prog 18 #[.pointer a, .int .i64 n, .string d] w fun e w' => e = .returned (.int .i64 1) ∧ Below w.heap.size w w' := by
  have hu40 := Try.underlying40
  have HN := Aside0.mk h
  have HB := Aside0.mk (Below.refl w.heap.size w)
  clear h
  go_enter Try.func18, Try.ntmps18
  go_wp2_with ((with_reducible refine gate_callee (f := 40) rfl ?_); refine goesL_ (some _) rfl rfl Try.func40 (by kernel_rfl) rfl #[.pointer a] rfl My.gx ?_; (refine (nb_ready.calls HN.out).mono ?_); rintro e W1 ⟨rfl, hb⟩; refine ⟨_, rfl, ?_⟩; replace HN := Aside0.mk (HN.out.up hb); replace HB := Aside0.mk (HB.out.trans (hb.mono HB.out.size)); clear hb)
  go_ret
  exact ⟨rfl, HB.out⟩
set_option maxHeartbeats 4000000 in
set_option maxRecDepth 100000 in
theorem nb_Arm.calls (h : NoDisk w a) (n : Int) : Calls Try.prog 22 #[.pointer a, .int .i64 n, .slice none 0 0] w fun e w' => e = .returned (.int .i64 1) ∧ Below w.heap.size w w' := by
  have hu40 := Try.underlying40
  have HN := Aside0.mk h
  have HB := Aside0.mk (Below.refl w.heap.size w)
  clear h
  go_enter Try.func22, Try.ntmps22
  go_wp2_with ((with_reducible refine gate_callee (f := 40) rfl ?_); refine goesL_ (some _) rfl rfl Try.func40 (by kernel_rfl) rfl #[.pointer a] rfl My.gx ?_; (refine (nb_ready.calls HN.out).mono ?_); rintro e W1 ⟨rfl, hb⟩; refine ⟨_, rfl, ?_⟩; replace HN := Aside0.mk (HN.out.up hb); replace HB := Aside0.mk (HB.out.trans (hb.mono HB.out.size)); clear hb)
  go_ret
  exact ⟨rfl, HB.out⟩
set_option maxHeartbeats 4000000 in
set_option maxRecDepth 100000 in
theorem nb_Crash.calls (h : NoDisk w a) : Calls Try.prog 23 #[.pointer a, .slice none 0 0] w fun e w' => e = .returned (.int .i64 1) ∧ Below w.heap.size w w' := by
  have hu40 := Try.underlying40
  have HN := Aside0.mk h
  have HB := Aside0.mk (Below.refl w.heap.size w)
  clear h
  go_enter Try.func23, Try.ntmps23
  go_wp2_with ((with_reducible refine gate_callee (f := 40) rfl ?_); refine goesL_ (some _) rfl rfl Try.func40 (by kernel_rfl) rfl #[.pointer a] rfl My.gx ?_; (refine (nb_ready.calls HN.out).mono ?_); rintro e W1 ⟨rfl, hb⟩; refine ⟨_, rfl, ?_⟩; replace HN := Aside0.mk (HN.out.up hb); replace HB := Aside0.mk (HB.out.trans (hb.mono HB.out.size)); clear hb)
  go_ret
  exact ⟨rfl, HB.out⟩
set_option maxHeartbeats 4000000 in
set_option maxRecDepth 100000 in
theorem nb_find.calls (h : NoDisk w a) (n : Int) : Calls Try.prog 39 #[.pointer a, .int .i64 n] w fun e w' => e = .returned (.tuple #[valD z40, .int .i64 1]) ∧ Below w.heap.size w w' := by
  have hu40 := Try.underlying40
  have HN := Aside0.mk h
  have HB := Aside0.mk (Below.refl w.heap.size w)
  clear h
  go_enter Try.func39, Try.ntmps39
  go_wp2_with (first
      | ((with_reducible refine gate_dst (N := 4) rfl ?_); refine My.bx 4 #[.int .i64 0, .string ⟨#[]⟩, .int .i64 0] 40 ?_; intro g4 hg4 w4 hbox hb; have BX := My.am hbox; have G4 := My.nge hg4 HB.out; replace HN := Aside0.mk (HN.out.up hb); replace HB := My.st HB hb; clear hb hbox hg4)
      | ((with_reducible refine gate_callee (f := 40) rfl ?_); refine goesL_ (some _) rfl rfl Try.func40 (by kernel_rfl) rfl #[.pointer a] rfl My.gx ?_; (refine (nb_ready.calls HN.out).mono ?_); rintro e W1 ⟨rfl, hb⟩; refine ⟨_, rfl, ?_⟩; replace HN := Aside0.mk (HN.out.up hb); replace BX := My.ab BX hb; replace HB := Aside0.mk (HB.out.trans (hb.mono HB.out.size)); clear hb; have hz := My.cz3 BX))
  have X := My.put3 (v0 := .int .i64 0) (v1 := .string ⟨#[]⟩) (v2 := .int .i64 0) BX.out
  refine bodyPost_ret (find_results rfl _ z40 1 rfl rfl X) rfl ?_
  exact ⟨rfl, My.bl_ HB⟩
set_option maxHeartbeats 4000000 in
set_option maxRecDepth 100000 in
theorem nb_Read.calls (h : NoDisk w a) (n : Int) : Calls Try.prog 17 #[.pointer a, .int .i64 n] w fun e w' => e = .returned (.tuple #[.string ⟨#[]⟩, .int .i64 1]) ∧ Below w.heap.size w w' := by
  have hu40 := Try.underlying40
  have HN := Aside0.mk h
  have HB := Aside0.mk (Below.refl w.heap.size w)
  clear h
  go_enter Try.func17, Try.ntmps17
  go_wp2_with (first
      | ((with_reducible refine gate_callee (f := 39) rfl ?_); refine goesL_ (some _) rfl rfl Try.func39 (by kernel_rfl) rfl #[.pointer a, .int .i64 n] rfl My.gx ?_; (refine (nb_find.calls HN.out n).mono ?_); rintro e W1 ⟨rfl, hb⟩; refine ⟨_, rfl, ?_⟩; replace HB := Aside0.mk (HB.out.trans (hb.mono HB.out.size)); clear hb; unfold valD)
      | ((with_reducible refine gate_dst (N := 6) rfl ?_); refine My.bx 6 #[.int .i64 0, .string ⟨#[]⟩, .int .i64 0] 40 ?_; intro gx hgx wx hbox hb; have BX := My.am hbox; have GX := My.nge hgx HB.out; replace HB := My.st HB hb; clear hb hbox hgx; have hz := My.cz3 BX))
  go_ret2
  exact ⟨rfl, below_set (below_set (below_set HB.out GX.out) GX.out) GX.out⟩
set_option maxHeartbeats 4000000 in
set_option maxRecDepth 100000 in
theorem nb_Sync.calls (h : NoDisk w a) (n : Int) : Calls Try.prog 19 #[.pointer a, .int .i64 n] w fun e w' => e = .returned (.int .i64 1) ∧ Below w.heap.size w w' := by
  have hu40 := Try.underlying40
  have HN := Aside0.mk h
  have HB := Aside0.mk (Below.refl w.heap.size w)
  clear h
  go_enter Try.func19, Try.ntmps19
  go_wp2_with (first
      | ((with_reducible refine gate_dst (N := 2) rfl ?_); refine My.bx 2 #[.pointer a] 25 ?_; intro g2 hg w2_ hbox hb; have B2 := My.am hbox; have z2 := My.cz1 B2; replace HN := Aside0.mk (HN.out.up hb); replace HB := Aside0.mk (HB.out.trans (hb.mono HB.out.size)); clear hb hbox hg)
      | ((with_reducible refine gate_dst (N := 3) rfl ?_); refine My.bx 3 #[.int .i64 n] 3 ?_; intro g3 hg w3_ hbox hb; have B3 := My.am hbox; replace B2 := My.ab B2 hb; clear z2; have z2 := My.cz1 B2; have z3 := My.cz1 B3; replace HN := Aside0.mk (HN.out.up hb); replace HB := Aside0.mk (HB.out.trans (hb.mono HB.out.size)); clear hb hbox hg)
      | ((with_reducible refine gate_callee (f := 39) rfl ?_); refine goesL_ (some _) rfl rfl Try.func39 (by kernel_rfl) rfl #[.pointer a, .int .i64 n] rfl My.gx ?_; (refine (nb_find.calls HN.out n).mono ?_); rintro e W1 ⟨rfl, hb⟩; refine ⟨_, rfl, ?_⟩; replace HB := Aside0.mk (HB.out.trans (hb.mono HB.out.size)); clear hb; unfold valD; clear z2 z3)
      | ((with_reducible refine gate_dst (N := 5) rfl ?_); refine My.bx 5 #[.int .i64 0, .string ⟨#[]⟩, .int .i64 0] 40 ?_; intro gx hgx wx hbox hb; have BX := My.am hbox; have GX := My.nge hgx HB.out; replace HB := My.st HB hb; clear hb hbox hgx; have hz := My.cz3 BX))
  go_ret
  exact ⟨rfl, below_set (below_set (below_set HB.out GX.out) GX.out) GX.out⟩
set_option maxHeartbeats 4000000 in
set_option maxRecDepth 100000 in
theorem nb_Remove.calls (h : NoDisk w a) (n : Int) : Calls Try.prog 21 #[.pointer a, .int .i64 n] w fun e w' => e = .returned (.int .i64 1) ∧ Below w.heap.size w w' := by
  have hu40 := Try.underlying40
  have HN := Aside0.mk h
  have HB := Aside0.mk (Below.refl w.heap.size w)
  clear h
  go_enter Try.func21, Try.ntmps21
  go_wp2_with (first
      | ((with_reducible refine gate_dst (N := 2) rfl ?_); refine My.bx 2 #[.pointer a] 25 ?_; intro g2 hg w2_ hbox hb; have B2 := My.am hbox; have z2 := My.cz1 B2; replace HN := Aside0.mk (HN.out.up hb); replace HB := Aside0.mk (HB.out.trans (hb.mono HB.out.size)); clear hb hbox hg)
      | ((with_reducible refine gate_dst (N := 3) rfl ?_); refine My.bx 3 #[.int .i64 n] 3 ?_; intro g3 hg w3_ hbox hb; have B3 := My.am hbox; replace B2 := My.ab B2 hb; clear z2; have z2 := My.cz1 B2; have z3 := My.cz1 B3; replace HN := Aside0.mk (HN.out.up hb); replace HB := Aside0.mk (HB.out.trans (hb.mono HB.out.size)); clear hb hbox hg)
      | ((with_reducible refine gate_callee (f := 39) rfl ?_); refine goesL_ (some _) rfl rfl Try.func39 (by kernel_rfl) rfl #[.pointer a, .int .i64 n] rfl My.gx ?_; (refine (nb_find.calls HN.out n).mono ?_); rintro e W1 ⟨rfl, hb⟩; refine ⟨_, rfl, ?_⟩; replace HB := Aside0.mk (HB.out.trans (hb.mono HB.out.size)); clear hb; unfold valD; clear z2 z3)
      | ((with_reducible refine gate_dst (N := 5) rfl ?_); refine My.bx 5 #[.int .i64 0, .string ⟨#[]⟩, .int .i64 0] 40 ?_; intro gx hgx wx hbox hb; have BX := My.am hbox; have GX := My.nge hgx HB.out; replace HB := My.st HB hb; clear hb hbox hgx; have hz := My.cz3 BX))
  go_ret
  exact ⟨rfl, below_set (below_set (below_set HB.out GX.out) GX.out) GX.out⟩
set_option maxHeartbeats 4000000 in
set_option maxRecDepth 100000 in
theorem nb_Cut.calls (h : NoDisk w a) (n z : Int) : Calls Try.prog 20 #[.pointer a, .int .i64 n, .int .i64 z] w fun e w' => e = .returned (.int .i64 1) ∧ Below w.heap.size w w' := by
  have hu40 := Try.underlying40
  have HN := Aside0.mk h
  have HB := Aside0.mk (Below.refl w.heap.size w)
  clear h
  go_enter Try.func20, Try.ntmps20
  go_wp2_with (first
      | ((with_reducible refine gate_dst (N := 3) rfl ?_); refine My.bx 3 #[.pointer a] 25 ?_; intro g3 hg w3_ hbox hb; have B3 := My.am hbox; have z3 := My.cz1 B3; replace HN := Aside0.mk (HN.out.up hb); replace HB := Aside0.mk (HB.out.trans (hb.mono HB.out.size)); clear hb hbox hg)
      | ((with_reducible refine gate_dst (N := 4) rfl ?_); refine My.bx 4 #[.int .i64 n] 3 ?_; intro g4 hg w4_ hbox hb; have B4 := My.am hbox; replace B3 := My.ab B3 hb; clear z3; have z3 := My.cz1 B3; have z4 := My.cz1 B4; replace HN := Aside0.mk (HN.out.up hb); replace HB := Aside0.mk (HB.out.trans (hb.mono HB.out.size)); clear hb hbox hg)
      | ((with_reducible refine gate_dst (N := 5) rfl ?_); refine My.bx 5 #[.int .i64 z] 3 ?_; intro g5 hg w5_ hbox hb; have B5 := My.am hbox; replace B3 := My.ab B3 hb; clear z3; have z3 := My.cz1 B3; replace B4 := My.ab B4 hb; clear z4; have z4 := My.cz1 B4; have z5 := My.cz1 B5; replace HN := Aside0.mk (HN.out.up hb); replace HB := Aside0.mk (HB.out.trans (hb.mono HB.out.size)); clear hb hbox hg)
      | ((with_reducible refine gate_callee (f := 39) rfl ?_); refine goesL_ (some _) rfl rfl Try.func39 (by kernel_rfl) rfl #[.pointer a, .int .i64 n] rfl My.gx ?_; (refine (nb_find.calls HN.out n).mono ?_); rintro e W1 ⟨rfl, hb⟩; refine ⟨_, rfl, ?_⟩; replace HB := Aside0.mk (HB.out.trans (hb.mono HB.out.size)); clear hb; unfold valD; clear z3 z4 z5)
      | ((with_reducible refine gate_dst (N := 7) rfl ?_); refine My.bx 7 #[.int .i64 0, .string ⟨#[]⟩, .int .i64 0] 40 ?_; intro gx hgx wx hbox hb; have BX := My.am hbox; have GX := My.nge hgx HB.out; replace HB := My.st HB hb; clear hb hbox hgx; have hz := My.cz3 BX))
  go_ret
  exact ⟨rfl, below_set (below_set (below_set HB.out GX.out) GX.out) GX.out⟩
set_option maxHeartbeats 4000000 in
set_option maxRecDepth 100000 in
theorem nb_Image.calls (h : NoDisk w a) : Calls Try.prog 28 #[.pointer a] w fun e w' => e = .returned (.slice none 0 0) ∧ Below w.heap.size w w' := by
  have hu40 := Try.underlying40
  have HN := Aside0.mk h
  have HB := Aside0.mk (Below.refl w.heap.size w)
  clear h
  go_enter Try.func28, Try.ntmps28
  go_wp2_with ((with_reducible refine gate_callee (f := 27) rfl ?_); refine goesL_ (some _) rfl rfl Try.func27 (by kernel_rfl) rfl #[.pointer a] rfl My.gx ?_; (refine (nb_Files.calls HN.out).mono ?_); rintro e W1 ⟨rfl, hb⟩; refine ⟨_, rfl, ?_⟩; replace HN := Aside0.mk (HN.out.up hb); replace HB := Aside0.mk (HB.out.trans (hb.mono HB.out.size)); clear hb)
  go_loopg [3, 9] 1 (fun kq v3 v9 w' => v3 = .slice none 0 0 ∧ v9 = .int .i64 0 ∧ Aside0 (Below w.heap.size w w'))
  case atStart => exact ⟨rfl, rfl, HB⟩
  case round =>
    obtain ⟨rfl, rfl, HB⟩ := hrel
    go_wp2
    go_ret
    exact ⟨rfl, HB.out⟩
set_option maxHeartbeats 4000000 in
set_option maxRecDepth 100000 in
theorem nb_Used.calls (h : NoDisk w a) : Calls Try.prog 26 #[.pointer a] w fun e w' => e = .returned (.int .i64 0) ∧ Below w.heap.size w w' := by
  have hu40 := Try.underlying40
  have HN := Aside0.mk h
  have HB := Aside0.mk (Below.refl w.heap.size w)
  clear h
  go_enter Try.func26, Try.ntmps26
  go_wp2_with ((with_reducible refine gate_callee (f := 28) rfl ?_); refine goesL_ (some _) rfl rfl Try.func28 (by kernel_rfl) rfl #[.pointer a] rfl My.gx ?_; (refine (nb_Image.calls HN.out).mono ?_); rintro e W1 ⟨rfl, hb⟩; refine ⟨_, rfl, ?_⟩; replace HN := Aside0.mk (HN.out.up hb); replace HB := Aside0.mk (HB.out.trans (hb.mono HB.out.size)); clear hb)
  go_loopg [3, 9] 1 (fun kq v3 v9 w' => v3 = .int .i64 0 ∧ v9 = .int .i64 0 ∧ Aside0 (Below w.heap.size w w'))
  case atStart => exact ⟨rfl, rfl, HB⟩
  case round =>
    obtain ⟨rfl, rfl, HB⟩ := hrel
    go_wp2
    go_ret
    exact ⟨rfl, HB.out⟩
end
def ententelaw15_DiskNobody.f (k : Nat) (a0_0 : Int) (a0_1 : Int) (a0_2 : Int) (a0_3 : ByteArray) (l0_4 : List Int) : Option Bool := some true
set_option maxHeartbeats 16000000 in
set_option maxRecDepth 100000 in
theorem ententelaw15_DiskNobody.calls (k : Nat) (n0 n1 n2 : Int) (d : ByteArray) (A4 : Option Addr) (c4 : Nat) (l4 : List Int) (r : Bool) (w : World) (hr4 : Kd.C (Kd.int .i64) w A4 l4.length l4) (hc4 : l4.length ≤ c4) (ht : r = true) (h : ententelaw15_DiskNobody.f k n0 n1 n2 d l4 = some r) :
    Calls Try.prog 5 #[.agg #[.int .i64 n0, .int .i64 n1, .int .i64 n2, .string d, .slice A4 l4.length c4]] w fun e w' => e = .returned (.bool r) ∧ Below w.heap.size w w' := by
  subst ht
  have hu40 := Try.underlying40
  have hu35 := Try.underlying35
  have HB := Aside0.mk (Below.refl w.heap.size w)
  clear h hr4 hc4
  go_enter Try.func5, Try.ntmps5
  go_upto_block 0 with (first
    | ((with_reducible refine gate_dst (N := 1) rfl ?_); refine My.bx 1 #[.int .i64 n0, .int .i64 n1, .int .i64 n2, .string d, .slice A4 l4.length c4] 35 ?_; intro g1 hg1 w1 hbox hb; have B1 := My.am hbox; replace HB := Aside0.mk (HB.out.trans (hb.mono HB.out.size)); clear hb hbox hg1)
    | ((with_reducible refine gate_dst (N := 8) rfl ?_); refine My.bx 8 #[.bool false, .bool false, .int .i64 0, .int .i64 0, .slice none 0 0, .map none] 46 ?_; intro g8 hg8 w8 hbox hb; have B8 := My.am hbox; replace B1 := My.ab B1 hb; replace HB := Aside0.mk (HB.out.trans (hb.mono HB.out.size)); clear hb hbox hg8))
  have HG9 := Aside0.mk (show ∃ g, g = w8.heap.size from ⟨_, rfl⟩)
  obtain ⟨g9, hg9⟩ := HG9.out
  clear HG9
  rw [← hg9]
  refine at_world (J := fun W => W.heap[g1]? = some (.cells #[.int .i64 n0, .int .i64 n1, .int .i64 n2, .string d, .slice A4 l4.length c4] 35 (0, 0)) ∧ W.heap[g8]? = some (.cells #[.bool false, .bool false, .int .i64 0, .int .i64 0, .slice none 0 0, .map none] 46 (0, 0)) ∧ W.heap[g9]? = some (.cells #[.pointer none, .pointer (some ⟨g8, 0, none⟩)] 25 (0, 0)) ∧ Below w.heap.size w W) ⟨blk_alloc B1.out _, blk_alloc B8.out _, by rw [hg9]; exact (MapKept.heap_alloc w8 _).1, below_alloc HB.out _⟩ ?_
  clear hg9 B1 B8 HB
  rintro W0 ⟨Y1, Y8, Y9, HB0⟩
  have B1 := My.am Y1
  have B8 := My.am Y8
  have B9 := My.am Y9
  have HBW := Aside0.mk HB0
  clear Y1 Y8 Y9 HB0
  go_wp2
  go_loopg [11] 3 (fun kq v11 w' => ∃ (i : Nat), v11 = .int .i64 (i : Int) ∧ Aside0 (kq + i = 3) ∧ Aside0 (i ≤ 2) ∧ Aside0 (Below W0.heap.size W0 w'))
  case atStart => exact ⟨0, rfl, ⟨rfl⟩, ⟨by omega⟩, ⟨Below.refl _ _⟩⟩
  case round =>
    obtain ⟨i, rfl, hk, hi, HBL⟩ := hrel
    have hcase : i = 0 ∨ i = 1 ∨ i = 2 := by have := hi.out; omega
    have BK := My.am ((HBL.out.block _ (blk_lt B1.out)).trans B1.out)
    have hz := My.cz5 BK
    have Y9 := (HBL.out.block _ (blk_lt B9.out)).trans B9.out
    rcases hcase with rfl | rfl | rfl
    · obtain ⟨a, ha⟩ : ∃ a : Option Addr, none = a := ⟨_, rfl⟩
      have x0 : wr.cell? ⟨g9, 0, none⟩ = some (.pointer a) := by rw [← ha]; exact blk_cell Y9 0
      have HN := Aside0.mk (show NoDisk wr a from .inl ha.symm)
      have HB := HBL
      clear Y9 ha hi
      go_wp2_with (first
      | ((with_reducible refine gate_callee (f := 17) rfl ?_); refine goesL_ (some 19) rfl rfl Try.func17 (by kernel_rfl) rfl #[.pointer a, .int .i64 n1] rfl My.gx ?_; (refine (nb_Read.calls HN.out n1).mono ?_); rintro e W1 ⟨rfl, hb⟩; refine ⟨_, rfl, ?_⟩; replace HN := Aside0.mk (HN.out.up hb); replace BK := My.ab BK hb; clear hz; have hz := My.cz5 BK; replace HB := Aside0.mk (HB.out.trans (hb.mono HB.out.size)); clear hb; clear x0)
      | ((with_reducible refine gate_callee (f := 18) rfl ?_); refine goesL_ (some 27) rfl rfl Try.func18 (by kernel_rfl) rfl #[.pointer a, .int .i64 n1, .string d] rfl My.gx ?_; (refine (nb_Append.calls HN.out n1 d).mono ?_); rintro e W1 ⟨rfl, hb⟩; refine ⟨_, rfl, ?_⟩; replace HN := Aside0.mk (HN.out.up hb); replace BK := My.ab BK hb; clear hz; have hz := My.cz5 BK; replace HB := Aside0.mk (HB.out.trans (hb.mono HB.out.size)); clear hb)
      | ((with_reducible refine gate_callee (f := 19) rfl ?_); (refine gate_guard (by rfl) ?_; dsimp only); refine goesL_ (some 33) rfl rfl Try.func19 (by kernel_rfl) rfl #[.pointer a, .int .i64 n1] rfl My.gx ?_; (refine (nb_Sync.calls HN.out n1).mono ?_); rintro e W1 ⟨rfl, hb⟩; refine ⟨_, rfl, ?_⟩; replace HN := Aside0.mk (HN.out.up hb); replace BK := My.ab BK hb; clear hz; have hz := My.cz5 BK; replace HB := Aside0.mk (HB.out.trans (hb.mono HB.out.size)); clear hb)
      | ((with_reducible refine gate_callee (f := 20) rfl ?_); (refine gate_guard (by rfl) ?_; dsimp only); refine goesL_ (some 42) rfl rfl Try.func20 (by kernel_rfl) rfl #[.pointer a, .int .i64 n1, .int .i64 n2] rfl My.gx ?_; (refine (nb_Cut.calls HN.out n1 n2).mono ?_); rintro e W1 ⟨rfl, hb⟩; refine ⟨_, rfl, ?_⟩; replace HN := Aside0.mk (HN.out.up hb); replace BK := My.ab BK hb; clear hz; have hz := My.cz5 BK; replace HB := Aside0.mk (HB.out.trans (hb.mono HB.out.size)); clear hb)
      | ((with_reducible refine gate_callee (f := 21) rfl ?_); (refine gate_guard (by rfl) ?_; dsimp only); refine goesL_ (some 49) rfl rfl Try.func21 (by kernel_rfl) rfl #[.pointer a, .int .i64 n1] rfl My.gx ?_; (refine (nb_Remove.calls HN.out n1).mono ?_); rintro e W1 ⟨rfl, hb⟩; refine ⟨_, rfl, ?_⟩; replace HN := Aside0.mk (HN.out.up hb); replace BK := My.ab BK hb; clear hz; have hz := My.cz5 BK; replace HB := Aside0.mk (HB.out.trans (hb.mono HB.out.size)); clear hb)
      | ((with_reducible refine gate_callee (f := 22) rfl ?_); (refine gate_guard (by rfl) ?_; dsimp only); refine goesL_ (some 56) rfl rfl Try.func22 (by kernel_rfl) rfl #[.pointer a, .int .i64 n2, .slice none 0 0] rfl My.gx ?_; (refine (nb_Arm.calls HN.out n2).mono ?_); rintro e W1 ⟨rfl, hb⟩; refine ⟨_, rfl, ?_⟩; replace HN := Aside0.mk (HN.out.up hb); replace BK := My.ab BK hb; clear hz; have hz := My.cz5 BK; replace HB := Aside0.mk (HB.out.trans (hb.mono HB.out.size)); clear hb)
      | ((with_reducible refine gate_callee (f := 23) rfl ?_); (refine gate_guard (by rfl) ?_; dsimp only); refine goesL_ (some 61) rfl rfl Try.func23 (by kernel_rfl) rfl #[.pointer a, .slice none 0 0] rfl My.gx ?_; (refine (nb_Crash.calls HN.out).mono ?_); rintro e W1 ⟨rfl, hb⟩; refine ⟨_, rfl, ?_⟩; replace HN := Aside0.mk (HN.out.up hb); replace BK := My.ab BK hb; clear hz; have hz := My.cz5 BK; replace HB := Aside0.mk (HB.out.trans (hb.mono HB.out.size)); clear hb)
      | ((with_reducible refine gate_callee (f := 24) rfl ?_); (refine gate_guard (by rfl) ?_; dsimp only); refine goesL_ (some 66) rfl rfl Try.func24 (by kernel_rfl) rfl #[.pointer a] rfl My.gx ?_; (refine (nb_Boot.calls HN.out).mono ?_); rintro e W1 ⟨rfl, hb⟩; refine ⟨_, rfl, ?_⟩; replace HN := Aside0.mk (HN.out.up hb); replace BK := My.ab BK hb; clear hz; have hz := My.cz5 BK; replace HB := Aside0.mk (HB.out.trans (hb.mono HB.out.size)); clear hb)
      | ((with_reducible refine gate_callee (f := 25) rfl ?_); (refine gate_guard (by rfl) ?_; dsimp only); refine goesL_ (some 77) rfl rfl Try.func25 (by kernel_rfl) rfl #[.pointer a] rfl My.gx ?_; (refine (nb_Dead.calls HN.out).mono ?_); rintro e W1 ⟨rfl, hb⟩; refine ⟨_, rfl, ?_⟩; replace HN := Aside0.mk (HN.out.up hb); replace BK := My.ab BK hb; clear hz; have hz := My.cz5 BK; replace HB := Aside0.mk (HB.out.trans (hb.mono HB.out.size)); clear hb)
      | ((with_reducible refine gate_callee (f := 26) rfl ?_); (refine gate_guard (by rfl) ?_; dsimp only); refine goesL_ (some 81) rfl rfl Try.func26 (by kernel_rfl) rfl #[.pointer a] rfl My.gx ?_; (refine (nb_Used.calls HN.out).mono ?_); rintro e W1 ⟨rfl, hb⟩; refine ⟨_, rfl, ?_⟩; replace HN := Aside0.mk (HN.out.up hb); replace BK := My.ab BK hb; clear hz; have hz := My.cz5 BK; replace HB := Aside0.mk (HB.out.trans (hb.mono HB.out.size)); clear hb)
      | ((with_reducible refine gate_callee (f := 27) rfl ?_); (refine gate_guard (by rfl) ?_; dsimp only); refine goesL_ (some 86) rfl rfl Try.func27 (by kernel_rfl) rfl #[.pointer a] rfl My.gx ?_; (refine (nb_Files.calls HN.out).mono ?_); rintro e W1 ⟨rfl, hb⟩; refine ⟨_, rfl, ?_⟩; replace HN := Aside0.mk (HN.out.up hb); replace BK := My.ab BK hb; clear hz; have hz := My.cz5 BK; replace HB := Aside0.mk (HB.out.trans (hb.mono HB.out.size)); clear hb)
      | ((with_reducible refine gate_callee (f := 28) rfl ?_); (refine gate_guard (by rfl) ?_; dsimp only); refine goesL_ (some 89) rfl rfl Try.func28 (by kernel_rfl) rfl #[.pointer a] rfl My.gx ?_; (refine (nb_Image.calls HN.out).mono ?_); rintro e W1 ⟨rfl, hb⟩; refine ⟨_, rfl, ?_⟩; replace HN := Aside0.mk (HN.out.up hb); replace BK := My.ab BK hb; clear hz; have hz := My.cz5 BK; replace HB := Aside0.mk (HB.out.trans (hb.mono HB.out.size)); clear hb))
      have hk1 := hk.out
      go_roundg 2
      case measure => omega
      case rel => exact ⟨1, by first | rfl, ⟨by omega⟩, ⟨by omega⟩, HB⟩
    · obtain ⟨a, ha⟩ : ∃ a : Option Addr, some ⟨g8, 0, none⟩ = a := ⟨_, rfl⟩
      have x0 : wr.cell? ⟨g9, 1, none⟩ = some (.pointer a) := by rw [← ha]; exact blk_cell Y9 1
      have HN := Aside0.mk (show NoDisk wr a from .inr ⟨g8, ha.symm, (HBL.out.block _ (blk_lt B8.out)).trans B8.out⟩)
      have HB := HBL
      clear Y9 ha hi
      go_wp2_with (first
      | ((with_reducible refine gate_callee (f := 17) rfl ?_); refine goesL_ (some 19) rfl rfl Try.func17 (by kernel_rfl) rfl #[.pointer a, .int .i64 n1] rfl My.gx ?_; (refine (nb_Read.calls HN.out n1).mono ?_); rintro e W1 ⟨rfl, hb⟩; refine ⟨_, rfl, ?_⟩; replace HN := Aside0.mk (HN.out.up hb); replace BK := My.ab BK hb; clear hz; have hz := My.cz5 BK; replace HB := Aside0.mk (HB.out.trans (hb.mono HB.out.size)); clear hb; clear x0)
      | ((with_reducible refine gate_callee (f := 18) rfl ?_); refine goesL_ (some 27) rfl rfl Try.func18 (by kernel_rfl) rfl #[.pointer a, .int .i64 n1, .string d] rfl My.gx ?_; (refine (nb_Append.calls HN.out n1 d).mono ?_); rintro e W1 ⟨rfl, hb⟩; refine ⟨_, rfl, ?_⟩; replace HN := Aside0.mk (HN.out.up hb); replace BK := My.ab BK hb; clear hz; have hz := My.cz5 BK; replace HB := Aside0.mk (HB.out.trans (hb.mono HB.out.size)); clear hb)
      | ((with_reducible refine gate_callee (f := 19) rfl ?_); (refine gate_guard (by rfl) ?_; dsimp only); refine goesL_ (some 33) rfl rfl Try.func19 (by kernel_rfl) rfl #[.pointer a, .int .i64 n1] rfl My.gx ?_; (refine (nb_Sync.calls HN.out n1).mono ?_); rintro e W1 ⟨rfl, hb⟩; refine ⟨_, rfl, ?_⟩; replace HN := Aside0.mk (HN.out.up hb); replace BK := My.ab BK hb; clear hz; have hz := My.cz5 BK; replace HB := Aside0.mk (HB.out.trans (hb.mono HB.out.size)); clear hb)
      | ((with_reducible refine gate_callee (f := 20) rfl ?_); (refine gate_guard (by rfl) ?_; dsimp only); refine goesL_ (some 42) rfl rfl Try.func20 (by kernel_rfl) rfl #[.pointer a, .int .i64 n1, .int .i64 n2] rfl My.gx ?_; (refine (nb_Cut.calls HN.out n1 n2).mono ?_); rintro e W1 ⟨rfl, hb⟩; refine ⟨_, rfl, ?_⟩; replace HN := Aside0.mk (HN.out.up hb); replace BK := My.ab BK hb; clear hz; have hz := My.cz5 BK; replace HB := Aside0.mk (HB.out.trans (hb.mono HB.out.size)); clear hb)
      | ((with_reducible refine gate_callee (f := 21) rfl ?_); (refine gate_guard (by rfl) ?_; dsimp only); refine goesL_ (some 49) rfl rfl Try.func21 (by kernel_rfl) rfl #[.pointer a, .int .i64 n1] rfl My.gx ?_; (refine (nb_Remove.calls HN.out n1).mono ?_); rintro e W1 ⟨rfl, hb⟩; refine ⟨_, rfl, ?_⟩; replace HN := Aside0.mk (HN.out.up hb); replace BK := My.ab BK hb; clear hz; have hz := My.cz5 BK; replace HB := Aside0.mk (HB.out.trans (hb.mono HB.out.size)); clear hb)
      | ((with_reducible refine gate_callee (f := 22) rfl ?_); (refine gate_guard (by rfl) ?_; dsimp only); refine goesL_ (some 56) rfl rfl Try.func22 (by kernel_rfl) rfl #[.pointer a, .int .i64 n2, .slice none 0 0] rfl My.gx ?_; (refine (nb_Arm.calls HN.out n2).mono ?_); rintro e W1 ⟨rfl, hb⟩; refine ⟨_, rfl, ?_⟩; replace HN := Aside0.mk (HN.out.up hb); replace BK := My.ab BK hb; clear hz; have hz := My.cz5 BK; replace HB := Aside0.mk (HB.out.trans (hb.mono HB.out.size)); clear hb)
      | ((with_reducible refine gate_callee (f := 23) rfl ?_); (refine gate_guard (by rfl) ?_; dsimp only); refine goesL_ (some 61) rfl rfl Try.func23 (by kernel_rfl) rfl #[.pointer a, .slice none 0 0] rfl My.gx ?_; (refine (nb_Crash.calls HN.out).mono ?_); rintro e W1 ⟨rfl, hb⟩; refine ⟨_, rfl, ?_⟩; replace HN := Aside0.mk (HN.out.up hb); replace BK := My.ab BK hb; clear hz; have hz := My.cz5 BK; replace HB := Aside0.mk (HB.out.trans (hb.mono HB.out.size)); clear hb)
      | ((with_reducible refine gate_callee (f := 24) rfl ?_); (refine gate_guard (by rfl) ?_; dsimp only); refine goesL_ (some 66) rfl rfl Try.func24 (by kernel_rfl) rfl #[.pointer a] rfl My.gx ?_; (refine (nb_Boot.calls HN.out).mono ?_); rintro e W1 ⟨rfl, hb⟩; refine ⟨_, rfl, ?_⟩; replace HN := Aside0.mk (HN.out.up hb); replace BK := My.ab BK hb; clear hz; have hz := My.cz5 BK; replace HB := Aside0.mk (HB.out.trans (hb.mono HB.out.size)); clear hb)
      | ((with_reducible refine gate_callee (f := 25) rfl ?_); (refine gate_guard (by rfl) ?_; dsimp only); refine goesL_ (some 77) rfl rfl Try.func25 (by kernel_rfl) rfl #[.pointer a] rfl My.gx ?_; (refine (nb_Dead.calls HN.out).mono ?_); rintro e W1 ⟨rfl, hb⟩; refine ⟨_, rfl, ?_⟩; replace HN := Aside0.mk (HN.out.up hb); replace BK := My.ab BK hb; clear hz; have hz := My.cz5 BK; replace HB := Aside0.mk (HB.out.trans (hb.mono HB.out.size)); clear hb)
      | ((with_reducible refine gate_callee (f := 26) rfl ?_); (refine gate_guard (by rfl) ?_; dsimp only); refine goesL_ (some 81) rfl rfl Try.func26 (by kernel_rfl) rfl #[.pointer a] rfl My.gx ?_; (refine (nb_Used.calls HN.out).mono ?_); rintro e W1 ⟨rfl, hb⟩; refine ⟨_, rfl, ?_⟩; replace HN := Aside0.mk (HN.out.up hb); replace BK := My.ab BK hb; clear hz; have hz := My.cz5 BK; replace HB := Aside0.mk (HB.out.trans (hb.mono HB.out.size)); clear hb)
      | ((with_reducible refine gate_callee (f := 27) rfl ?_); (refine gate_guard (by rfl) ?_; dsimp only); refine goesL_ (some 86) rfl rfl Try.func27 (by kernel_rfl) rfl #[.pointer a] rfl My.gx ?_; (refine (nb_Files.calls HN.out).mono ?_); rintro e W1 ⟨rfl, hb⟩; refine ⟨_, rfl, ?_⟩; replace HN := Aside0.mk (HN.out.up hb); replace BK := My.ab BK hb; clear hz; have hz := My.cz5 BK; replace HB := Aside0.mk (HB.out.trans (hb.mono HB.out.size)); clear hb)
      | ((with_reducible refine gate_callee (f := 28) rfl ?_); (refine gate_guard (by rfl) ?_; dsimp only); refine goesL_ (some 89) rfl rfl Try.func28 (by kernel_rfl) rfl #[.pointer a] rfl My.gx ?_; (refine (nb_Image.calls HN.out).mono ?_); rintro e W1 ⟨rfl, hb⟩; refine ⟨_, rfl, ?_⟩; replace HN := Aside0.mk (HN.out.up hb); replace BK := My.ab BK hb; clear hz; have hz := My.cz5 BK; replace HB := Aside0.mk (HB.out.trans (hb.mono HB.out.size)); clear hb))
      have hk1 := hk.out
      go_roundg 1
      case measure => omega
      case rel => exact ⟨2, by first | rfl, ⟨by omega⟩, ⟨by omega⟩, HB⟩
    · have HB := Aside0.mk (HBW.out.trans (HBL.out.mono HBW.out.size))
      clear hz
      go_wp2_with (first
      | ((with_reducible refine gate_callee (f := 10) rfl ?_); refine goesL_ (some 95) rfl rfl Try.func10 (by kernel_rfl) rfl #[] rfl My.gx ?_; (refine (awake.calls _).mono ?_); rintro e W95 ⟨rfl, hb⟩; refine ⟨_, rfl, ?_⟩; have HBA := Aside0.mk (HB.out.trans (hb.mono HB.out.size)); clear hb))
      go_ret
      exact ⟨rfl, HBA.out⟩

/-- THE ONE PURE STATEMENT of ententelaw15_DiskNobody. -/
def ententelaw15_DiskNobody.Pure : Prop := ∀ (a0_0 : Int) (a0_1 : Int) (a0_2 : Int) (a0_3 : ByteArray) (l0_4 : List Int), (Lit.int .i64 a0_0).wf = true → (Lit.int .i64 a0_1).wf = true → (Lit.int .i64 a0_2).wf = true → a0_3.size ≤ 140737488351232 → (l0_4.length ≤ 9223372036854775807 ∧ l0_4.length * 8 ≤ 140737488351232 ∧ ∀ y_ ∈ l0_4, (Lit.int .i64 y_).wf = true) → ∃ k, ententelaw15_DiskNobody.f k a0_0 a0_1 a0_2 a0_3 l0_4 = some true

end Go.Proofs.Ytjdpgkfhicpepaa.PA
