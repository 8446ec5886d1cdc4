/- A log on a disk, walked by hand; Lean checks it. -/
import Derived.Test.YtkcpgaplpmbmoaaPAx17
namespace Go.Proofs.Ytkcpgaplpmbmoaa.PA
open Go.RowKit Go.Proofs.YtkcpgaplpmbmoaaW.PrintWords Go.Proofs.YtkcpgaplpmbmoaaW.PrintLast Go.Proofs.YtkcpgaplpmbmoaaW.PrintMore
attribute [local go_sem] max2_int min2_int max_two min_two max_three min_three max_four min_four
set_option linter.unusedVariables false
set_option linter.unusedSimpArgs false

/-! #### a log that no call made -/
def NoLog (w : World) (a : Option Addr) : Prop := a = none ∨ ∃ g, a = some ⟨g, 0, none⟩ ∧ w.heap[g]? = some (.cells #[.pointer none, .bool false] 25 (0, 0))
section
variable {w : World} {a : Option Addr}
theorem NoLog.up {W : World} (h : NoLog w a) (hb : Below w.heap.size w W) : NoLog W a := by
  rcases h with h | ⟨g, h, hg⟩
  · exact .inl h
  · exact .inr ⟨g, h, (hb.block g (blk_lt hg)).trans hg⟩
theorem nl_ready.calls (h : NoLog w a) : Calls Try.prog 23 #[.pointer a] w fun e w' => e = .returned (.int .i64 1) ∧ Below w.heap.size w w' := by
  rcases h with rfl | ⟨g, rfl, hg⟩
  · exact log_ready.nil w
  · exact log_ready.empty hg
theorem nl_Number.calls (h : NoLog w a) : Calls Try.prog 8 #[.pointer a] w fun e w' => e = .returned (.int .i64 0) ∧ Below w.heap.size w w' := by
  rcases h with rfl | ⟨g, rfl, hg⟩
  · exact log_Number.nil w
  · exact log_Number.empty hg
theorem nl_Size.calls (h : NoLog w a) : Calls Try.prog 9 #[.pointer a] w fun e w' => e = .returned (.int .i64 0) ∧ Below w.heap.size w w' := by
  rcases h with rfl | ⟨g, rfl, hg⟩
  · exact log_Size.nil w
  · exact log_Size.empty hg
set_option maxHeartbeats 4000000 in
set_option maxRecDepth 100000 in
theorem nl_Append.calls (h : NoLog w a) (body : ByteArray) : Calls Try.prog 6 #[.pointer a, .string body] w fun e w' => e = .returned (.int .i64 1) ∧ Below w.heap.size w w' := by
  have HN := Aside0.mk h
  have HB := Aside0.mk (Below.refl w.heap.size w)
  clear h
  go_enter Try.func6, Try.ntmps6
  go_wp2_with ((with_reducible refine gate_callee (f := 23) rfl ?_); refine goesL_ (some 9) rfl rfl Try.func23 (by kernel_rfl) rfl #[.pointer a] rfl My.gx ?_; (refine (nl_ready.calls HN.out).mono ?_); rintro e W9 ⟨rfl, hb⟩; refine ⟨_, rfl, ?_⟩; (try clear x0); replace HN := Aside0.mk (HN.out.up hb); replace HB := Aside0.mk (HB.out.trans (hb.mono HB.out.size)); clear hb)
  go_ret
  exact ⟨rfl, HB.out⟩
set_option maxHeartbeats 4000000 in
set_option maxRecDepth 100000 in
theorem nl_Turn.calls (h : NoLog w a) (body : ByteArray) : Calls Try.prog 7 #[.pointer a, .string body] w fun e w' => e = .returned (.int .i64 1) ∧ Below w.heap.size w w' := by
  have HN := Aside0.mk h
  have HB := Aside0.mk (Below.refl w.heap.size w)
  clear h
  go_enter Try.func7, Try.ntmps7
  go_wp2_with ((with_reducible refine gate_callee (f := 23) rfl ?_); refine goesL_ (some 10) rfl rfl Try.func23 (by kernel_rfl) rfl #[.pointer a] rfl My.gx ?_; (refine (nl_ready.calls HN.out).mono ?_); rintro e W10 ⟨rfl, hb⟩; refine ⟨_, rfl, ?_⟩; (try clear x0); replace HN := Aside0.mk (HN.out.up hb); replace HB := Aside0.mk (HB.out.trans (hb.mono HB.out.size)); clear hb)
  go_ret
  exact ⟨rfl, HB.out⟩
end
def ententelaw17_WalNobody.f (k : Nat) (a0 : ByteArray) : Option Bool := some true
set_option maxHeartbeats 16000000 in
set_option maxRecDepth 100000 in
theorem ententelaw17_WalNobody.calls (k : Nat) (a0 : ByteArray) (r : Bool) (w : World) (ht : r = true) (h : ententelaw17_WalNobody.f k a0 = some r) :
    Calls Try.prog 3 #[.string a0] w fun e w' => e = .returned (.bool r) ∧ Below w.heap.size w w' := by
  subst ht
  have HB := Aside0.mk (Below.refl w.heap.size w)
  clear h
  go_enter Try.func3, Try.ntmps3
  go_upto_block 0 with ((with_reducible refine gate_dst (N := 12) rfl ?_); refine My.bx 12 #[.pointer none, .bool false] 25 ?_; intro g8 hg8 w8 hbox hb; have B8 := My.am hbox; replace HB := Aside0.mk (HB.out.trans (hb.mono HB.out.size)); clear hb hbox hg8)
  have HG9 := Aside0.mk (show ∃ g, g = w8.heap.size from ⟨_, rfl⟩)
  obtain ⟨g9, hg9⟩ := HG9.out
  clear HG9
  rw [← hg9]
  refine at_world (J := fun W => W.heap[g8]? = some (.cells #[.pointer none, .bool false] 25 (0, 0)) ∧ W.heap[g9]? = some (.cells #[.pointer none, .pointer (some ⟨g8, 0, none⟩)] 22 (0, 0)) ∧ Below w.heap.size w W) ⟨blk_alloc B8.out _, by rw [hg9]; exact (MapKept.heap_alloc w8 _).1, HB.out.alloc HB.out.size _⟩ ?_
  clear hg9 B8 HB
  rintro W0 ⟨Y8, Y9, HB0⟩
  have B8 := My.am Y8
  have B9 := My.am Y9
  have HBW := Aside0.mk HB0
  clear Y8 Y9 HB0
  go_wp2
  go_loopg [15] 3 (fun kq v15 w' => ∃ (i : Nat), v15 = .int .i64 (i : Int) ∧ Aside0 (kq + i = 3) ∧ Aside0 (i ≤ 2) ∧ Aside0 (Below W0.heap.size W0 w'))
  case atStart => exact ⟨0, rfl, ⟨rfl⟩, ⟨by omega⟩, ⟨Below.refl _ _⟩⟩
  case round =>
    obtain ⟨i, rfl, hk, hi, HBL⟩ := hrel
    have hcase : i = 0 ∨ i = 1 ∨ i = 2 := by have := hi.out; omega
    have Y9 := (HBL.out.block _ (blk_lt B9.out)).trans B9.out
    rcases hcase with rfl | rfl | rfl
    · obtain ⟨a, ha⟩ : ∃ a : Option Addr, none = a := ⟨_, rfl⟩
      have x0 : wr.cell? ⟨g9, 0, none⟩ = some (.pointer a) := by rw [← ha]; exact blk_cell Y9 0
      have HN := Aside0.mk (show NoLog wr a from .inl ha.symm)
      have HB := HBL
      clear Y9 ha hi
      go_wp2_with (first
      | ((with_reducible refine gate_callee (f := 6) rfl ?_); refine goesL_ (some 21) rfl rfl Try.func6 (by kernel_rfl) rfl #[.pointer a, .string a0] rfl My.gx ?_; (refine (nl_Append.calls HN.out a0).mono ?_); rintro e W21 ⟨rfl, hb⟩; refine ⟨_, rfl, ?_⟩; (try clear x0); replace HN := Aside0.mk (HN.out.up hb); replace HB := Aside0.mk (HB.out.trans (hb.mono HB.out.size)); clear hb)
      | ((with_reducible refine gate_callee (f := 7) rfl ?_); (refine gate_guard (by rfl) ?_; dsimp only); refine goesL_ (some 26) rfl rfl Try.func7 (by kernel_rfl) rfl #[.pointer a, .string a0] rfl My.gx ?_; (refine (nl_Turn.calls HN.out a0).mono ?_); rintro e W26 ⟨rfl, hb⟩; refine ⟨_, rfl, ?_⟩; (try clear x0); replace HN := Aside0.mk (HN.out.up hb); replace HB := Aside0.mk (HB.out.trans (hb.mono HB.out.size)); clear hb)
      | ((with_reducible refine gate_callee (f := 8) rfl ?_); (refine gate_guard (by rfl) ?_; dsimp only); refine goesL_ (some 31) rfl rfl Try.func8 (by kernel_rfl) rfl #[.pointer a] rfl My.gx ?_; (refine (nl_Number.calls HN.out).mono ?_); rintro e W31 ⟨rfl, hb⟩; refine ⟨_, rfl, ?_⟩; (try clear x0); replace HN := Aside0.mk (HN.out.up hb); replace HB := Aside0.mk (HB.out.trans (hb.mono HB.out.size)); clear hb)
      | ((with_reducible refine gate_callee (f := 9) rfl ?_); (refine gate_guard (by rfl) ?_; dsimp only); refine goesL_ (some 36) rfl rfl Try.func9 (by kernel_rfl) rfl #[.pointer a] rfl My.gx ?_; (refine (nl_Size.calls HN.out).mono ?_); rintro e W36 ⟨rfl, hb⟩; refine ⟨_, rfl, ?_⟩; (try clear x0); replace HN := Aside0.mk (HN.out.up hb); replace HB := Aside0.mk (HB.out.trans (hb.mono HB.out.size)); clear hb))
      have hk1 := hk.out
      go_roundg 2
      case measure => omega
      case rel => exact ⟨1, by first | rfl, ⟨by omega⟩, ⟨by omega⟩, HB⟩
    · obtain ⟨a, ha⟩ : ∃ a : Option Addr, some ⟨g8, 0, none⟩ = a := ⟨_, rfl⟩
      have x0 : wr.cell? ⟨g9, 1, none⟩ = some (.pointer a) := by rw [← ha]; exact blk_cell Y9 1
      have HN := Aside0.mk (show NoLog wr a from .inr ⟨g8, ha.symm, (HBL.out.block _ (blk_lt B8.out)).trans B8.out⟩)
      have HB := HBL
      clear Y9 ha hi
      go_wp2_with (first
      | ((with_reducible refine gate_callee (f := 6) rfl ?_); refine goesL_ (some 21) rfl rfl Try.func6 (by kernel_rfl) rfl #[.pointer a, .string a0] rfl My.gx ?_; (refine (nl_Append.calls HN.out a0).mono ?_); rintro e W21 ⟨rfl, hb⟩; refine ⟨_, rfl, ?_⟩; (try clear x0); replace HN := Aside0.mk (HN.out.up hb); replace HB := Aside0.mk (HB.out.trans (hb.mono HB.out.size)); clear hb)
      | ((with_reducible refine gate_callee (f := 7) rfl ?_); (refine gate_guard (by rfl) ?_; dsimp only); refine goesL_ (some 26) rfl rfl Try.func7 (by kernel_rfl) rfl #[.pointer a, .string a0] rfl My.gx ?_; (refine (nl_Turn.calls HN.out a0).mono ?_); rintro e W26 ⟨rfl, hb⟩; refine ⟨_, rfl, ?_⟩; (try clear x0); replace HN := Aside0.mk (HN.out.up hb); replace HB := Aside0.mk (HB.out.trans (hb.mono HB.out.size)); clear hb)
      | ((with_reducible refine gate_callee (f := 8) rfl ?_); (refine gate_guard (by rfl) ?_; dsimp only); refine goesL_ (some 31) rfl rfl Try.func8 (by kernel_rfl) rfl #[.pointer a] rfl My.gx ?_; (refine (nl_Number.calls HN.out).mono ?_); rintro e W31 ⟨rfl, hb⟩; refine ⟨_, rfl, ?_⟩; (try clear x0); replace HN := Aside0.mk (HN.out.up hb); replace HB := Aside0.mk (HB.out.trans (hb.mono HB.out.size)); clear hb)
      | ((with_reducible refine gate_callee (f := 9) rfl ?_); (refine gate_guard (by rfl) ?_; dsimp only); refine goesL_ (some 36) rfl rfl Try.func9 (by kernel_rfl) rfl #[.pointer a] rfl My.gx ?_; (refine (nl_Size.calls HN.out).mono ?_); rintro e W36 ⟨rfl, hb⟩; refine ⟨_, rfl, ?_⟩; (try clear x0); replace HN := Aside0.mk (HN.out.up hb); replace HB := Aside0.mk (HB.out.trans (hb.mono HB.out.size)); clear hb))
      have hk1 := hk.out
      go_roundg 1
      case measure => omega
      case rel => exact ⟨2, by first | rfl, ⟨by omega⟩, ⟨by omega⟩, HB⟩
    · have HB := Aside0.mk (HBW.out.trans (HBL.out.mono HBW.out.size))
      clear Y9 hi hk HBL HBW
      go_wp2_with (first
      | ((with_reducible refine gate_callee (f := 10) rfl ?_); refine goesL_ (some 42) rfl rfl Try.func10 (by kernel_rfl) rfl #[.pointer none, .string a0] rfl My.gx ?_; (refine (nb_Open.calls (a := none) (.inl rfl) a0).mono ?_); rintro e W42 ⟨rfl, hb⟩; refine ⟨_, rfl, ?_⟩; replace HB := Aside0.mk (HB.out.trans (hb.mono HB.out.size)); clear hb)
      | ((with_reducible refine gate_dst (N := 48) rfl ?_); refine My.bx 48 #[.bool false, .bool false, .int .i64 0, .int .i64 0, .slice none 0 0, .map none] 37 ?_; intro g48 hg w48 hbox hb; have HN := Aside0.mk (show NoDisk w48 (some ⟨g48, 0, none⟩) from .inr ⟨g48, rfl, hbox⟩); replace HB := Aside0.mk (HB.out.trans (hb.mono HB.out.size)); clear hb hbox hg)
      | ((with_reducible refine gate_callee (f := 10) rfl ?_); refine goesL_ (some 50) rfl rfl Try.func10 (by kernel_rfl) rfl #[.pointer (some ⟨g48, 0, none⟩), .string a0] rfl My.gx ?_; (refine (nb_Open.calls HN.out a0).mono ?_); rintro e W50 ⟨rfl, hb⟩; refine ⟨_, rfl, ?_⟩; replace HB := Aside0.mk (HB.out.trans (hb.mono HB.out.size)); clear hb HN)
      | ((with_reducible refine gate_callee (f := 11) rfl ?_); (refine gate_guard (by rfl) ?_; dsimp only); refine goesL_ (some 77) rfl rfl Try.func11 (by kernel_rfl) rfl #[] rfl My.gx ?_; (refine (awake.calls _).mono ?_); rintro e W77 ⟨rfl, hb⟩; refine ⟨_, rfl, ?_⟩; replace HB := Aside0.mk (HB.out.trans (hb.mono HB.out.size)); clear hb))
      go_ret
      exact ⟨rfl, HB.out⟩

/-- THE ONE PURE STATEMENT of ententelaw17_WalNobody. -/
def ententelaw17_WalNobody.Pure : Prop := ∀ (a0 : ByteArray), a0.size ≤ 140737488351232 → ∃ k, ententelaw17_WalNobody.f k a0 = some true

end Go.Proofs.Ytkcpgaplpmbmoaa.PA
