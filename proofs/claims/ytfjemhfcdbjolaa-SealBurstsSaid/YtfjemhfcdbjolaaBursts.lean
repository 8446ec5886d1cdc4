import Derived.Test.YtfjemhfcdbjolaaPBx7
import Derived.Handy
import Derived.StillTailTactics
import Derived.Laws.BytesArg
namespace Go.Proofs.Ytfjemhfcdbjolaa.PB
open Go.RowKit Go.Proofs.YtfjemhfcdbjolaaW.PrintWords Go.Proofs.YtfjemhfcdbjolaaW.PrintLast Go.Proofs.YtfjemhfcdbjolaaW.PrintMore
set_option linter.unusedVariables false
set_option linter.unusedSimpArgs false
/-- Bytes in one row, which may be written. -/
def Row8 (w : World) (g : Nat) (n : Nat) (xs : List Int) : Prop := xs.length = n ∧ ∃ cs e lo hi, w.heap[g]? = some (.cells cs e (lo, hi)) ∧ n ≤ lo ∧ ∀ j, j < n → cs[j]? = some (.int .u8 (xs.getD j 0))
theorem Row8.cell {w : World} {g n : Nat} {xs : List Int} (h : Row8 w g n xs) (j : Nat) (hj : j < n) : w.cell? ⟨g, j, none⟩ = some (.int .u8 (xs.getD j 0)) := by
  obtain ⟨_, cs, e, lo, hi, h1, h2, h3⟩ := h
  rw [cell_of_row w g j cs e (lo, hi) h1]
  exact h3 j hj
theorem Row8.frozen {w : World} {g n : Nat} {xs : List Int} (h : Row8 w g n xs) (j : Nat) (hj : j < n) : w.frozen? ⟨g, j, none⟩ = false := by
  obtain ⟨_, cs, e, lo, hi, h1, h2, h3⟩ := h
  have : ¬ lo ≤ j := by omega
  simp [World.frozen?, h1, this]
theorem Row8.put {w : World} {g n : Nat} {xs : List Int} (h : Row8 w g n xs) (x : Nat) (v : Int) : Row8 (w.setCell ⟨g, x, none⟩ (.int .u8 v)) g n (xs.set x v) := by
  obtain ⟨h0, cs, e, lo, hi, h1, h2, h3⟩ := h
  refine ⟨by rw [List.length_set]; exact h0, cs.setIfInBounds x (.int .u8 v), e, lo, hi, ?_, h2, fun j hj => ?_⟩
  · simp [World.setCell, Array.getElem?_modify, h1]
  · have hc := h3 j hj
    have hl : j < cs.size := by
      rcases Nat.lt_or_ge j cs.size with q | q
      · exact q
      · rw [Array.getElem?_eq_none q] at hc
        cases hc
    rw [Array.getElem?_setIfInBounds]
    by_cases q : x = j
    · subst q
      rw [if_pos rfl, if_pos hl]
      simp [List.getD_eq_getElem?_getD, List.getElem?_set, h0, hj]
    · rw [if_neg q, hc]
      simp [List.getD_eq_getElem?_getD, List.getElem?_set, q]
theorem wr_ (x : Int) (h : -9223372036854775808 ≤ x ∧ x ≤ 9223372036854775807) : wrap64 x = x := by unfold wrap64; omega
theorem row8_new (w1 : World) (e : TypeId) (s : ByteArray) : Row8 (Lib.bytesWorld w1 e s) w1.heap.size s.size (bytesOf s) := by
  refine ⟨bytesOf_length s, _, _, _, _, Lib.bytesWorld_at_new w1 e s, ?_, fun j hj => ?_⟩
  · rw [Lib.bytesCells, Array.size_append, Array.size_map]
    exact Nat.le_add_right _ _
  · have h := Lib.bytesWorld_cell w1 e s j hj
    rw [cell_of_row _ _ _ _ _ _ (Lib.bytesWorld_at_new w1 e s)] at h
    rw [h]
    have h' : j < s.data.toList.length := by rw [data_length]; exact hj
    simp [bytesOf, List.getD_eq_getElem?_getD, List.getElem?_eq_getElem h']
/-- The bytes, and whether a bit was met, ahead of round i. -/
def bst (s : ByteArray) (n H A : Nat) (a2 : Int) : Nat → List Int × Bool
  | 0 => (bytesOf s, false)
  | i + 1 => if Go.bits .and .u64 (a2 / 2 ^ i) 1 = 1 ∧ A + i < 8 * n then ((bst s n H A a2 i).1.set (H + (A + i) / 8) (Go.bits .xor .u8 ((bst s n H A a2 i).1[H + (A + i) / 8]?.getD 0) (2 ^ ((A + i) % 8) % 256)), true) else bst s n H A a2 i
set_option maxHeartbeats 8000000 in
set_option maxRecDepth 100000 in
theorem bursts_main (k : Nat) (body : ByteArray) (A : Nat) (a2 : Int) (s : ByteArray) (H : Nat) (r1 : ByteArray) (r2 r3 : Int) (w : World)
    (hsz : body.size ≤ 140737488351232) (hss : s.size ≤ 1000000000000000000) (hs : seal_Seal.f k 3 body = some (s, 0)) (c1 : ¬ a2 = 0) (hA : A < 8 * body.size) (hHs : H + body.size + 8 = s.size)
    (ho : seal_Open.f k (strOfNums (bst s body.size H A a2 64).1) 0 3 = some (r1, r2, r3)) (hw : ententelaw02_awake.f k = some true)
    (hres : if (bst s body.size H A a2 64).2 = true then r1 = ⟨#[]⟩ ∧ r2 = 0 ∧ r3 = 22 else r1 = body ∧ r3 = 0) :
    Calls Try.prog 6 #[.string body, .int .i64 (A : Int), .int .u64 a2] w fun e w' => e = .returned (.bool true) ∧ Below w.heap.size w w' := by
  have HB := Aside0.mk (Below.refl w.heap.size w)
  have HG : Aside0 (w.heap.size ≤ w.heap.size) := ⟨Nat.le_refl _⟩
  have HS := Aside0.mk hs
  have HO := Aside0.mk ho
  have HW := Aside0.mk hw
  have HR9 := Aside0.mk hres
  clear hs ho hw hres
  have c1b : (a2 == 0) = false := beq_eq_false_iff_ne.mpr c1
  have HH : Aside0 ((s.size : Int) - 8 - (body.size : Int) = (H : Int)) := ⟨by omega⟩
  have c2b : ((A : Int) < 0) = False := eq_false (by omega)
  have c3b : decide (8 * (body.size : Int) ≤ (A : Int)) = false := decide_eq_false (by omega)
  have c4b : decide ((s.size : Int) < (body.size : Int) + 8) = false := decide_eq_false (by omega)
  clear c1
  go_enter Try.func6, Try.ntmps6
  go_wp2_with ((with_reducible refine gate_callee (f := 14) rfl ?_); refine goesL_ (some 19) rfl rfl Try.func14 (by kernel_rfl) rfl #[.int .i64 3, .string body] rfl (by (try simp only [List.map_toArray, List.map_cons, List.map_nil]); first | done | rfl | (simp only [List.length_drop, List.length_take]; rfl)) ?_; (with_reducible refine (seal_Seal.calls k 3 body s 0 _ HS.out).mono ?_); rintro e w1 ⟨rfl, hb⟩; refine ⟨_, rfl, ?_⟩; have n0_ := Aside0.mk (below_step (by repeat (first | (with_reducible first | exact HB.out | apply below_alloc | apply pw_below_drewN | apply below_drew1 | refine below_set ?_ HG.out) | exact HB.out)) hb); clear HB; have HB := n0_; clear n0_; (try clear hb))
  rw [print_bytes 9 40 5 Try.underlying9 Try.underlying40 Try.underlying5 s w1]
  have HR := Aside0.mk (row8_new w1 5 s)
  have HG2 : Aside0 (w.heap.size ≤ w1.heap.size) := ⟨below_size HB.out⟩
  have HB2 : Aside0 (Below w.heap.size w (Lib.bytesWorld w1 5 s)) := ⟨bytes_below HB.out HG2.out 5 s⟩
  clear HB HG
  have HG := HG2
  clear HG2
  generalize Lib.bytesWorld w1 5 s = w2 at HR HB2 ⊢
  generalize grownCap w1 s.size 0 5 = cp
  generalize w1.heap.size = g at HR HG ⊢
  go_wp2
  rw [HH.out]
  go_loopg [11, 12] 64 (fun kq v11 v12 w' => ∃ i : Nat, kq + i = 64 ∧ v11 = .bool (bst s body.size H A a2 i).2 ∧ v12 = .int .i64 (i : Int) ∧ Aside0 (Row8 w' g s.size (bst s body.size H A a2 i).1) ∧ Aside0 (Below w.heap.size w w'))
  case atStart => exact ⟨0, rfl, rfl, rfl, HR, HB2⟩
  case round =>
    obtain ⟨i, hi, rfl, rfl, HR', HB⟩ := hrel
    clear HR HB2
    cases gk with
    | zero =>
      have hi' : i = 64 := by omega
      subst hi'
      have hcv := run_convert_bytes_arg (P := Try.prog) wr 40 5 Try.underlying40 Try.underlying5 g 0 s.size cp (bst s body.size H A a2 64).1 HR'.out.1 (fun j hj => by rw [Nat.zero_add]; exact HR'.out.cell j hj) 9 Try.underlying9
      have HCV := Aside0.mk hcv
      clear hcv
      have hres := HR9.out
      by_cases c9 : (bst s body.size H A a2 64).2 = true
      · rw [if_pos c9] at hres
        obtain ⟨rfl, rfl, rfl⟩ := hres
        rw [c9]
        clear c9
        go_wp2
        rw [HCV.out]
        go_wp2_with (first | ((with_reducible refine gate_callee (f := 16) rfl ?_); refine goesL_ (some 88) rfl rfl Try.func16 (by kernel_rfl) rfl #[.string (strOfNums (bst s body.size H A a2 64).1), .int .i64 0, .int .i64 3] rfl (by (try simp only [List.map_toArray, List.map_cons, List.map_nil]); first | done | rfl | (simp only [List.length_drop, List.length_take]; rfl)) ?_; (with_reducible refine (seal_Open.calls k (strOfNums (bst s body.size H A a2 64).1) 0 3 _ _ _ _ HO.out).mono ?_); rintro e w14 ⟨rfl, hb⟩; refine ⟨_, rfl, ?_⟩; have n0_ := Aside0.mk (below_step (by repeat (first | (with_reducible first | exact HB.out | apply below_alloc | apply pw_below_drewN | apply below_drew1 | refine below_set ?_ HG.out) | exact HB.out)) hb); clear HB; have HB := n0_; clear n0_; (try clear hb)) | (go_at_call 13; (with_reducible refine (ententelaw02_awake.calls k true _ HW.out).mono ?_); rintro e w15 ⟨rfl, hb⟩; have n0_ := Aside0.mk (below_step (by repeat (first | (with_reducible first | exact HB.out | apply below_alloc | apply pw_below_drewN | apply below_drew1 | refine below_set ?_ HG.out) | exact HB.out)) hb); clear HB; have HB := n0_; clear n0_; (try clear hb)))
        go_ret
        exact ⟨rfl, HB.out⟩
      · rw [if_neg c9] at hres
        obtain ⟨rfl, rfl⟩ := hres
        rw [show (bst s r1.size H A a2 64).2 = false by simpa using c9]
        clear c9
        go_wp2
        rw [HCV.out]
        go_wp2_with (first | ((with_reducible refine gate_callee (f := 16) rfl ?_); refine goesL_ (some 88) rfl rfl Try.func16 (by kernel_rfl) rfl #[.string (strOfNums (bst s r1.size H A a2 64).1), .int .i64 0, .int .i64 3] rfl (by (try simp only [List.map_toArray, List.map_cons, List.map_nil]); first | done | rfl | (simp only [List.length_drop, List.length_take]; rfl)) ?_; (with_reducible refine (seal_Open.calls k (strOfNums (bst s r1.size H A a2 64).1) 0 3 _ _ _ _ HO.out).mono ?_); rintro e w14 ⟨rfl, hb⟩; refine ⟨_, rfl, ?_⟩; have n0_ := Aside0.mk (below_step (by repeat (first | (with_reducible first | exact HB.out | apply below_alloc | apply pw_below_drewN | apply below_drew1 | refine below_set ?_ HG.out) | exact HB.out)) hb); clear HB; have HB := n0_; clear n0_; (try clear hb)) | (go_at_call 13; (with_reducible refine (ententelaw02_awake.calls k true _ HW.out).mono ?_); rintro e w15 ⟨rfl, hb⟩; have n0_ := Aside0.mk (below_step (by repeat (first | (with_reducible first | exact HB.out | apply below_alloc | apply pw_below_drewN | apply below_drew1 | refine below_set ?_ HG.out) | exact HB.out)) hb); clear HB; have HB := n0_; clear n0_; (try clear hb)))
        go_ret
        exact ⟨rfl, HB.out⟩
    | succ q =>
      have c5 : (i : Int) < 64 := by omega
      have c5b : decide ((i : Int) < 64) = true := decide_eq_true c5
      have c5n : decide (i < 64) = true := decide_eq_true (by omega)
      have HK : Aside0 (wrap64 ((A : Int) + (i : Int)) = ((A + i : Nat) : Int)) := ⟨by rw [wr_ _ (by omega)]; omega⟩
      have HI : Aside0 (q + 1 + i = 64) := ⟨hi⟩
      have H1 : Aside0 (¬ (Go.bits .and .u64 (a2 / 2 ^ i) 1 = 1 ∧ A + i < 8 * body.size) → bst s body.size H A a2 (i + 1) = bst s body.size H A a2 i) := ⟨fun h => by rw [bst, if_neg h]⟩
      have HH2 := Aside0.mk hHs
      have HA := Aside0.mk hA
      have hmin : min i 64 = i := by omega
      by_cases c6 : Go.bits .and .u64 (a2 / 2 ^ i) 1 = 1
      · have c6b : (Go.bits .and .u64 (a2 / 2 ^ i) 1 == 1) = true := beq_iff_eq.mpr c6
        by_cases c7 : wrap64 ((A : Int) + (i : Int)) < 8 * (body.size : Int)
        · have c7b : decide (wrap64 ((A : Int) + (i : Int)) < 8 * (body.size : Int)) = true := decide_eq_true c7
          have C7 := Aside0.mk c7
          have C6 := Aside0.mk c6
          clear c6 c7 hHs hA c5 hi
          go_wp2
          rw [HK.out]
          have hHs := HH2.out
          have hA := HA.out
          have c7 := C7.out
          rw [HK.out] at c7
          have H2 : Aside0 (bst s body.size H A a2 (i + 1) = ((bst s body.size H A a2 i).1.set (H + (A + i) / 8) (Go.bits .xor .u8 ((bst s body.size H A a2 i).1[H + (A + i) / 8]?.getD 0) (2 ^ ((A + i) % 8) % 256)), true)) := ⟨by rw [bst, if_pos ⟨C6.out, by omega⟩]⟩
          generalize hK : A + i = K at c7 H2 ⊢
          have hx : H + K / 8 < s.size := by omega
          have d1 := HR'.out.cell _ hx
          have d2 := HR'.out.frozen _ hx
          have hx0 : IntKind.i64.wrap ((H : Int) + IntKind.i64.wrap ((K : Int) / 8)) = ((H + K / 8 : Nat) : Int) := by
            rw [IntWalk.i64_in ((K : Int) / 8) (by omega), IntWalk.i64_in _ (by omega)]
            omega
          have hx1 : wrap64 ((H : Int) + wrap64 ((K : Int) / 8)) = ((H + K / 8 : Nat) : Int) := by
            rw [wr_ ((K : Int) / 8) (by omega), wr_ _ (by omega)]
            omega
          generalize hX : H + K / 8 = X at hx d1 d2 hx0 hx1 H2
          have hx2 : (X < s.size) = True := eq_true hx
          have hx3 : ((X : Int) < (s.size : Int)) = True := eq_true (Int.ofNat_lt.mpr hx)
          have HX := Aside0.mk hX
          have HK2 := Aside0.mk hK
          have C72 := Aside0.mk c7
          clear hHs hA c7 hK hX
          have HRd : Aside0 (Row8 wr.drew g s.size (bst s body.size H A a2 i).1) := HR'
          have HBd : Aside0 (Below w.heap.size w wr.drew) := ⟨below_drew1 HB.out⟩
          have d3 := HRd.out.cell _ hx
          have d4 := HRd.out.frozen _ hx
          have eT : (K : Int).tmod 8 = ((K % 8 : Nat) : Int) := by rw [Int.tmod_eq_emod_of_nonneg (by omega)]; omega
          go_still_tail 12, (by kernel_rfl)
          change wpList _ _ _ _ _ wr.drew
          clear d3 d4
          generalize wr.drew = w3 at HRd HBd ⊢
          have d5 := HRd.out.cell _ hx
          have d6 := HRd.out.frozen _ hx
          go_wp2
          go_roundg q
          case measure => omega
          case rel =>
            refine ⟨i + 1, by have := HI.out; omega, by rw [H2.out], by first | rfl | (have := HI.out; rw [wr_ _ (by omega)]; rfl), ?_, ?_⟩
            · rw [H2.out]
              exact ⟨HRd.out.put X _⟩
            · exact ⟨below_set HBd.out HG.out⟩
        · have c7b : decide (wrap64 ((A : Int) + (i : Int)) < 8 * (body.size : Int)) = false := decide_eq_false c7
          rw [HK.out] at c7
          have H2 : Aside0 (bst s body.size H A a2 (i + 1) = bst s body.size H A a2 i) := ⟨H1.out (fun h => c7 (by omega))⟩
          clear c6 c7 hHs hA c5 hi
          go_wp2
          all_goals (go_roundg q; (case measure => omega); (case rel => exact ⟨i + 1, by have := HI.out; omega, by rw [H2.out], by first | rfl | (have := HI.out; rw [wr_ _ (by omega)]; rfl), by rw [H2.out]; exact HR', HB⟩))
      · have c6b : (Go.bits .and .u64 (a2 / 2 ^ i) 1 == 1) = false := beq_eq_false_iff_ne.mpr c6
        have c6p : (Go.bits .and .u64 (a2 / 2 ^ i) 1 = 1) = False := eq_false c6
        have H2 : Aside0 (bst s body.size H A a2 (i + 1) = bst s body.size H A a2 i) := ⟨H1.out (fun h => c6 h.1)⟩
        have C6 := Aside0.mk c6
        clear c6 hHs hA c5 hi
        go_wp2
        all_goals (go_roundg q; (case measure => omega); (case rel => exact ⟨i + 1, by have := HI.out; omega, by rw [H2.out], by first | rfl | (have := HI.out; rw [wr_ _ (by omega)]; rfl), by rw [H2.out]; exact HR', HB⟩))
set_option maxHeartbeats 8000000 in
set_option maxRecDepth 100000 in
theorem bursts_early (k : Nat) (body : ByteArray) (a1 a2 : Int) (s : ByteArray) (e : Int) (w : World)
    (hsz : body.size ≤ 140737488351232) (hs : seal_Seal.f k 3 body = some (s, e)) (hw : ententelaw02_awake.f k = some true) (hc : ¬ e = 0 ∨ a2 = 0 ∨ a1 < 0 ∨ 8 * (body.size : Int) ≤ a1) :
    Calls Try.prog 6 #[.string body, .int .i64 a1, .int .u64 a2] w fun e w' => e = .returned (.bool true) ∧ Below w.heap.size w w' := by
  have HB := Aside0.mk (Below.refl w.heap.size w)
  have HS := Aside0.mk hs
  have HW := Aside0.mk hw
  clear hs hw
  by_cases c0 : e = 0
  · have c0b : (e != 0) = false := bne_eq_false_iff_eq.mpr c0
    by_cases c1 : a2 = 0
    · have c1b : (a2 == 0) = true := beq_iff_eq.mpr c1
      clear hc c0 c1
      go_enter Try.func6, Try.ntmps6
      go_wp2_with (first | ((with_reducible refine gate_callee (f := 14) rfl ?_); refine goesL_ (some 19) rfl rfl Try.func14 (by kernel_rfl) rfl #[.int .i64 3, .string body] rfl (by (try simp only [List.map_toArray, List.map_cons, List.map_nil]); first | done | rfl | (simp only [List.length_drop, List.length_take]; rfl)) ?_; (with_reducible refine (seal_Seal.calls k 3 body s e _ HS.out).mono ?_); rintro e w1 ⟨rfl, hb⟩; refine ⟨_, rfl, ?_⟩; have n0_ := Aside0.mk (below_step (by repeat (first | (with_reducible first | exact HB.out | apply below_alloc | apply pw_below_drewN | apply below_drew1) | exact HB.out)) hb); clear HB; have HB := n0_; clear n0_; (try clear hb)) | ((with_reducible refine gate_callee (f := 13) rfl ?_); refine goesL_ (some 39) rfl rfl Try.func13 (by kernel_rfl) rfl #[] rfl (by (try simp only [List.map_toArray, List.map_cons, List.map_nil]); first | done | rfl | (simp only [List.length_drop, List.length_take]; rfl)) ?_; (with_reducible refine (ententelaw02_awake.calls k true _ HW.out).mono ?_); rintro e w2 ⟨rfl, hb⟩; refine ⟨_, rfl, ?_⟩; have n0_ := Aside0.mk (below_step (by repeat (first | (with_reducible first | exact HB.out | apply below_alloc | apply pw_below_drewN | apply below_drew1) | exact HB.out)) hb); clear HB; have HB := n0_; clear n0_; (try clear hb)))
      go_ret
      exact ⟨rfl, HB.out⟩
    · have c1b : (a2 == 0) = false := beq_eq_false_iff_ne.mpr c1
      by_cases c2 : a1 < 0
      · have c2b : decide (a1 < 0) = true := decide_eq_true c2
        clear hc c0 c1 c2
        go_enter Try.func6, Try.ntmps6
        go_wp2_with (first | ((with_reducible refine gate_callee (f := 14) rfl ?_); refine goesL_ (some 19) rfl rfl Try.func14 (by kernel_rfl) rfl #[.int .i64 3, .string body] rfl (by (try simp only [List.map_toArray, List.map_cons, List.map_nil]); first | done | rfl | (simp only [List.length_drop, List.length_take]; rfl)) ?_; (with_reducible refine (seal_Seal.calls k 3 body s e _ HS.out).mono ?_); rintro e w1 ⟨rfl, hb⟩; refine ⟨_, rfl, ?_⟩; have n0_ := Aside0.mk (below_step (by repeat (first | (with_reducible first | exact HB.out | apply below_alloc | apply pw_below_drewN | apply below_drew1) | exact HB.out)) hb); clear HB; have HB := n0_; clear n0_; (try clear hb)) | ((with_reducible refine gate_callee (f := 13) rfl ?_); refine goesL_ (some 39) rfl rfl Try.func13 (by kernel_rfl) rfl #[] rfl (by (try simp only [List.map_toArray, List.map_cons, List.map_nil]); first | done | rfl | (simp only [List.length_drop, List.length_take]; rfl)) ?_; (with_reducible refine (ententelaw02_awake.calls k true _ HW.out).mono ?_); rintro e w2 ⟨rfl, hb⟩; refine ⟨_, rfl, ?_⟩; have n0_ := Aside0.mk (below_step (by repeat (first | (with_reducible first | exact HB.out | apply below_alloc | apply pw_below_drewN | apply below_drew1) | exact HB.out)) hb); clear HB; have HB := n0_; clear n0_; (try clear hb)))
        go_ret
        exact ⟨rfl, HB.out⟩
      · have c2b : decide (a1 < 0) = false := decide_eq_false c2
        have c3 : 8 * (body.size : Int) ≤ a1 := by rcases hc with h | h | h | h; exact absurd c0 h; exact absurd h c1; exact absurd h c2; exact h
        have c3b : decide (8 * (body.size : Int) ≤ a1) = true := decide_eq_true c3
        clear hc c0 c1 c2 c3
        go_enter Try.func6, Try.ntmps6
        go_wp2_with (first | ((with_reducible refine gate_callee (f := 14) rfl ?_); refine goesL_ (some 19) rfl rfl Try.func14 (by kernel_rfl) rfl #[.int .i64 3, .string body] rfl (by (try simp only [List.map_toArray, List.map_cons, List.map_nil]); first | done | rfl | (simp only [List.length_drop, List.length_take]; rfl)) ?_; (with_reducible refine (seal_Seal.calls k 3 body s e _ HS.out).mono ?_); rintro e w1 ⟨rfl, hb⟩; refine ⟨_, rfl, ?_⟩; have n0_ := Aside0.mk (below_step (by repeat (first | (with_reducible first | exact HB.out | apply below_alloc | apply pw_below_drewN | apply below_drew1) | exact HB.out)) hb); clear HB; have HB := n0_; clear n0_; (try clear hb)) | ((with_reducible refine gate_callee (f := 13) rfl ?_); refine goesL_ (some 39) rfl rfl Try.func13 (by kernel_rfl) rfl #[] rfl (by (try simp only [List.map_toArray, List.map_cons, List.map_nil]); first | done | rfl | (simp only [List.length_drop, List.length_take]; rfl)) ?_; (with_reducible refine (ententelaw02_awake.calls k true _ HW.out).mono ?_); rintro e w2 ⟨rfl, hb⟩; refine ⟨_, rfl, ?_⟩; have n0_ := Aside0.mk (below_step (by repeat (first | (with_reducible first | exact HB.out | apply below_alloc | apply pw_below_drewN | apply below_drew1) | exact HB.out)) hb); clear HB; have HB := n0_; clear n0_; (try clear hb)))
        go_ret
        exact ⟨rfl, HB.out⟩
  · have c0b : (e != 0) = true := bne_iff_ne.mpr c0
    clear hc c0
    go_enter Try.func6, Try.ntmps6
    go_wp2_with (first | ((with_reducible refine gate_callee (f := 14) rfl ?_); refine goesL_ (some 19) rfl rfl Try.func14 (by kernel_rfl) rfl #[.int .i64 3, .string body] rfl (by (try simp only [List.map_toArray, List.map_cons, List.map_nil]); first | done | rfl | (simp only [List.length_drop, List.length_take]; rfl)) ?_; (with_reducible refine (seal_Seal.calls k 3 body s e _ HS.out).mono ?_); rintro e w1 ⟨rfl, hb⟩; refine ⟨_, rfl, ?_⟩; have n0_ := Aside0.mk (below_step (by repeat (first | (with_reducible first | exact HB.out | apply below_alloc | apply pw_below_drewN | apply below_drew1) | exact HB.out)) hb); clear HB; have HB := n0_; clear n0_; (try clear hb)) | ((with_reducible refine gate_callee (f := 13) rfl ?_); refine goesL_ (some 39) rfl rfl Try.func13 (by kernel_rfl) rfl #[] rfl (by (try simp only [List.map_toArray, List.map_cons, List.map_nil]); first | done | rfl | (simp only [List.length_drop, List.length_take]; rfl)) ?_; (with_reducible refine (ententelaw02_awake.calls k true _ HW.out).mono ?_); rintro e w2 ⟨rfl, hb⟩; refine ⟨_, rfl, ?_⟩; have n0_ := Aside0.mk (below_step (by repeat (first | (with_reducible first | exact HB.out | apply below_alloc | apply pw_below_drewN | apply below_drew1) | exact HB.out)) hb); clear HB; have HB := n0_; clear n0_; (try clear hb)))
    go_ret
    exact ⟨rfl, HB.out⟩
end Go.Proofs.Ytfjemhfcdbjolaa.PB
