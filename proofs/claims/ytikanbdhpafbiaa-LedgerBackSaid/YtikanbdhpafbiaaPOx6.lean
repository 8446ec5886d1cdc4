-- Written by a program of this session (wip/tools/mp.py over the kit's printer); Lean checks it.
import Derived.Test.YtikanbdhpafbiaaPOx5
import Derived.Test.YtikanbdhpafbiaaPOx0
import Derived.Test.YtikanbdhpafbiaaPOx4
import Derived.Test.YtikanbdhpafbiaaPOx5
namespace Go.Proofs.Ytikanbdhpafbiaa.PO
open Go.RowKit Go.Proofs.YtikanbdhpafbiaaW.PrintWords Go.Proofs.YtikanbdhpafbiaaW.PrintLast Go.Proofs.YtikanbdhpafbiaaW.PrintMore
attribute [local go_sem] max2_int min2_int max_two min_two max_three min_three max_four min_four   -- for this text's walks alone
set_option linter.unusedVariables false
set_option linter.unusedSimpArgs false

/-! ### ledger_May: function 20 -/
section
open Go.Proofs.Ytikanbdhpafbiaa.My
theorem ledger_May.eq4 (p q : Q4) (w : World) : (Op.equalIn 10000 86 (v4 p) (v4 q)).run Try.prog w = .ok (decide (p = q)) w := by
 obtain ⟨i, hi⟩ : ∃ i, Try.prog.info? 2 = some i := ⟨Try.prog.types[2]!, by kernel_rfl⟩
 have hu : Try.prog.underlying 2 = some (.int .i64) := by kernel_rfl
 have hz : Try.prog.cellsOf 2 = 1 := by kernel_rfl
 unfold v4
 rw [show (10000 : Nat) = 9999 + 1 from rfl, run_equalIn_array _ _ _ _ Try.underlying86 hi, hz]
 obtain ⟨p0, p1, p2, p3⟩ := p
 obtain ⟨q0, q1, q2, q3⟩ := q
 have e9 : ∀ a b : Int, (Op.equalIn 9999 2 (.int .i64 a) (.int .i64 b)).run Try.prog w = .ok (a == b) w := fun a b => run_equalIn_int w 9998 2 .i64 .i64 a b hu
 have hp : ∀ (a b c d : Int), (part 2 #[.int .i64 a, .int .i64 b, .int .i64 c, .int .i64 d] 0).run Try.prog w = .ok (.int .i64 a) w ∧ (part 2 #[.int .i64 a, .int .i64 b, .int .i64 c, .int .i64 d] 1).run Try.prog w = .ok (.int .i64 b) w ∧ (part 2 #[.int .i64 a, .int .i64 b, .int .i64 c, .int .i64 d] 2).run Try.prog w = .ok (.int .i64 c) w ∧ (part 2 #[.int .i64 a, .int .i64 b, .int .i64 c, .int .i64 d] 3).run Try.prog w = .ok (.int .i64 d) w := by
  intro a b c d
  refine ⟨?_, ?_, ?_, ?_⟩ <;> go_simp
 have hp0 := fun a b c d => (hp a b c d).1
 have hp1 := fun a b c d => (hp a b c d).2.1
 have hp2 := fun a b c d => (hp a b c d).2.2.1
 have hp3 := fun a b c d => (hp a b c d).2.2.2
 by_cases h0 : p0 = q0 <;> by_cases h1 : p1 = q1 <;> by_cases h2 : p2 = q2 <;> by_cases h3 : p3 = q3 <;> simp [Op.eqItems, List.range, List.range.loop, hp0, hp1, hp2, hp3, h0, h1, h2, h3, e9]
end
theorem ledger_May.rd (l : List S51) (j : Nat) (h : j < l.length) : l[j] = rd_T51 l (j : Int) := by
 show _ = l.getD ((j : Int)).toNat _
 rw [Int.toNat_natCast, List.getD_eq_getElem?_getD, List.getElem?_eq_getElem h]
 rfl
open Go.Proofs.Ytikanbdhpafbiaa.My in
def ledger_May.l2 (f : ByteArray → Q4) : List S51 → Option Int
 | [] => some 0
 | x :: r => if x.f0.size ≤ maxLen then (if f x.f0 = (x.f1.f1, x.f1.f2, x.f2.f1, x.f2.f2) then ledger_May.l2 f r else some 2) else none
open Go.Proofs.Ytikanbdhpafbiaa.My in
def ledger_May.e2 (k : Nat) (l0 : List S51) (l1 : List S64) : Option Int := if l1.length ≤ 1000000 ∧ l0.length ≤ 1000000 ∧ (∀ m ∈ l1, m.f1.f1.size ≤ maxLen) then (ledger_pending.fn k l1 (fun _ => (0, 0, 0, 0))).bind fun f => ledger_May.l2 f l0 else none
theorem ledger_May.e2_mono (l0 : List S51) (l1 : List S64) (k : Nat) : LeO (ledger_May.e2 k l0 l1) (ledger_May.e2 (k + 1) l0 l1) := LeO.ite (LeO.bind (ledger_pending.mono _ _ _) (fun _ => LeO.refl _)) (LeO.refl _)
mutual
def ledger_May.j0 : Nat → Bool → List (S51) → List (S64) → Option (Int)
 | 0, _, _, _ => none
 | k + 1, x22, x126000, x126001 => if x22 = true then (some 2) else (ledger_May.l0 k x126000 (x126000.length : Int) 0 x126000 x126001)
def ledger_May.l0 : Nat → List (S51) → Int → Int → List (S51) → List (S64) → Option (Int)
 | 0, _, _, _, _, _ => none
 | k + 1, x24, x25, x26, x126000, x126001 => if x26 < x25 then (if 0 ≤ x26 then (if x26 < (x24.length : Int) then ((act_May.f k ((rd_T51 x24 x26).f0) ((rd_T51 x24 x26).f1.f0) ((rd_T51 x24 x26).f1.f1) ((rd_T51 x24 x26).f1.f2) ((rd_T51 x24 x26).f2.f0) ((rd_T51 x24 x26).f2.f1) ((rd_T51 x24 x26).f2.f2)).bind fun t128 => (if t128 = 0 then (if x26 > 0 then (if 0 ≤ (wrap64 (x26 - 1)) then (if (wrap64 (x26 - 1)) < (x126000.length : Int) then (if (Op.bytesLess (((rd_T51 x126000 (wrap64 (x26 - 1))).f0).toList) (((rd_T51 x24 x26).f0).toList)) = true then (ledger_May.l0 k x24 x25 (wrap64 (x26 + 1)) x126000 x126001) else (some 2)) else (none)) else (none)) else (ledger_May.l0 k x24 x25 (wrap64 (x26 + 1)) x126000 x126001)) else (some 2))) else (none)) else (none)) else (ledger_May.l1 k x126001 (x126001.length : Int) 0 x126000 x126001)
def ledger_May.l1 : Nat → List (S64) → Int → Int → List (S51) → List (S64) → Option (Int)
 | 0, _, _, _, _, _ => none
 | k + 1, x55, x56, x57, x126000, x126001 => if x57 < x56 then (if 0 ≤ x57 then (if x57 < (x55.length : Int) then ((ledger_key.f ((rd_T64 x55 x57).f0)).bind fun t132 => (if t132 = true then (if x57 > 0 then (if 0 ≤ (wrap64 (x57 - 1)) then (if (wrap64 (x57 - 1)) < (x126001.length : Int) then (if (Op.bytesLess (((rd_T64 x126001 (wrap64 (x57 - 1))).f0).toList) (((rd_T64 x55 x57).f0).toList)) = true then ((act_Check.f k ((rd_T64 x55 x57).f1.f0) ((rd_T64 x55 x57).f1.f1) ((rd_T64 x55 x57).f1.f2)).bind fun t134 => (if t134 = 0 then (if ((rd_T64 x55 x57).f2) < 1 then (ledger_May.j3 k x55 x56 x57 true x126000 x126001 ((rd_T64 x55 x57).f0) ((rd_T64 x55 x57).f1.f0) ((rd_T64 x55 x57).f1.f1) ((rd_T64 x55 x57).f1.f2) ((rd_T64 x55 x57).f2)) else (ledger_May.j3 k x55 x56 x57 (decide (((rd_T64 x55 x57).f2) > 3)) x126000 x126001 ((rd_T64 x55 x57).f0) ((rd_T64 x55 x57).f1.f0) ((rd_T64 x55 x57).f1.f1) ((rd_T64 x55 x57).f1.f2) ((rd_T64 x55 x57).f2))) else (ledger_May.j3 k x55 x56 x57 true x126000 x126001 ((rd_T64 x55 x57).f0) ((rd_T64 x55 x57).f1.f0) ((rd_T64 x55 x57).f1.f1) ((rd_T64 x55 x57).f1.f2) ((rd_T64 x55 x57).f2)))) else (ledger_May.j3 k x55 x56 x57 true x126000 x126001 ((rd_T64 x55 x57).f0) ((rd_T64 x55 x57).f1.f0) ((rd_T64 x55 x57).f1.f1) ((rd_T64 x55 x57).f1.f2) ((rd_T64 x55 x57).f2))) else (none)) else (none)) else ((act_Check.f k ((rd_T64 x55 x57).f1.f0) ((rd_T64 x55 x57).f1.f1) ((rd_T64 x55 x57).f1.f2)).bind fun t135 => (if t135 = 0 then (if ((rd_T64 x55 x57).f2) < 1 then (ledger_May.j3 k x55 x56 x57 true x126000 x126001 ((rd_T64 x55 x57).f0) ((rd_T64 x55 x57).f1.f0) ((rd_T64 x55 x57).f1.f1) ((rd_T64 x55 x57).f1.f2) ((rd_T64 x55 x57).f2)) else (ledger_May.j3 k x55 x56 x57 (decide (((rd_T64 x55 x57).f2) > 3)) x126000 x126001 ((rd_T64 x55 x57).f0) ((rd_T64 x55 x57).f1.f0) ((rd_T64 x55 x57).f1.f1) ((rd_T64 x55 x57).f1.f2) ((rd_T64 x55 x57).f2))) else (ledger_May.j3 k x55 x56 x57 true x126000 x126001 ((rd_T64 x55 x57).f0) ((rd_T64 x55 x57).f1.f0) ((rd_T64 x55 x57).f1.f1) ((rd_T64 x55 x57).f1.f2) ((rd_T64 x55 x57).f2))))) else (ledger_May.j3 k x55 x56 x57 true x126000 x126001 ((rd_T64 x55 x57).f0) ((rd_T64 x55 x57).f1.f0) ((rd_T64 x55 x57).f1.f1) ((rd_T64 x55 x57).f1.f2) ((rd_T64 x55 x57).f2)))) else (none)) else (none)) else (ledger_May.e2 k x126000 x126001)
def ledger_May.j3 : Nat → List (S64) → Int → Int → Bool → List (S51) → List (S64) → ByteArray → Int → ByteArray → Int → Int → Option (Int)
 | 0, _, _, _, _, _, _, _, _, _, _, _ => none
 | k + 1, x55, x56, x57, x97, x126000, x126001, x132000, x132001, x132002, x132003, x132004 => if x97 = true then (some 2) else ((ledger_book_account.f k x126000 x126001 x132002).bind fun bt136 => (if bt136.2 = true then (ledger_May.l1 k x55 x56 (wrap64 (x57 + 1)) x126000 x126001) else (some 2)))
end
def ledger_May.f (k : Nat) (l0_0 : List (S51)) (l0_1 : List (S64)) : Option (Int) := if (l0_0.length : Int) > 12 then (ledger_May.j0 k true l0_0 l0_1) else (ledger_May.j0 k (decide ((l0_1.length : Int) > 500)) l0_0 l0_1)
theorem ledger_May.mono_l : ∀ k, (∀ y0 y1 y2, LeO (ledger_May.j0 k y0 y1 y2) (ledger_May.j0 (k + 1) y0 y1 y2)) ∧ (∀ y0 y1 y2 y3 y4, LeO (ledger_May.l0 k y0 y1 y2 y3 y4) (ledger_May.l0 (k + 1) y0 y1 y2 y3 y4)) ∧ (∀ y0 y1 y2 y3 y4, LeO (ledger_May.l1 k y0 y1 y2 y3 y4) (ledger_May.l1 (k + 1) y0 y1 y2 y3 y4)) ∧ (∀ y0 y1 y2 y3 y4 y5 y6 y7 y8 y9 y10, LeO (ledger_May.j3 k y0 y1 y2 y3 y4 y5 y6 y7 y8 y9 y10) (ledger_May.j3 (k + 1) y0 y1 y2 y3 y4 y5 y6 y7 y8 y9 y10))
 | 0 => ⟨fun _ _ _ r h => by simp [ledger_May.j0] at h, fun _ _ _ _ _ r h => by simp [ledger_May.l0] at h, fun _ _ _ _ _ r h => by simp [ledger_May.l1] at h, fun _ _ _ _ _ _ _ _ _ _ _ r h => by simp [ledger_May.j3] at h⟩
 | k + 1 => by
  obtain ⟨ih0, ih1, ih2, ih3⟩ := ledger_May.mono_l k
  refine ⟨?_, ?_, ?_, ?_⟩
  ·intro y0 y1 y2
   unfold ledger_May.j0
   repeat' (with_reducible first | exact ih0 _ _ _ | exact ih1 _ _ _ _ _ | exact ih2 _ _ _ _ _ | exact ih3 _ _ _ _ _ _ _ _ _ _ _ | exact act_Check.mono _ _ _ _ | exact act_May.mono _ _ _ _ _ _ _ _ | exact ledger_book_account.mono _ _ _ _ | exact ledger_May.e2_mono _ _ _ | exact LeO.refl _ | exact LeO.none _ | apply LeO.ite | refine LeO.bind ?_ (fun _ => ?_))
  ·intro y0 y1 y2 y3 y4
   unfold ledger_May.l0
   repeat' (with_reducible first | exact ih0 _ _ _ | exact ih1 _ _ _ _ _ | exact ih2 _ _ _ _ _ | exact ih3 _ _ _ _ _ _ _ _ _ _ _ | exact act_Check.mono _ _ _ _ | exact act_May.mono _ _ _ _ _ _ _ _ | exact ledger_book_account.mono _ _ _ _ | exact ledger_May.e2_mono _ _ _ | exact LeO.refl _ | exact LeO.none _ | apply LeO.ite | refine LeO.bind ?_ (fun _ => ?_))
  ·intro y0 y1 y2 y3 y4
   unfold ledger_May.l1
   repeat' (with_reducible first | exact ih0 _ _ _ | exact ih1 _ _ _ _ _ | exact ih2 _ _ _ _ _ | exact ih3 _ _ _ _ _ _ _ _ _ _ _ | exact act_Check.mono _ _ _ _ | exact act_May.mono _ _ _ _ _ _ _ _ | exact ledger_book_account.mono _ _ _ _ | exact ledger_May.e2_mono _ _ _ | exact LeO.refl _ | exact LeO.none _ | apply LeO.ite | refine LeO.bind ?_ (fun _ => ?_))
  intro y0 y1 y2 y3 y4 y5 y6 y7 y8 y9 y10
  unfold ledger_May.j3
  repeat' (with_reducible first | exact ih0 _ _ _ | exact ih1 _ _ _ _ _ | exact ih2 _ _ _ _ _ | exact ih3 _ _ _ _ _ _ _ _ _ _ _ | exact act_Check.mono _ _ _ _ | exact act_May.mono _ _ _ _ _ _ _ _ | exact ledger_book_account.mono _ _ _ _ | exact ledger_May.e2_mono _ _ _ | exact LeO.refl _ | exact LeO.none _ | apply LeO.ite | refine LeO.bind ?_ (fun _ => ?_))
theorem ledger_May.mono : ∀ a0 a1 k, LeO (ledger_May.f k a0 a1) (ledger_May.f (k + 1) a0 a1) := by
 intro a0 a1 k
 obtain ⟨ih0, ih1, ih2, ih3⟩ := ledger_May.mono_l k
 unfold ledger_May.f
 repeat' (with_reducible first | exact ih0 _ _ _ | exact ih1 _ _ _ _ _ | exact ih2 _ _ _ _ _ | exact ih3 _ _ _ _ _ _ _ _ _ _ _ | exact act_Check.mono _ _ _ _ | exact act_May.mono _ _ _ _ _ _ _ _ | exact ledger_book_account.mono _ _ _ _ | exact ledger_May.e2_mono _ _ _ | exact LeO.refl _ | exact LeO.none _ | apply LeO.ite | refine LeO.bind ?_ (fun _ => ?_))
def ledger_May.T6 : Bool × List (List Nat × List Nat) := (true, [([], []), ([0], [0]), ([1], [1]), ([2, 1], [2]), ([3], [3]), ([4, 3], [3, 4]), ([5, 3, 3], [3, 5]), ([6], [6]), ([7, 6], [6, 7]), ([6], [6]), ([9, 6], [6, 9]), ([8, 10, 6], [6, 8, 10]), ([11, 6], [6, 11]), ([12, 6], [6, 12]), ([6], [6]), ([14, 6], [6, 14]), ([13, 15, 6], [6, 13, 15]), ([6, 16, 3], [3, 6, 16]), ([3, 17], [3, 17])])
def ledger_May.B6 : List Nat := [0, 1, 3, 7, 15, 31, 63, 127, 255, 127, 639, 2047, 4095, 8191, 127, 16511, 65535, 131071, 262143]
theorem ledger_May.tab6 : rtab .any (opsOf Try.f20 6) = ledger_May.T6 := by kernel_rfl
theorem ledger_May.bits6 : waitsOk ledger_May.T6.2 ledger_May.B6 = true := by kernel_rfl
def ledger_May.T13 : Bool × List (List Nat × List Nat) := (true, [([], []), ([0], [0]), ([1], [1]), ([2], [2]), ([3, 2], [3]), ([4], [4]), ([5, 4], [4, 5]), ([6, 4, 4], [4, 6]), ([7], [7]), ([8, 7], [7, 8]), ([7], [7]), ([10, 7], [7, 10]), ([9, 11, 7], [7, 9, 11]), ([12, 7], [7, 12]), ([13, 7], [7, 13]), ([7], [7]), ([15, 7], [7, 15]), ([14, 16, 7], [7, 14, 16]), ([7, 17, 4], [4, 7, 17]), ([4, 18], [4, 18]), ([19, 7], [19]), ([20], [20]), ([21, 20], [20, 21]), ([22, 20, 20], [20, 22]), ([23, 20], [20, 23]), ([20, 24], [20, 24]), ([25, 23], [25]), ([26], [26]), ([27, 26], [26, 27]), ([28, 26], [26, 28]), ([26, 29], [26, 29]), ([30, 26], [30]), ([31], [31]), ([32, 31], [31, 32]), ([33, 31], [31, 33]), ([31, 34], [31, 34])])
def ledger_May.B13 : List Nat := [0, 1, 3, 7, 15, 31, 63, 127, 255, 511, 255, 1279, 4095, 8191, 16383, 255, 33023, 131071, 262143, 524287, 1048575, 2097151, 4194303, 8388607, 16777215, 33554431, 67108863, 134217727, 268435455, 536870911, 1073741823, 2147483647, 4294967295, 8589934591, 17179869183, 34359738367]
theorem ledger_May.tab13 : rtab .any (opsOf Try.f20 13) = ledger_May.T13 := by kernel_rfl
theorem ledger_May.bits13 : waitsOk ledger_May.T13.2 ledger_May.B13 = true := by kernel_rfl
set_option maxHeartbeats 40000000 in
set_option maxRecDepth 100000 in
theorem ledger_May.calls (k : Nat) (A0_0 : Option Addr) (c0_0 : Nat) (l0_0 : List (S51)) (A0_1 : Option Addr) (c0_1 : Nat) (l0_1 : List (S64)) (r : Int) (w : World) (hr0_0 : Kd.C k51 w A0_0 l0_0.length l0_0) (hc0_0 : l0_0.length ≤ c0_0) (hr0_1 : Kd.C k64 w A0_1 l0_1.length l0_1) (hc0_1 : l0_1.length ≤ c0_1) (h : ledger_May.f k l0_0 l0_1 = some r) :
  Calls Try.prog 20 #[.agg #[.slice A0_0 l0_0.length c0_0, .slice A0_1 l0_1.length c0_1]] w fun e w' => e = .returned (.int .i64 r) ∧ Below w.heap.size w w' := by
 have hu25 := Try.underlying25
 have hu51 := Try.underlying51
 have hu64 := Try.underlying64
 have hu27 := Try.underlying27
 have hu71 := Try.underlying71
 have HR0_0 := My.am hr0_0
 have HC0_0 := My.am hc0_0
 clear hr0_0 hc0_0
 have HR0_1 := My.am hr0_1
 have HC0_1 := My.am hc0_1
 clear hr0_1 hc0_1
 have HB := My.am (Below.refl w.heap.size w)
 unfold ledger_May.f at h
 have H := h
 clear h
 have HC2 := My.am H
 clear H
 go_enter Try.func20, Try.ntmps20
 go_upto_region 1 with (first | ((with_reducible refine gate_dst (N := 1) rfl ?_); (try (refine gate_guard (by rfl) ?_; dsimp only)); refine My.bx 1 #[.slice A0_0 l0_0.length c0_0, .slice A0_1 l0_1.length c0_1] 25 ?_; intro gb125 hg w3 hbox hb; have BK125 := My.am (hbox); have GE125 := My.nge hg (My.bl_ HB); replace HB := My.st HB hb; clear hb hbox hg))
 (try simp only [Act.put, List.setIfInBounds_toArray, List.set_cons_zero, List.set_cons_succ])
 go_cut [22] (fun v22 wc => ∃ (kq : Nat) (x22_1 : Bool), v22 = .bool x22_1 ∧ Aside0 (ledger_May.j0 kq x22_1 l0_0 l0_1 = some r) ∧ Aside0 (kq ≤ k) ∧ Aside0 (wc.heap[gb125]? = some (.cells #[(.slice A0_0 l0_0.length c0_0), (.slice A0_1 l0_1.length c0_1)] 25 (0, 0))) ∧ Aside0 (Below w.heap.size w wc))
 case first =>
  have H := HC2.out
  clear HC2
  by_cases c4 : (l0_0.length : Int) > 12
  ·rw [if_pos c4] at H
   have c4b0 : decide (12 < (l0_0.length : Int)) = true := decide_eq_true c4
   have c4b1 : decide (12 < l0_0.length) = true := decide_eq_true (by omega)
   clear c4
   (first | rw [c4b0] | (simp only [i64_w, i32_w]; rw [c4b0]) | skip)
   have H' := My.am H
   clear H
   have hq5 := My.cz2 BK125
   go_wp2
   go_meet
   case rel => exact ⟨_, (true), My.r1, H', ⟨My.r4⟩, ⟨(My.at_ BK125)⟩, ⟨(My.bl_ HB)⟩⟩
  ·rw [if_neg c4] at H
   have c4b0 : decide (12 < (l0_0.length : Int)) = false := decide_eq_false c4
   have c4b1 : decide (12 < l0_0.length) = false := decide_eq_false (by omega)
   clear c4
   (first | rw [c4b0] | (simp only [i64_w, i32_w]; rw [c4b0]) | skip)
   have H' := My.am H
   clear H
   have hq6 := My.cz2 BK125
   go_wp2
   go_meet
   case rel => exact ⟨_, (decide ((l0_1.length : Int) > 500)), My.r1, H', ⟨My.r4⟩, ⟨(My.at_ BK125)⟩, ⟨(My.bl_ HB)⟩⟩
 case rest =>
  clear HC2
  obtain ⟨kq, x22_1, rfl, HA, HJ1, BK125, HB⟩ := hcut
  cases kq with
  | zero => exact absurd HA.out (by simp [ledger_May.j0])
  | succ kj1 =>
   have H := HA.out
   clear HA
   simp only [ledger_May.j0] at H
   by_cases c7 : x22_1 = true
   ·subst c7
    rw [if_pos rfl] at H
    obtain rfl := Option.some.inj H
    go_wp2
    go_ret
    exact ⟨My.r2, (My.bl_ HB)⟩
   replace c7 := Bool.eq_false_iff.mpr c7
   subst c7
   rw [if_neg (show ¬ (false = true) by decide)] at H
   have H' := My.am H
   clear H
   have hq8 := My.cz2 BK125
   go_wp2
   go_loopg [26] kj1 (fun kq v26 w' => ∃ (x26_2 : Int), v26 = .int .i64 x26_2 ∧ Aside0 (ledger_May.l0 kq l0_0 (l0_0.length : Int) x26_2 l0_0 l0_1 = some r) ∧ Aside0 (kq ≤ kj1) ∧ Aside0 (w'.heap[gb125]? = some (.cells #[(.slice A0_0 l0_0.length c0_0), (.slice A0_1 l0_1.length c0_1)] 25 (0, 0))) ∧ Aside0 (Below w.heap.size w w'))
   case atStart => exact ⟨(0), My.r1, H', ⟨Nat.le_refl _⟩, ⟨(My.at_ BK125)⟩, ⟨(My.bl_ HB)⟩⟩
   case round =>
    clear H'
    try clear c7
    try clear hq8
    obtain ⟨x26_2, rfl, HA, HK2, BK125, HB⟩ := hrel
    cases gk with
    | zero => exact absurd HA.out (by simp [ledger_May.l0])
    | succ k2 =>
     have H := HA.out
     clear HA
     simp only [ledger_May.l0] at H
     by_cases c9 : x26_2 < (l0_0.length : Int)
     ·rw [if_pos c9] at H
      have c9b0 := decide_eq_true c9
      clear c9
      replace H := My.ds H
      obtain ⟨c10b0, H⟩ := H
      replace H := My.ds H
      obtain ⟨c11b0, H⟩ := H
      replace H := Option.bind_eq_some_iff.mp H
      obtain ⟨t128, A120, H⟩ := H
      try dsimp only at H
      have A12 := My.am A120
      clear A120
      by_cases c13 : t128 = 0
      rotate_left
      ·rw [if_neg c13] at H
       have c13b0 : (t128 == 0) = false := beq_eq_false_iff_ne.mpr c13
       have c13b1 : (t128 != 0) = true := bne_iff_ne.mpr c13
       obtain rfl := Option.some.inj H
       have p126 : 0 ≤ (x26_2 : Int) := My.as_
       have q126 : x26_2 < (l0_0.length : Int) := My.as_
       obtain ⟨ad126, e126, hx126_0, hx126_1, hx126_2, hx126_3, hx126_4, hx126_5, hx126_6⟩ := My.up7 HB (at_T51 HR0_0.out x26_2 p126 q126)
       cases e126
       replace p126 := eq_true p126
       replace q126 := eq_true q126
       try go_wp2_with (first | ((with_reducible refine gate_dst (N := 4) rfl ?_); (try (refine gate_guard (by rfl) ?_; dsimp only)); refine My.bx 4 #[.string (⟨#[]⟩ : ByteArray), .int .i64 0, .int .i64 0, .int .i64 0, .int .i64 0, .int .i64 0, .int .i64 0] 51 ?_; intro gb127 hg w37 hbox hb; have BK127 := My.am (hbox); have GE127 := My.nge hg (My.bl_ HB); replace HB := My.st HB hb; obtain ⟨NB125_127, NB127_125, BK125⟩ := My.nb hg hb BK125; clear hb hbox hg; have hnb38 := NB127_125.out; have hnc38 := NB125_127.out; have hq39 := My.cz7 BK127))
       obtain ⟨w40, hz_⟩ : ∃ z_, z_ = (((((((w37.setCell ⟨gb127, 0, none⟩ (.string ((rd_T51 l0_0 x26_2).f0))).setCell ⟨gb127, 1, none⟩ (.int .i64 ((rd_T51 l0_0 x26_2).f1.f0))).setCell ⟨gb127, 2, none⟩ (.int .i64 ((rd_T51 l0_0 x26_2).f1.f1))).setCell ⟨gb127, 3, none⟩ (.int .i64 ((rd_T51 l0_0 x26_2).f1.f2))).setCell ⟨gb127, 4, none⟩ (.int .i64 ((rd_T51 l0_0 x26_2).f2.f0))).setCell ⟨gb127, 5, none⟩ (.int .i64 ((rd_T51 l0_0 x26_2).f2.f1))).setCell ⟨gb127, 6, none⟩ (.int .i64 ((rd_T51 l0_0 x26_2).f2.f2))) := ⟨_, rfl⟩
       replace BK125 : Aside0 (w40.heap[gb125]? = some (.cells #[.slice (some ad126) l0_0.length c0_0, .slice A0_1 l0_1.length c0_1] 25 (0, 0))) := ⟨by rw [hz_]; exact (My.sv_ BK125)⟩
       replace BK127 : Aside0 (w40.heap[gb127]? = some (.cells #[.string ((rd_T51 l0_0 x26_2).f0), .int .i64 ((rd_T51 l0_0 x26_2).f1.f0), .int .i64 ((rd_T51 l0_0 x26_2).f1.f1), .int .i64 ((rd_T51 l0_0 x26_2).f1.f2), .int .i64 ((rd_T51 l0_0 x26_2).f2.f0), .int .i64 ((rd_T51 l0_0 x26_2).f2.f1), .int .i64 ((rd_T51 l0_0 x26_2).f2.f2)] 51 (0, 0))) := ⟨by rw [hz_]; exact (My.sv_ BK127)⟩
       replace HB : Aside0 (Below w.heap.size w w40) := ⟨by rw [hz_]; repeat (first | (with_reducible first | exact HB.out | apply below_alloc | apply pw_below_drewN | apply below_drew1 | refine below_set ?_ GE125.out | refine below_set ?_ GE127.out) | exact HB.out)⟩
       rw [← hz_]
       clear hz_
       replace BK125 := My.am (blk_drew BK125.out)
       replace BK127 := My.am (blk_drew BK127.out)
       replace HB := My.am (below_drew1 HB.out)
       refine start_ (n := 19) (S := fun w' => w'.cell? ⟨gb127, 0, none⟩ = some (.string ((rd_T51 l0_0 x26_2).f0)) ∧ w'.cell? ⟨gb127, 1, none⟩ = some (.int .i64 ((rd_T51 l0_0 x26_2).f1.f0)) ∧ w'.cell? ⟨gb127, 2, none⟩ = some (.int .i64 ((rd_T51 l0_0 x26_2).f1.f1)) ∧ w'.cell? ⟨gb127, 3, none⟩ = some (.int .i64 ((rd_T51 l0_0 x26_2).f1.f2)) ∧ w'.cell? ⟨gb127, 4, none⟩ = some (.int .i64 ((rd_T51 l0_0 x26_2).f2.f0)) ∧ w'.cell? ⟨gb127, 5, none⟩ = some (.int .i64 ((rd_T51 l0_0 x26_2).f2.f1)) ∧ w'.cell? ⟨gb127, 6, none⟩ = some (.int .i64 ((rd_T51 l0_0 x26_2).f2.f2))) (ds := []) #[false, false, false, false, false, false, false, false, false, false, false, false, false, false, false, false, false, false, false] (by kernel_rfl) rfl rfl ⟨My.b_ BK127 0, My.b_ BK127 1, My.b_ BK127 2, My.b_ BK127 3, My.b_ BK127 4, My.b_ BK127 5, My.b_ BK127 6⟩ (fun hHeld => ?_); refine with_tabW ledger_May.tab6 ledger_May.bits6 (fun HT_ HW_ => ?_)
       generalize w40.drew = w41 at BK125 BK127 HB hHeld ⊢
       refine My.ta_ 0 31 19 HT_.out HW_.out hHeld rfl rfl (by rintro w' ⟨s0, s1, s2, s3, s4, s5, s6⟩; go_simp; with_reducible rfl) ?_
       refine one_ (i := 1) (N := some 32) (My.Mb 19 3) rfl rfl (one_of HT_.out (by kernel_rfl)) (by decide) (fun K hK => ?_)
       refine goes_ Try.func51 (by kernel_rfl) rfl #[.agg #[.string ((rd_T51 l0_0 x26_2).f0), .int .i64 ((rd_T51 l0_0 x26_2).f1.f0), .int .i64 ((rd_T51 l0_0 x26_2).f1.f1), .int .i64 ((rd_T51 l0_0 x26_2).f1.f2), .int .i64 ((rd_T51 l0_0 x26_2).f2.f0), .int .i64 ((rd_T51 l0_0 x26_2).f2.f1), .int .i64 ((rd_T51 l0_0 x26_2).f2.f2)]] (by rfl) rfl rfl My.gx ?_
       with_reducible refine (act_May.calls k2 ((rd_T51 l0_0 x26_2).f0) ((rd_T51 l0_0 x26_2).f1.f0) ((rd_T51 l0_0 x26_2).f1.f1) ((rd_T51 l0_0 x26_2).f1.f2) ((rd_T51 l0_0 x26_2).f2.f0) ((rd_T51 l0_0 x26_2).f2.f1) ((rd_T51 l0_0 x26_2).f2.f2) t128 _ A12.out).mono ?_
       rintro e w42 ⟨rfl, hb⟩
       refine ⟨_, rfl, ?_⟩
       replace BK125 := My.ab BK125 hb
       replace BK127 := My.ab BK127 hb
       replace HB := My.st HB hb
       (try clear hb)
       (try clear hb2)
       (try clear hk)
       (try clear hi)
       refine hK.out _ _ ⟨My.b_ BK127 0, My.b_ BK127 1, My.b_ BK127 2, My.b_ BK127 3, My.b_ BK127 4, My.b_ BK127 5, My.b_ BK127 6⟩ (fun hHeld => ?_)
       clear hK K
       refine My.nm 32 ?_
       refine My.pu_ 2 33 19 HT_.out ?_
       refine My.pu_ 3 34 19 HT_.out ?_
       refine My.pn_ 4 35 19 HT_.out ?_
       refine My.pn_ 5 36 19 HT_.out ?_
       refine My.pn_ 6 37 19 HT_.out ?_
       refine My.pn_ 7 38 19 HT_.out ?_
       refine My.pn_ 8 39 19 HT_.out ?_
       refine My.pn_ 9 40 19 HT_.out ?_
       refine My.pn_ 10 41 19 HT_.out ?_
       refine My.pn_ 11 42 19 HT_.out ?_
       refine My.pn_ 12 43 19 HT_.out ?_
       refine My.pn_ 13 44 19 HT_.out ?_
       refine My.pn_ 14 45 19 HT_.out ?_
       refine My.pn_ 15 46 19 HT_.out ?_
       refine My.pn_ 16 47 19 HT_.out ?_
       refine My.pn_ 17 48 19 HT_.out ?_
       refine My.pu_ 18 49 19 HT_.out ?_
       refine done_ (done_of HT_.out (by kernel_rfl)) ?_
       try go_wp2
       go_ret
       exact ⟨My.r2, (My.bl_ HB)⟩
      rw [if_pos c13] at H
      have c13b0 : (t128 == 0) = true := beq_iff_eq.mpr c13
      have c13b1 : (t128 != 0) = false := bne_eq_false_iff_eq.mpr c13
      clear c13
      by_cases c14 : x26_2 > 0
      rotate_left
      ·rw [if_neg c14] at H
       have c14b0 : decide (0 < x26_2) = false := decide_eq_false c14
       clear c14
       have H' := My.am H
       clear H
       have p126 : 0 ≤ (x26_2 : Int) := My.as_
       have q126 : x26_2 < (l0_0.length : Int) := My.as_
       obtain ⟨ad126, e126, hx126_0, hx126_1, hx126_2, hx126_3, hx126_4, hx126_5, hx126_6⟩ := My.up7 HB (at_T51 HR0_0.out x26_2 p126 q126)
       cases e126
       replace p126 := eq_true p126
       replace q126 := eq_true q126
       try go_wp2_with (first | ((with_reducible refine gate_dst (N := 4) rfl ?_); (try (refine gate_guard (by rfl) ?_; dsimp only)); refine My.bx 4 #[.string (⟨#[]⟩ : ByteArray), .int .i64 0, .int .i64 0, .int .i64 0, .int .i64 0, .int .i64 0, .int .i64 0] 51 ?_; intro gb127 hg w31 hbox hb; have BK127 := My.am (hbox); have GE127 := My.nge hg (My.bl_ HB); replace HB := My.st HB hb; obtain ⟨NB125_127, NB127_125, BK125⟩ := My.nb hg hb BK125; clear hb hbox hg; have hnb32 := NB127_125.out; have hnc32 := NB125_127.out; have hq33 := My.cz7 BK127))
       obtain ⟨w34, hz_⟩ : ∃ z_, z_ = (((((((w31.setCell ⟨gb127, 0, none⟩ (.string ((rd_T51 l0_0 x26_2).f0))).setCell ⟨gb127, 1, none⟩ (.int .i64 ((rd_T51 l0_0 x26_2).f1.f0))).setCell ⟨gb127, 2, none⟩ (.int .i64 ((rd_T51 l0_0 x26_2).f1.f1))).setCell ⟨gb127, 3, none⟩ (.int .i64 ((rd_T51 l0_0 x26_2).f1.f2))).setCell ⟨gb127, 4, none⟩ (.int .i64 ((rd_T51 l0_0 x26_2).f2.f0))).setCell ⟨gb127, 5, none⟩ (.int .i64 ((rd_T51 l0_0 x26_2).f2.f1))).setCell ⟨gb127, 6, none⟩ (.int .i64 ((rd_T51 l0_0 x26_2).f2.f2))) := ⟨_, rfl⟩
       replace BK125 : Aside0 (w34.heap[gb125]? = some (.cells #[.slice (some ad126) l0_0.length c0_0, .slice A0_1 l0_1.length c0_1] 25 (0, 0))) := ⟨by rw [hz_]; exact (My.sv_ BK125)⟩
       replace BK127 : Aside0 (w34.heap[gb127]? = some (.cells #[.string ((rd_T51 l0_0 x26_2).f0), .int .i64 ((rd_T51 l0_0 x26_2).f1.f0), .int .i64 ((rd_T51 l0_0 x26_2).f1.f1), .int .i64 ((rd_T51 l0_0 x26_2).f1.f2), .int .i64 ((rd_T51 l0_0 x26_2).f2.f0), .int .i64 ((rd_T51 l0_0 x26_2).f2.f1), .int .i64 ((rd_T51 l0_0 x26_2).f2.f2)] 51 (0, 0))) := ⟨by rw [hz_]; exact (My.sv_ BK127)⟩
       replace HB : Aside0 (Below w.heap.size w w34) := ⟨by rw [hz_]; repeat (first | (with_reducible first | exact HB.out | apply below_alloc | apply pw_below_drewN | apply below_drew1 | refine below_set ?_ GE125.out | refine below_set ?_ GE127.out) | exact HB.out)⟩
       rw [← hz_]
       clear hz_
       replace BK125 := My.am (blk_drew BK125.out)
       replace BK127 := My.am (blk_drew BK127.out)
       replace HB := My.am (below_drew1 HB.out)
       refine start_ (n := 19) (S := fun w' => w'.cell? ⟨gb127, 0, none⟩ = some (.string ((rd_T51 l0_0 x26_2).f0)) ∧ w'.cell? ⟨gb127, 1, none⟩ = some (.int .i64 ((rd_T51 l0_0 x26_2).f1.f0)) ∧ w'.cell? ⟨gb127, 2, none⟩ = some (.int .i64 ((rd_T51 l0_0 x26_2).f1.f1)) ∧ w'.cell? ⟨gb127, 3, none⟩ = some (.int .i64 ((rd_T51 l0_0 x26_2).f1.f2)) ∧ w'.cell? ⟨gb127, 4, none⟩ = some (.int .i64 ((rd_T51 l0_0 x26_2).f2.f0)) ∧ w'.cell? ⟨gb127, 5, none⟩ = some (.int .i64 ((rd_T51 l0_0 x26_2).f2.f1)) ∧ w'.cell? ⟨gb127, 6, none⟩ = some (.int .i64 ((rd_T51 l0_0 x26_2).f2.f2))) (ds := []) #[false, false, false, false, false, false, false, false, false, false, false, false, false, false, false, false, false, false, false] (by kernel_rfl) rfl rfl ⟨My.b_ BK127 0, My.b_ BK127 1, My.b_ BK127 2, My.b_ BK127 3, My.b_ BK127 4, My.b_ BK127 5, My.b_ BK127 6⟩ (fun hHeld => ?_); refine with_tabW ledger_May.tab6 ledger_May.bits6 (fun HT_ HW_ => ?_)
       generalize w34.drew = w35 at BK125 BK127 HB hHeld ⊢
       refine My.ta_ 0 31 19 HT_.out HW_.out hHeld rfl rfl (by rintro w' ⟨s0, s1, s2, s3, s4, s5, s6⟩; go_simp; with_reducible rfl) ?_
       refine one_ (i := 1) (N := some 32) (My.Mb 19 3) rfl rfl (one_of HT_.out (by kernel_rfl)) (by decide) (fun K hK => ?_)
       refine goes_ Try.func51 (by kernel_rfl) rfl #[.agg #[.string ((rd_T51 l0_0 x26_2).f0), .int .i64 ((rd_T51 l0_0 x26_2).f1.f0), .int .i64 ((rd_T51 l0_0 x26_2).f1.f1), .int .i64 ((rd_T51 l0_0 x26_2).f1.f2), .int .i64 ((rd_T51 l0_0 x26_2).f2.f0), .int .i64 ((rd_T51 l0_0 x26_2).f2.f1), .int .i64 ((rd_T51 l0_0 x26_2).f2.f2)]] (by rfl) rfl rfl My.gx ?_
       with_reducible refine (act_May.calls k2 ((rd_T51 l0_0 x26_2).f0) ((rd_T51 l0_0 x26_2).f1.f0) ((rd_T51 l0_0 x26_2).f1.f1) ((rd_T51 l0_0 x26_2).f1.f2) ((rd_T51 l0_0 x26_2).f2.f0) ((rd_T51 l0_0 x26_2).f2.f1) ((rd_T51 l0_0 x26_2).f2.f2) t128 _ A12.out).mono ?_
       rintro e w36 ⟨rfl, hb⟩
       refine ⟨_, rfl, ?_⟩
       replace BK125 := My.ab BK125 hb
       replace BK127 := My.ab BK127 hb
       replace HB := My.st HB hb
       (try clear hb)
       (try clear hb2)
       (try clear hk)
       (try clear hi)
       refine hK.out _ _ ⟨My.b_ BK127 0, My.b_ BK127 1, My.b_ BK127 2, My.b_ BK127 3, My.b_ BK127 4, My.b_ BK127 5, My.b_ BK127 6⟩ (fun hHeld => ?_)
       clear hK K
       refine My.nm 32 ?_
       refine My.pu_ 2 33 19 HT_.out ?_
       refine My.pu_ 3 34 19 HT_.out ?_
       refine My.pu_ 4 35 19 HT_.out ?_
       refine My.pu_ 5 36 19 HT_.out ?_
       refine My.pu_ 6 37 19 HT_.out ?_
       refine My.pn_ 7 38 19 HT_.out ?_
       refine My.pn_ 8 39 19 HT_.out ?_
       refine My.pn_ 9 40 19 HT_.out ?_
       refine My.pn_ 10 41 19 HT_.out ?_
       refine My.pn_ 11 42 19 HT_.out ?_
       refine My.pn_ 12 43 19 HT_.out ?_
       refine My.pn_ 13 44 19 HT_.out ?_
       refine My.pn_ 14 45 19 HT_.out ?_
       refine My.pn_ 15 46 19 HT_.out ?_
       refine My.pn_ 16 47 19 HT_.out ?_
       refine My.pu_ 17 48 19 HT_.out ?_
       refine My.pu_ 18 49 19 HT_.out ?_
       refine done_ (done_of HT_.out (by kernel_rfl)) ?_
       try go_wp2
       go_roundg k2
       case measure => have := HJ1.out; have := HK2.out; omega
       case rel => exact ⟨(wrap64 (x26_2 + 1)), My.r1, H', ⟨by have := HJ1.out; have := HK2.out; omega⟩, ⟨(My.at_ BK125)⟩, ⟨(My.bl_ HB)⟩⟩
      rw [if_pos c14] at H
      have c14b0 : decide (0 < x26_2) = true := decide_eq_true c14
      clear c14
      obtain ⟨ji15, hji15⟩ : ∃ j_ : Int, (wrap64 (x26_2 - 1)) = j_ := ⟨_, rfl⟩
      replace H : (if 0 ≤ (ji15) then (if (ji15) < (l0_0.length : Int) then (if (Op.bytesLess (((rd_T51 l0_0 (ji15)).f0).toList) (((rd_T51 l0_0 x26_2).f0).toList)) = true then (ledger_May.l0 k2 l0_0 (l0_0.length : Int) (wrap64 (x26_2 + 1)) l0_0 l0_1) else (some 2)) else (none)) else (none)) = some r := by first | (rw [hji15] at H; exact H) | (simp only [hji15] at H ⊢; exact H)
      (try rw [hji15] at A12)
      have hji15w : (IntKind.i64.wrap (x26_2 - 1)) = ji15 := (i64_w _).trans hji15
      replace H := My.ds H
      obtain ⟨c16b0, H⟩ := H
      replace H := My.ds H
      obtain ⟨c17b0, H⟩ := H
      by_cases c18 : (Op.bytesLess (((rd_T51 l0_0 (ji15)).f0).toList) (((rd_T51 l0_0 x26_2).f0).toList)) = true
      ·rw [if_pos c18] at H
       have c18b0 : (Op.bytesLess (((rd_T51 l0_0 (ji15)).f0).toList) (((rd_T51 l0_0 x26_2).f0).toList)) = true := c18
       clear c18
       have H' := My.am H
       clear H
       have p126 : 0 ≤ (x26_2 : Int) := My.as_
       have q126 : x26_2 < (l0_0.length : Int) := My.as_
       obtain ⟨ad126, e126, hx126_0, hx126_1, hx126_2, hx126_3, hx126_4, hx126_5, hx126_6⟩ := My.up7 HB (at_T51 HR0_0.out x26_2 p126 q126)
       cases e126
       replace p126 := eq_true p126
       replace q126 := eq_true q126
       try go_wp2_with (first | ((with_reducible refine gate_dst (N := 4) rfl ?_); (try (refine gate_guard (by rfl) ?_; dsimp only)); refine My.bx 4 #[.string (⟨#[]⟩ : ByteArray), .int .i64 0, .int .i64 0, .int .i64 0, .int .i64 0, .int .i64 0, .int .i64 0] 51 ?_; intro gb127 hg w19 hbox hb; have BK127 := My.am (hbox); have GE127 := My.nge hg (My.bl_ HB); replace HB := My.st HB hb; obtain ⟨NB125_127, NB127_125, BK125⟩ := My.nb hg hb BK125; clear hb hbox hg; have hnb20 := NB127_125.out; have hnc20 := NB125_127.out; have hq21 := My.cz7 BK127))
       obtain ⟨w22, hz_⟩ : ∃ z_, z_ = (((((((w19.setCell ⟨gb127, 0, none⟩ (.string ((rd_T51 l0_0 x26_2).f0))).setCell ⟨gb127, 1, none⟩ (.int .i64 ((rd_T51 l0_0 x26_2).f1.f0))).setCell ⟨gb127, 2, none⟩ (.int .i64 ((rd_T51 l0_0 x26_2).f1.f1))).setCell ⟨gb127, 3, none⟩ (.int .i64 ((rd_T51 l0_0 x26_2).f1.f2))).setCell ⟨gb127, 4, none⟩ (.int .i64 ((rd_T51 l0_0 x26_2).f2.f0))).setCell ⟨gb127, 5, none⟩ (.int .i64 ((rd_T51 l0_0 x26_2).f2.f1))).setCell ⟨gb127, 6, none⟩ (.int .i64 ((rd_T51 l0_0 x26_2).f2.f2))) := ⟨_, rfl⟩
       replace BK125 : Aside0 (w22.heap[gb125]? = some (.cells #[.slice (some ad126) l0_0.length c0_0, .slice A0_1 l0_1.length c0_1] 25 (0, 0))) := ⟨by rw [hz_]; exact (My.sv_ BK125)⟩
       replace BK127 : Aside0 (w22.heap[gb127]? = some (.cells #[.string ((rd_T51 l0_0 x26_2).f0), .int .i64 ((rd_T51 l0_0 x26_2).f1.f0), .int .i64 ((rd_T51 l0_0 x26_2).f1.f1), .int .i64 ((rd_T51 l0_0 x26_2).f1.f2), .int .i64 ((rd_T51 l0_0 x26_2).f2.f0), .int .i64 ((rd_T51 l0_0 x26_2).f2.f1), .int .i64 ((rd_T51 l0_0 x26_2).f2.f2)] 51 (0, 0))) := ⟨by rw [hz_]; exact (My.sv_ BK127)⟩
       replace HB : Aside0 (Below w.heap.size w w22) := ⟨by rw [hz_]; repeat (first | (with_reducible first | exact HB.out | apply below_alloc | apply pw_below_drewN | apply below_drew1 | refine below_set ?_ GE125.out | refine below_set ?_ GE127.out) | exact HB.out)⟩
       rw [← hz_]
       clear hz_
       replace BK125 := My.am (blk_drew BK125.out)
       replace BK127 := My.am (blk_drew BK127.out)
       replace HB := My.am (below_drew1 HB.out)
       have p129 : 0 ≤ ((ji15) : Int) := My.as_
       have q129 : (ji15) < (l0_0.length : Int) := My.as_
       obtain ⟨ad129, e129, hx129_0, hx129_1, hx129_2, hx129_3, hx129_4, hx129_5, hx129_6⟩ := at_T51 HR0_0.out (ji15) p129 q129
       have hw129_6 := hx129_6
       have hw129_5 := hx129_5
       have hw129_4 := hx129_4
       have hw129_3 := hx129_3
       have hw129_2 := hx129_2
       have hw129_1 := hx129_1
       have hw129_0 := hx129_0
       obtain rfl : ad126 = ad129 := (by injection e129)
       replace hx129_0 := My.up HB hx129_0
       replace hx129_1 := My.up HB hx129_1
       replace hx129_2 := My.up HB hx129_2
       replace hx129_3 := My.up HB hx129_3
       replace hx129_4 := My.up HB hx129_4
       replace hx129_5 := My.up HB hx129_5
       replace hx129_6 := My.up HB hx129_6
       replace p129 := eq_true p129
       replace q129 := eq_true q129
       refine start_ (n := 19) (S := fun w' => w'.cell? ⟨gb127, 0, none⟩ = some (.string ((rd_T51 l0_0 x26_2).f0)) ∧ w'.cell? ⟨gb127, 1, none⟩ = some (.int .i64 ((rd_T51 l0_0 x26_2).f1.f0)) ∧ w'.cell? ⟨gb127, 2, none⟩ = some (.int .i64 ((rd_T51 l0_0 x26_2).f1.f1)) ∧ w'.cell? ⟨gb127, 3, none⟩ = some (.int .i64 ((rd_T51 l0_0 x26_2).f1.f2)) ∧ w'.cell? ⟨gb127, 4, none⟩ = some (.int .i64 ((rd_T51 l0_0 x26_2).f2.f0)) ∧ w'.cell? ⟨gb127, 5, none⟩ = some (.int .i64 ((rd_T51 l0_0 x26_2).f2.f1)) ∧ w'.cell? ⟨gb127, 6, none⟩ = some (.int .i64 ((rd_T51 l0_0 x26_2).f2.f2)) ∧ w'.cell? ⟨gb125, 0, none⟩ = some (.slice (some ad126) l0_0.length c0_0) ∧ w'.cell? ⟨gb125, 1, none⟩ = some (.slice A0_1 l0_1.length c0_1) ∧ w'.cell? (ad126.add (((ji15)).toNat * 7)) = some (.string ((rd_T51 l0_0 (ji15)).f0)) ∧ w'.cell? ⟨(ad126.add (((ji15)).toNat * 7)).block, (ad126.add (((ji15)).toNat * 7)).off + 1, none⟩ = some (.int .i64 ((rd_T51 l0_0 (ji15)).f1.f0)) ∧ w'.cell? ⟨(ad126.add (((ji15)).toNat * 7)).block, (ad126.add (((ji15)).toNat * 7)).off + 2, none⟩ = some (.int .i64 ((rd_T51 l0_0 (ji15)).f1.f1)) ∧ w'.cell? ⟨(ad126.add (((ji15)).toNat * 7)).block, (ad126.add (((ji15)).toNat * 7)).off + 3, none⟩ = some (.int .i64 ((rd_T51 l0_0 (ji15)).f1.f2)) ∧ w'.cell? ⟨(ad126.add (((ji15)).toNat * 7)).block, (ad126.add (((ji15)).toNat * 7)).off + 4, none⟩ = some (.int .i64 ((rd_T51 l0_0 (ji15)).f2.f0)) ∧ w'.cell? ⟨(ad126.add (((ji15)).toNat * 7)).block, (ad126.add (((ji15)).toNat * 7)).off + 5, none⟩ = some (.int .i64 ((rd_T51 l0_0 (ji15)).f2.f1)) ∧ w'.cell? ⟨(ad126.add (((ji15)).toNat * 7)).block, (ad126.add (((ji15)).toNat * 7)).off + 6, none⟩ = some (.int .i64 ((rd_T51 l0_0 (ji15)).f2.f2))) (ds := []) #[false, false, false, false, false, false, false, false, false, false, false, false, false, false, false, false, false, false, false] (by kernel_rfl) rfl rfl ⟨My.b_ BK127 0, My.b_ BK127 1, My.b_ BK127 2, My.b_ BK127 3, My.b_ BK127 4, My.b_ BK127 5, My.b_ BK127 6, My.b_ BK125 0, My.b_ BK125 1, (My.up HB hw129_0), (My.up HB hw129_1), (My.up HB hw129_2), (My.up HB hw129_3), (My.up HB hw129_4), (My.up HB hw129_5), (My.up HB hw129_6)⟩ (fun hHeld => ?_); refine with_tabW ledger_May.tab6 ledger_May.bits6 (fun HT_ HW_ => ?_)
       generalize w22.drew = w23 at BK125 BK127 HB hx129_0 hx129_1 hx129_2 hx129_3 hx129_4 hx129_5 hx129_6 hHeld ⊢
       refine My.ta_ 0 31 19 HT_.out HW_.out hHeld rfl rfl (by rintro w' ⟨s0, s1, s2, s3, s4, s5, s6, s7, s8, s9, s10, s11, s12, s13, s14, s15⟩; go_simp; with_reducible rfl) ?_
       refine one_ (i := 1) (N := some 32) (My.Mb 19 3) rfl rfl (one_of HT_.out (by kernel_rfl)) (by decide) (fun K hK => ?_)
       refine goes_ Try.func51 (by kernel_rfl) rfl #[.agg #[.string ((rd_T51 l0_0 x26_2).f0), .int .i64 ((rd_T51 l0_0 x26_2).f1.f0), .int .i64 ((rd_T51 l0_0 x26_2).f1.f1), .int .i64 ((rd_T51 l0_0 x26_2).f1.f2), .int .i64 ((rd_T51 l0_0 x26_2).f2.f0), .int .i64 ((rd_T51 l0_0 x26_2).f2.f1), .int .i64 ((rd_T51 l0_0 x26_2).f2.f2)]] (by rfl) rfl rfl My.gx ?_
       with_reducible refine (act_May.calls k2 ((rd_T51 l0_0 x26_2).f0) ((rd_T51 l0_0 x26_2).f1.f0) ((rd_T51 l0_0 x26_2).f1.f1) ((rd_T51 l0_0 x26_2).f1.f2) ((rd_T51 l0_0 x26_2).f2.f0) ((rd_T51 l0_0 x26_2).f2.f1) ((rd_T51 l0_0 x26_2).f2.f2) t128 _ A12.out).mono ?_
       rintro e w24 ⟨rfl, hb⟩
       refine ⟨_, rfl, ?_⟩
       replace BK125 := My.ab BK125 hb
       replace BK127 := My.ab BK127 hb
       replace HB := My.st HB hb
       (try clear hb)
       (try clear hb2)
       (try clear hk)
       (try clear hi)
       refine hK.out _ _ ⟨My.b_ BK127 0, My.b_ BK127 1, My.b_ BK127 2, My.b_ BK127 3, My.b_ BK127 4, My.b_ BK127 5, My.b_ BK127 6, My.b_ BK125 0, My.b_ BK125 1, (My.up HB hw129_0), (My.up HB hw129_1), (My.up HB hw129_2), (My.up HB hw129_3), (My.up HB hw129_4), (My.up HB hw129_5), (My.up HB hw129_6)⟩ (fun hHeld => ?_)
       clear hK K
       refine My.nm 32 ?_
       refine My.pu_ 2 33 19 HT_.out ?_
       refine My.pu_ 3 34 19 HT_.out ?_
       refine My.pu_ 4 35 19 HT_.out ?_
       refine My.pu_ 5 36 19 HT_.out ?_
       refine My.pu_ 6 37 19 HT_.out ?_
       refine My.pu_ 7 38 19 HT_.out ?_
       refine My.pv_ 9 40 19 767 HT_.out ?_
       refine My.pv_ 10 41 19 1791 HT_.out ?_
       refine My.pv_ 14 45 19 18175 HT_.out ?_
       refine My.tv_ 8 39 19 18431 HT_.out HW_.out hHeld rfl rfl (by rintro w' ⟨s0, s1, s2, s3, s4, s5, s6, s7, s8, s9, s10, s11, s12, s13, s14, s15⟩; go_simp; with_reducible rfl) ?_
       refine My.pv_ 11 42 19 20479 HT_.out ?_
       refine My.pv_ 12 43 19 24575 HT_.out ?_
       refine My.tv_ 13 44 19 32767 HT_.out HW_.out hHeld rfl rfl (by rintro w' ⟨s0, s1, s2, s3, s4, s5, s6, s7, s8, s9, s10, s11, s12, s13, s14, s15⟩; go_simp; with_reducible rfl) ?_
       refine My.ta_ 15 46 19 HT_.out HW_.out hHeld rfl rfl (by rintro w' ⟨s0, s1, s2, s3, s4, s5, s6, s7, s8, s9, s10, s11, s12, s13, s14, s15⟩; go_simp; with_reducible rfl) ?_
       refine My.pu_ 16 47 19 HT_.out ?_
       refine My.pu_ 17 48 19 HT_.out ?_
       refine My.pu_ 18 49 19 HT_.out ?_
       refine done_ (done_of HT_.out (by kernel_rfl)) ?_
       try go_wp2
       go_roundg k2
       case measure => have := HJ1.out; have := HK2.out; omega
       case rel => exact ⟨(wrap64 (x26_2 + 1)), My.r1, H', ⟨by have := HJ1.out; have := HK2.out; omega⟩, ⟨(My.at_ BK125)⟩, ⟨(My.bl_ HB)⟩⟩
      rw [if_neg c18] at H
      have c18b0 : (Op.bytesLess (((rd_T51 l0_0 (ji15)).f0).toList) (((rd_T51 l0_0 x26_2).f0).toList)) = false := by simpa using c18
      clear c18
      obtain rfl := Option.some.inj H
      have p126 : 0 ≤ (x26_2 : Int) := My.as_
      have q126 : x26_2 < (l0_0.length : Int) := My.as_
      obtain ⟨ad126, e126, hx126_0, hx126_1, hx126_2, hx126_3, hx126_4, hx126_5, hx126_6⟩ := My.up7 HB (at_T51 HR0_0.out x26_2 p126 q126)
      cases e126
      replace p126 := eq_true p126
      replace q126 := eq_true q126
      try go_wp2_with (first | ((with_reducible refine gate_dst (N := 4) rfl ?_); (try (refine gate_guard (by rfl) ?_; dsimp only)); refine My.bx 4 #[.string (⟨#[]⟩ : ByteArray), .int .i64 0, .int .i64 0, .int .i64 0, .int .i64 0, .int .i64 0, .int .i64 0] 51 ?_; intro gb127 hg w25 hbox hb; have BK127 := My.am (hbox); have GE127 := My.nge hg (My.bl_ HB); replace HB := My.st HB hb; obtain ⟨NB125_127, NB127_125, BK125⟩ := My.nb hg hb BK125; clear hb hbox hg; have hnb26 := NB127_125.out; have hnc26 := NB125_127.out; have hq27 := My.cz7 BK127))
      obtain ⟨w28, hz_⟩ : ∃ z_, z_ = (((((((w25.setCell ⟨gb127, 0, none⟩ (.string ((rd_T51 l0_0 x26_2).f0))).setCell ⟨gb127, 1, none⟩ (.int .i64 ((rd_T51 l0_0 x26_2).f1.f0))).setCell ⟨gb127, 2, none⟩ (.int .i64 ((rd_T51 l0_0 x26_2).f1.f1))).setCell ⟨gb127, 3, none⟩ (.int .i64 ((rd_T51 l0_0 x26_2).f1.f2))).setCell ⟨gb127, 4, none⟩ (.int .i64 ((rd_T51 l0_0 x26_2).f2.f0))).setCell ⟨gb127, 5, none⟩ (.int .i64 ((rd_T51 l0_0 x26_2).f2.f1))).setCell ⟨gb127, 6, none⟩ (.int .i64 ((rd_T51 l0_0 x26_2).f2.f2))) := ⟨_, rfl⟩
      replace BK125 : Aside0 (w28.heap[gb125]? = some (.cells #[.slice (some ad126) l0_0.length c0_0, .slice A0_1 l0_1.length c0_1] 25 (0, 0))) := ⟨by rw [hz_]; exact (My.sv_ BK125)⟩
      replace BK127 : Aside0 (w28.heap[gb127]? = some (.cells #[.string ((rd_T51 l0_0 x26_2).f0), .int .i64 ((rd_T51 l0_0 x26_2).f1.f0), .int .i64 ((rd_T51 l0_0 x26_2).f1.f1), .int .i64 ((rd_T51 l0_0 x26_2).f1.f2), .int .i64 ((rd_T51 l0_0 x26_2).f2.f0), .int .i64 ((rd_T51 l0_0 x26_2).f2.f1), .int .i64 ((rd_T51 l0_0 x26_2).f2.f2)] 51 (0, 0))) := ⟨by rw [hz_]; exact (My.sv_ BK127)⟩
      replace HB : Aside0 (Below w.heap.size w w28) := ⟨by rw [hz_]; repeat (first | (with_reducible first | exact HB.out | apply below_alloc | apply pw_below_drewN | apply below_drew1 | refine below_set ?_ GE125.out | refine below_set ?_ GE127.out) | exact HB.out)⟩
      rw [← hz_]
      clear hz_
      replace BK125 := My.am (blk_drew BK125.out)
      replace BK127 := My.am (blk_drew BK127.out)
      replace HB := My.am (below_drew1 HB.out)
      have p129 : 0 ≤ ((ji15) : Int) := My.as_
      have q129 : (ji15) < (l0_0.length : Int) := My.as_
      obtain ⟨ad129, e129, hx129_0, hx129_1, hx129_2, hx129_3, hx129_4, hx129_5, hx129_6⟩ := at_T51 HR0_0.out (ji15) p129 q129
      have hw129_6 := hx129_6
      have hw129_5 := hx129_5
      have hw129_4 := hx129_4
      have hw129_3 := hx129_3
      have hw129_2 := hx129_2
      have hw129_1 := hx129_1
      have hw129_0 := hx129_0
      obtain rfl : ad126 = ad129 := (by injection e129)
      replace hx129_0 := My.up HB hx129_0
      replace hx129_1 := My.up HB hx129_1
      replace hx129_2 := My.up HB hx129_2
      replace hx129_3 := My.up HB hx129_3
      replace hx129_4 := My.up HB hx129_4
      replace hx129_5 := My.up HB hx129_5
      replace hx129_6 := My.up HB hx129_6
      replace p129 := eq_true p129
      replace q129 := eq_true q129
      refine start_ (n := 19) (S := fun w' => w'.cell? ⟨gb127, 0, none⟩ = some (.string ((rd_T51 l0_0 x26_2).f0)) ∧ w'.cell? ⟨gb127, 1, none⟩ = some (.int .i64 ((rd_T51 l0_0 x26_2).f1.f0)) ∧ w'.cell? ⟨gb127, 2, none⟩ = some (.int .i64 ((rd_T51 l0_0 x26_2).f1.f1)) ∧ w'.cell? ⟨gb127, 3, none⟩ = some (.int .i64 ((rd_T51 l0_0 x26_2).f1.f2)) ∧ w'.cell? ⟨gb127, 4, none⟩ = some (.int .i64 ((rd_T51 l0_0 x26_2).f2.f0)) ∧ w'.cell? ⟨gb127, 5, none⟩ = some (.int .i64 ((rd_T51 l0_0 x26_2).f2.f1)) ∧ w'.cell? ⟨gb127, 6, none⟩ = some (.int .i64 ((rd_T51 l0_0 x26_2).f2.f2)) ∧ w'.cell? ⟨gb125, 0, none⟩ = some (.slice (some ad126) l0_0.length c0_0) ∧ w'.cell? ⟨gb125, 1, none⟩ = some (.slice A0_1 l0_1.length c0_1) ∧ w'.cell? (ad126.add (((ji15)).toNat * 7)) = some (.string ((rd_T51 l0_0 (ji15)).f0)) ∧ w'.cell? ⟨(ad126.add (((ji15)).toNat * 7)).block, (ad126.add (((ji15)).toNat * 7)).off + 1, none⟩ = some (.int .i64 ((rd_T51 l0_0 (ji15)).f1.f0)) ∧ w'.cell? ⟨(ad126.add (((ji15)).toNat * 7)).block, (ad126.add (((ji15)).toNat * 7)).off + 2, none⟩ = some (.int .i64 ((rd_T51 l0_0 (ji15)).f1.f1)) ∧ w'.cell? ⟨(ad126.add (((ji15)).toNat * 7)).block, (ad126.add (((ji15)).toNat * 7)).off + 3, none⟩ = some (.int .i64 ((rd_T51 l0_0 (ji15)).f1.f2)) ∧ w'.cell? ⟨(ad126.add (((ji15)).toNat * 7)).block, (ad126.add (((ji15)).toNat * 7)).off + 4, none⟩ = some (.int .i64 ((rd_T51 l0_0 (ji15)).f2.f0)) ∧ w'.cell? ⟨(ad126.add (((ji15)).toNat * 7)).block, (ad126.add (((ji15)).toNat * 7)).off + 5, none⟩ = some (.int .i64 ((rd_T51 l0_0 (ji15)).f2.f1)) ∧ w'.cell? ⟨(ad126.add (((ji15)).toNat * 7)).block, (ad126.add (((ji15)).toNat * 7)).off + 6, none⟩ = some (.int .i64 ((rd_T51 l0_0 (ji15)).f2.f2))) (ds := []) #[false, false, false, false, false, false, false, false, false, false, false, false, false, false, false, false, false, false, false] (by kernel_rfl) rfl rfl ⟨My.b_ BK127 0, My.b_ BK127 1, My.b_ BK127 2, My.b_ BK127 3, My.b_ BK127 4, My.b_ BK127 5, My.b_ BK127 6, My.b_ BK125 0, My.b_ BK125 1, (My.up HB hw129_0), (My.up HB hw129_1), (My.up HB hw129_2), (My.up HB hw129_3), (My.up HB hw129_4), (My.up HB hw129_5), (My.up HB hw129_6)⟩ (fun hHeld => ?_); refine with_tabW ledger_May.tab6 ledger_May.bits6 (fun HT_ HW_ => ?_)
      generalize w28.drew = w29 at BK125 BK127 HB hx129_0 hx129_1 hx129_2 hx129_3 hx129_4 hx129_5 hx129_6 hHeld ⊢
      refine My.ta_ 0 31 19 HT_.out HW_.out hHeld rfl rfl (by rintro w' ⟨s0, s1, s2, s3, s4, s5, s6, s7, s8, s9, s10, s11, s12, s13, s14, s15⟩; go_simp; with_reducible rfl) ?_
      refine one_ (i := 1) (N := some 32) (My.Mb 19 3) rfl rfl (one_of HT_.out (by kernel_rfl)) (by decide) (fun K hK => ?_)
      refine goes_ Try.func51 (by kernel_rfl) rfl #[.agg #[.string ((rd_T51 l0_0 x26_2).f0), .int .i64 ((rd_T51 l0_0 x26_2).f1.f0), .int .i64 ((rd_T51 l0_0 x26_2).f1.f1), .int .i64 ((rd_T51 l0_0 x26_2).f1.f2), .int .i64 ((rd_T51 l0_0 x26_2).f2.f0), .int .i64 ((rd_T51 l0_0 x26_2).f2.f1), .int .i64 ((rd_T51 l0_0 x26_2).f2.f2)]] (by rfl) rfl rfl My.gx ?_
      with_reducible refine (act_May.calls k2 ((rd_T51 l0_0 x26_2).f0) ((rd_T51 l0_0 x26_2).f1.f0) ((rd_T51 l0_0 x26_2).f1.f1) ((rd_T51 l0_0 x26_2).f1.f2) ((rd_T51 l0_0 x26_2).f2.f0) ((rd_T51 l0_0 x26_2).f2.f1) ((rd_T51 l0_0 x26_2).f2.f2) t128 _ A12.out).mono ?_
      rintro e w30 ⟨rfl, hb⟩
      refine ⟨_, rfl, ?_⟩
      replace BK125 := My.ab BK125 hb
      replace BK127 := My.ab BK127 hb
      replace HB := My.st HB hb
      (try clear hb)
      (try clear hb2)
      (try clear hk)
      (try clear hi)
      refine hK.out _ _ ⟨My.b_ BK127 0, My.b_ BK127 1, My.b_ BK127 2, My.b_ BK127 3, My.b_ BK127 4, My.b_ BK127 5, My.b_ BK127 6, My.b_ BK125 0, My.b_ BK125 1, (My.up HB hw129_0), (My.up HB hw129_1), (My.up HB hw129_2), (My.up HB hw129_3), (My.up HB hw129_4), (My.up HB hw129_5), (My.up HB hw129_6)⟩ (fun hHeld => ?_)
      clear hK K
      refine My.nm 32 ?_
      refine My.pu_ 2 33 19 HT_.out ?_
      refine My.pu_ 3 34 19 HT_.out ?_
      refine My.pu_ 4 35 19 HT_.out ?_
      refine My.pu_ 5 36 19 HT_.out ?_
      refine My.pu_ 6 37 19 HT_.out ?_
      refine My.pu_ 7 38 19 HT_.out ?_
      refine My.pv_ 9 40 19 767 HT_.out ?_
      refine My.pv_ 10 41 19 1791 HT_.out ?_
      refine My.pv_ 14 45 19 18175 HT_.out ?_
      refine My.tv_ 8 39 19 18431 HT_.out HW_.out hHeld rfl rfl (by rintro w' ⟨s0, s1, s2, s3, s4, s5, s6, s7, s8, s9, s10, s11, s12, s13, s14, s15⟩; go_simp; with_reducible rfl) ?_
      refine My.pv_ 11 42 19 20479 HT_.out ?_
      refine My.pv_ 12 43 19 24575 HT_.out ?_
      refine My.tv_ 13 44 19 32767 HT_.out HW_.out hHeld rfl rfl (by rintro w' ⟨s0, s1, s2, s3, s4, s5, s6, s7, s8, s9, s10, s11, s12, s13, s14, s15⟩; go_simp; with_reducible rfl) ?_
      refine My.ta_ 15 46 19 HT_.out HW_.out hHeld rfl rfl (by rintro w' ⟨s0, s1, s2, s3, s4, s5, s6, s7, s8, s9, s10, s11, s12, s13, s14, s15⟩; go_simp; with_reducible rfl) ?_
      refine My.pu_ 16 47 19 HT_.out ?_
      refine My.pu_ 17 48 19 HT_.out ?_
      refine My.pu_ 18 49 19 HT_.out ?_
      refine done_ (done_of HT_.out (by kernel_rfl)) ?_
      try go_wp2
      go_ret
      exact ⟨by first | rfl | (simp [errW_none, errW_some] <;> rfl) | (simp only [← hji15]; first | rfl | (simp [errW_none, errW_some] <;> rfl)) | (simp [*, errW_none, errW_some] <;> rfl), (My.bl_ HB)⟩
     rw [if_neg c9] at H
     have c9b0 := decide_eq_false c9
     clear c9
     have H' := My.am H
     clear H
     have hq43 := My.cz2 BK125
     go_wp2
     go_loopg [57] k2 (fun kq v57 w' => ∃ (x57_3 : Int), v57 = .int .i64 x57_3 ∧ Aside0 (ledger_May.l1 kq l0_1 (l0_1.length : Int) x57_3 l0_0 l0_1 = some r) ∧ Aside0 (kq ≤ k2) ∧ Aside0 (w'.heap[gb125]? = some (.cells #[(.slice A0_0 l0_0.length c0_0), (.slice A0_1 l0_1.length c0_1)] 25 (0, 0))) ∧ Aside0 (Below w.heap.size w w'))
     case atStart => exact ⟨(0), My.r1, H', ⟨Nat.le_refl _⟩, ⟨(My.at_ BK125)⟩, ⟨(My.bl_ HB)⟩⟩
     case round =>
      clear H'
      try clear c9
      try clear c9b0
      try clear hq43
      obtain ⟨x57_3, rfl, HA, HK3, BK125, HB⟩ := hrel
      cases gk with
      | zero => exact absurd HA.out (by simp [ledger_May.l1])
      | succ k3 =>
       have H := HA.out
       clear HA
       simp only [ledger_May.l1] at H
       by_cases c44 : x57_3 < (l0_1.length : Int)
       rotate_left
       ·rw [if_neg c44] at H
        have c44b0 := decide_eq_false c44
        clear c44
        unfold ledger_May.e2 at H
        by_cases ce : l0_1.length ≤ 1000000 ∧ l0_0.length ≤ 1000000 ∧ (∀ m ∈ l0_1, m.f1.f1.size ≤ maxLen)
        rotate_left
        ·rw [if_neg ce] at H
         exact absurd H (by simp)

        rw [if_pos ce] at H
        obtain ⟨ce1, ce0, ce2⟩ := ce
        obtain ⟨fz, HP0, HL0⟩ := Option.bind_eq_some_iff.1 H
        have HP := My.am HP0
        have HL := My.am HL0
        have CE2 := My.am ce2
        have CE1 := My.am ce1
        have CE0 := My.am ce0
        clear H HP0 HL0 ce2 ce1 ce0
        have hcy0 := My.b_ BK125 0
        have hcy1 := My.b_ BK125 1
        go_upto_region 20 with ((go_at_call 52; refine (ledger_pending.calls _ _ _ _ _ _ l0_1 fz _ (Kd.C_below HR0_1.out HB.out) CE2.out CE1.out HP.out).mono ?_; rintro e w98 ⟨bz, rfl, hm, hbs, hb⟩; have BK := My.am (blk_below BK125.out hb); have HM := My.am hm; have HB9 := My.am (below_step HB.out hb); clear hb hm hcy0 hcy1 BK125 HB))
        have hcy0 := (blk_cell BK.out 0).trans rfl
        have hcy1 := (blk_cell BK.out 1).trans rfl
        go_wp2
        go_loopg [114] (l0_0.length + 1) (fun kq v114 w' => ∃ j : Nat, kq + j = l0_0.length + 1 ∧ v114 = .int .i64 (j : Int) ∧ j ≤ l0_0.length ∧ Aside0 (ledger_May.l2 fz (l0_0.drop j) = some r) ∧ Aside0 (My.MapFn Try.prog w' 9 bz l0_1.length fz) ∧ Aside0 (w'.heap[gb125]? = some (.cells #[(.slice A0_0 l0_0.length c0_0), (.slice A0_1 l0_1.length c0_1)] 25 (0, 0))) ∧ Aside0 (Below w.heap.size w w'))
        case atStart => exact ⟨0, by omega, rfl, Nat.zero_le _, ⟨by rw [List.drop_zero]; exact HL.out⟩, HM, BK, HB9⟩
        case round =>
         clear hcy0 hcy1 HL HM BK HB9
         obtain ⟨j, hkj, rfl, hj, HL, HM, BK, HB⟩ := hrel
         by_cases cj : j < l0_0.length
         rotate_left
         ·obtain rfl : j = l0_0.length := by omega
          have d1 : decide ((l0_0.length : Int) < (l0_0.length : Int)) = false := by simp
          have hl := HL.out
          rw [List.drop_length] at hl
          simp only [ledger_May.l2] at hl
          obtain rfl := Option.some.inj hl
          clear HL
          go_wp2
          go_ret
          exact ⟨rfl, HB.out⟩
         have z0 : (0 : Int) ≤ (j : Int) := by omega
         have z2 : (j : Int) < (l0_0.length : Int) := by omega
         have d1 : decide ((j : Int) < (l0_0.length : Int)) = true := decide_eq_true z2
         have hC := Kd.C_below HR0_0.out HB.out
         obtain ⟨adz, rfl, y0, y1, y2, y3, y4, y5, y6⟩ := at_T51 hC (j : Int) z0 z2
         rw [Int.toNat_natCast] at y0 y1 y2 y3 y4 y5 y6
         clear hC
         have hd : l0_0.drop j = rd_T51 l0_0 (j : Int) :: l0_0.drop (j + 1) := by
          rw [List.drop_eq_getElem_cons cj]
          rw [ledger_May.rd l0_0 j cj]
         have hl := HL.out
         rw [hd] at hl
         simp only [ledger_May.l2] at hl
         by_cases cs : (rd_T51 l0_0 (j : Int)).f0.size ≤ maxLen
         rotate_left
         ·rw [if_neg cs] at hl
          cases hl
         rw [if_pos cs] at hl
         obtain ⟨⟨p0, p1, p2, p3⟩, hq⟩ : ∃ q : My.Q4, fz (rd_T51 l0_0 (j : Int)).f0 = q := ⟨_, rfl⟩
         have hlk := My.MapFn.lookup (t := 84) (HM.out.alloc (.cells #[.string (rd_T51 l0_0 (j : Int)).f0, .int .i64 (rd_T51 l0_0 (j : Int)).f1.f0, .int .i64 (rd_T51 l0_0 (j : Int)).f1.f1, .int .i64 (rd_T51 l0_0 (j : Int)).f1.f2, .int .i64 (rd_T51 l0_0 (j : Int)).f2.f0, .int .i64 (rd_T51 l0_0 (j : Int)).f2.f1, .int .i64 (rd_T51 l0_0 (j : Int)).f2.f2] 51)) Try.underlying9 Try.underlying84 (by kernel_rfl) cs
         rw [hq] at hlk
         simp only [My.v4] at hlk
         rw [hq] at hl
         clear cs hq hd
         have hcy0 := (blk_cell BK.out 0).trans rfl
         by_cases cq : ((p0, p1, p2, p3) : My.Q4) = ((rd_T51 l0_0 (j : Int)).f1.f1, (rd_T51 l0_0 (j : Int)).f1.f2, (rd_T51 l0_0 (j : Int)).f2.f1, (rd_T51 l0_0 (j : Int)).f2.f2)
         ·rw [if_pos cq] at hl
          have HL2 := My.am hl
          have hqe : ∀ w' : World, (Op.equalIn 10000 86 (.agg #[.int .i64 p0, .int .i64 p1, .int .i64 p2, .int .i64 p3]) (.agg #[.int .i64 (rd_T51 l0_0 (j : Int)).f1.f1, .int .i64 (rd_T51 l0_0 (j : Int)).f1.f2, .int .i64 (rd_T51 l0_0 (j : Int)).f2.f1, .int .i64 (rd_T51 l0_0 (j : Int)).f2.f2])).run Try.prog w' = .ok true w' := fun w' => by have h_ := ledger_May.eq4 (p0, p1, p2, p3) ((rd_T51 l0_0 (j : Int)).f1.f1, (rd_T51 l0_0 (j : Int)).f1.f2, (rd_T51 l0_0 (j : Int)).f2.f1, (rd_T51 l0_0 (j : Int)).f2.f2) w'; rw [decide_eq_true cq] at h_; exact h_
          clear cq hl
          go_wp2
          go_roundg (l0_0.length - j)
          case measure => omega
          case rel => exact ⟨j + 1, by omega, by have := CE0.out; rw [show wrap64 ((j : Int) + 1) = ((j + 1 : Nat) : Int) by unfold wrap64; omega], by omega, HL2, ⟨HM.out.alloc _⟩, ⟨blk_alloc BK.out _⟩, ⟨below_alloc HB.out _⟩⟩
         rw [if_neg cq] at hl
         obtain rfl := Option.some.inj hl
         have hqe : ∀ w' : World, (Op.equalIn 10000 86 (.agg #[.int .i64 p0, .int .i64 p1, .int .i64 p2, .int .i64 p3]) (.agg #[.int .i64 (rd_T51 l0_0 (j : Int)).f1.f1, .int .i64 (rd_T51 l0_0 (j : Int)).f1.f2, .int .i64 (rd_T51 l0_0 (j : Int)).f2.f1, .int .i64 (rd_T51 l0_0 (j : Int)).f2.f2])).run Try.prog w' = .ok false w' := fun w' => by have h_ := ledger_May.eq4 (p0, p1, p2, p3) ((rd_T51 l0_0 (j : Int)).f1.f1, (rd_T51 l0_0 (j : Int)).f1.f2, (rd_T51 l0_0 (j : Int)).f2.f1, (rd_T51 l0_0 (j : Int)).f2.f2) w'; rw [decide_eq_false cq] at h_; exact h_
         clear cq hl
         go_wp2
         go_ret
         exact ⟨rfl, below_alloc HB.out _⟩
       rw [if_pos c44] at H
       have c44b0 := decide_eq_true c44
       clear c44
       replace H := My.ds H
       obtain ⟨c45b0, H⟩ := H
       replace H := My.ds H
       obtain ⟨c46b0, H⟩ := H
       have HC47 := My.am H
       clear H
       have p130 : 0 ≤ (x57_3 : Int) := My.as_
       have q130 : x57_3 < (l0_1.length : Int) := My.as_
       obtain ⟨ad130, e130, hx130_0, hx130_1, hx130_2, hx130_3, hx130_4⟩ := My.up5 HB (at_T64 HR0_1.out x57_3 p130 q130)
       cases e130
       replace p130 := eq_true p130
       replace q130 := eq_true q130
       go_upto_region 13 with (first | ((with_reducible refine gate_dst (N := 7) rfl ?_); (try (refine gate_guard (by rfl) ?_; dsimp only)); refine My.bx 7 #[.string (⟨#[]⟩ : ByteArray), .int .i64 0, .string (⟨#[]⟩ : ByteArray), .int .i64 0, .int .i64 0] 64 ?_; intro gb131 hg w48 hbox hb; have BK131 := My.am (hbox); have GE131 := My.nge hg (My.bl_ HB); replace HB := My.st HB hb; obtain ⟨NB125_131, NB131_125, BK125⟩ := My.nb hg hb BK125; clear hb hbox hg; have hnb49 := NB131_125.out; have hnc49 := NB125_131.out; have hq50 := My.cz5 BK131))
       (try simp only [Act.put, List.setIfInBounds_toArray, List.set_cons_zero, List.set_cons_succ])
       go_cut [97] (fun v97 wc => ∃ (kq : Nat) (x97_46 : Bool), v97 = .bool x97_46 ∧ Aside0 (ledger_May.j3 kq l0_1 (l0_1.length : Int) x57_3 x97_46 l0_0 l0_1 ((rd_T64 l0_1 x57_3).f0) ((rd_T64 l0_1 x57_3).f1.f0) ((rd_T64 l0_1 x57_3).f1.f1) ((rd_T64 l0_1 x57_3).f1.f2) ((rd_T64 l0_1 x57_3).f2) = some r) ∧ Aside0 (kq ≤ k3) ∧ Aside0 (wc.heap[gb125]? = some (.cells #[(.slice A0_0 l0_0.length c0_0), (.slice (some ad130) l0_1.length c0_1)] 25 (0, 0))) ∧ Aside0 (wc.heap[gb131]? = some (.cells #[.string ((rd_T64 l0_1 x57_3).f0), .int .i64 ((rd_T64 l0_1 x57_3).f1.f0), .string ((rd_T64 l0_1 x57_3).f1.f1), .int .i64 ((rd_T64 l0_1 x57_3).f1.f2), .int .i64 ((rd_T64 l0_1 x57_3).f2)] 64 (0, 0))) ∧ Aside0 (Below w.heap.size w wc))
       case first =>
        have H := HC47.out
        clear HC47
        replace H := Option.bind_eq_some_iff.mp H
        obtain ⟨t132, A510, H⟩ := H
        try dsimp only at H
        have A51 := My.am A510
        clear A510
        by_cases c52 : t132 = true
        rotate_left
        ·replace c52 := Bool.eq_false_iff.mpr c52
         subst c52
         rw [if_neg (show ¬ (false = true) by decide)] at H
         have H' := My.am H
         clear H
         try go_wp2
         obtain ⟨w84, hz_⟩ : ∃ z_, z_ = (((((w48.setCell ⟨gb131, 0, none⟩ (.string ((rd_T64 l0_1 x57_3).f0))).setCell ⟨gb131, 1, none⟩ (.int .i64 ((rd_T64 l0_1 x57_3).f1.f0))).setCell ⟨gb131, 2, none⟩ (.string ((rd_T64 l0_1 x57_3).f1.f1))).setCell ⟨gb131, 3, none⟩ (.int .i64 ((rd_T64 l0_1 x57_3).f1.f2))).setCell ⟨gb131, 4, none⟩ (.int .i64 ((rd_T64 l0_1 x57_3).f2))) := ⟨_, rfl⟩
         replace BK125 : Aside0 (w84.heap[gb125]? = some (.cells #[.slice A0_0 l0_0.length c0_0, .slice (some ad130) l0_1.length c0_1] 25 (0, 0))) := ⟨by rw [hz_]; exact (My.sv_ BK125)⟩
         replace BK131 : Aside0 (w84.heap[gb131]? = some (.cells #[.string ((rd_T64 l0_1 x57_3).f0), .int .i64 ((rd_T64 l0_1 x57_3).f1.f0), .string ((rd_T64 l0_1 x57_3).f1.f1), .int .i64 ((rd_T64 l0_1 x57_3).f1.f2), .int .i64 ((rd_T64 l0_1 x57_3).f2)] 64 (0, 0))) := ⟨by rw [hz_]; exact (My.sv_ BK131)⟩
         replace HB : Aside0 (Below w.heap.size w w84) := ⟨by rw [hz_]; repeat (first | (with_reducible first | exact HB.out | apply below_alloc | apply pw_below_drewN | apply below_drew1 | refine below_set ?_ GE125.out | refine below_set ?_ GE131.out) | exact HB.out)⟩
         rw [← hz_]
         clear hz_
         replace BK125 := My.am (blk_drew BK125.out)
         replace BK131 := My.am (blk_drew BK131.out)
         replace HB := My.am (below_drew1 HB.out)
         refine start_ (n := 36) (S := fun w' => w'.cell? ⟨gb131, 0, none⟩ = some (.string ((rd_T64 l0_1 x57_3).f0)) ∧ w'.cell? ⟨gb131, 1, none⟩ = some (.int .i64 ((rd_T64 l0_1 x57_3).f1.f0)) ∧ w'.cell? ⟨gb131, 2, none⟩ = some (.string ((rd_T64 l0_1 x57_3).f1.f1)) ∧ w'.cell? ⟨gb131, 3, none⟩ = some (.int .i64 ((rd_T64 l0_1 x57_3).f1.f2)) ∧ w'.cell? ⟨gb131, 4, none⟩ = some (.int .i64 ((rd_T64 l0_1 x57_3).f2))) (ds := []) #[false, false, false, false, false, false, false, false, false, false, false, false, false, false, false, false, false, false, false, false, false, false, false, false, false, false, false, false, false, false, false, false, false, false, false, false] (by kernel_rfl) rfl rfl ⟨My.b_ BK131 0, My.b_ BK131 1, My.b_ BK131 2, My.b_ BK131 3, My.b_ BK131 4⟩ (fun hHeld => ?_); refine with_tabW ledger_May.tab13 ledger_May.bits13 (fun HT_ HW_ => ?_)
         generalize w84.drew = w85 at BK125 BK131 HB hHeld ⊢
         refine My.pu_ 0 62 36 HT_.out ?_
         refine My.ta_ 1 63 36 HT_.out HW_.out hHeld rfl rfl (by rintro w' ⟨s0, s1, s2, s3, s4⟩; go_simp; with_reducible rfl) ?_
         refine one_ (i := 2) (N := some 64) (My.Mb 36 7) rfl rfl (one_of HT_.out (by kernel_rfl)) (by decide) (fun K hK => ?_)
         refine goes_ Try.func38 (by kernel_rfl) rfl #[.string ((rd_T64 l0_1 x57_3).f0)] (by rfl) rfl rfl My.gx ?_
         with_reducible refine (ledger_key.calls ((rd_T64 l0_1 x57_3).f0) false _ A51.out).mono ?_
         rintro e w' ⟨rfl, ⟨nd, rfl⟩⟩
         refine ⟨_, rfl, ?_⟩
         refine hK.out _ _ ⟨My.b_ BK131 0, My.b_ BK131 1, My.b_ BK131 2, My.b_ BK131 3, My.b_ BK131 4⟩ (fun hHeld => ?_)
         clear hK K
         refine My.nm 64 ?_
         refine My.pu_ 3 65 36 HT_.out ?_
         refine My.pu_ 4 66 36 HT_.out ?_
         refine My.pn_ 5 67 36 HT_.out ?_
         refine My.pn_ 6 68 36 HT_.out ?_
         refine My.pn_ 7 69 36 HT_.out ?_
         refine My.pn_ 8 70 36 HT_.out ?_
         refine My.pn_ 9 71 36 HT_.out ?_
         refine My.pn_ 10 72 36 HT_.out ?_
         refine My.pn_ 11 73 36 HT_.out ?_
         refine My.pn_ 12 74 36 HT_.out ?_
         refine My.pn_ 13 75 36 HT_.out ?_
         refine My.pn_ 14 76 36 HT_.out ?_
         refine My.pn_ 15 77 36 HT_.out ?_
         refine My.pn_ 16 78 36 HT_.out ?_
         refine My.pn_ 17 79 36 HT_.out ?_
         refine My.pn_ 18 80 36 HT_.out ?_
         refine My.pu_ 19 81 36 HT_.out ?_
         refine My.pu_ 20 82 36 HT_.out ?_
         refine My.pn_ 21 83 36 HT_.out ?_
         refine My.pn_ 22 84 36 HT_.out ?_
         refine My.pn_ 23 85 36 HT_.out ?_
         refine My.pn_ 24 86 36 HT_.out ?_
         refine My.pu_ 25 87 36 HT_.out ?_
         refine My.pu_ 26 88 36 HT_.out ?_
         refine My.pn_ 27 89 36 HT_.out ?_
         refine My.pn_ 28 90 36 HT_.out ?_
         refine My.pn_ 29 91 36 HT_.out ?_
         refine My.pu_ 30 92 36 HT_.out ?_
         refine My.pu_ 31 93 36 HT_.out ?_
         refine My.pn_ 32 94 36 HT_.out ?_
         refine My.pn_ 33 95 36 HT_.out ?_
         refine My.pn_ 34 96 36 HT_.out ?_
         refine My.pu_ 35 97 36 HT_.out ?_
         refine done_ (done_of HT_.out (by kernel_rfl)) ?_
         try go_wp2
         go_meet
         case rel => exact ⟨_, (true), My.r1, H', ⟨by have := HJ1.out; have := HK2.out; have := HK3.out; first | omega | exact Nat.le_refl _⟩, ⟨(My.at_ BK125)⟩, ⟨(My.at_ BK131)⟩, ⟨(My.bl_ HB)⟩⟩
        subst c52
        rw [if_pos rfl] at H
        by_cases c53 : x57_3 > 0
        rotate_left
        ·rw [if_neg c53] at H
         have c53b0 : decide (0 < x57_3) = false := decide_eq_false c53
         clear c53
         (first | rw [c53b0] | (simp only [i64_w, i32_w]; rw [c53b0]) | skip)
         replace H := Option.bind_eq_some_iff.mp H
         obtain ⟨t135, A720, H⟩ := H
         try dsimp only at H
         have A72 := My.am A720
         clear A720
         by_cases c73 : t135 = 0
         rotate_left
         ·rw [if_neg c73] at H
          have c73b0 : (t135 == 0) = false := beq_eq_false_iff_ne.mpr c73
          have c73b1 : (t135 != 0) = true := bne_iff_ne.mpr c73
          have H' := My.am H
          clear H
          try go_wp2
          obtain ⟨w81, hz_⟩ : ∃ z_, z_ = (((((w48.setCell ⟨gb131, 0, none⟩ (.string ((rd_T64 l0_1 x57_3).f0))).setCell ⟨gb131, 1, none⟩ (.int .i64 ((rd_T64 l0_1 x57_3).f1.f0))).setCell ⟨gb131, 2, none⟩ (.string ((rd_T64 l0_1 x57_3).f1.f1))).setCell ⟨gb131, 3, none⟩ (.int .i64 ((rd_T64 l0_1 x57_3).f1.f2))).setCell ⟨gb131, 4, none⟩ (.int .i64 ((rd_T64 l0_1 x57_3).f2))) := ⟨_, rfl⟩
          replace BK125 : Aside0 (w81.heap[gb125]? = some (.cells #[.slice A0_0 l0_0.length c0_0, .slice (some ad130) l0_1.length c0_1] 25 (0, 0))) := ⟨by rw [hz_]; exact (My.sv_ BK125)⟩
          replace BK131 : Aside0 (w81.heap[gb131]? = some (.cells #[.string ((rd_T64 l0_1 x57_3).f0), .int .i64 ((rd_T64 l0_1 x57_3).f1.f0), .string ((rd_T64 l0_1 x57_3).f1.f1), .int .i64 ((rd_T64 l0_1 x57_3).f1.f2), .int .i64 ((rd_T64 l0_1 x57_3).f2)] 64 (0, 0))) := ⟨by rw [hz_]; exact (My.sv_ BK131)⟩
          replace HB : Aside0 (Below w.heap.size w w81) := ⟨by rw [hz_]; repeat (first | (with_reducible first | exact HB.out | apply below_alloc | apply pw_below_drewN | apply below_drew1 | refine below_set ?_ GE125.out | refine below_set ?_ GE131.out) | exact HB.out)⟩
          rw [← hz_]
          clear hz_
          replace BK125 := My.am (blk_drew BK125.out)
          replace BK131 := My.am (blk_drew BK131.out)
          replace HB := My.am (below_drew1 HB.out)
          refine start_ (n := 36) (S := fun w' => w'.cell? ⟨gb131, 0, none⟩ = some (.string ((rd_T64 l0_1 x57_3).f0)) ∧ w'.cell? ⟨gb131, 1, none⟩ = some (.int .i64 ((rd_T64 l0_1 x57_3).f1.f0)) ∧ w'.cell? ⟨gb131, 2, none⟩ = some (.string ((rd_T64 l0_1 x57_3).f1.f1)) ∧ w'.cell? ⟨gb131, 3, none⟩ = some (.int .i64 ((rd_T64 l0_1 x57_3).f1.f2)) ∧ w'.cell? ⟨gb131, 4, none⟩ = some (.int .i64 ((rd_T64 l0_1 x57_3).f2))) (ds := []) #[false, false, false, false, false, false, false, false, false, false, false, false, false, false, false, false, false, false, false, false, false, false, false, false, false, false, false, false, false, false, false, false, false, false, false, false] (by kernel_rfl) rfl rfl ⟨My.b_ BK131 0, My.b_ BK131 1, My.b_ BK131 2, My.b_ BK131 3, My.b_ BK131 4⟩ (fun hHeld => ?_); refine with_tabW ledger_May.tab13 ledger_May.bits13 (fun HT_ HW_ => ?_)
          generalize w81.drew = w82 at BK125 BK131 HB hHeld ⊢
          refine My.pu_ 0 62 36 HT_.out ?_
          refine My.ta_ 1 63 36 HT_.out HW_.out hHeld rfl rfl (by rintro w' ⟨s0, s1, s2, s3, s4⟩; go_simp; with_reducible rfl) ?_
          refine one_ (i := 2) (N := some 64) (My.Mb 36 7) rfl rfl (one_of HT_.out (by kernel_rfl)) (by decide) (fun K hK => ?_)
          refine goes_ Try.func38 (by kernel_rfl) rfl #[.string ((rd_T64 l0_1 x57_3).f0)] (by rfl) rfl rfl My.gx ?_
          with_reducible refine (ledger_key.calls ((rd_T64 l0_1 x57_3).f0) true _ A51.out).mono ?_
          rintro e w' ⟨rfl, ⟨nd, rfl⟩⟩
          refine ⟨_, rfl, ?_⟩
          refine hK.out _ _ ⟨My.b_ BK131 0, My.b_ BK131 1, My.b_ BK131 2, My.b_ BK131 3, My.b_ BK131 4⟩ (fun hHeld => ?_)
          clear hK K
          refine My.nm 64 ?_
          refine My.pu_ 3 65 36 HT_.out ?_
          refine My.pu_ 4 66 36 HT_.out ?_
          refine My.pu_ 5 67 36 HT_.out ?_
          refine My.pu_ 6 68 36 HT_.out ?_
          refine My.pu_ 7 69 36 HT_.out ?_
          refine My.pn_ 8 70 36 HT_.out ?_
          refine My.pn_ 9 71 36 HT_.out ?_
          refine My.pn_ 10 72 36 HT_.out ?_
          refine My.pn_ 11 73 36 HT_.out ?_
          refine My.pn_ 12 74 36 HT_.out ?_
          refine My.pn_ 13 75 36 HT_.out ?_
          refine My.pn_ 14 76 36 HT_.out ?_
          refine My.pn_ 15 77 36 HT_.out ?_
          refine My.pn_ 16 78 36 HT_.out ?_
          refine My.pn_ 17 79 36 HT_.out ?_
          refine My.pu_ 18 80 36 HT_.out ?_
          refine My.pu_ 19 81 36 HT_.out ?_
          refine My.pu_ 20 82 36 HT_.out ?_
          refine My.pu_ 21 83 36 HT_.out ?_
          refine My.ta_ 22 84 36 HT_.out HW_.out hHeld rfl rfl (by rintro w' ⟨s0, s1, s2, s3, s4⟩; go_simp; with_reducible rfl) ?_
          refine one_ (i := 23) (N := some 85) (My.Mb 36 16777215) rfl rfl (one_of HT_.out (by kernel_rfl)) (by decide) (fun K hK => ?_)
          refine goes_ Try.func39 (by kernel_rfl) rfl #[.agg #[.int .i64 ((rd_T64 l0_1 x57_3).f1.f0), .string ((rd_T64 l0_1 x57_3).f1.f1), .int .i64 ((rd_T64 l0_1 x57_3).f1.f2)]] (by rfl) rfl rfl My.gx ?_
          with_reducible refine (act_Check.calls k3 ((rd_T64 l0_1 x57_3).f1.f0) ((rd_T64 l0_1 x57_3).f1.f1) ((rd_T64 l0_1 x57_3).f1.f2) t135 _ A72.out).mono ?_
          rintro e w83 ⟨rfl, hb⟩
          refine ⟨_, rfl, ?_⟩
          replace BK125 := My.ab BK125 hb
          replace BK131 := My.ab BK131 hb
          replace HB := My.st HB hb
          (try clear hb)
          (try clear hb2)
          (try clear hk)
          (try clear hi)
          refine hK.out _ _ ⟨My.b_ BK131 0, My.b_ BK131 1, My.b_ BK131 2, My.b_ BK131 3, My.b_ BK131 4⟩ (fun hHeld => ?_)
          clear hK K
          refine My.nm 85 ?_
          refine My.pu_ 24 86 36 HT_.out ?_
          refine My.pu_ 25 87 36 HT_.out ?_
          refine My.pu_ 26 88 36 HT_.out ?_
          refine My.pn_ 27 89 36 HT_.out ?_
          refine My.pn_ 28 90 36 HT_.out ?_
          refine My.pn_ 29 91 36 HT_.out ?_
          refine My.pu_ 30 92 36 HT_.out ?_
          refine My.pu_ 31 93 36 HT_.out ?_
          refine My.pn_ 32 94 36 HT_.out ?_
          refine My.pn_ 33 95 36 HT_.out ?_
          refine My.pn_ 34 96 36 HT_.out ?_
          refine My.pu_ 35 97 36 HT_.out ?_
          refine done_ (done_of HT_.out (by kernel_rfl)) ?_
          try go_wp2
          go_meet
          case rel => exact ⟨_, (true), My.r1, H', ⟨by have := HJ1.out; have := HK2.out; have := HK3.out; first | omega | exact Nat.le_refl _⟩, ⟨(My.at_ BK125)⟩, ⟨(My.at_ BK131)⟩, ⟨(My.bl_ HB)⟩⟩
         rw [if_pos c73] at H
         have c73b0 : (t135 == 0) = true := beq_iff_eq.mpr c73
         have c73b1 : (t135 != 0) = false := bne_eq_false_iff_eq.mpr c73
         clear c73
         by_cases c74 : ((rd_T64 l0_1 x57_3).f2) < 1
         ·rw [if_pos c74] at H
          have c74b0 := decide_eq_true c74
          clear c74
          have H' := My.am H
          clear H
          try go_wp2
          obtain ⟨w75, hz_⟩ : ∃ z_, z_ = (((((w48.setCell ⟨gb131, 0, none⟩ (.string ((rd_T64 l0_1 x57_3).f0))).setCell ⟨gb131, 1, none⟩ (.int .i64 ((rd_T64 l0_1 x57_3).f1.f0))).setCell ⟨gb131, 2, none⟩ (.string ((rd_T64 l0_1 x57_3).f1.f1))).setCell ⟨gb131, 3, none⟩ (.int .i64 ((rd_T64 l0_1 x57_3).f1.f2))).setCell ⟨gb131, 4, none⟩ (.int .i64 ((rd_T64 l0_1 x57_3).f2))) := ⟨_, rfl⟩
          replace BK125 : Aside0 (w75.heap[gb125]? = some (.cells #[.slice A0_0 l0_0.length c0_0, .slice (some ad130) l0_1.length c0_1] 25 (0, 0))) := ⟨by rw [hz_]; exact (My.sv_ BK125)⟩
          replace BK131 : Aside0 (w75.heap[gb131]? = some (.cells #[.string ((rd_T64 l0_1 x57_3).f0), .int .i64 ((rd_T64 l0_1 x57_3).f1.f0), .string ((rd_T64 l0_1 x57_3).f1.f1), .int .i64 ((rd_T64 l0_1 x57_3).f1.f2), .int .i64 ((rd_T64 l0_1 x57_3).f2)] 64 (0, 0))) := ⟨by rw [hz_]; exact (My.sv_ BK131)⟩
          replace HB : Aside0 (Below w.heap.size w w75) := ⟨by rw [hz_]; repeat (first | (with_reducible first | exact HB.out | apply below_alloc | apply pw_below_drewN | apply below_drew1 | refine below_set ?_ GE125.out | refine below_set ?_ GE131.out) | exact HB.out)⟩
          rw [← hz_]
          clear hz_
          replace BK125 := My.am (blk_drew BK125.out)
          replace BK131 := My.am (blk_drew BK131.out)
          replace HB := My.am (below_drew1 HB.out)
          refine start_ (n := 36) (S := fun w' => w'.cell? ⟨gb131, 0, none⟩ = some (.string ((rd_T64 l0_1 x57_3).f0)) ∧ w'.cell? ⟨gb131, 1, none⟩ = some (.int .i64 ((rd_T64 l0_1 x57_3).f1.f0)) ∧ w'.cell? ⟨gb131, 2, none⟩ = some (.string ((rd_T64 l0_1 x57_3).f1.f1)) ∧ w'.cell? ⟨gb131, 3, none⟩ = some (.int .i64 ((rd_T64 l0_1 x57_3).f1.f2)) ∧ w'.cell? ⟨gb131, 4, none⟩ = some (.int .i64 ((rd_T64 l0_1 x57_3).f2))) (ds := []) #[false, false, false, false, false, false, false, false, false, false, false, false, false, false, false, false, false, false, false, false, false, false, false, false, false, false, false, false, false, false, false, false, false, false, false, false] (by kernel_rfl) rfl rfl ⟨My.b_ BK131 0, My.b_ BK131 1, My.b_ BK131 2, My.b_ BK131 3, My.b_ BK131 4⟩ (fun hHeld => ?_); refine with_tabW ledger_May.tab13 ledger_May.bits13 (fun HT_ HW_ => ?_)
          generalize w75.drew = w76 at BK125 BK131 HB hHeld ⊢
          refine My.pu_ 0 62 36 HT_.out ?_
          refine My.ta_ 1 63 36 HT_.out HW_.out hHeld rfl rfl (by rintro w' ⟨s0, s1, s2, s3, s4⟩; go_simp; with_reducible rfl) ?_
          refine one_ (i := 2) (N := some 64) (My.Mb 36 7) rfl rfl (one_of HT_.out (by kernel_rfl)) (by decide) (fun K hK => ?_)
          refine goes_ Try.func38 (by kernel_rfl) rfl #[.string ((rd_T64 l0_1 x57_3).f0)] (by rfl) rfl rfl My.gx ?_
          with_reducible refine (ledger_key.calls ((rd_T64 l0_1 x57_3).f0) true _ A51.out).mono ?_
          rintro e w' ⟨rfl, ⟨nd, rfl⟩⟩
          refine ⟨_, rfl, ?_⟩
          refine hK.out _ _ ⟨My.b_ BK131 0, My.b_ BK131 1, My.b_ BK131 2, My.b_ BK131 3, My.b_ BK131 4⟩ (fun hHeld => ?_)
          clear hK K
          refine My.nm 64 ?_
          refine My.pu_ 3 65 36 HT_.out ?_
          refine My.pu_ 4 66 36 HT_.out ?_
          refine My.pu_ 5 67 36 HT_.out ?_
          refine My.pu_ 6 68 36 HT_.out ?_
          refine My.pu_ 7 69 36 HT_.out ?_
          refine My.pn_ 8 70 36 HT_.out ?_
          refine My.pn_ 9 71 36 HT_.out ?_
          refine My.pn_ 10 72 36 HT_.out ?_
          refine My.pn_ 11 73 36 HT_.out ?_
          refine My.pn_ 12 74 36 HT_.out ?_
          refine My.pn_ 13 75 36 HT_.out ?_
          refine My.pn_ 14 76 36 HT_.out ?_
          refine My.pn_ 15 77 36 HT_.out ?_
          refine My.pn_ 16 78 36 HT_.out ?_
          refine My.pn_ 17 79 36 HT_.out ?_
          refine My.pu_ 18 80 36 HT_.out ?_
          refine My.pu_ 19 81 36 HT_.out ?_
          refine My.pu_ 20 82 36 HT_.out ?_
          refine My.pu_ 21 83 36 HT_.out ?_
          refine My.ta_ 22 84 36 HT_.out HW_.out hHeld rfl rfl (by rintro w' ⟨s0, s1, s2, s3, s4⟩; go_simp; with_reducible rfl) ?_
          refine one_ (i := 23) (N := some 85) (My.Mb 36 16777215) rfl rfl (one_of HT_.out (by kernel_rfl)) (by decide) (fun K hK => ?_)
          refine goes_ Try.func39 (by kernel_rfl) rfl #[.agg #[.int .i64 ((rd_T64 l0_1 x57_3).f1.f0), .string ((rd_T64 l0_1 x57_3).f1.f1), .int .i64 ((rd_T64 l0_1 x57_3).f1.f2)]] (by rfl) rfl rfl My.gx ?_
          with_reducible refine (act_Check.calls k3 ((rd_T64 l0_1 x57_3).f1.f0) ((rd_T64 l0_1 x57_3).f1.f1) ((rd_T64 l0_1 x57_3).f1.f2) t135 _ A72.out).mono ?_
          rintro e w77 ⟨rfl, hb⟩
          refine ⟨_, rfl, ?_⟩
          replace BK125 := My.ab BK125 hb
          replace BK131 := My.ab BK131 hb
          replace HB := My.st HB hb
          (try clear hb)
          (try clear hb2)
          (try clear hk)
          (try clear hi)
          refine hK.out _ _ ⟨My.b_ BK131 0, My.b_ BK131 1, My.b_ BK131 2, My.b_ BK131 3, My.b_ BK131 4⟩ (fun hHeld => ?_)
          clear hK K
          refine My.nm 85 ?_
          refine My.pu_ 24 86 36 HT_.out ?_
          refine My.pu_ 25 87 36 HT_.out ?_
          refine My.pu_ 26 88 36 HT_.out ?_
          refine My.pu_ 27 89 36 HT_.out ?_
          refine My.ta_ 28 90 36 HT_.out HW_.out hHeld rfl rfl (by rintro w' ⟨s0, s1, s2, s3, s4⟩; go_simp; with_reducible rfl) ?_
          refine My.pu_ 29 91 36 HT_.out ?_
          refine My.pu_ 30 92 36 HT_.out ?_
          refine My.pu_ 31 93 36 HT_.out ?_
          refine My.pn_ 32 94 36 HT_.out ?_
          refine My.pn_ 33 95 36 HT_.out ?_
          refine My.pn_ 34 96 36 HT_.out ?_
          refine My.pu_ 35 97 36 HT_.out ?_
          refine done_ (done_of HT_.out (by kernel_rfl)) ?_
          try go_wp2
          go_meet
          case rel => exact ⟨_, (true), My.r1, H', ⟨by have := HJ1.out; have := HK2.out; have := HK3.out; first | omega | exact Nat.le_refl _⟩, ⟨(My.at_ BK125)⟩, ⟨(My.at_ BK131)⟩, ⟨(My.bl_ HB)⟩⟩
         rw [if_neg c74] at H
         have c74b0 := decide_eq_false c74
         clear c74
         have H' := My.am H
         clear H
         try go_wp2
         obtain ⟨w78, hz_⟩ : ∃ z_, z_ = (((((w48.setCell ⟨gb131, 0, none⟩ (.string ((rd_T64 l0_1 x57_3).f0))).setCell ⟨gb131, 1, none⟩ (.int .i64 ((rd_T64 l0_1 x57_3).f1.f0))).setCell ⟨gb131, 2, none⟩ (.string ((rd_T64 l0_1 x57_3).f1.f1))).setCell ⟨gb131, 3, none⟩ (.int .i64 ((rd_T64 l0_1 x57_3).f1.f2))).setCell ⟨gb131, 4, none⟩ (.int .i64 ((rd_T64 l0_1 x57_3).f2))) := ⟨_, rfl⟩
         replace BK125 : Aside0 (w78.heap[gb125]? = some (.cells #[.slice A0_0 l0_0.length c0_0, .slice (some ad130) l0_1.length c0_1] 25 (0, 0))) := ⟨by rw [hz_]; exact (My.sv_ BK125)⟩
         replace BK131 : Aside0 (w78.heap[gb131]? = some (.cells #[.string ((rd_T64 l0_1 x57_3).f0), .int .i64 ((rd_T64 l0_1 x57_3).f1.f0), .string ((rd_T64 l0_1 x57_3).f1.f1), .int .i64 ((rd_T64 l0_1 x57_3).f1.f2), .int .i64 ((rd_T64 l0_1 x57_3).f2)] 64 (0, 0))) := ⟨by rw [hz_]; exact (My.sv_ BK131)⟩
         replace HB : Aside0 (Below w.heap.size w w78) := ⟨by rw [hz_]; repeat (first | (with_reducible first | exact HB.out | apply below_alloc | apply pw_below_drewN | apply below_drew1 | refine below_set ?_ GE125.out | refine below_set ?_ GE131.out) | exact HB.out)⟩
         rw [← hz_]
         clear hz_
         replace BK125 := My.am (blk_drew BK125.out)
         replace BK131 := My.am (blk_drew BK131.out)
         replace HB := My.am (below_drew1 HB.out)
         refine start_ (n := 36) (S := fun w' => w'.cell? ⟨gb131, 0, none⟩ = some (.string ((rd_T64 l0_1 x57_3).f0)) ∧ w'.cell? ⟨gb131, 1, none⟩ = some (.int .i64 ((rd_T64 l0_1 x57_3).f1.f0)) ∧ w'.cell? ⟨gb131, 2, none⟩ = some (.string ((rd_T64 l0_1 x57_3).f1.f1)) ∧ w'.cell? ⟨gb131, 3, none⟩ = some (.int .i64 ((rd_T64 l0_1 x57_3).f1.f2)) ∧ w'.cell? ⟨gb131, 4, none⟩ = some (.int .i64 ((rd_T64 l0_1 x57_3).f2))) (ds := []) #[false, false, false, false, false, false, false, false, false, false, false, false, false, false, false, false, false, false, false, false, false, false, false, false, false, false, false, false, false, false, false, false, false, false, false, false] (by kernel_rfl) rfl rfl ⟨My.b_ BK131 0, My.b_ BK131 1, My.b_ BK131 2, My.b_ BK131 3, My.b_ BK131 4⟩ (fun hHeld => ?_); refine with_tabW ledger_May.tab13 ledger_May.bits13 (fun HT_ HW_ => ?_)
         generalize w78.drew = w79 at BK125 BK131 HB hHeld ⊢
         refine My.pu_ 0 62 36 HT_.out ?_
         refine My.ta_ 1 63 36 HT_.out HW_.out hHeld rfl rfl (by rintro w' ⟨s0, s1, s2, s3, s4⟩; go_simp; with_reducible rfl) ?_
         refine one_ (i := 2) (N := some 64) (My.Mb 36 7) rfl rfl (one_of HT_.out (by kernel_rfl)) (by decide) (fun K hK => ?_)
         refine goes_ Try.func38 (by kernel_rfl) rfl #[.string ((rd_T64 l0_1 x57_3).f0)] (by rfl) rfl rfl My.gx ?_
         with_reducible refine (ledger_key.calls ((rd_T64 l0_1 x57_3).f0) true _ A51.out).mono ?_
         rintro e w' ⟨rfl, ⟨nd, rfl⟩⟩
         refine ⟨_, rfl, ?_⟩
         refine hK.out _ _ ⟨My.b_ BK131 0, My.b_ BK131 1, My.b_ BK131 2, My.b_ BK131 3, My.b_ BK131 4⟩ (fun hHeld => ?_)
         clear hK K
         refine My.nm 64 ?_
         refine My.pu_ 3 65 36 HT_.out ?_
         refine My.pu_ 4 66 36 HT_.out ?_
         refine My.pu_ 5 67 36 HT_.out ?_
         refine My.pu_ 6 68 36 HT_.out ?_
         refine My.pu_ 7 69 36 HT_.out ?_
         refine My.pn_ 8 70 36 HT_.out ?_
         refine My.pn_ 9 71 36 HT_.out ?_
         refine My.pn_ 10 72 36 HT_.out ?_
         refine My.pn_ 11 73 36 HT_.out ?_
         refine My.pn_ 12 74 36 HT_.out ?_
         refine My.pn_ 13 75 36 HT_.out ?_
         refine My.pn_ 14 76 36 HT_.out ?_
         refine My.pn_ 15 77 36 HT_.out ?_
         refine My.pn_ 16 78 36 HT_.out ?_
         refine My.pn_ 17 79 36 HT_.out ?_
         refine My.pu_ 18 80 36 HT_.out ?_
         refine My.pu_ 19 81 36 HT_.out ?_
         refine My.pu_ 20 82 36 HT_.out ?_
         refine My.pu_ 21 83 36 HT_.out ?_
         refine My.ta_ 22 84 36 HT_.out HW_.out hHeld rfl rfl (by rintro w' ⟨s0, s1, s2, s3, s4⟩; go_simp; with_reducible rfl) ?_
         refine one_ (i := 23) (N := some 85) (My.Mb 36 16777215) rfl rfl (one_of HT_.out (by kernel_rfl)) (by decide) (fun K hK => ?_)
         refine goes_ Try.func39 (by kernel_rfl) rfl #[.agg #[.int .i64 ((rd_T64 l0_1 x57_3).f1.f0), .string ((rd_T64 l0_1 x57_3).f1.f1), .int .i64 ((rd_T64 l0_1 x57_3).f1.f2)]] (by rfl) rfl rfl My.gx ?_
         with_reducible refine (act_Check.calls k3 ((rd_T64 l0_1 x57_3).f1.f0) ((rd_T64 l0_1 x57_3).f1.f1) ((rd_T64 l0_1 x57_3).f1.f2) t135 _ A72.out).mono ?_
         rintro e w80 ⟨rfl, hb⟩
         refine ⟨_, rfl, ?_⟩
         replace BK125 := My.ab BK125 hb
         replace BK131 := My.ab BK131 hb
         replace HB := My.st HB hb
         (try clear hb)
         (try clear hb2)
         (try clear hk)
         (try clear hi)
         refine hK.out _ _ ⟨My.b_ BK131 0, My.b_ BK131 1, My.b_ BK131 2, My.b_ BK131 3, My.b_ BK131 4⟩ (fun hHeld => ?_)
         clear hK K
         refine My.nm 85 ?_
         refine My.pu_ 24 86 36 HT_.out ?_
         refine My.pu_ 25 87 36 HT_.out ?_
         refine My.pu_ 26 88 36 HT_.out ?_
         refine My.pu_ 27 89 36 HT_.out ?_
         refine My.ta_ 28 90 36 HT_.out HW_.out hHeld rfl rfl (by rintro w' ⟨s0, s1, s2, s3, s4⟩; go_simp; with_reducible rfl) ?_
         refine My.pu_ 29 91 36 HT_.out ?_
         refine My.pu_ 30 92 36 HT_.out ?_
         refine My.pu_ 31 93 36 HT_.out ?_
         refine My.pu_ 32 94 36 HT_.out ?_
         refine My.ta_ 33 95 36 HT_.out HW_.out hHeld rfl rfl (by rintro w' ⟨s0, s1, s2, s3, s4⟩; go_simp; with_reducible rfl) ?_
         refine My.pu_ 34 96 36 HT_.out ?_
         refine My.pu_ 35 97 36 HT_.out ?_
         refine done_ (done_of HT_.out (by kernel_rfl)) ?_
         try go_wp2
         go_meet
         case rel => exact ⟨_, (decide (((rd_T64 l0_1 x57_3).f2) > 3)), My.r1, H', ⟨by have := HJ1.out; have := HK2.out; have := HK3.out; first | omega | exact Nat.le_refl _⟩, ⟨(My.at_ BK125)⟩, ⟨(My.at_ BK131)⟩, ⟨(My.bl_ HB)⟩⟩
        rw [if_pos c53] at H
        have c53b0 : decide (0 < x57_3) = true := decide_eq_true c53
        clear c53
        (first | rw [c53b0] | (simp only [i64_w, i32_w]; rw [c53b0]) | skip)
        obtain ⟨ji54, hji54⟩ : ∃ j_ : Int, (wrap64 (x57_3 - 1)) = j_ := ⟨_, rfl⟩
        replace H : (if 0 ≤ (ji54) then (if (ji54) < (l0_1.length : Int) then (if (Op.bytesLess (((rd_T64 l0_1 (ji54)).f0).toList) (((rd_T64 l0_1 x57_3).f0).toList)) = true then ((act_Check.f k3 ((rd_T64 l0_1 x57_3).f1.f0) ((rd_T64 l0_1 x57_3).f1.f1) ((rd_T64 l0_1 x57_3).f1.f2)).bind fun t134 => (if t134 = 0 then (if ((rd_T64 l0_1 x57_3).f2) < 1 then (ledger_May.j3 k3 l0_1 (l0_1.length : Int) x57_3 true l0_0 l0_1 ((rd_T64 l0_1 x57_3).f0) ((rd_T64 l0_1 x57_3).f1.f0) ((rd_T64 l0_1 x57_3).f1.f1) ((rd_T64 l0_1 x57_3).f1.f2) ((rd_T64 l0_1 x57_3).f2)) else (ledger_May.j3 k3 l0_1 (l0_1.length : Int) x57_3 (decide (((rd_T64 l0_1 x57_3).f2) > 3)) l0_0 l0_1 ((rd_T64 l0_1 x57_3).f0) ((rd_T64 l0_1 x57_3).f1.f0) ((rd_T64 l0_1 x57_3).f1.f1) ((rd_T64 l0_1 x57_3).f1.f2) ((rd_T64 l0_1 x57_3).f2))) else (ledger_May.j3 k3 l0_1 (l0_1.length : Int) x57_3 true l0_0 l0_1 ((rd_T64 l0_1 x57_3).f0) ((rd_T64 l0_1 x57_3).f1.f0) ((rd_T64 l0_1 x57_3).f1.f1) ((rd_T64 l0_1 x57_3).f1.f2) ((rd_T64 l0_1 x57_3).f2)))) else (ledger_May.j3 k3 l0_1 (l0_1.length : Int) x57_3 true l0_0 l0_1 ((rd_T64 l0_1 x57_3).f0) ((rd_T64 l0_1 x57_3).f1.f0) ((rd_T64 l0_1 x57_3).f1.f1) ((rd_T64 l0_1 x57_3).f1.f2) ((rd_T64 l0_1 x57_3).f2))) else (none)) else (none)) = some r := by first | (rw [hji54] at H; exact H) | (simp only [hji54] at H ⊢; exact H)
        (try rw [hji54] at A51)
        have hji54w : (IntKind.i64.wrap (x57_3 - 1)) = ji54 := (i64_w _).trans hji54
        replace H := My.ds H
        obtain ⟨c55b0, H⟩ := H
        replace H := My.ds H
        obtain ⟨c56b0, H⟩ := H
        by_cases c57 : (Op.bytesLess (((rd_T64 l0_1 (ji54)).f0).toList) (((rd_T64 l0_1 x57_3).f0).toList)) = true
        rotate_left
        ·rw [if_neg c57] at H
         have c57b0 : (Op.bytesLess (((rd_T64 l0_1 (ji54)).f0).toList) (((rd_T64 l0_1 x57_3).f0).toList)) = false := by simpa using c57
         clear c57
         have H' := My.am H
         clear H
         try go_wp2
         obtain ⟨w70, hz_⟩ : ∃ z_, z_ = (((((w48.setCell ⟨gb131, 0, none⟩ (.string ((rd_T64 l0_1 x57_3).f0))).setCell ⟨gb131, 1, none⟩ (.int .i64 ((rd_T64 l0_1 x57_3).f1.f0))).setCell ⟨gb131, 2, none⟩ (.string ((rd_T64 l0_1 x57_3).f1.f1))).setCell ⟨gb131, 3, none⟩ (.int .i64 ((rd_T64 l0_1 x57_3).f1.f2))).setCell ⟨gb131, 4, none⟩ (.int .i64 ((rd_T64 l0_1 x57_3).f2))) := ⟨_, rfl⟩
         replace BK125 : Aside0 (w70.heap[gb125]? = some (.cells #[.slice A0_0 l0_0.length c0_0, .slice (some ad130) l0_1.length c0_1] 25 (0, 0))) := ⟨by rw [hz_]; exact (My.sv_ BK125)⟩
         replace BK131 : Aside0 (w70.heap[gb131]? = some (.cells #[.string ((rd_T64 l0_1 x57_3).f0), .int .i64 ((rd_T64 l0_1 x57_3).f1.f0), .string ((rd_T64 l0_1 x57_3).f1.f1), .int .i64 ((rd_T64 l0_1 x57_3).f1.f2), .int .i64 ((rd_T64 l0_1 x57_3).f2)] 64 (0, 0))) := ⟨by rw [hz_]; exact (My.sv_ BK131)⟩
         replace HB : Aside0 (Below w.heap.size w w70) := ⟨by rw [hz_]; repeat (first | (with_reducible first | exact HB.out | apply below_alloc | apply pw_below_drewN | apply below_drew1 | refine below_set ?_ GE125.out | refine below_set ?_ GE131.out) | exact HB.out)⟩
         rw [← hz_]
         clear hz_
         replace BK125 := My.am (blk_drew BK125.out)
         replace BK131 := My.am (blk_drew BK131.out)
         replace HB := My.am (below_drew1 HB.out)
         have p133 : 0 ≤ ((ji54) : Int) := My.as_
         have q133 : (ji54) < (l0_1.length : Int) := My.as_
         obtain ⟨ad133, e133, hx133_0, hx133_1, hx133_2, hx133_3, hx133_4⟩ := at_T64 HR0_1.out (ji54) p133 q133
         have hw133_4 := hx133_4
         have hw133_3 := hx133_3
         have hw133_2 := hx133_2
         have hw133_1 := hx133_1
         have hw133_0 := hx133_0
         obtain rfl : ad130 = ad133 := (by injection e133)
         replace hx133_0 := My.up HB hx133_0
         replace hx133_1 := My.up HB hx133_1
         replace hx133_2 := My.up HB hx133_2
         replace hx133_3 := My.up HB hx133_3
         replace hx133_4 := My.up HB hx133_4
         replace p133 := eq_true p133
         replace q133 := eq_true q133
         refine start_ (n := 36) (S := fun w' => w'.cell? ⟨gb131, 0, none⟩ = some (.string ((rd_T64 l0_1 x57_3).f0)) ∧ w'.cell? ⟨gb131, 1, none⟩ = some (.int .i64 ((rd_T64 l0_1 x57_3).f1.f0)) ∧ w'.cell? ⟨gb131, 2, none⟩ = some (.string ((rd_T64 l0_1 x57_3).f1.f1)) ∧ w'.cell? ⟨gb131, 3, none⟩ = some (.int .i64 ((rd_T64 l0_1 x57_3).f1.f2)) ∧ w'.cell? ⟨gb131, 4, none⟩ = some (.int .i64 ((rd_T64 l0_1 x57_3).f2)) ∧ w'.cell? ⟨gb125, 0, none⟩ = some (.slice A0_0 l0_0.length c0_0) ∧ w'.cell? ⟨gb125, 1, none⟩ = some (.slice (some ad130) l0_1.length c0_1) ∧ w'.cell? (ad130.add (((ji54)).toNat * 5)) = some (.string ((rd_T64 l0_1 (ji54)).f0)) ∧ w'.cell? ⟨(ad130.add (((ji54)).toNat * 5)).block, (ad130.add (((ji54)).toNat * 5)).off + 1, none⟩ = some (.int .i64 ((rd_T64 l0_1 (ji54)).f1.f0)) ∧ w'.cell? ⟨(ad130.add (((ji54)).toNat * 5)).block, (ad130.add (((ji54)).toNat * 5)).off + 2, none⟩ = some (.string ((rd_T64 l0_1 (ji54)).f1.f1)) ∧ w'.cell? ⟨(ad130.add (((ji54)).toNat * 5)).block, (ad130.add (((ji54)).toNat * 5)).off + 3, none⟩ = some (.int .i64 ((rd_T64 l0_1 (ji54)).f1.f2)) ∧ w'.cell? ⟨(ad130.add (((ji54)).toNat * 5)).block, (ad130.add (((ji54)).toNat * 5)).off + 4, none⟩ = some (.int .i64 ((rd_T64 l0_1 (ji54)).f2))) (ds := []) #[false, false, false, false, false, false, false, false, false, false, false, false, false, false, false, false, false, false, false, false, false, false, false, false, false, false, false, false, false, false, false, false, false, false, false, false] (by kernel_rfl) rfl rfl ⟨My.b_ BK131 0, My.b_ BK131 1, My.b_ BK131 2, My.b_ BK131 3, My.b_ BK131 4, My.b_ BK125 0, My.b_ BK125 1, (My.up HB hw133_0), (My.up HB hw133_1), (My.up HB hw133_2), (My.up HB hw133_3), (My.up HB hw133_4)⟩ (fun hHeld => ?_); refine with_tabW ledger_May.tab13 ledger_May.bits13 (fun HT_ HW_ => ?_)
         generalize w70.drew = w71 at BK125 BK131 HB hx133_0 hx133_1 hx133_2 hx133_3 hx133_4 hHeld ⊢
         refine My.pu_ 0 62 36 HT_.out ?_
         refine My.ta_ 1 63 36 HT_.out HW_.out hHeld rfl rfl (by rintro w' ⟨s0, s1, s2, s3, s4, s5, s6, s7, s8, s9, s10, s11⟩; go_simp; with_reducible rfl) ?_
         refine one_ (i := 2) (N := some 64) (My.Mb 36 7) rfl rfl (one_of HT_.out (by kernel_rfl)) (by decide) (fun K hK => ?_)
         refine goes_ Try.func38 (by kernel_rfl) rfl #[.string ((rd_T64 l0_1 x57_3).f0)] (by rfl) rfl rfl My.gx ?_
         with_reducible refine (ledger_key.calls ((rd_T64 l0_1 x57_3).f0) true _ A51.out).mono ?_
         rintro e w' ⟨rfl, ⟨nd, rfl⟩⟩
         refine ⟨_, rfl, ?_⟩
         refine hK.out _ _ ⟨My.b_ BK131 0, My.b_ BK131 1, My.b_ BK131 2, My.b_ BK131 3, My.b_ BK131 4, My.b_ BK125 0, My.b_ BK125 1, (My.up HB hw133_0), (My.up HB hw133_1), (My.up HB hw133_2), (My.up HB hw133_3), (My.up HB hw133_4)⟩ (fun hHeld => ?_)
         clear hK K
         refine My.nm 64 ?_
         refine My.pu_ 3 65 36 HT_.out ?_
         refine My.pu_ 4 66 36 HT_.out ?_
         refine My.pu_ 5 67 36 HT_.out ?_
         refine My.pu_ 6 68 36 HT_.out ?_
         refine My.pu_ 7 69 36 HT_.out ?_
         refine My.pu_ 8 70 36 HT_.out ?_
         refine My.pv_ 10 72 36 1535 HT_.out ?_
         refine My.pv_ 11 73 36 3583 HT_.out ?_
         refine My.pv_ 15 77 36 36351 HT_.out ?_
         refine My.tv_ 9 71 36 36863 HT_.out HW_.out hHeld rfl rfl (by rintro w' ⟨s0, s1, s2, s3, s4, s5, s6, s7, s8, s9, s10, s11⟩; go_simp; with_reducible rfl) ?_
         refine My.pv_ 12 74 36 40959 HT_.out ?_
         refine My.pv_ 13 75 36 49151 HT_.out ?_
         refine My.tv_ 14 76 36 65535 HT_.out HW_.out hHeld rfl rfl (by rintro w' ⟨s0, s1, s2, s3, s4, s5, s6, s7, s8, s9, s10, s11⟩; go_simp; with_reducible rfl) ?_
         refine My.ta_ 16 78 36 HT_.out HW_.out hHeld rfl rfl (by rintro w' ⟨s0, s1, s2, s3, s4, s5, s6, s7, s8, s9, s10, s11⟩; go_simp; with_reducible rfl) ?_
         refine My.pu_ 17 79 36 HT_.out ?_
         refine My.pu_ 18 80 36 HT_.out ?_
         refine My.pu_ 19 81 36 HT_.out ?_
         refine My.pu_ 20 82 36 HT_.out ?_
         refine My.pn_ 21 83 36 HT_.out ?_
         refine My.pn_ 22 84 36 HT_.out ?_
         refine My.pn_ 23 85 36 HT_.out ?_
         refine My.pn_ 24 86 36 HT_.out ?_
         refine My.pu_ 25 87 36 HT_.out ?_
         refine My.pu_ 26 88 36 HT_.out ?_
         refine My.pn_ 27 89 36 HT_.out ?_
         refine My.pn_ 28 90 36 HT_.out ?_
         refine My.pn_ 29 91 36 HT_.out ?_
         refine My.pu_ 30 92 36 HT_.out ?_
         refine My.pu_ 31 93 36 HT_.out ?_
         refine My.pn_ 32 94 36 HT_.out ?_
         refine My.pn_ 33 95 36 HT_.out ?_
         refine My.pn_ 34 96 36 HT_.out ?_
         refine My.pu_ 35 97 36 HT_.out ?_
         refine done_ (done_of HT_.out (by kernel_rfl)) ?_
         try go_wp2
         go_meet
         case rel => exact ⟨_, (true), My.r1, H', ⟨by have := HJ1.out; have := HK2.out; have := HK3.out; first | omega | exact Nat.le_refl _⟩, ⟨(My.at_ BK125)⟩, ⟨(My.at_ BK131)⟩, ⟨(My.bl_ HB)⟩⟩
        rw [if_pos c57] at H
        have c57b0 : (Op.bytesLess (((rd_T64 l0_1 (ji54)).f0).toList) (((rd_T64 l0_1 x57_3).f0).toList)) = true := c57
        clear c57
        replace H := Option.bind_eq_some_iff.mp H
        obtain ⟨t134, A580, H⟩ := H
        try dsimp only at H
        have A58 := My.am A580
        clear A580
        by_cases c59 : t134 = 0
        rotate_left
        ·rw [if_neg c59] at H
         have c59b0 : (t134 == 0) = false := beq_eq_false_iff_ne.mpr c59
         have c59b1 : (t134 != 0) = true := bne_iff_ne.mpr c59
         have H' := My.am H
         clear H
         try go_wp2
         obtain ⟨w67, hz_⟩ : ∃ z_, z_ = (((((w48.setCell ⟨gb131, 0, none⟩ (.string ((rd_T64 l0_1 x57_3).f0))).setCell ⟨gb131, 1, none⟩ (.int .i64 ((rd_T64 l0_1 x57_3).f1.f0))).setCell ⟨gb131, 2, none⟩ (.string ((rd_T64 l0_1 x57_3).f1.f1))).setCell ⟨gb131, 3, none⟩ (.int .i64 ((rd_T64 l0_1 x57_3).f1.f2))).setCell ⟨gb131, 4, none⟩ (.int .i64 ((rd_T64 l0_1 x57_3).f2))) := ⟨_, rfl⟩
         replace BK125 : Aside0 (w67.heap[gb125]? = some (.cells #[.slice A0_0 l0_0.length c0_0, .slice (some ad130) l0_1.length c0_1] 25 (0, 0))) := ⟨by rw [hz_]; exact (My.sv_ BK125)⟩
         replace BK131 : Aside0 (w67.heap[gb131]? = some (.cells #[.string ((rd_T64 l0_1 x57_3).f0), .int .i64 ((rd_T64 l0_1 x57_3).f1.f0), .string ((rd_T64 l0_1 x57_3).f1.f1), .int .i64 ((rd_T64 l0_1 x57_3).f1.f2), .int .i64 ((rd_T64 l0_1 x57_3).f2)] 64 (0, 0))) := ⟨by rw [hz_]; exact (My.sv_ BK131)⟩
         replace HB : Aside0 (Below w.heap.size w w67) := ⟨by rw [hz_]; repeat (first | (with_reducible first | exact HB.out | apply below_alloc | apply pw_below_drewN | apply below_drew1 | refine below_set ?_ GE125.out | refine below_set ?_ GE131.out) | exact HB.out)⟩
         rw [← hz_]
         clear hz_
         replace BK125 := My.am (blk_drew BK125.out)
         replace BK131 := My.am (blk_drew BK131.out)
         replace HB := My.am (below_drew1 HB.out)
         have p133 : 0 ≤ ((ji54) : Int) := My.as_
         have q133 : (ji54) < (l0_1.length : Int) := My.as_
         obtain ⟨ad133, e133, hx133_0, hx133_1, hx133_2, hx133_3, hx133_4⟩ := at_T64 HR0_1.out (ji54) p133 q133
         have hw133_4 := hx133_4
         have hw133_3 := hx133_3
         have hw133_2 := hx133_2
         have hw133_1 := hx133_1
         have hw133_0 := hx133_0
         obtain rfl : ad130 = ad133 := (by injection e133)
         replace hx133_0 := My.up HB hx133_0
         replace hx133_1 := My.up HB hx133_1
         replace hx133_2 := My.up HB hx133_2
         replace hx133_3 := My.up HB hx133_3
         replace hx133_4 := My.up HB hx133_4
         replace p133 := eq_true p133
         replace q133 := eq_true q133
         refine start_ (n := 36) (S := fun w' => w'.cell? ⟨gb131, 0, none⟩ = some (.string ((rd_T64 l0_1 x57_3).f0)) ∧ w'.cell? ⟨gb131, 1, none⟩ = some (.int .i64 ((rd_T64 l0_1 x57_3).f1.f0)) ∧ w'.cell? ⟨gb131, 2, none⟩ = some (.string ((rd_T64 l0_1 x57_3).f1.f1)) ∧ w'.cell? ⟨gb131, 3, none⟩ = some (.int .i64 ((rd_T64 l0_1 x57_3).f1.f2)) ∧ w'.cell? ⟨gb131, 4, none⟩ = some (.int .i64 ((rd_T64 l0_1 x57_3).f2)) ∧ w'.cell? ⟨gb125, 0, none⟩ = some (.slice A0_0 l0_0.length c0_0) ∧ w'.cell? ⟨gb125, 1, none⟩ = some (.slice (some ad130) l0_1.length c0_1) ∧ w'.cell? (ad130.add (((ji54)).toNat * 5)) = some (.string ((rd_T64 l0_1 (ji54)).f0)) ∧ w'.cell? ⟨(ad130.add (((ji54)).toNat * 5)).block, (ad130.add (((ji54)).toNat * 5)).off + 1, none⟩ = some (.int .i64 ((rd_T64 l0_1 (ji54)).f1.f0)) ∧ w'.cell? ⟨(ad130.add (((ji54)).toNat * 5)).block, (ad130.add (((ji54)).toNat * 5)).off + 2, none⟩ = some (.string ((rd_T64 l0_1 (ji54)).f1.f1)) ∧ w'.cell? ⟨(ad130.add (((ji54)).toNat * 5)).block, (ad130.add (((ji54)).toNat * 5)).off + 3, none⟩ = some (.int .i64 ((rd_T64 l0_1 (ji54)).f1.f2)) ∧ w'.cell? ⟨(ad130.add (((ji54)).toNat * 5)).block, (ad130.add (((ji54)).toNat * 5)).off + 4, none⟩ = some (.int .i64 ((rd_T64 l0_1 (ji54)).f2))) (ds := []) #[false, false, false, false, false, false, false, false, false, false, false, false, false, false, false, false, false, false, false, false, false, false, false, false, false, false, false, false, false, false, false, false, false, false, false, false] (by kernel_rfl) rfl rfl ⟨My.b_ BK131 0, My.b_ BK131 1, My.b_ BK131 2, My.b_ BK131 3, My.b_ BK131 4, My.b_ BK125 0, My.b_ BK125 1, (My.up HB hw133_0), (My.up HB hw133_1), (My.up HB hw133_2), (My.up HB hw133_3), (My.up HB hw133_4)⟩ (fun hHeld => ?_); refine with_tabW ledger_May.tab13 ledger_May.bits13 (fun HT_ HW_ => ?_)
         generalize w67.drew = w68 at BK125 BK131 HB hx133_0 hx133_1 hx133_2 hx133_3 hx133_4 hHeld ⊢
         refine My.pu_ 0 62 36 HT_.out ?_
         refine My.ta_ 1 63 36 HT_.out HW_.out hHeld rfl rfl (by rintro w' ⟨s0, s1, s2, s3, s4, s5, s6, s7, s8, s9, s10, s11⟩; go_simp; with_reducible rfl) ?_
         refine one_ (i := 2) (N := some 64) (My.Mb 36 7) rfl rfl (one_of HT_.out (by kernel_rfl)) (by decide) (fun K hK => ?_)
         refine goes_ Try.func38 (by kernel_rfl) rfl #[.string ((rd_T64 l0_1 x57_3).f0)] (by rfl) rfl rfl My.gx ?_
         with_reducible refine (ledger_key.calls ((rd_T64 l0_1 x57_3).f0) true _ A51.out).mono ?_
         rintro e w' ⟨rfl, ⟨nd, rfl⟩⟩
         refine ⟨_, rfl, ?_⟩
         refine hK.out _ _ ⟨My.b_ BK131 0, My.b_ BK131 1, My.b_ BK131 2, My.b_ BK131 3, My.b_ BK131 4, My.b_ BK125 0, My.b_ BK125 1, (My.up HB hw133_0), (My.up HB hw133_1), (My.up HB hw133_2), (My.up HB hw133_3), (My.up HB hw133_4)⟩ (fun hHeld => ?_)
         clear hK K
         refine My.nm 64 ?_
         refine My.pu_ 3 65 36 HT_.out ?_
         refine My.pu_ 4 66 36 HT_.out ?_
         refine My.pu_ 5 67 36 HT_.out ?_
         refine My.pu_ 6 68 36 HT_.out ?_
         refine My.pu_ 7 69 36 HT_.out ?_
         refine My.pu_ 8 70 36 HT_.out ?_
         refine My.pv_ 10 72 36 1535 HT_.out ?_
         refine My.pv_ 11 73 36 3583 HT_.out ?_
         refine My.pv_ 15 77 36 36351 HT_.out ?_
         refine My.tv_ 9 71 36 36863 HT_.out HW_.out hHeld rfl rfl (by rintro w' ⟨s0, s1, s2, s3, s4, s5, s6, s7, s8, s9, s10, s11⟩; go_simp; with_reducible rfl) ?_
         refine My.pv_ 12 74 36 40959 HT_.out ?_
         refine My.pv_ 13 75 36 49151 HT_.out ?_
         refine My.tv_ 14 76 36 65535 HT_.out HW_.out hHeld rfl rfl (by rintro w' ⟨s0, s1, s2, s3, s4, s5, s6, s7, s8, s9, s10, s11⟩; go_simp; with_reducible rfl) ?_
         refine My.ta_ 16 78 36 HT_.out HW_.out hHeld rfl rfl (by rintro w' ⟨s0, s1, s2, s3, s4, s5, s6, s7, s8, s9, s10, s11⟩; go_simp; with_reducible rfl) ?_
         refine My.pu_ 17 79 36 HT_.out ?_
         refine My.pu_ 18 80 36 HT_.out ?_
         refine My.pu_ 19 81 36 HT_.out ?_
         refine My.pu_ 20 82 36 HT_.out ?_
         refine My.pu_ 21 83 36 HT_.out ?_
         refine My.ta_ 22 84 36 HT_.out HW_.out hHeld rfl rfl (by rintro w' ⟨s0, s1, s2, s3, s4, s5, s6, s7, s8, s9, s10, s11⟩; go_simp; with_reducible rfl) ?_
         refine one_ (i := 23) (N := some 85) (My.Mb 36 16777215) rfl rfl (one_of HT_.out (by kernel_rfl)) (by decide) (fun K hK => ?_)
         refine goes_ Try.func39 (by kernel_rfl) rfl #[.agg #[.int .i64 ((rd_T64 l0_1 x57_3).f1.f0), .string ((rd_T64 l0_1 x57_3).f1.f1), .int .i64 ((rd_T64 l0_1 x57_3).f1.f2)]] (by rfl) rfl rfl My.gx ?_
         with_reducible refine (act_Check.calls k3 ((rd_T64 l0_1 x57_3).f1.f0) ((rd_T64 l0_1 x57_3).f1.f1) ((rd_T64 l0_1 x57_3).f1.f2) t134 _ A58.out).mono ?_
         rintro e w69 ⟨rfl, hb⟩
         refine ⟨_, rfl, ?_⟩
         replace BK125 := My.ab BK125 hb
         replace BK131 := My.ab BK131 hb
         replace HB := My.st HB hb
         (try clear hb)
         (try clear hb2)
         (try clear hk)
         (try clear hi)
         refine hK.out _ _ ⟨My.b_ BK131 0, My.b_ BK131 1, My.b_ BK131 2, My.b_ BK131 3, My.b_ BK131 4, My.b_ BK125 0, My.b_ BK125 1, (My.up HB hw133_0), (My.up HB hw133_1), (My.up HB hw133_2), (My.up HB hw133_3), (My.up HB hw133_4)⟩ (fun hHeld => ?_)
         clear hK K
         refine My.nm 85 ?_
         refine My.pu_ 24 86 36 HT_.out ?_
         refine My.pu_ 25 87 36 HT_.out ?_
         refine My.pu_ 26 88 36 HT_.out ?_
         refine My.pn_ 27 89 36 HT_.out ?_
         refine My.pn_ 28 90 36 HT_.out ?_
         refine My.pn_ 29 91 36 HT_.out ?_
         refine My.pu_ 30 92 36 HT_.out ?_
         refine My.pu_ 31 93 36 HT_.out ?_
         refine My.pn_ 32 94 36 HT_.out ?_
         refine My.pn_ 33 95 36 HT_.out ?_
         refine My.pn_ 34 96 36 HT_.out ?_
         refine My.pu_ 35 97 36 HT_.out ?_
         refine done_ (done_of HT_.out (by kernel_rfl)) ?_
         try go_wp2
         go_meet
         case rel => exact ⟨_, (true), My.r1, H', ⟨by have := HJ1.out; have := HK2.out; have := HK3.out; first | omega | exact Nat.le_refl _⟩, ⟨(My.at_ BK125)⟩, ⟨(My.at_ BK131)⟩, ⟨(My.bl_ HB)⟩⟩
        rw [if_pos c59] at H
        have c59b0 : (t134 == 0) = true := beq_iff_eq.mpr c59
        have c59b1 : (t134 != 0) = false := bne_eq_false_iff_eq.mpr c59
        clear c59
        by_cases c60 : ((rd_T64 l0_1 x57_3).f2) < 1
        ·rw [if_pos c60] at H
         have c60b0 := decide_eq_true c60
         clear c60
         have H' := My.am H
         clear H
         try go_wp2
         obtain ⟨w61, hz_⟩ : ∃ z_, z_ = (((((w48.setCell ⟨gb131, 0, none⟩ (.string ((rd_T64 l0_1 x57_3).f0))).setCell ⟨gb131, 1, none⟩ (.int .i64 ((rd_T64 l0_1 x57_3).f1.f0))).setCell ⟨gb131, 2, none⟩ (.string ((rd_T64 l0_1 x57_3).f1.f1))).setCell ⟨gb131, 3, none⟩ (.int .i64 ((rd_T64 l0_1 x57_3).f1.f2))).setCell ⟨gb131, 4, none⟩ (.int .i64 ((rd_T64 l0_1 x57_3).f2))) := ⟨_, rfl⟩
         replace BK125 : Aside0 (w61.heap[gb125]? = some (.cells #[.slice A0_0 l0_0.length c0_0, .slice (some ad130) l0_1.length c0_1] 25 (0, 0))) := ⟨by rw [hz_]; exact (My.sv_ BK125)⟩
         replace BK131 : Aside0 (w61.heap[gb131]? = some (.cells #[.string ((rd_T64 l0_1 x57_3).f0), .int .i64 ((rd_T64 l0_1 x57_3).f1.f0), .string ((rd_T64 l0_1 x57_3).f1.f1), .int .i64 ((rd_T64 l0_1 x57_3).f1.f2), .int .i64 ((rd_T64 l0_1 x57_3).f2)] 64 (0, 0))) := ⟨by rw [hz_]; exact (My.sv_ BK131)⟩
         replace HB : Aside0 (Below w.heap.size w w61) := ⟨by rw [hz_]; repeat (first | (with_reducible first | exact HB.out | apply below_alloc | apply pw_below_drewN | apply below_drew1 | refine below_set ?_ GE125.out | refine below_set ?_ GE131.out) | exact HB.out)⟩
         rw [← hz_]
         clear hz_
         replace BK125 := My.am (blk_drew BK125.out)
         replace BK131 := My.am (blk_drew BK131.out)
         replace HB := My.am (below_drew1 HB.out)
         have p133 : 0 ≤ ((ji54) : Int) := My.as_
         have q133 : (ji54) < (l0_1.length : Int) := My.as_
         obtain ⟨ad133, e133, hx133_0, hx133_1, hx133_2, hx133_3, hx133_4⟩ := at_T64 HR0_1.out (ji54) p133 q133
         have hw133_4 := hx133_4
         have hw133_3 := hx133_3
         have hw133_2 := hx133_2
         have hw133_1 := hx133_1
         have hw133_0 := hx133_0
         obtain rfl : ad130 = ad133 := (by injection e133)
         replace hx133_0 := My.up HB hx133_0
         replace hx133_1 := My.up HB hx133_1
         replace hx133_2 := My.up HB hx133_2
         replace hx133_3 := My.up HB hx133_3
         replace hx133_4 := My.up HB hx133_4
         replace p133 := eq_true p133
         replace q133 := eq_true q133
         refine start_ (n := 36) (S := fun w' => w'.cell? ⟨gb131, 0, none⟩ = some (.string ((rd_T64 l0_1 x57_3).f0)) ∧ w'.cell? ⟨gb131, 1, none⟩ = some (.int .i64 ((rd_T64 l0_1 x57_3).f1.f0)) ∧ w'.cell? ⟨gb131, 2, none⟩ = some (.string ((rd_T64 l0_1 x57_3).f1.f1)) ∧ w'.cell? ⟨gb131, 3, none⟩ = some (.int .i64 ((rd_T64 l0_1 x57_3).f1.f2)) ∧ w'.cell? ⟨gb131, 4, none⟩ = some (.int .i64 ((rd_T64 l0_1 x57_3).f2)) ∧ w'.cell? ⟨gb125, 0, none⟩ = some (.slice A0_0 l0_0.length c0_0) ∧ w'.cell? ⟨gb125, 1, none⟩ = some (.slice (some ad130) l0_1.length c0_1) ∧ w'.cell? (ad130.add (((ji54)).toNat * 5)) = some (.string ((rd_T64 l0_1 (ji54)).f0)) ∧ w'.cell? ⟨(ad130.add (((ji54)).toNat * 5)).block, (ad130.add (((ji54)).toNat * 5)).off + 1, none⟩ = some (.int .i64 ((rd_T64 l0_1 (ji54)).f1.f0)) ∧ w'.cell? ⟨(ad130.add (((ji54)).toNat * 5)).block, (ad130.add (((ji54)).toNat * 5)).off + 2, none⟩ = some (.string ((rd_T64 l0_1 (ji54)).f1.f1)) ∧ w'.cell? ⟨(ad130.add (((ji54)).toNat * 5)).block, (ad130.add (((ji54)).toNat * 5)).off + 3, none⟩ = some (.int .i64 ((rd_T64 l0_1 (ji54)).f1.f2)) ∧ w'.cell? ⟨(ad130.add (((ji54)).toNat * 5)).block, (ad130.add (((ji54)).toNat * 5)).off + 4, none⟩ = some (.int .i64 ((rd_T64 l0_1 (ji54)).f2))) (ds := []) #[false, false, false, false, false, false, false, false, false, false, false, false, false, false, false, false, false, false, false, false, false, false, false, false, false, false, false, false, false, false, false, false, false, false, false, false] (by kernel_rfl) rfl rfl ⟨My.b_ BK131 0, My.b_ BK131 1, My.b_ BK131 2, My.b_ BK131 3, My.b_ BK131 4, My.b_ BK125 0, My.b_ BK125 1, (My.up HB hw133_0), (My.up HB hw133_1), (My.up HB hw133_2), (My.up HB hw133_3), (My.up HB hw133_4)⟩ (fun hHeld => ?_); refine with_tabW ledger_May.tab13 ledger_May.bits13 (fun HT_ HW_ => ?_)
         generalize w61.drew = w62 at BK125 BK131 HB hx133_0 hx133_1 hx133_2 hx133_3 hx133_4 hHeld ⊢
         refine My.pu_ 0 62 36 HT_.out ?_
         refine My.ta_ 1 63 36 HT_.out HW_.out hHeld rfl rfl (by rintro w' ⟨s0, s1, s2, s3, s4, s5, s6, s7, s8, s9, s10, s11⟩; go_simp; with_reducible rfl) ?_
         refine one_ (i := 2) (N := some 64) (My.Mb 36 7) rfl rfl (one_of HT_.out (by kernel_rfl)) (by decide) (fun K hK => ?_)
         refine goes_ Try.func38 (by kernel_rfl) rfl #[.string ((rd_T64 l0_1 x57_3).f0)] (by rfl) rfl rfl My.gx ?_
         with_reducible refine (ledger_key.calls ((rd_T64 l0_1 x57_3).f0) true _ A51.out).mono ?_
         rintro e w' ⟨rfl, ⟨nd, rfl⟩⟩
         refine ⟨_, rfl, ?_⟩
         refine hK.out _ _ ⟨My.b_ BK131 0, My.b_ BK131 1, My.b_ BK131 2, My.b_ BK131 3, My.b_ BK131 4, My.b_ BK125 0, My.b_ BK125 1, (My.up HB hw133_0), (My.up HB hw133_1), (My.up HB hw133_2), (My.up HB hw133_3), (My.up HB hw133_4)⟩ (fun hHeld => ?_)
         clear hK K
         refine My.nm 64 ?_
         refine My.pu_ 3 65 36 HT_.out ?_
         refine My.pu_ 4 66 36 HT_.out ?_
         refine My.pu_ 5 67 36 HT_.out ?_
         refine My.pu_ 6 68 36 HT_.out ?_
         refine My.pu_ 7 69 36 HT_.out ?_
         refine My.pu_ 8 70 36 HT_.out ?_
         refine My.pv_ 10 72 36 1535 HT_.out ?_
         refine My.pv_ 11 73 36 3583 HT_.out ?_
         refine My.pv_ 15 77 36 36351 HT_.out ?_
         refine My.tv_ 9 71 36 36863 HT_.out HW_.out hHeld rfl rfl (by rintro w' ⟨s0, s1, s2, s3, s4, s5, s6, s7, s8, s9, s10, s11⟩; go_simp; with_reducible rfl) ?_
         refine My.pv_ 12 74 36 40959 HT_.out ?_
         refine My.pv_ 13 75 36 49151 HT_.out ?_
         refine My.tv_ 14 76 36 65535 HT_.out HW_.out hHeld rfl rfl (by rintro w' ⟨s0, s1, s2, s3, s4, s5, s6, s7, s8, s9, s10, s11⟩; go_simp; with_reducible rfl) ?_
         refine My.ta_ 16 78 36 HT_.out HW_.out hHeld rfl rfl (by rintro w' ⟨s0, s1, s2, s3, s4, s5, s6, s7, s8, s9, s10, s11⟩; go_simp; with_reducible rfl) ?_
         refine My.pu_ 17 79 36 HT_.out ?_
         refine My.pu_ 18 80 36 HT_.out ?_
         refine My.pu_ 19 81 36 HT_.out ?_
         refine My.pu_ 20 82 36 HT_.out ?_
         refine My.pu_ 21 83 36 HT_.out ?_
         refine My.ta_ 22 84 36 HT_.out HW_.out hHeld rfl rfl (by rintro w' ⟨s0, s1, s2, s3, s4, s5, s6, s7, s8, s9, s10, s11⟩; go_simp; with_reducible rfl) ?_
         refine one_ (i := 23) (N := some 85) (My.Mb 36 16777215) rfl rfl (one_of HT_.out (by kernel_rfl)) (by decide) (fun K hK => ?_)
         refine goes_ Try.func39 (by kernel_rfl) rfl #[.agg #[.int .i64 ((rd_T64 l0_1 x57_3).f1.f0), .string ((rd_T64 l0_1 x57_3).f1.f1), .int .i64 ((rd_T64 l0_1 x57_3).f1.f2)]] (by rfl) rfl rfl My.gx ?_
         with_reducible refine (act_Check.calls k3 ((rd_T64 l0_1 x57_3).f1.f0) ((rd_T64 l0_1 x57_3).f1.f1) ((rd_T64 l0_1 x57_3).f1.f2) t134 _ A58.out).mono ?_
         rintro e w63 ⟨rfl, hb⟩
         refine ⟨_, rfl, ?_⟩
         replace BK125 := My.ab BK125 hb
         replace BK131 := My.ab BK131 hb
         replace HB := My.st HB hb
         (try clear hb)
         (try clear hb2)
         (try clear hk)
         (try clear hi)
         refine hK.out _ _ ⟨My.b_ BK131 0, My.b_ BK131 1, My.b_ BK131 2, My.b_ BK131 3, My.b_ BK131 4, My.b_ BK125 0, My.b_ BK125 1, (My.up HB hw133_0), (My.up HB hw133_1), (My.up HB hw133_2), (My.up HB hw133_3), (My.up HB hw133_4)⟩ (fun hHeld => ?_)
         clear hK K
         refine My.nm 85 ?_
         refine My.pu_ 24 86 36 HT_.out ?_
         refine My.pu_ 25 87 36 HT_.out ?_
         refine My.pu_ 26 88 36 HT_.out ?_
         refine My.pu_ 27 89 36 HT_.out ?_
         refine My.ta_ 28 90 36 HT_.out HW_.out hHeld rfl rfl (by rintro w' ⟨s0, s1, s2, s3, s4, s5, s6, s7, s8, s9, s10, s11⟩; go_simp; with_reducible rfl) ?_
         refine My.pu_ 29 91 36 HT_.out ?_
         refine My.pu_ 30 92 36 HT_.out ?_
         refine My.pu_ 31 93 36 HT_.out ?_
         refine My.pn_ 32 94 36 HT_.out ?_
         refine My.pn_ 33 95 36 HT_.out ?_
         refine My.pn_ 34 96 36 HT_.out ?_
         refine My.pu_ 35 97 36 HT_.out ?_
         refine done_ (done_of HT_.out (by kernel_rfl)) ?_
         try go_wp2
         go_meet
         case rel => exact ⟨_, (true), My.r1, H', ⟨by have := HJ1.out; have := HK2.out; have := HK3.out; first | omega | exact Nat.le_refl _⟩, ⟨(My.at_ BK125)⟩, ⟨(My.at_ BK131)⟩, ⟨(My.bl_ HB)⟩⟩
        rw [if_neg c60] at H
        have c60b0 := decide_eq_false c60
        clear c60
        have H' := My.am H
        clear H
        try go_wp2
        obtain ⟨w64, hz_⟩ : ∃ z_, z_ = (((((w48.setCell ⟨gb131, 0, none⟩ (.string ((rd_T64 l0_1 x57_3).f0))).setCell ⟨gb131, 1, none⟩ (.int .i64 ((rd_T64 l0_1 x57_3).f1.f0))).setCell ⟨gb131, 2, none⟩ (.string ((rd_T64 l0_1 x57_3).f1.f1))).setCell ⟨gb131, 3, none⟩ (.int .i64 ((rd_T64 l0_1 x57_3).f1.f2))).setCell ⟨gb131, 4, none⟩ (.int .i64 ((rd_T64 l0_1 x57_3).f2))) := ⟨_, rfl⟩
        replace BK125 : Aside0 (w64.heap[gb125]? = some (.cells #[.slice A0_0 l0_0.length c0_0, .slice (some ad130) l0_1.length c0_1] 25 (0, 0))) := ⟨by rw [hz_]; exact (My.sv_ BK125)⟩
        replace BK131 : Aside0 (w64.heap[gb131]? = some (.cells #[.string ((rd_T64 l0_1 x57_3).f0), .int .i64 ((rd_T64 l0_1 x57_3).f1.f0), .string ((rd_T64 l0_1 x57_3).f1.f1), .int .i64 ((rd_T64 l0_1 x57_3).f1.f2), .int .i64 ((rd_T64 l0_1 x57_3).f2)] 64 (0, 0))) := ⟨by rw [hz_]; exact (My.sv_ BK131)⟩
        replace HB : Aside0 (Below w.heap.size w w64) := ⟨by rw [hz_]; repeat (first | (with_reducible first | exact HB.out | apply below_alloc | apply pw_below_drewN | apply below_drew1 | refine below_set ?_ GE125.out | refine below_set ?_ GE131.out) | exact HB.out)⟩
        rw [← hz_]
        clear hz_
        replace BK125 := My.am (blk_drew BK125.out)
        replace BK131 := My.am (blk_drew BK131.out)
        replace HB := My.am (below_drew1 HB.out)
        have p133 : 0 ≤ ((ji54) : Int) := My.as_
        have q133 : (ji54) < (l0_1.length : Int) := My.as_
        obtain ⟨ad133, e133, hx133_0, hx133_1, hx133_2, hx133_3, hx133_4⟩ := at_T64 HR0_1.out (ji54) p133 q133
        have hw133_4 := hx133_4
        have hw133_3 := hx133_3
        have hw133_2 := hx133_2
        have hw133_1 := hx133_1
        have hw133_0 := hx133_0
        obtain rfl : ad130 = ad133 := (by injection e133)
        replace hx133_0 := My.up HB hx133_0
        replace hx133_1 := My.up HB hx133_1
        replace hx133_2 := My.up HB hx133_2
        replace hx133_3 := My.up HB hx133_3
        replace hx133_4 := My.up HB hx133_4
        replace p133 := eq_true p133
        replace q133 := eq_true q133
        refine start_ (n := 36) (S := fun w' => w'.cell? ⟨gb131, 0, none⟩ = some (.string ((rd_T64 l0_1 x57_3).f0)) ∧ w'.cell? ⟨gb131, 1, none⟩ = some (.int .i64 ((rd_T64 l0_1 x57_3).f1.f0)) ∧ w'.cell? ⟨gb131, 2, none⟩ = some (.string ((rd_T64 l0_1 x57_3).f1.f1)) ∧ w'.cell? ⟨gb131, 3, none⟩ = some (.int .i64 ((rd_T64 l0_1 x57_3).f1.f2)) ∧ w'.cell? ⟨gb131, 4, none⟩ = some (.int .i64 ((rd_T64 l0_1 x57_3).f2)) ∧ w'.cell? ⟨gb125, 0, none⟩ = some (.slice A0_0 l0_0.length c0_0) ∧ w'.cell? ⟨gb125, 1, none⟩ = some (.slice (some ad130) l0_1.length c0_1) ∧ w'.cell? (ad130.add (((ji54)).toNat * 5)) = some (.string ((rd_T64 l0_1 (ji54)).f0)) ∧ w'.cell? ⟨(ad130.add (((ji54)).toNat * 5)).block, (ad130.add (((ji54)).toNat * 5)).off + 1, none⟩ = some (.int .i64 ((rd_T64 l0_1 (ji54)).f1.f0)) ∧ w'.cell? ⟨(ad130.add (((ji54)).toNat * 5)).block, (ad130.add (((ji54)).toNat * 5)).off + 2, none⟩ = some (.string ((rd_T64 l0_1 (ji54)).f1.f1)) ∧ w'.cell? ⟨(ad130.add (((ji54)).toNat * 5)).block, (ad130.add (((ji54)).toNat * 5)).off + 3, none⟩ = some (.int .i64 ((rd_T64 l0_1 (ji54)).f1.f2)) ∧ w'.cell? ⟨(ad130.add (((ji54)).toNat * 5)).block, (ad130.add (((ji54)).toNat * 5)).off + 4, none⟩ = some (.int .i64 ((rd_T64 l0_1 (ji54)).f2))) (ds := []) #[false, false, false, false, false, false, false, false, false, false, false, false, false, false, false, false, false, false, false, false, false, false, false, false, false, false, false, false, false, false, false, false, false, false, false, false] (by kernel_rfl) rfl rfl ⟨My.b_ BK131 0, My.b_ BK131 1, My.b_ BK131 2, My.b_ BK131 3, My.b_ BK131 4, My.b_ BK125 0, My.b_ BK125 1, (My.up HB hw133_0), (My.up HB hw133_1), (My.up HB hw133_2), (My.up HB hw133_3), (My.up HB hw133_4)⟩ (fun hHeld => ?_); refine with_tabW ledger_May.tab13 ledger_May.bits13 (fun HT_ HW_ => ?_)
        generalize w64.drew = w65 at BK125 BK131 HB hx133_0 hx133_1 hx133_2 hx133_3 hx133_4 hHeld ⊢
        refine My.pu_ 0 62 36 HT_.out ?_
        refine My.ta_ 1 63 36 HT_.out HW_.out hHeld rfl rfl (by rintro w' ⟨s0, s1, s2, s3, s4, s5, s6, s7, s8, s9, s10, s11⟩; go_simp; with_reducible rfl) ?_
        refine one_ (i := 2) (N := some 64) (My.Mb 36 7) rfl rfl (one_of HT_.out (by kernel_rfl)) (by decide) (fun K hK => ?_)
        refine goes_ Try.func38 (by kernel_rfl) rfl #[.string ((rd_T64 l0_1 x57_3).f0)] (by rfl) rfl rfl My.gx ?_
        with_reducible refine (ledger_key.calls ((rd_T64 l0_1 x57_3).f0) true _ A51.out).mono ?_
        rintro e w' ⟨rfl, ⟨nd, rfl⟩⟩
        refine ⟨_, rfl, ?_⟩
        refine hK.out _ _ ⟨My.b_ BK131 0, My.b_ BK131 1, My.b_ BK131 2, My.b_ BK131 3, My.b_ BK131 4, My.b_ BK125 0, My.b_ BK125 1, (My.up HB hw133_0), (My.up HB hw133_1), (My.up HB hw133_2), (My.up HB hw133_3), (My.up HB hw133_4)⟩ (fun hHeld => ?_)
        clear hK K
        refine My.nm 64 ?_
        refine My.pu_ 3 65 36 HT_.out ?_
        refine My.pu_ 4 66 36 HT_.out ?_
        refine My.pu_ 5 67 36 HT_.out ?_
        refine My.pu_ 6 68 36 HT_.out ?_
        refine My.pu_ 7 69 36 HT_.out ?_
        refine My.pu_ 8 70 36 HT_.out ?_
        refine My.pv_ 10 72 36 1535 HT_.out ?_
        refine My.pv_ 11 73 36 3583 HT_.out ?_
        refine My.pv_ 15 77 36 36351 HT_.out ?_
        refine My.tv_ 9 71 36 36863 HT_.out HW_.out hHeld rfl rfl (by rintro w' ⟨s0, s1, s2, s3, s4, s5, s6, s7, s8, s9, s10, s11⟩; go_simp; with_reducible rfl) ?_
        refine My.pv_ 12 74 36 40959 HT_.out ?_
        refine My.pv_ 13 75 36 49151 HT_.out ?_
        refine My.tv_ 14 76 36 65535 HT_.out HW_.out hHeld rfl rfl (by rintro w' ⟨s0, s1, s2, s3, s4, s5, s6, s7, s8, s9, s10, s11⟩; go_simp; with_reducible rfl) ?_
        refine My.ta_ 16 78 36 HT_.out HW_.out hHeld rfl rfl (by rintro w' ⟨s0, s1, s2, s3, s4, s5, s6, s7, s8, s9, s10, s11⟩; go_simp; with_reducible rfl) ?_
        refine My.pu_ 17 79 36 HT_.out ?_
        refine My.pu_ 18 80 36 HT_.out ?_
        refine My.pu_ 19 81 36 HT_.out ?_
        refine My.pu_ 20 82 36 HT_.out ?_
        refine My.pu_ 21 83 36 HT_.out ?_
        refine My.ta_ 22 84 36 HT_.out HW_.out hHeld rfl rfl (by rintro w' ⟨s0, s1, s2, s3, s4, s5, s6, s7, s8, s9, s10, s11⟩; go_simp; with_reducible rfl) ?_
        refine one_ (i := 23) (N := some 85) (My.Mb 36 16777215) rfl rfl (one_of HT_.out (by kernel_rfl)) (by decide) (fun K hK => ?_)
        refine goes_ Try.func39 (by kernel_rfl) rfl #[.agg #[.int .i64 ((rd_T64 l0_1 x57_3).f1.f0), .string ((rd_T64 l0_1 x57_3).f1.f1), .int .i64 ((rd_T64 l0_1 x57_3).f1.f2)]] (by rfl) rfl rfl My.gx ?_
        with_reducible refine (act_Check.calls k3 ((rd_T64 l0_1 x57_3).f1.f0) ((rd_T64 l0_1 x57_3).f1.f1) ((rd_T64 l0_1 x57_3).f1.f2) t134 _ A58.out).mono ?_
        rintro e w66 ⟨rfl, hb⟩
        refine ⟨_, rfl, ?_⟩
        replace BK125 := My.ab BK125 hb
        replace BK131 := My.ab BK131 hb
        replace HB := My.st HB hb
        (try clear hb)
        (try clear hb2)
        (try clear hk)
        (try clear hi)
        refine hK.out _ _ ⟨My.b_ BK131 0, My.b_ BK131 1, My.b_ BK131 2, My.b_ BK131 3, My.b_ BK131 4, My.b_ BK125 0, My.b_ BK125 1, (My.up HB hw133_0), (My.up HB hw133_1), (My.up HB hw133_2), (My.up HB hw133_3), (My.up HB hw133_4)⟩ (fun hHeld => ?_)
        clear hK K
        refine My.nm 85 ?_
        refine My.pu_ 24 86 36 HT_.out ?_
        refine My.pu_ 25 87 36 HT_.out ?_
        refine My.pu_ 26 88 36 HT_.out ?_
        refine My.pu_ 27 89 36 HT_.out ?_
        refine My.ta_ 28 90 36 HT_.out HW_.out hHeld rfl rfl (by rintro w' ⟨s0, s1, s2, s3, s4, s5, s6, s7, s8, s9, s10, s11⟩; go_simp; with_reducible rfl) ?_
        refine My.pu_ 29 91 36 HT_.out ?_
        refine My.pu_ 30 92 36 HT_.out ?_
        refine My.pu_ 31 93 36 HT_.out ?_
        refine My.pu_ 32 94 36 HT_.out ?_
        refine My.ta_ 33 95 36 HT_.out HW_.out hHeld rfl rfl (by rintro w' ⟨s0, s1, s2, s3, s4, s5, s6, s7, s8, s9, s10, s11⟩; go_simp; with_reducible rfl) ?_
        refine My.pu_ 34 96 36 HT_.out ?_
        refine My.pu_ 35 97 36 HT_.out ?_
        refine done_ (done_of HT_.out (by kernel_rfl)) ?_
        try go_wp2
        go_meet
        case rel => exact ⟨_, (decide (((rd_T64 l0_1 x57_3).f2) > 3)), My.r1, H', ⟨by have := HJ1.out; have := HK2.out; have := HK3.out; first | omega | exact Nat.le_refl _⟩, ⟨(My.at_ BK125)⟩, ⟨(My.at_ BK131)⟩, ⟨(My.bl_ HB)⟩⟩
       case rest =>
        clear HC47
        try clear c7
        obtain ⟨kq, x97_46, rfl, HA, HJ46, BK125, BK131, HB⟩ := hcut
        cases kq with
        | zero => exact absurd HA.out (by simp [ledger_May.j3])
        | succ kj46 =>
         have H := HA.out
         clear HA
         simp only [ledger_May.j3] at H
         by_cases c86 : x97_46 = true
         ·subst c86
          rw [if_pos rfl] at H
          obtain rfl := Option.some.inj H
          go_wp2
          go_ret
          exact ⟨My.r2, (My.bl_ HB)⟩
         replace c86 := Bool.eq_false_iff.mpr c86
         subst c86
         rw [if_neg (show ¬ (false = true) by decide)] at H
         replace H := Option.bind_eq_some_iff.mp H
         obtain ⟨⟨t136, t137⟩, A870, H⟩ := H
         try dsimp only at H
         have A87 := My.am A870
         clear A870
         by_cases c88 : t137 = true
         ·subst c88
          rw [if_pos rfl] at H
          have H' := My.am H
          clear H
          have hnb89 := NB125_131.out
          have hnc89 := NB131_125.out
          have hq90 := My.cz2 BK125
          have hq91 := My.cz5 BK131
          go_wp2_with (first | (go_at_call 32; (with_reducible refine (ledger_book_account.calls kj46 _ _ l0_0 _ _ l0_1 ((rd_T64 l0_1 x57_3).f1.f1) t136 true _ ?side1 ?side2 ?side3 ?side4 A87.out).mono ?_); (case side1 => exact My.sd_ HR0_0 HB); (case side2 => exact HC0_0.out); (case side3 => exact My.sd_ HR0_1 HB); (case side4 => exact HC0_1.out); rintro e w92 ⟨rfl, hb⟩; replace BK125 := My.ab BK125 hb; replace BK131 := My.ab BK131 hb; replace HB := My.st HB hb; (try clear hb)))
          go_roundg kj46
          case measure => have := HJ1.out; have := HK2.out; have := HK3.out; have := HJ46.out; omega
          case rel => exact ⟨(wrap64 (x57_3 + 1)), My.r1, H', ⟨by have := HJ1.out; have := HK2.out; have := HK3.out; have := HJ46.out; omega⟩, ⟨(My.at_ BK125)⟩, ⟨(My.bl_ HB)⟩⟩
         replace c88 := Bool.eq_false_iff.mpr c88
         subst c88
         rw [if_neg (show ¬ (false = true) by decide)] at H
         obtain rfl := Option.some.inj H
         have hnb93 := NB125_131.out
         have hnc93 := NB131_125.out
         have hq94 := My.cz2 BK125
         have hq95 := My.cz5 BK131
         go_wp2_with (first | (go_at_call 32; (with_reducible refine (ledger_book_account.calls kj46 _ _ l0_0 _ _ l0_1 ((rd_T64 l0_1 x57_3).f1.f1) t136 false _ ?side1 ?side2 ?side3 ?side4 A87.out).mono ?_); (case side1 => exact My.sd_ HR0_0 HB); (case side2 => exact HC0_0.out); (case side3 => exact My.sd_ HR0_1 HB); (case side4 => exact HC0_1.out); rintro e w96 ⟨rfl, hb⟩; replace HB := My.st HB hb; (try clear hb)))
         go_ret
         exact ⟨My.r2, (My.bl_ HB)⟩
end Go.Proofs.Ytikanbdhpafbiaa.PO
