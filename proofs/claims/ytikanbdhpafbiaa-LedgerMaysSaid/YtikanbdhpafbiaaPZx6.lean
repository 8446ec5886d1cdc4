-- Written by a program of this session (wip/tools/mp.py over the kit's printer); Lean checks it.
import Derived.Test.YtikanbdhpafbiaaPZx0
import Derived.Test.YtikanbdhpafbiaaPZx5
namespace Go.Proofs.Ytikanbdhpafbiaa.PZ
open Go.RowKit Go.Proofs.YtikanbdhpafbiaaW.PrintWords Go.Proofs.YtikanbdhpafbiaaW.PrintLast Go.Proofs.YtikanbdhpafbiaaW.PrintMore
attribute [local go_sem] max2_int min2_int max_two min_two max_three min_three max_four min_four   -- for this text's walks alone
set_option linter.unusedVariables false
set_option maxHeartbeats 8000000
set_option maxRecDepth 100000
set_option linter.unusedSimpArgs false

/-! ### ledger_pending: function 52 -/
section
open Go.Proofs.Ytikanbdhpafbiaa.My
def ledger_pending.fn (k : Nat) : List S64 → (ByteArray → Q4) → Option (ByteArray → Q4)
 | [], f => some f
 | m :: r, f => if m.f2 = 1 then ((act_Delta.f k m.f1.f0 m.f1.f1 m.f1.f2).bind fun t => ledger_pending.fn k r (fun z => if z = m.f1.f1 then (wrap64 ((f m.f1.f1).1 + mx t.1 0), wrap64 ((f m.f1.f1).2.1 + mx (wrap64 (-t.1)) 0), wrap64 ((f m.f1.f1).2.2.1 + mx t.2 0), wrap64 ((f m.f1.f1).2.2.2 + mx (wrap64 (-t.2)) 0)) else f z)) else ledger_pending.fn k r f
theorem ledger_pending.mono : ∀ (l : List S64) (f : ByteArray → Q4) (k : Nat), LeO (ledger_pending.fn k l f) (ledger_pending.fn (k + 1) l f)
 | [], _, _ => LeO.refl _
 | m :: r, f, k => by
  simp only [ledger_pending.fn]
  exact LeO.ite (LeO.bind (act_Delta.mono _ _ _ _) (fun _ => ledger_pending.mono r _ k)) (ledger_pending.mono r f k)
attribute [local go_sem] run_makeMap
theorem ledger_pending.calls (k : Nat) (A0 A1 : Option Addr) (n0 c0 c1 : Nat) (l1 : List S64) (r : ByteArray → Q4) (w : World) (hr1 : Kd.C k64 w A1 l1.length l1) (hsz : ∀ m ∈ l1, m.f1.f1.size ≤ maxLen) (hl : l1.length ≤ 1000000) (h : ledger_pending.fn k l1 (fun _ => (0, 0, 0, 0)) = some r) :
  Calls Try.prog 52 #[.agg #[.slice A0 n0 c0, .slice A1 l1.length c1]] w fun e w' => ∃ b, e = .returned (.map (some b)) ∧ MapFn Try.prog w' 9 b l1.length r ∧ w.heap.size ≤ b ∧ Below w.heap.size w w' := by
 have hu25 := Try.underlying25
 have hu64 := Try.underlying64
 have hu86 := Try.underlying86
 have hu27 := Try.underlying27
 have HR := My.am hr1
 have H0 := My.am h
 have HSZ := My.am hsz
 clear hr1 h hsz
 go_enter Try.func52, Try.ntmps52
 go_wp2
 have HM0 := My.am (MapFn.made (w.alloc (.cells #[.slice A0 n0 c0, .slice A1 l1.length c1] 25)) Try.prog 9)
 have HB0 := My.am (below_alloc (below_alloc (Below.refl w.heap.size w) (.cells #[.slice A0 n0 c0, .slice A1 l1.length c1] 25)) (.map #[] 0))
 simp only [World.size_alloc] at HM0
 generalize ((w.alloc (.cells #[.slice A0 n0 c0, .slice A1 l1.length c1] 25)).alloc (.map #[] 0)) = w2 at HM0 HB0 ⊢
 go_loopg [13] (l1.length + 1) (fun kq v13 wr => ∃ (j : Nat) (f : ByteArray → Q4), kq + j = l1.length + 1 ∧ v13 = .int .i64 (j : Int) ∧ j ≤ l1.length ∧ Aside0 (ledger_pending.fn k (l1.drop j) f = some r) ∧ Aside0 (MapFn Try.prog wr 9 (w.heap.size + 1) j f) ∧ Aside0 (Below w.heap.size w wr))
 case atStart => exact ⟨0, _, rfl, rfl, Nat.zero_le _, ⟨by rw [List.drop_zero]; exact H0.out⟩, HM0, HB0⟩
 case round =>
  obtain ⟨j, f, hkj, rfl, hj, HF, HM, HB⟩ := hrel
  clear HM0 HB0 H0
  by_cases c : j < l1.length
  rotate_left
  ·obtain rfl : j = l1.length := by omega
   have d1 : decide ((l1.length : Int) < (l1.length : Int)) = false := by simp
   have hf := HF.out
   rw [List.drop_length] at hf
   simp only [ledger_pending.fn, Option.some.injEq] at hf
   subst hf
   clear HF
   go_wp2
   exact bodyPost_ret (v := .map (some (w.heap.size + 1))) (by simp [results, Try.results52, go_sem]) rfl ⟨_, rfl, HM.out, by omega, HB.out⟩
  have z0 : (0 : Int) ≤ (j : Int) := by omega
  have z2 : (j : Int) < (l1.length : Int) := by omega
  have d1 : decide ((j : Int) < (l1.length : Int)) = true := decide_eq_true z2
  have hC := Kd.C_below HR.out HB.out
  obtain ⟨ad, rfl, x0, x1, x2, x3, x4⟩ := at_T64 hC (j : Int) z0 z2
  rw [Int.toNat_natCast] at x0 x1 x2 x3 x4
  clear hC
  have hd : l1.drop j = rd_T64 l1 (j : Int) :: l1.drop (j + 1) := by
   rw [List.drop_eq_getElem_cons c]
   congr 1
   unfold rd_T64
   rw [Int.toNat_natCast, List.getD_eq_getElem?_getD, List.getElem?_eq_getElem c]
   rfl
  have hf := HF.out
  rw [hd] at hf
  simp only [ledger_pending.fn] at hf
  have hmem : rd_T64 l1 (j : Int) ∈ l1 := by
   have h_ : rd_T64 l1 (j : Int) ∈ l1.drop j := by
    rw [hd]
    exact List.mem_cons_self
   exact List.mem_of_mem_drop h_
  have hms : (rd_T64 l1 (j : Int)).f1.f1.size ≤ maxLen := HSZ.out _ hmem
  clear hmem
  by_cases c2 : (rd_T64 l1 (j : Int)).f2 = 1
  rotate_left
  ·rw [if_neg c2] at hf
   have c2b : ((rd_T64 l1 (j : Int)).f2 != 1) = true := bne_iff_ne.2 c2
   have HF2 := My.am hf
   clear c2 hf hd
   go_wp2
   go_roundg (l1.length - j)
   case measure => omega
   case rel => exact ⟨j + 1, _, by omega, by go_num, by omega, HF2, ⟨(HM.out.alloc _).mono (Nat.le_succ _)⟩, ⟨below_alloc HB.out _⟩⟩
  rw [if_pos c2] at hf
  have c2b : ((rd_T64 l1 (j : Int)).f2 != 1) = false := bne_eq_false_iff_eq.2 c2
  obtain ⟨⟨t1, t2⟩, hdel, hf2⟩ := Option.bind_eq_some_iff.1 hf
  have HD := My.am hdel
  have HF2 := My.am hf2
  clear hf hdel hf2
  obtain ⟨⟨p0, p1, p2, p3⟩, hq⟩ : ∃ q : Q4, f (rd_T64 l1 (j : Int)).f1.f1 = q := ⟨_, rfl⟩
  have hlk := MapFn.lookup (t := 84) (HM.out.alloc (.cells #[.string (rd_T64 l1 (j : Int)).f0, .int .i64 (rd_T64 l1 (j : Int)).f1.f0, .string (rd_T64 l1 (j : Int)).f1.f1, .int .i64 (rd_T64 l1 (j : Int)).f1.f2, .int .i64 (rd_T64 l1 (j : Int)).f2] 64)) Try.underlying9 Try.underlying84 (by kernel_rfl) hms
  rw [hq] at hlk
  simp only [v4] at hlk
  rw [hq] at HF2
  dsimp only at HF2
  have HQ := My.am hq
  clear c2 hq
  go_upto_region 8 with ((go_at_call 29; refine (act_Delta.calls k _ _ _ t1 t2 _ HD.out).mono ?_; rintro e w3 ⟨rfl, hb⟩; have y0 := blk_below (blk_alloc (blk_new wr _) _) hb; have y1 := blk_below (blk_new (wr.alloc _) _) hb; simp only [World.size_alloc] at y1; have HM3 := My.am (((HM.out.alloc _).alloc _).kept (row := none) ⟨hb.os, hb.tape, hb.output, hb.size, fun i hi _ => hb.block i hi⟩ (by simp)); have Y0 := My.am y0; have hlt := HM.out.lt; have Y1 := My.am y1; clear y0 y1; have HB3 := My.am (below_step (below_alloc (below_alloc HB.out _) _) hb); clear hb hlk))
  have a0 := (blk_cell Y1.out 0).trans rfl
  have fz0 := blk_frozen Y1.out 0
  go_upto_region 9 with (fail)
  generalize hx0 : (if t1 < 0 then 0 else t1) = x0
  generalize hq0 : wrap64 (p0 + x0) = q0
  have HM4 := My.am (HM3.out.setCell (a := ⟨wr.heap.size + 1, 0, none⟩) (by simp; omega) (.int .i64 q0))
  have Y04 : Aside0 _ := ⟨(Below.heap_setCell w3 ⟨wr.heap.size + 1, 0, none⟩ (.int .i64 q0) _ (by simp)).trans Y0.out⟩
  have Y14 := My.am (blk_put (cs' := #[.int .i64 q0, .int .i64 p1, .int .i64 p2, .int .i64 p3]) Y1.out 0 (.int .i64 q0) rfl)
  have HB4 := My.am (HB3.out.setCell (p := ⟨wr.heap.size + 1, 0, none⟩) (by simp; omega) (.int .i64 q0))
  generalize w3.setCell ⟨wr.heap.size + 1, 0, none⟩ (.int .i64 q0) = w4 at HM4 Y04 Y14 HB4 ⊢
  rw [← hx0] at hq0
  have Q0 := My.am hq0
  clear a0 fz0 Y0 Y1 HM3 HB3 hq0 hx0
  have a1 := (blk_cell Y14.out 1).trans rfl
  have fz1 := blk_frozen Y14.out 1
  go_upto_region 10 with (fail)
  generalize hx1 : (if wrap64 (-t1) < 0 then 0 else wrap64 (-t1)) = x1
  generalize hq1 : wrap64 (p1 + x1) = q1
  have HM5 := My.am (HM4.out.setCell (a := ⟨wr.heap.size + 1, 1, none⟩) (by simp; omega) (.int .i64 q1))
  have Y05 : Aside0 _ := ⟨(Below.heap_setCell w4 ⟨wr.heap.size + 1, 1, none⟩ (.int .i64 q1) _ (by simp)).trans Y04.out⟩
  have Y15 := My.am (blk_put (cs' := #[.int .i64 q0, .int .i64 q1, .int .i64 p2, .int .i64 p3]) Y14.out 1 (.int .i64 q1) rfl)
  have HB5 := My.am (HB4.out.setCell (p := ⟨wr.heap.size + 1, 1, none⟩) (by simp; omega) (.int .i64 q1))
  generalize w4.setCell ⟨wr.heap.size + 1, 1, none⟩ (.int .i64 q1) = w5 at HM5 Y05 Y15 HB5 ⊢
  rw [← hx1] at hq1
  have Q1 := My.am hq1
  clear a1 fz1 Y04 Y14 HM4 HB4 hq1 hx1
  have a2 := (blk_cell Y15.out 2).trans rfl
  have fz2 := blk_frozen Y15.out 2
  go_upto_region 11 with (fail)
  generalize hx2 : (if t2 < 0 then 0 else t2) = x2
  generalize hq2 : wrap64 (p2 + x2) = q2
  have HM6 := My.am (HM5.out.setCell (a := ⟨wr.heap.size + 1, 2, none⟩) (by simp; omega) (.int .i64 q2))
  have Y06 : Aside0 _ := ⟨(Below.heap_setCell w5 ⟨wr.heap.size + 1, 2, none⟩ (.int .i64 q2) _ (by simp)).trans Y05.out⟩
  have Y16 := My.am (blk_put (cs' := #[.int .i64 q0, .int .i64 q1, .int .i64 q2, .int .i64 p3]) Y15.out 2 (.int .i64 q2) rfl)
  have HB6 := My.am (HB5.out.setCell (p := ⟨wr.heap.size + 1, 2, none⟩) (by simp; omega) (.int .i64 q2))
  generalize w5.setCell ⟨wr.heap.size + 1, 2, none⟩ (.int .i64 q2) = w6 at HM6 Y06 Y16 HB6 ⊢
  rw [← hx2] at hq2
  have Q2 := My.am hq2
  clear a2 fz2 Y05 Y15 HM5 HB5 hq2 hx2
  have a3 := (blk_cell Y16.out 3).trans rfl
  have fz3 := blk_frozen Y16.out 3
  go_upto_region 12 with (fail)
  generalize hx3 : (if wrap64 (-t2) < 0 then 0 else wrap64 (-t2)) = x3
  generalize hq3 : wrap64 (p3 + x3) = q3
  have HM7 := My.am (HM6.out.setCell (a := ⟨wr.heap.size + 1, 3, none⟩) (by simp; omega) (.int .i64 q3))
  have Y07 : Aside0 _ := ⟨(Below.heap_setCell w6 ⟨wr.heap.size + 1, 3, none⟩ (.int .i64 q3) _ (by simp)).trans Y06.out⟩
  have Y17 := My.am (blk_put (cs' := #[.int .i64 q0, .int .i64 q1, .int .i64 q2, .int .i64 q3]) Y16.out 3 (.int .i64 q3) rfl)
  have HB7 := My.am (HB6.out.setCell (p := ⟨wr.heap.size + 1, 3, none⟩) (by simp; omega) (.int .i64 q3))
  generalize w6.setCell ⟨wr.heap.size + 1, 3, none⟩ (.int .i64 q3) = w7 at HM7 Y07 Y17 HB7 ⊢
  rw [← hx3] at hq3
  have Q3 := My.am hq3
  clear a3 fz3 Y06 Y16 HM6 HB6 hq3 hx3
  have b2 := (blk_cell Y07.out 2).trans rfl
  have a0 := (blk_cell Y17.out 0).trans rfl
  have a1 := (blk_cell Y17.out 1).trans rfl
  have a2 := (blk_cell Y17.out 2).trans rfl
  have a3 := (blk_cell Y17.out 3).trans rfl
  go_wp2_with (at_mapUpdate; refine wpList_mapUpdate_fn rfl _ _ _ 84 86 rfl Try.underlying9 Try.underlying84 rfl HM7.out (by unfold maxLen; omega) (rd_T64 l1 (j : Int)).f1.f1 (q0, q1, q2, q3) rfl rfl hms ?_; intro w8 HM8 hg8)
  clear a0 a1 a2 a3 b2
  have hn : (fun z => if z = (rd_T64 l1 (j : Int)).f1.f1 then (q0, q1, q2, q3) else f z) = (fun z => if z = (rd_T64 l1 (j : Int)).f1.f1 then (wrap64 (p0 + mx t1 0), wrap64 (p1 + mx (wrap64 (-t1)) 0), wrap64 (p2 + mx t2 0), wrap64 (p3 + mx (wrap64 (-t2)) 0)) else f z) := by rw [← Q0.out, ← Q1.out, ← Q2.out, ← Q3.out]; rfl
  have HM9 := My.am (hn ▸ HM8)
  have HB9 := My.am (HB7.out.grown hg8 HB7.out.size (fun q hq => by cases hq; omega))
  clear HM8 hg8 hn
  go_roundg (l1.length - j)
  case measure => omega
  case rel => exact ⟨j + 1, _, by omega, by go_num, by omega, HF2, HM9, HB9⟩
end


end Go.Proofs.Ytikanbdhpafbiaa.PZ
