-- Written by a program of this session (wip/tools/mp.py over the kit's printer); Lean checks it.
import Derived.Test.YtcgmoeiknkdljaaPAx0
import Derived.Test.YtcgmoeiknkdljaaPAx1
import Derived.Test.YtcgmoeiknkdljaaPAx4
import Derived.Test.YtcgmoeiknkdljaaPAx6
import Derived.Test.YtcgmoeiknkdljaaPAx7
namespace Go.Proofs.Ytcgmoeiknkdljaa.PA
open Go.RowKit Go.Proofs.YtcgmoeiknkdljaaW.PrintWords Go.Proofs.YtcgmoeiknkdljaaW.PrintLast Go.Proofs.YtcgmoeiknkdljaaW.PrintMore
attribute [local go_sem] max2_int min2_int max_two min_two max_three min_three max_four min_four   -- for this text's walks alone
set_option linter.unusedVariables false
set_option maxHeartbeats 8000000
set_option maxRecDepth 100000
set_option linter.unusedSimpArgs false

/-! ### outbox_time: function 24 -/
def outbox_time.f (a0 : Int) : Option (Bool) := if a0 ≥ 0 then (some (decide (a0 ≤ 1000000000))) else (some false)
theorem outbox_time.calls (a0 : Int) (r : Bool) (w : World) (h : outbox_time.f a0 = some r) :
  Calls Try.prog 24 #[.int .i64 a0] w fun e w' => e = .returned (.bool r) ∧ Drawn0 w w' := by
 unfold outbox_time.f at h
 have H := h
 clear h
 by_cases c2 : a0 ≥ 0
 ·rw [if_pos c2] at H
  have c2b0 : decide (0 ≤ a0) = true := decide_eq_true c2
  clear c2
  obtain rfl := Option.some.inj H
  go_enter Try.func24, Try.ntmps24
  go_wp2
  go_ret
  exact ⟨by first | rfl | (simp; done) | (simp [*]; done), by repeat (first | exact Drawn0.refl _ | apply Drawn0.step)⟩
 ·rw [if_neg c2] at H
  have c2b0 : decide (0 ≤ a0) = false := decide_eq_false c2
  clear c2
  obtain rfl := Option.some.inj H
  go_enter Try.func24, Try.ntmps24
  go_wp2
  go_ret
  exact ⟨by first | rfl | (simp; done) | (simp [*]; done), by repeat (first | exact Drawn0.refl _ | apply Drawn0.step)⟩

/-! ### outbox_copied: function 25 -/
def outbox_copied.l0 : Nat → List (S46) → List (S46) → Int → Int → Option ((List (S46)))
 | 0, _, _, _, _ => none
 | k + 1, x3, x6, x7, x8 => if x8 < x7 then (if 0 ≤ x8 then (if x8 < (x6.length : Int) then ((api_Hop_36.f ((rd_T46 x6 x8).f3.f1.f2)).bind fun t175 => (if x3.length < 1466015503701 then (outbox_copied.l0 k (x3 ++ [(⟨(rd_T46 x6 x8).f0, (rd_T46 x6 x8).f1, (rd_T46 x6 x8).f2, (⟨(rd_T46 x6 x8).f3.f0, (⟨(rd_T46 x6 x8).f3.f1.f0, (rd_T46 x6 x8).f3.f1.f1, t175⟩ : S35), (rd_T46 x6 x8).f3.f2, (rd_T46 x6 x8).f3.f3⟩ : S37)⟩ : S46)]) x6 x7 (wrap64 (x8 + 1))) else (none))) else (none)) else (none)) else (some x3)
def outbox_copied.f (k : Nat) (l0 : List (S46)) : Option ((List (S46))) := outbox_copied.l0 k ([] : List (S46)) l0 (l0.length : Int) 0
theorem outbox_copied.mono_l : ∀ k, (∀ y0 y1 y2 y3, LeO (outbox_copied.l0 k y0 y1 y2 y3) (outbox_copied.l0 (k + 1) y0 y1 y2 y3))
 | 0 => fun _ _ _ _ r h => by simp [outbox_copied.l0] at h
 | k + 1 => by
  have ih0 := outbox_copied.mono_l k
  intro y0 y1 y2 y3
  unfold outbox_copied.l0
  repeat' (with_reducible first | exact ih0 _ _ _ _ | exact LeO.refl _ | exact LeO.none _ | apply LeO.ite | refine LeO.bind ?_ (fun _ => ?_))
theorem outbox_copied.mono : ∀ a0 k, LeO (outbox_copied.f k a0) (outbox_copied.f (k + 1) a0) := by
 intro a0 k
 have ih0 := outbox_copied.mono_l k
 unfold outbox_copied.f
 repeat' (with_reducible first | exact ih0 _ _ _ _ | exact LeO.refl _ | exact LeO.none _ | apply LeO.ite | refine LeO.bind ?_ (fun _ => ?_))
theorem outbox_copied.calls (k : Nat) (A0 : Option Addr) (c0 : Nat) (l0 : List (S46)) (r : List (S46)) (w : World) (hr0 : Kd.C k46 w A0 l0.length l0) (hc0 : l0.length ≤ c0) (h : outbox_copied.f k l0 = some r) :
  Calls Try.prog 25 #[.slice A0 l0.length c0] w fun e w' => ∃ v0_ : Value, e = .returned (v0_) ∧ Kd.S k46 46 w' w.heap.size (fun _ => True) v0_ r ∧ Below w.heap.size w w' := by
 have hu46 := Try.underlying46
 have HR0 := My.am hr0
 have HC0 := My.am hc0
 clear hr0 hc0
 have HB := My.am (Below.refl w.heap.size w)
 unfold outbox_copied.f at h
 have H := h
 clear h
 have H' := My.am H
 clear H
 go_enter Try.func25, Try.ntmps25
 go_wp2
 go_loopg [3, 8] k (fun kq v3 v8 w' => ∃ (x3_1 : List (S46)) (x8_1 : Int), v8 = .int .i64 x8_1 ∧ Aside0 (outbox_copied.l0 kq x3_1 l0 (l0.length : Int) x8_1 = some r) ∧ Aside0 (kq ≤ k) ∧ Aside0 (Kd.S k46 46 w' w.heap.size (fun _ => True) v3 x3_1) ∧ Aside0 (Below w.heap.size w w'))
 case atStart => exact ⟨(([] : List (S46))), (0), My.r1, H', ⟨Nat.le_refl _⟩, ⟨by first | exact Kd.S_nil _ _ _ _ _ | exact Kd.N_nil _ _ _ _ _ | exact Kd.V_nil _ _ _ _ _ | exact Kd.Q_nil _ _ _ _ _ | exact Kd.R_nil _ _ _ _ _⟩, ⟨(My.bl_ HB)⟩⟩
 case round =>
  clear H'
  obtain ⟨x3_1, x8_1, rfl, HA, HK1, HO_3, HB⟩ := hrel
  cases gk with
  | zero => exact absurd HA.out (by simp [outbox_copied.l0])
  | succ k1 =>
   have H := HA.out
   clear HA
   simp only [outbox_copied.l0] at H
   by_cases c2 : x8_1 < (l0.length : Int)
   rotate_left
   ·rw [if_neg c2] at H
    have c2b0 := decide_eq_false c2
    clear c2
    obtain rfl := Option.some.inj H
    go_wp2
    go_ret
    exact ⟨_, My.r2, by (with_reducible repeat (first | apply Kd.S_alloc | apply Kd.S_drewN | apply Kd.S_drew)); exact HO_3.out, (My.bl_ HB)⟩

   rw [if_pos c2] at H
   have c2b0 := decide_eq_true c2
   clear c2
   replace H := My.ds H
   obtain ⟨c3b0, H⟩ := H
   replace H := My.ds H
   obtain ⟨c4b0, H⟩ := H
   replace H := Option.bind_eq_some_iff.mp H
   obtain ⟨t175, A50, H⟩ := H
   try dsimp only at H
   have A5 := My.am A50
   clear A50
   by_cases c6 : x3_1.length < 1466015503701
   rotate_left
   ·exact My.nn c6 H
   rw [if_pos c6] at H
   have LMc6 := My.am c6
   clear c6
   obtain ⟨y178, hy178⟩ : ∃ y_ : List (S46), y_ = (x3_1 ++ [(⟨(rd_T46 l0 x8_1).f0, (rd_T46 l0 x8_1).f1, (rd_T46 l0 x8_1).f2, (⟨(rd_T46 l0 x8_1).f3.f0, (⟨(rd_T46 l0 x8_1).f3.f1.f0, (rd_T46 l0 x8_1).f3.f1.f1, t175⟩ : S35), (rd_T46 l0 x8_1).f3.f2, (rd_T46 l0 x8_1).f3.f3⟩ : S37)⟩ : S46)]) := ⟨_, rfl⟩
   replace H : (outbox_copied.l0 k1 y178 l0 (l0.length : Int) (wrap64 (x8_1 + 1))) = some r := by first | (rw [hy178]; with_reducible exact H) | (have H2_ := (Option.bind_some _ _).symm.trans H; rw [hy178]; with_reducible exact H2_) | (have H2_ := (Option.bind_some _ _).symm.trans H; with_reducible exact H2_) | with_reducible exact H | (rw [hy178]; exact H) | exact H
   have Ny178 := My.am hy178
   clear hy178
   have H' := My.am H
   clear H
   have p173 : 0 ≤ (x8_1 : Int) := My.as_
   have q173 : x8_1 < (l0.length : Int) := My.as_
   obtain ⟨ad173, A173_6, c173_6, e173, hx173_0, hx173_1, hx173_2, hx173_3, hx173_4, hx173_5, hx173_6, hx173_7, hx173_8, hl173_6, hi173_6⟩ := at_T46 HR0.out x8_1 p173 q173
   cases e173
   replace hx173_0 := My.up HB hx173_0
   replace hx173_1 := My.up HB hx173_1
   replace hx173_2 := My.up HB hx173_2
   replace hx173_3 := My.up HB hx173_3
   replace hx173_4 := My.up HB hx173_4
   replace hx173_5 := My.up HB hx173_5
   replace hx173_6 := My.up HB hx173_6
   replace hx173_7 := My.up HB hx173_7
   replace hx173_8 := My.up HB hx173_8
   have HR173_6 := My.am hi173_6
   have HC173_6 := My.am hl173_6
   clear hi173_6 hl173_6
   replace p173 := eq_true p173
   replace q173 := eq_true q173
   go_wp2_with (first | ((with_reducible refine gate_dst (N := 5) rfl ?_); refine My.bx 5 #[.int .i64 0, .int .i64 0, .int .i64 0, .int .i64 0, .int .i64 0, .int .i64 0, .slice none 0 0, .string (⟨#[]⟩ : ByteArray), .int .i64 0] 46 ?_; intro gb174 hg w7 hbox hb; replace HO_3 := My.am (Kd.S_below (Kd.S_elderB (by (with_reducible repeat (first | apply Kd.S_alloc | apply Kd.S_drewN | apply Kd.S_drew)); exact HO_3.out) gb174 (Nat.le_of_eq hg.symm)) hb); have BK174 := My.am (hbox); have GE174 := My.nge hg (My.bl_ HB); replace HB := My.st HB hb; clear hb hbox hg; have hcz8_0 : w7.cell? ⟨gb174, 0, none⟩ = some (.int .i64 0) := My.b_ BK174 0; have hcz8_1 : w7.cell? ⟨gb174, 1, none⟩ = some (.int .i64 0) := My.b_ BK174 1; have hcz8_2 : w7.cell? ⟨gb174, 2, none⟩ = some (.int .i64 0) := My.b_ BK174 2; have hcz8_3 : w7.cell? ⟨gb174, 3, none⟩ = some (.int .i64 0) := My.b_ BK174 3; have hcz8_4 : w7.cell? ⟨gb174, 4, none⟩ = some (.int .i64 0) := My.b_ BK174 4; have hcz8_5 : w7.cell? ⟨gb174, 5, none⟩ = some (.int .i64 0) := My.b_ BK174 5; have hcz8_6 : w7.cell? ⟨gb174, 6, none⟩ = some (.slice none 0 0) := My.b_ BK174 6; have hcz8_7 : w7.cell? ⟨gb174, 7, none⟩ = some (.string (⟨#[]⟩ : ByteArray)) := My.b_ BK174 7; have hcz8_8 : w7.cell? ⟨gb174, 8, none⟩ = some (.int .i64 0) := My.b_ BK174 8; have hfz8_0 := blk_frozen BK174.out 0; have hfz8_1 := blk_frozen BK174.out 1; have hfz8_2 := blk_frozen BK174.out 2; have hfz8_3 := blk_frozen BK174.out 3; have hfz8_4 := blk_frozen BK174.out 4; have hfz8_5 := blk_frozen BK174.out 5; have hfz8_6 := blk_frozen BK174.out 6; have hfz8_7 := blk_frozen BK174.out 7; have hfz8_8 := blk_frozen BK174.out 8) | ((with_reducible refine gate_callee (f := 36) rfl ?_); refine goesL_ (some 16) rfl rfl Try.func36 (by kernel_rfl) rfl #[.slice A173_6 ((rd_T46 l0 x8_1).f3.f1.f2).length c173_6] rfl My.gx ?_; (with_reducible refine (api_Hop_36.calls _ _ ((rd_T46 l0 x8_1).f3.f1.f2) t175 _ ?side1 ?side2 A5.out).mono ?_); (case side1 => exact Kd.C_below HR173_6.out (My.bl_ HB)); (case side2 => exact HC173_6.out); rintro e w9 ⟨v176, rfl, ho0, hb⟩; refine ⟨_, rfl, ?_⟩; replace HO_3 := My.am (Kd.S_elder' (by (with_reducible repeat (first | apply Kd.S_alloc | apply Kd.S_drewN | apply Kd.S_drew)); exact (Kd.S_mono (Kd.S_far (p := ⟨gb174, 8, none⟩) (Kd.S_far (p := ⟨gb174, 7, none⟩) (Kd.S_far (p := ⟨gb174, 6, none⟩) (Kd.S_far (p := ⟨gb174, 5, none⟩) (Kd.S_far (p := ⟨gb174, 4, none⟩) (Kd.S_far (p := ⟨gb174, 3, none⟩) (Kd.S_far (p := ⟨gb174, 2, none⟩) (Kd.S_far (p := ⟨gb174, 1, none⟩) (Kd.S_far (p := ⟨gb174, 0, none⟩) (Kd.S_mono HO_3.out (fun k_ hk => (⟨hk, hk.2⟩ : _ ∧ k_ ≠ gb174))) (fun _ hk => hk.2) (.int .i64 ((rd_T46 l0 x8_1).f0))) (fun _ hk => hk.2) (.int .i64 ((rd_T46 l0 x8_1).f1))) (fun _ hk => hk.2) (.int .i64 ((rd_T46 l0 x8_1).f2))) (fun _ hk => hk.2) (.int .i64 ((rd_T46 l0 x8_1).f3.f0))) (fun _ hk => hk.2) (.int .i64 ((rd_T46 l0 x8_1).f3.f1.f0))) (fun _ hk => hk.2) (.int .i64 ((rd_T46 l0 x8_1).f3.f1.f1))) (fun _ hk => hk.2) (.slice A173_6 ((rd_T46 l0 x8_1).f3.f1.f2).length c173_6)) (fun _ hk => hk.2) (.string ((rd_T46 l0 x8_1).f3.f2))) (fun _ hk => hk.2) (.int .i64 ((rd_T46 l0 x8_1).f3.f3))) (fun _ h_ => h_.1))) (Kd.R_base ho0) hb); have HO177 := My.am (Kd.R_lower ho0 (below_size (My.bl_ HB))); replace BK174 := My.am (blk_below (g := gb174) (o := .cells #[.int .i64 ((rd_T46 l0 x8_1).f0), .int .i64 ((rd_T46 l0 x8_1).f1), .int .i64 ((rd_T46 l0 x8_1).f2), .int .i64 ((rd_T46 l0 x8_1).f3.f0), .int .i64 ((rd_T46 l0 x8_1).f3.f1.f0), .int .i64 ((rd_T46 l0 x8_1).f3.f1.f1), .slice A173_6 ((rd_T46 l0 x8_1).f3.f1.f2).length c173_6, .string ((rd_T46 l0 x8_1).f3.f2), .int .i64 ((rd_T46 l0 x8_1).f3.f3)] 46 (0, 0)) ((My.sv_ BK174)) hb); replace HB := My.st HB hb; (try clear hb); (try clear ho0); obtain ⟨Ao10, co10, eo10⟩ := Kd.R_slice HO177.out; subst eo10; have hcz11_0 : w9.cell? ⟨gb174, 0, none⟩ = some (.int .i64 ((rd_T46 l0 x8_1).f0)) := My.b_ BK174 0; have hcz11_1 : w9.cell? ⟨gb174, 1, none⟩ = some (.int .i64 ((rd_T46 l0 x8_1).f1)) := My.b_ BK174 1; have hcz11_2 : w9.cell? ⟨gb174, 2, none⟩ = some (.int .i64 ((rd_T46 l0 x8_1).f2)) := My.b_ BK174 2; have hcz11_3 : w9.cell? ⟨gb174, 3, none⟩ = some (.int .i64 ((rd_T46 l0 x8_1).f3.f0)) := My.b_ BK174 3; have hcz11_4 : w9.cell? ⟨gb174, 4, none⟩ = some (.int .i64 ((rd_T46 l0 x8_1).f3.f1.f0)) := My.b_ BK174 4; have hcz11_5 : w9.cell? ⟨gb174, 5, none⟩ = some (.int .i64 ((rd_T46 l0 x8_1).f3.f1.f1)) := My.b_ BK174 5; have hcz11_6 : w9.cell? ⟨gb174, 6, none⟩ = some (.slice A173_6 ((rd_T46 l0 x8_1).f3.f1.f2).length c173_6) := My.b_ BK174 6; have hcz11_7 : w9.cell? ⟨gb174, 7, none⟩ = some (.string ((rd_T46 l0 x8_1).f3.f2)) := My.b_ BK174 7; have hcz11_8 : w9.cell? ⟨gb174, 8, none⟩ = some (.int .i64 ((rd_T46 l0 x8_1).f3.f3)) := My.b_ BK174 8; have hfz11_0 := blk_frozen BK174.out 0; have hfz11_1 := blk_frozen BK174.out 1; have hfz11_2 := blk_frozen BK174.out 2; have hfz11_3 := blk_frozen BK174.out 3; have hfz11_4 := blk_frozen BK174.out 4; have hfz11_5 := blk_frozen BK174.out 5; have hfz11_6 := blk_frozen BK174.out 6; have hfz11_7 := blk_frozen BK174.out 7; have hfz11_8 := blk_frozen BK174.out 8) | ((with_reducible refine gate_store (t := 33) (p := 19) rfl ?_); refine store_event (t := 33) (p := 19) (v := ?vo_w12) (w1 := (w9.setCell ⟨gb174, 6, none⟩ (.slice Ao10 t175.length co10))) ?hg ?ho ?hn ?hr ?_; (case ho => rfl); (case hg => rfl); (case hn => rfl); (case hr => first | (go_simp; done) | (go_simp; rfl)); intro w12 hw; replace HO_3 : Aside0 (Kd.S k46 46 w12 w.heap.size (fun k_ => some k_ ≠ (.slice Ao10 t175.length co10 : Value).ownBlock ∧ k_ ≠ gb174) u3 x3_1) := ⟨(by rw [hw]; exact (by (with_reducible repeat (first | apply Kd.S_alloc | apply Kd.S_drewN | apply Kd.S_drew)); exact Kd.S_mono (Kd.S_far (p := ⟨gb174, 6, none⟩) (Kd.S_mono HO_3.out (fun k_ hk => (⟨hk, hk.1.2⟩ : _ ∧ k_ ≠ gb174))) (fun _ hk => hk.2) (.slice Ao10 t175.length co10)) (fun _ hk => ⟨hk.1.2, hk.1.1.2⟩)))⟩; replace HO177 : Aside0 (Kd.R k62 62 w12 w.heap.size (fun _ => True) (.slice Ao10 t175.length co10) t175) := ⟨(by rw [hw]; exact (My.dR (Kd.R_mono (Kd.R_far (p := ⟨gb174, 6, none⟩) (Kd.R_types HO177.out BK174.out (by decide)) (fun _ hk => hk.2) (.slice Ao10 t175.length co10)) (fun _ hk => trivial))))⟩; replace BK174 : Aside0 (w12.heap[gb174]? = some (.cells #[.int .i64 ((rd_T46 l0 x8_1).f0), .int .i64 ((rd_T46 l0 x8_1).f1), .int .i64 ((rd_T46 l0 x8_1).f2), .int .i64 ((rd_T46 l0 x8_1).f3.f0), .int .i64 ((rd_T46 l0 x8_1).f3.f1.f0), .int .i64 ((rd_T46 l0 x8_1).f3.f1.f1), .slice Ao10 t175.length co10, .string ((rd_T46 l0 x8_1).f3.f2), .int .i64 ((rd_T46 l0 x8_1).f3.f3)] 46 (0, 0))) := ⟨(by rw [hw]; exact ((My.sv_ BK174)))⟩; replace HB : Aside0 (Below w.heap.size w w12) := ⟨(by rw [hw]; exact (My.bl_ HB))⟩; (try clear hw); have hcz13_0 : w12.cell? ⟨gb174, 0, none⟩ = some (.int .i64 ((rd_T46 l0 x8_1).f0)) := My.b_ BK174 0; have hcz13_1 : w12.cell? ⟨gb174, 1, none⟩ = some (.int .i64 ((rd_T46 l0 x8_1).f1)) := My.b_ BK174 1; have hcz13_2 : w12.cell? ⟨gb174, 2, none⟩ = some (.int .i64 ((rd_T46 l0 x8_1).f2)) := My.b_ BK174 2; have hcz13_3 : w12.cell? ⟨gb174, 3, none⟩ = some (.int .i64 ((rd_T46 l0 x8_1).f3.f0)) := My.b_ BK174 3; have hcz13_4 : w12.cell? ⟨gb174, 4, none⟩ = some (.int .i64 ((rd_T46 l0 x8_1).f3.f1.f0)) := My.b_ BK174 4; have hcz13_5 : w12.cell? ⟨gb174, 5, none⟩ = some (.int .i64 ((rd_T46 l0 x8_1).f3.f1.f1)) := My.b_ BK174 5; have hcz13_6 : w12.cell? ⟨gb174, 6, none⟩ = some (.slice Ao10 t175.length co10) := My.b_ BK174 6; have hcz13_7 : w12.cell? ⟨gb174, 7, none⟩ = some (.string ((rd_T46 l0 x8_1).f3.f2)) := My.b_ BK174 7; have hcz13_8 : w12.cell? ⟨gb174, 8, none⟩ = some (.int .i64 ((rd_T46 l0 x8_1).f3.f3)) := My.b_ BK174 8; have hfz13_0 := blk_frozen BK174.out 0; have hfz13_1 := blk_frozen BK174.out 1; have hfz13_2 := blk_frozen BK174.out 2; have hfz13_3 := blk_frozen BK174.out 3; have hfz13_4 := blk_frozen BK174.out 4; have hfz13_5 := blk_frozen BK174.out 5; have hfz13_6 := blk_frozen BK174.out 6; have hfz13_7 := blk_frozen BK174.out 7; have hfz13_8 := blk_frozen BK174.out 8) | ((with_reducible refine gate_builtin (b := .append) (xs := #[.tmp 20, .tmp 22]) rfl ?_); at_builtin; refine Kd.S_append k46 (w0 := w) w.heap.size rfl (.tmp 20) (.tmp 22) 22 46 (.agg #[(.int .i64 0), (.int .i64 0), (.int .i64 0), (.int .i64 0), (.int .i64 0), (.int .i64 0), (.slice none 0 0), (.string ⟨#[]⟩), (.int .i64 0)]) 96 rfl Try.underlying22 info46 rfl (by decide) (by omega) u3 x3_1 (⟨(rd_T46 l0 x8_1).f0, (rd_T46 l0 x8_1).f1, (rd_T46 l0 x8_1).f2, (⟨(rd_T46 l0 x8_1).f3.f0, (⟨(rd_T46 l0 x8_1).f3.f1.f0, (rd_T46 l0 x8_1).f3.f1.f1, t175⟩ : S35), (rd_T46 l0 x8_1).f3.f2, (rd_T46 l0 x8_1).f3.f3⟩ : S37)⟩ : S46) [.int .i64 ((rd_T46 l0 x8_1).f0), .int .i64 ((rd_T46 l0 x8_1).f1), .int .i64 ((rd_T46 l0 x8_1).f2), .int .i64 ((rd_T46 l0 x8_1).f3.f0), .int .i64 ((rd_T46 l0 x8_1).f3.f1.f0), .int .i64 ((rd_T46 l0 x8_1).f3.f1.f1), .slice Ao10 t175.length co10, .string ((rd_T46 l0 x8_1).f3.f2), .int .i64 ((rd_T46 l0 x8_1).f3.f3)] (fun k_ => k_ ≠ gb174) (fun k_ => some k_ = (.slice Ao10 t175.length co10 : Value).ownBlock) rfl rfl ?aP (fun k_ hk_ => ((Kd.R_mono (ok' := fun k_ => ((fun k_ => k_ ≠ gb174)) k_ ∧ some k_ ≠ (u3 : Value).ownBlock) (Kd.R_types (Kd.R_apart' (HO177.out) (Kd.S_typed HO_3.out) (by decide)) BK174.out (by decide)) (fun k_ hk => ⟨hk.2, hk.1.2⟩))).1 k_ hk_.symm) ?aF ?aO ?aB ?aS ?aL ?_; (case aP => exact k46_mkM _ _ _ (⟨(rd_T46 l0 x8_1).f0, (rd_T46 l0 x8_1).f1, (rd_T46 l0 x8_1).f2, (⟨(rd_T46 l0 x8_1).f3.f0, (⟨(rd_T46 l0 x8_1).f3.f1.f0, (rd_T46 l0 x8_1).f3.f1.f1, t175⟩ : S35), (rd_T46 l0 x8_1).f3.f2, (rd_T46 l0 x8_1).f3.f3⟩ : S37)⟩ : S46) (Kd.R_mono (Kd.R_tight rfl (Kd.R_mono (ok' := fun k_ => ((fun k_ => k_ ≠ gb174)) k_ ∧ some k_ ≠ (u3 : Value).ownBlock) (Kd.R_types (Kd.R_apart' (HO177.out) (Kd.S_typed HO_3.out) (by decide)) BK174.out (by decide)) (fun k_ hk => ⟨hk.2, hk.1.2⟩))) (fun _ h_ => h_))); (case aB => exact (My.bl_ HB)); (case aF => exact (fun k_ hk => Kd.freshB (My.at_ BK174) k_ hk)); (case aO => exact (by (with_reducible repeat (first | apply Kd.S_alloc | apply Kd.S_drewN | apply Kd.S_drew)); exact Kd.S_mono HO_3.out (fun k_ hk => ⟨hk.2, fun e_ => hk.1 e_⟩))); (case aS => exact (below_size (My.bl_ HB))); (case aL => have := LMc6.out; omega); intro v179 w14 ho hb hg hat; rw [← Ny178.out] at ho; replace HB := My.am (hb); have HO180 := My.am (ho); (try clear HO_3); (try clear HO177); clear ho hb hg hat))
   go_roundg k1
   case measure => have := HK1.out; omega
   case rel => exact ⟨(y178), (wrap64 (x8_1 + 1)), My.r1, H', ⟨by have := HK1.out; omega⟩, ⟨by (with_reducible repeat (first | apply Kd.S_alloc | apply Kd.S_drewN | apply Kd.S_drew)); exact Kd.S_mono HO180.out (fun _ hk => trivial)⟩, ⟨(My.bl_ HB)⟩⟩
/-! ### outbox_Push: function 9 -/
/-! outbox.Push -/
def outbox_Push.nx (fr : Int) (ys : List S46) : Int := if 0 < ys.length then (if fr < wrap64 ((rd_T46 ys ((ys.length : Int) - 1)).f0 + 1) then wrap64 ((rd_T46 ys ((ys.length : Int) - 1)).f0 + 1) else fr) else fr
def outbox_Push.go (k : Nat) (fr now : Int) : List S37 → List S46 → Option (List S46 × Int)
 | [], ys => some (ys, 0)
 | n :: r, ys => (note_Check.f k n.f0 n.f1.f0 n.f1.f1 n.f1.f2 n.f2 n.f3).bind fun e => if e = 0 then ((outbox_has.f k ys n.f0 n.f1.f0 n.f1.f1 n.f1.f2 n.f2 n.f3).bind fun b => if b = true then outbox_Push.go k fr now r ys else if (ys.length : Int) = 12 then some ([], 190) else if outbox_Push.nx fr ys > 1000000000 then some ([], 180) else if ys.length < 1000000 then ((outbox_copied.f k [⟨outbox_Push.nx fr ys, now, 0, n⟩]).bind fun c => if c.length < 1000000 then outbox_Push.go k fr now r (ys ++ c) else none) else none) else some ([], 130)
def outbox_Push.f (k : Nat) (l0 : List S46) (a1 : Int) (a2 : Int) (l3 : List S37) : Option (List S46 × Int) :=
 (outbox_May.f k l0).bind fun e => (outbox_time.f a2).bind fun t => if e = 0 ∧ t = true ∧ ¬ a1 < 1 ∧ ¬ a1 > 1000000001 then ((outbox_copied.f k l0).bind fun out => outbox_Push.go k a1 a2 l3 out) else some ([], 2)
theorem outbox_Push.go_mono (fr now : Int) (k : Nat) : ∀ (l : List S37) (ys : List S46), LeO (outbox_Push.go k fr now l ys) (outbox_Push.go (k + 1) fr now l ys)
 | [], ys => LeO.refl _
 | n :: r, ys => by
  unfold outbox_Push.go
  exact LeO.bind (note_Check.mono _ _ _ _ _ _ _) (fun _ => LeO.ite (LeO.bind (outbox_has.mono _ _ _ _ _ _ _ _) (fun _ => LeO.ite (outbox_Push.go_mono fr now k r ys) (LeO.ite (LeO.refl _) (LeO.ite (LeO.refl _) (LeO.ite (LeO.bind (outbox_copied.mono _ _) (fun _ => LeO.ite (outbox_Push.go_mono fr now k r _) (LeO.refl _))) (LeO.refl _)))))) (LeO.refl _))
theorem outbox_Push.mono : ∀ a0 a1 a2 a3 k, LeO (outbox_Push.f k a0 a1 a2 a3) (outbox_Push.f (k + 1) a0 a1 a2 a3) := by
 intro a0 a1 a2 a3 k
 unfold outbox_Push.f
 exact LeO.bind (outbox_May.mono _ _) (fun _ => LeO.bind (LeO.refl _) (fun _ => LeO.ite (LeO.bind (outbox_copied.mono _ _) (fun _ => outbox_Push.go_mono _ _ _ _ _)) (LeO.refl _)))
attribute [local go_sem] max2_int min2_int max_two min_two max_three min_three max_four min_four
theorem outbox_Push.calls (k : Nat) (A0 : Option Addr) (c0 : Nat) (l0 : List S46) (a1 : Int) (a2 : Int) (A3 : Option Addr) (c3 : Nat) (l3 : List S37) (r1 : List S46) (r2 : Int) (w : World) (hr0 : Kd.C k46 w A0 l0.length l0) (hc0 : l0.length ≤ c0) (hr3 : Kd.C k37 w A3 l3.length l3) (hc3 : l3.length ≤ c3) (h : outbox_Push.f k l0 a1 a2 l3 = some (r1, r2)) :
  Calls Try.prog 9 #[.slice A0 l0.length c0, .int .i64 a1, .int .i64 a2, .slice A3 l3.length c3] w fun e w' => ∃ v0_ : Value, e = .returned (.tuple #[v0_, .int .i64 r2]) ∧ Kd.R k46 46 w' w.heap.size (fun _ => True) v0_ r1 ∧ Below w.heap.size w w' := by
 have hu46 := Try.underlying46
 have hu37 := Try.underlying37
 have hu35 := Try.underlying35
 have HR0 := My.am hr0
 have HC0 := My.am hc0
 have HR3 := My.am hr3
 have HB := My.am (Below.refl w.heap.size w)
 clear hr0 hc0 hr3 hc3
 unfold outbox_Push.f at h
 obtain ⟨e, he, h⟩ := Option.bind_eq_some_iff.1 h
 obtain ⟨t, ht, h⟩ := Option.bind_eq_some_iff.1 h
 have A1 := My.am he
 have A2 := My.am ht
 have H := My.am h
 clear he ht h
 go_enter Try.func9, Try.ntmps9
 go_upto_region 1 with (fail)
 go_cut [29] (fun v29 wc => v29 = .bool (!(decide (e = 0 ∧ t = true ∧ ¬ a1 < 1 ∧ ¬ a1 > 1000000001))) ∧ Aside0 (Below w.heap.size w wc))
 case first =>
  by_cases e0 : e = 0
  ·subst e0
   cases t with
   | true =>
    by_cases d1 : a1 < 1
    ·have b1 : decide (a1 < 1) = true := decide_eq_true d1
     go_wp2_with (first | ((with_reducible refine gate_callee (f := 13) rfl ?_); refine goesL_ (some 15) rfl rfl Try.func13 (by kernel_rfl) rfl #[.slice A0 l0.length c0] rfl My.gx ?_; (with_reducible refine (outbox_May.calls k _ _ l0 0 _ ?side1 ?side2 A1.out).mono ?_); (case side1 => exact HR0.out); (case side2 => exact HC0.out); rintro e w3 ⟨rfl, hb⟩; refine ⟨_, rfl, ?_⟩; replace HB := My.st HB hb; clear hb) | ((with_reducible refine gate_callee (f := 24) rfl ?_); (try (refine gate_guard (by rfl) ?_; dsimp only)); refine goesL_ (some 19) rfl rfl Try.func24 (by kernel_rfl) rfl #[.int .i64 a2] rfl My.gx ?_; (with_reducible refine (outbox_time.calls a2 true _ A2.out).mono ?_); rintro e w4 ⟨rfl, hb⟩; refine ⟨_, rfl, ?_⟩; replace HB := My.st HB hb.below; clear hb))
     go_meet
     case rel => exact ⟨by simp [d1], HB⟩
    have b1 : decide (a1 < 1) = false := decide_eq_false d1
    by_cases d2 : a1 > 1000000001
    ·have b2 : decide (a1 > 1000000001) = true := decide_eq_true d2
     have b3 : decide (1000000001 < a1) = true := decide_eq_true d2
     go_wp2_with (first | ((with_reducible refine gate_callee (f := 13) rfl ?_); refine goesL_ (some 15) rfl rfl Try.func13 (by kernel_rfl) rfl #[.slice A0 l0.length c0] rfl My.gx ?_; (with_reducible refine (outbox_May.calls k _ _ l0 0 _ ?side1 ?side2 A1.out).mono ?_); (case side1 => exact HR0.out); (case side2 => exact HC0.out); rintro e w3 ⟨rfl, hb⟩; refine ⟨_, rfl, ?_⟩; replace HB := My.st HB hb; clear hb) | ((with_reducible refine gate_callee (f := 24) rfl ?_); (try (refine gate_guard (by rfl) ?_; dsimp only)); refine goesL_ (some 19) rfl rfl Try.func24 (by kernel_rfl) rfl #[.int .i64 a2] rfl My.gx ?_; (with_reducible refine (outbox_time.calls a2 true _ A2.out).mono ?_); rintro e w4 ⟨rfl, hb⟩; refine ⟨_, rfl, ?_⟩; replace HB := My.st HB hb.below; clear hb))
     go_meet
     case rel => exact ⟨by simp [d1, d2], HB⟩
    have b2 : decide (a1 > 1000000001) = false := decide_eq_false d2
    have b3 : decide (1000000001 < a1) = false := decide_eq_false d2
    go_wp2_with (first | ((with_reducible refine gate_callee (f := 13) rfl ?_); refine goesL_ (some 15) rfl rfl Try.func13 (by kernel_rfl) rfl #[.slice A0 l0.length c0] rfl My.gx ?_; (with_reducible refine (outbox_May.calls k _ _ l0 0 _ ?side1 ?side2 A1.out).mono ?_); (case side1 => exact HR0.out); (case side2 => exact HC0.out); rintro e w3 ⟨rfl, hb⟩; refine ⟨_, rfl, ?_⟩; replace HB := My.st HB hb; clear hb) | ((with_reducible refine gate_callee (f := 24) rfl ?_); (try (refine gate_guard (by rfl) ?_; dsimp only)); refine goesL_ (some 19) rfl rfl Try.func24 (by kernel_rfl) rfl #[.int .i64 a2] rfl My.gx ?_; (with_reducible refine (outbox_time.calls a2 true _ A2.out).mono ?_); rintro e w4 ⟨rfl, hb⟩; refine ⟨_, rfl, ?_⟩; replace HB := My.st HB hb.below; clear hb))
    go_meet
    case rel => exact ⟨by simp [d1, d2], HB⟩
   | false =>
    go_wp2_with (first | ((with_reducible refine gate_callee (f := 13) rfl ?_); refine goesL_ (some 15) rfl rfl Try.func13 (by kernel_rfl) rfl #[.slice A0 l0.length c0] rfl My.gx ?_; (with_reducible refine (outbox_May.calls k _ _ l0 0 _ ?side1 ?side2 A1.out).mono ?_); (case side1 => exact HR0.out); (case side2 => exact HC0.out); rintro e w3 ⟨rfl, hb⟩; refine ⟨_, rfl, ?_⟩; replace HB := My.st HB hb; clear hb) | ((with_reducible refine gate_callee (f := 24) rfl ?_); (try (refine gate_guard (by rfl) ?_; dsimp only)); refine goesL_ (some 19) rfl rfl Try.func24 (by kernel_rfl) rfl #[.int .i64 a2] rfl My.gx ?_; (with_reducible refine (outbox_time.calls a2 false _ A2.out).mono ?_); rintro e w4 ⟨rfl, hb⟩; refine ⟨_, rfl, ?_⟩; replace HB := My.st HB hb.below; clear hb))
    go_meet
    case rel => exact ⟨by simp, HB⟩
  ·have b1 : (e == 0) = false := beq_eq_false_iff_ne.2 e0
   have b2 : (e != 0) = true := bne_iff_ne.2 e0
   have b3 : decide (e = 0) = false := decide_eq_false e0
   go_wp2_with (first | ((with_reducible refine gate_callee (f := 13) rfl ?_); refine goesL_ (some 15) rfl rfl Try.func13 (by kernel_rfl) rfl #[.slice A0 l0.length c0] rfl My.gx ?_; (with_reducible refine (outbox_May.calls k _ _ l0 e _ ?side1 ?side2 A1.out).mono ?_); (case side1 => exact HR0.out); (case side2 => exact HC0.out); rintro e w3 ⟨rfl, hb⟩; refine ⟨_, rfl, ?_⟩; replace HB := My.st HB hb; clear hb))
   go_meet
   case rel => exact ⟨by simp [e0], HB⟩
 case rest =>
  obtain ⟨rfl, HB1⟩ := hcut
  clear HB
  have HB := HB1
  clear HB1
  by_cases c : e = 0 ∧ t = true ∧ ¬ a1 < 1 ∧ ¬ a1 > 1000000001
  rotate_left
  ·rw [decide_eq_false c]
   have h1 := H.out
   rw [if_neg c] at h1
   obtain ⟨rfl, rfl⟩ := Prod.mk.inj (Option.some.inj h1)
   clear h1 c
   go_wp2
   go_ret2
   exact ⟨_, My.r2, Kd.R_nil _ _ _ _ _, HB.out⟩


  rw [decide_eq_true c]
  have h1 := H.out
  rw [if_pos c] at h1
  obtain ⟨out, ho, hg⟩ := Option.bind_eq_some_iff.1 h1
  have A3' := My.am ho
  have HG := My.am hg
  clear h1 ho hg c H
  go_wp2_with (first | ((with_reducible refine gate_callee (f := 25) rfl ?_); refine goesL_ (some 31) rfl rfl Try.func25 (by kernel_rfl) rfl #[.slice A0 l0.length c0] rfl My.gx ?_; (with_reducible refine (outbox_copied.calls k _ _ l0 out _ ?side1 ?side2 A3'.out).mono ?_); (case side1 => exact Kd.C_below HR0.out (My.bl_ HB)); (case side2 => exact HC0.out); rintro e w5 ⟨vo, rfl, ho, hb⟩; refine ⟨_, rfl, ?_⟩; have HO := My.am (Kd.R_lower (Kd.S_R ho) (below_size (My.bl_ HB))); replace HB := My.st HB hb; clear hb ho))
  have hlen3 : l3.length ≤ 9223372036854775807 := HR3.out.2.1
  clear A3'
  go_loopg [34, 10] (l3.length + 1) (fun kq v34 v10 w' => ∃ (i : Nat) (x : Int) (ys : List S46), v34 = .int .i64 x ∧ Aside0 (x = (i : Int)) ∧ Aside0 (kq + i = l3.length + 1) ∧ Aside0 (i ≤ l3.length) ∧ Aside0 (outbox_Push.go k a1 a2 (l3.drop i) ys = some (r1, r2)) ∧ Aside0 (Kd.R k46 46 w' w.heap.size (fun _ => True) v10 ys) ∧ Aside0 (Below w.heap.size w w'))
  case atStart => exact ⟨0, _, out, rfl, ⟨rfl⟩, ⟨rfl⟩, ⟨Nat.zero_le _⟩, HG, HO, ⟨(My.bl_ HB)⟩⟩
  case round =>
   clear HG HO HB
   obtain ⟨i, x, ys, rfl, hx, hk, hi, HG, HO, HB⟩ := hrel
   by_cases c : i < l3.length
   rotate_left
   ·have hg := HG.out
    have hi1 := hi.out
    have hx1 := hx.out
    have cc : decide (x < (l3.length : Int)) = false := decide_eq_false (by omega)
    rw [List.drop_eq_nil_of_le (by omega), outbox_Push.go] at hg
    obtain ⟨rfl, rfl⟩ := Prod.mk.inj (Option.some.inj hg)
    clear hg hi1 hx1 c
    go_wp2
    go_ret2
    exact ⟨_, My.r2, HO.out, HB.out⟩
   have q1 : x < (l3.length : Int) := by have := hx.out; omega
   have p1 : (0 : Int) ≤ x := by have := hx.out; omega
   have cc : decide (x < (l3.length : Int)) = true := decide_eq_true q1
   have hg := HG.out
   rw [drop37 l3 i c, ← hx.out, outbox_Push.go] at hg
   obtain ⟨e, he, hg⟩ := Option.bind_eq_some_iff.1 hg
   have AE := My.am he
   have HE := My.am hg
   have HCI := My.am c
   obtain ⟨ad, An, cn, e1, x0, x1, x2, x3, x4, x5, l6, g6⟩ := at_T37 (Kd.C_below HR3.out HB.out) x p1 q1
   have HNC := My.am l6
   have HN := My.am g6
   have E1 := My.am e1
   obtain ⟨Ao, co, eo⟩ := Kd.R_slice HO.out
   subst eo
   have HW := My.am (Below.refl wr.heap.size wr)
   clear he hg c l6 g6 HG
   cases e1
   have p2 := eq_true p1
   have q2 := eq_true q1
   go_upto_region 7 with (first | ((with_reducible refine gate_dst (N := 12) rfl ?_); refine My.bx 12 #[.int .i64 0, .int .i64 0, .int .i64 0, .slice none 0 0, .string (⟨#[]⟩ : ByteArray), .int .i64 0] 37 ?_; intro gn hg w5 hbox hb; have BN := My.am hbox; have GN := My.nge hg (My.bl_ HW); replace HW := My.st HW hb; clear hb hbox hg; have hqn := My.cz6 BN))
   refine at_world (J := fun W => Below wr.heap.size wr W ∧ W.heap[gn]? = some (.cells #[.int .i64 (rd_T37 l3 x).f0, .int .i64 (rd_T37 l3 x).f1.f0, .int .i64 (rd_T37 l3 x).f1.f1, .slice An (rd_T37 l3 x).f1.f2.length cn, .string (rd_T37 l3 x).f2, .int .i64 (rd_T37 l3 x).f3] 37 (0, 0))) ⟨(My.bl_ HW), (My.sv_ BN)⟩ ?_
   rintro w6 ⟨hw6, hb6⟩
   clear HW BN hqn x0 x1 x2 x3 x4 x5
   have HW := My.am hw6
   have BN := My.am hb6
   clear hw6 hb6
   go_upto_if 41 with (fail)
   go_cut [13] (fun v13 wc => v13 = .int .i64 (outbox_Push.nx a1 ys) ∧ Aside0 (Below wr.heap.size wr wc) ∧ Aside0 (wc.heap[gn]? = some (.cells #[.int .i64 (rd_T37 l3 x).f0, .int .i64 (rd_T37 l3 x).f1.f0, .int .i64 (rd_T37 l3 x).f1.f1, .slice An (rd_T37 l3 x).f1.f2.length cn, .string (rd_T37 l3 x).f2, .int .i64 (rd_T37 l3 x).f3] 37 (0, 0))))
   case first =>
    by_cases c2 : 0 < ys.length
    rotate_left
    ·have b1 : decide ((ys.length : Int) > 0) = false := decide_eq_false (by omega)
     have b2 : decide (0 < (ys.length : Int)) = false := decide_eq_false (by omega)
     have b3 : decide (0 < ys.length) = false := decide_eq_false c2
     have hnx : outbox_Push.nx a1 ys = a1 := by
      unfold outbox_Push.nx
      rw [if_neg c2]
     (first | rw [b2] | (simp only [i64_w, i32_w]; rw [b2]) | skip)
     go_wp2
     go_meet
     case rel => exact ⟨by rw [hnx], ⟨(My.bl_ HW)⟩, ⟨(My.at_ BN)⟩⟩
    have b1 : decide ((ys.length : Int) > 0) = true := decide_eq_true (by omega)
    have b2 : decide (0 < (ys.length : Int)) = true := decide_eq_true (by omega)
    have b3 : decide (0 < ys.length) = true := decide_eq_true c2
    obtain ⟨xl, hxl⟩ : ∃ xl : Int, xl = (ys.length : Int) - 1 := ⟨_, rfl⟩
    have hcr := (Kd.R_reads' HO.out).2.2
    have hmy : ys.length ≤ 9223372036854775807 := hcr.2.1
    have w1 : IntKind.i64.wrap ((ys.length : Int) - 1) = xl := by rw [IntKind.wrap_i64]; omega
    have p3 : 0 ≤ xl := by omega
    have q3 : xl < (ys.length : Int) := by omega
    obtain ⟨ao, Ay, cy, ey, y0, _, _, _, _, _, _, _, _, _, _⟩ := at_T46 (Kd.C_below hcr (My.bl_ HW)) xl p3 q3
    cases ey
    rw [show xl.toNat = ys.length - 1 by omega] at y0
    have p4 := eq_true p3
    have q4 := eq_true q3
    clear hcr
    by_cases m : a1 < wrap64 ((rd_T46 ys xl).f0 + 1)
    ·have hnx : outbox_Push.nx a1 ys = wrap64 ((rd_T46 ys xl).f0 + 1) := by
      unfold outbox_Push.nx
      rw [if_pos c2, ← hxl, if_pos m]
     rw [hxl] at m
     have m1 := eq_true m
     (first | rw [b2] | (simp only [i64_w, i32_w]; rw [b2]) | skip)
     go_wp2
     go_meet
     case rel => exact ⟨by rw [hnx, hxl], ⟨(My.bl_ HW)⟩, ⟨(My.at_ BN)⟩⟩
    have hnx : outbox_Push.nx a1 ys = a1 := by
     unfold outbox_Push.nx
     rw [if_pos c2, ← hxl, if_neg m]
    rw [hxl] at m
    have m1 := eq_false m
    (first | rw [b2] | (simp only [i64_w, i32_w]; rw [b2]) | skip)
    go_wp2
    go_meet
    case rel => exact ⟨by rw [hnx], ⟨(My.bl_ HW)⟩, ⟨(My.at_ BN)⟩⟩
   case rest =>
    clear HW BN
    obtain ⟨rfl, HW, BN⟩ := hcut
    have hqn := My.cz6 BN
    by_cases e0 : e = 0
    rotate_left
    ·have b1 : (e == 0) = false := beq_eq_false_iff_ne.2 e0
     have b2 : (e != 0) = true := bne_iff_ne.2 e0
     have b3 : decide (e = 0) = false := decide_eq_false e0
     have hh := HE.out
     rw [if_neg e0] at hh
     obtain ⟨rfl, rfl⟩ := Prod.mk.inj (Option.some.inj hh)
     clear hh HE
     go_wp2_with (first | ((with_reducible refine gate_callee (f := 26) rfl ?_); refine goesL_ (some 54) rfl rfl Try.func26 (by kernel_rfl) rfl #[.agg #[.int .i64 (rd_T37 l3 x).f0, .int .i64 (rd_T37 l3 x).f1.f0, .int .i64 (rd_T37 l3 x).f1.f1, .slice An (rd_T37 l3 x).f1.f2.length cn, .string (rd_T37 l3 x).f2, .int .i64 (rd_T37 l3 x).f3]] rfl My.gx ?_; (with_reducible refine (note_Check.calls k _ _ _ An cn _ _ _ e _ ?side1 ?side2 AE.out).mono ?_); (case side1 => exact Kd.C_below HN.out (My.bl_ HW)); (case side2 => exact HNC.out); rintro e w7 ⟨rfl, hb⟩; refine ⟨_, rfl, ?_⟩; clear hqn; replace BN := My.ab BN hb; replace HW := My.st HW hb; clear hb; have hqn := My.cz6 BN))
     go_ret2
     exact ⟨_, My.r2, Kd.R_nil _ _ _ _ _, below_step HB.out (My.bl_ HW)⟩
    subst e0
    have hh := HE.out
    rw [if_pos rfl] at hh
    obtain ⟨b, hb, hh⟩ := Option.bind_eq_some_iff.1 hh
    have AB := My.am hb
    have HH := My.am hh
    clear hb hh HE
    cases b with
    | true =>
     have hh := HH.out
     rw [if_pos rfl] at hh
     have HG := My.am hh
     clear hh HH
     have hw : IntKind.i64.wrap (x + 1) = x + 1 := by have := hx.out; have := hi.out; rw [IntKind.wrap_i64]; omega
     go_wp2_with (first | ((with_reducible refine gate_callee (f := 26) rfl ?_); refine goesL_ (some 54) rfl rfl Try.func26 (by kernel_rfl) rfl #[.agg #[.int .i64 (rd_T37 l3 x).f0, .int .i64 (rd_T37 l3 x).f1.f0, .int .i64 (rd_T37 l3 x).f1.f1, .slice An (rd_T37 l3 x).f1.f2.length cn, .string (rd_T37 l3 x).f2, .int .i64 (rd_T37 l3 x).f3]] rfl My.gx ?_; (with_reducible refine (note_Check.calls k _ _ _ An cn _ _ _ 0 _ ?side1 ?side2 AE.out).mono ?_); (case side1 => exact Kd.C_below HN.out (My.bl_ HW)); (case side2 => exact HNC.out); rintro e w7 ⟨rfl, hb⟩; refine ⟨_, rfl, ?_⟩; clear hqn; replace BN := My.ab BN hb; replace HW := My.st HW hb; clear hb; have hqn := My.cz6 BN) | ((with_reducible refine gate_callee (f := 27) rfl ?_); refine goesL_ (some 59) rfl rfl Try.func27 (by kernel_rfl) rfl #[.slice Ao ys.length co, .agg #[.int .i64 (rd_T37 l3 x).f0, .int .i64 (rd_T37 l3 x).f1.f0, .int .i64 (rd_T37 l3 x).f1.f1, .slice An (rd_T37 l3 x).f1.f2.length cn, .string (rd_T37 l3 x).f2, .int .i64 (rd_T37 l3 x).f3]] rfl My.gx ?_; (with_reducible refine (outbox_has.calls k Ao co ys _ _ _ An cn _ _ _ true _ ?side1 ?side2 ?side3 ?side4 AB.out).mono ?_); (case side1 => exact Kd.C_below (Kd.R_reads' HO.out).2.2 (My.bl_ HW)); (case side2 => exact (Kd.R_reads' HO.out).2.1); (case side3 => exact Kd.C_below HN.out (My.bl_ HW)); (case side4 => exact HNC.out); rintro e w8 ⟨rfl, hb⟩; refine ⟨_, rfl, ?_⟩; clear hqn; replace BN := My.ab BN hb; replace HW := My.st HW hb; clear hb; have hqn := My.cz6 BN))
     have hx1 := hx.out
     have hi1 := hi.out
     have hk1 := hk.out
     have hci := HCI.out
     go_roundg (l3.length - i)
     case measure => omega
     case rel => exact ⟨i + 1, x + 1, ys, by first | rfl | rw [hw], ⟨by omega⟩, ⟨by omega⟩, ⟨by omega⟩, HG, ⟨Kd.R_below HO.out (My.bl_ HW)⟩, ⟨below_step HB.out (My.bl_ HW)⟩⟩
    | false =>
     have hh := HH.out
     rw [if_neg Bool.false_ne_true] at hh
     by_cases d1 : (ys.length : Int) = 12
     ·rw [if_pos d1] at hh
      obtain ⟨rfl, rfl⟩ := Prod.mk.inj (Option.some.inj hh)
      have b1 : ((ys.length : Int) == 12) = true := beq_iff_eq.2 d1
      have b2 : decide ((ys.length : Int) = 12) = true := decide_eq_true d1
      clear hh HH
      go_wp2_with (first | ((with_reducible refine gate_callee (f := 26) rfl ?_); refine goesL_ (some 54) rfl rfl Try.func26 (by kernel_rfl) rfl #[.agg #[.int .i64 (rd_T37 l3 x).f0, .int .i64 (rd_T37 l3 x).f1.f0, .int .i64 (rd_T37 l3 x).f1.f1, .slice An (rd_T37 l3 x).f1.f2.length cn, .string (rd_T37 l3 x).f2, .int .i64 (rd_T37 l3 x).f3]] rfl My.gx ?_; (with_reducible refine (note_Check.calls k _ _ _ An cn _ _ _ 0 _ ?side1 ?side2 AE.out).mono ?_); (case side1 => exact Kd.C_below HN.out (My.bl_ HW)); (case side2 => exact HNC.out); rintro e w7 ⟨rfl, hb⟩; refine ⟨_, rfl, ?_⟩; clear hqn; replace BN := My.ab BN hb; replace HW := My.st HW hb; clear hb; have hqn := My.cz6 BN) | ((with_reducible refine gate_callee (f := 27) rfl ?_); refine goesL_ (some 59) rfl rfl Try.func27 (by kernel_rfl) rfl #[.slice Ao ys.length co, .agg #[.int .i64 (rd_T37 l3 x).f0, .int .i64 (rd_T37 l3 x).f1.f0, .int .i64 (rd_T37 l3 x).f1.f1, .slice An (rd_T37 l3 x).f1.f2.length cn, .string (rd_T37 l3 x).f2, .int .i64 (rd_T37 l3 x).f3]] rfl My.gx ?_; (with_reducible refine (outbox_has.calls k Ao co ys _ _ _ An cn _ _ _ false _ ?side1 ?side2 ?side3 ?side4 AB.out).mono ?_); (case side1 => exact Kd.C_below (Kd.R_reads' HO.out).2.2 (My.bl_ HW)); (case side2 => exact (Kd.R_reads' HO.out).2.1); (case side3 => exact Kd.C_below HN.out (My.bl_ HW)); (case side4 => exact HNC.out); rintro e w8 ⟨rfl, hb⟩; refine ⟨_, rfl, ?_⟩; clear hqn; replace BN := My.ab BN hb; replace HW := My.st HW hb; clear hb; have hqn := My.cz6 BN))
      go_ret2
      exact ⟨_, My.r2, Kd.R_nil _ _ _ _ _, below_step HB.out (My.bl_ HW)⟩
     rw [if_neg d1] at hh
     have b1 : ((ys.length : Int) == 12) = false := beq_eq_false_iff_ne.2 d1
     have b2 : decide ((ys.length : Int) = 12) = false := decide_eq_false d1
     by_cases d2 : outbox_Push.nx a1 ys > 1000000000
     ·rw [if_pos d2] at hh
      obtain ⟨rfl, rfl⟩ := Prod.mk.inj (Option.some.inj hh)
      have b3 : decide (1000000000 < outbox_Push.nx a1 ys) = true := decide_eq_true d2
      have b4 : decide (outbox_Push.nx a1 ys > 1000000000) = true := decide_eq_true d2
      clear hh HH
      go_wp2_with (first | ((with_reducible refine gate_callee (f := 26) rfl ?_); refine goesL_ (some 54) rfl rfl Try.func26 (by kernel_rfl) rfl #[.agg #[.int .i64 (rd_T37 l3 x).f0, .int .i64 (rd_T37 l3 x).f1.f0, .int .i64 (rd_T37 l3 x).f1.f1, .slice An (rd_T37 l3 x).f1.f2.length cn, .string (rd_T37 l3 x).f2, .int .i64 (rd_T37 l3 x).f3]] rfl My.gx ?_; (with_reducible refine (note_Check.calls k _ _ _ An cn _ _ _ 0 _ ?side1 ?side2 AE.out).mono ?_); (case side1 => exact Kd.C_below HN.out (My.bl_ HW)); (case side2 => exact HNC.out); rintro e w7 ⟨rfl, hb⟩; refine ⟨_, rfl, ?_⟩; clear hqn; replace BN := My.ab BN hb; replace HW := My.st HW hb; clear hb; have hqn := My.cz6 BN) | ((with_reducible refine gate_callee (f := 27) rfl ?_); refine goesL_ (some 59) rfl rfl Try.func27 (by kernel_rfl) rfl #[.slice Ao ys.length co, .agg #[.int .i64 (rd_T37 l3 x).f0, .int .i64 (rd_T37 l3 x).f1.f0, .int .i64 (rd_T37 l3 x).f1.f1, .slice An (rd_T37 l3 x).f1.f2.length cn, .string (rd_T37 l3 x).f2, .int .i64 (rd_T37 l3 x).f3]] rfl My.gx ?_; (with_reducible refine (outbox_has.calls k Ao co ys _ _ _ An cn _ _ _ false _ ?side1 ?side2 ?side3 ?side4 AB.out).mono ?_); (case side1 => exact Kd.C_below (Kd.R_reads' HO.out).2.2 (My.bl_ HW)); (case side2 => exact (Kd.R_reads' HO.out).2.1); (case side3 => exact Kd.C_below HN.out (My.bl_ HW)); (case side4 => exact HNC.out); rintro e w8 ⟨rfl, hb⟩; refine ⟨_, rfl, ?_⟩; clear hqn; replace BN := My.ab BN hb; replace HW := My.st HW hb; clear hb; have hqn := My.cz6 BN))
      go_ret2
      exact ⟨_, My.r2, Kd.R_nil _ _ _ _ _, below_step HB.out (My.bl_ HW)⟩
     rw [if_neg d2] at hh
     have b3 : decide (1000000000 < outbox_Push.nx a1 ys) = false := decide_eq_false d2
     have b4 : decide (outbox_Push.nx a1 ys > 1000000000) = false := decide_eq_false d2
     by_cases d3 : ys.length < 1000000
     rotate_left
     ·rw [if_neg d3] at hh
      cases hh
     rw [if_pos d3] at hh
     obtain ⟨cc2, hc2, hh⟩ := Option.bind_eq_some_iff.1 hh
     by_cases d4 : cc2.length < 1000000
     ·rw [if_pos d4] at hh
      have AC := My.am hc2
      have HG := My.am hh
      have D3 := My.am d3
      have D4 := My.am d4
      clear hc2 hh HH d1 d2 d3 d4
      have hw : IntKind.i64.wrap (x + 1) = x + 1 := by have := hx.out; have := hi.out; rw [IntKind.wrap_i64]; omega
      go_wp2_with (first | ((with_reducible refine gate_callee (f := 26) rfl ?_); refine goesL_ (some 54) rfl rfl Try.func26 (by kernel_rfl) rfl #[.agg #[.int .i64 (rd_T37 l3 x).f0, .int .i64 (rd_T37 l3 x).f1.f0, .int .i64 (rd_T37 l3 x).f1.f1, .slice An (rd_T37 l3 x).f1.f2.length cn, .string (rd_T37 l3 x).f2, .int .i64 (rd_T37 l3 x).f3]] rfl My.gx ?_; (with_reducible refine (note_Check.calls k _ _ _ An cn _ _ _ 0 _ ?side1 ?side2 AE.out).mono ?_); (case side1 => exact Kd.C_below HN.out (My.bl_ HW)); (case side2 => exact HNC.out); rintro e w7 ⟨rfl, hb⟩; refine ⟨_, rfl, ?_⟩; clear hqn; replace BN := My.ab BN hb; replace HW := My.st HW hb; clear hb; have hqn := My.cz6 BN) | ((with_reducible refine gate_callee (f := 27) rfl ?_); refine goesL_ (some 59) rfl rfl Try.func27 (by kernel_rfl) rfl #[.slice Ao ys.length co, .agg #[.int .i64 (rd_T37 l3 x).f0, .int .i64 (rd_T37 l3 x).f1.f0, .int .i64 (rd_T37 l3 x).f1.f1, .slice An (rd_T37 l3 x).f1.f2.length cn, .string (rd_T37 l3 x).f2, .int .i64 (rd_T37 l3 x).f3]] rfl My.gx ?_; (with_reducible refine (outbox_has.calls k Ao co ys _ _ _ An cn _ _ _ false _ ?side1 ?side2 ?side3 ?side4 AB.out).mono ?_); (case side1 => exact Kd.C_below (Kd.R_reads' HO.out).2.2 (My.bl_ HW)); (case side2 => exact (Kd.R_reads' HO.out).2.1); (case side3 => exact Kd.C_below HN.out (My.bl_ HW)); (case side4 => exact HNC.out); rintro e w8 ⟨rfl, hb⟩; refine ⟨_, rfl, ?_⟩; clear hqn; replace BN := My.ab BN hb; replace HW := My.st HW hb; clear hb; have hqn := My.cz6 BN) | ((with_reducible refine gate_callee (f := 25) rfl ?_); refine goesL_ (some 73) rfl rfl Try.func25 (by kernel_rfl) rfl #[.slice (some ⟨_, 0, none⟩) 1 1] rfl My.gx ?_; (refine (outbox_copied.calls k _ _ [⟨outbox_Push.nx a1 ys, a2, 0, rd_T37 l3 x⟩] cc2 _ ?side1 ?side2 AC.out).mono ?_); (case side1 => exact one_item ⟨outbox_Push.nx a1 ys, a2, 0, rd_T37 l3 x⟩ An cn HNC.out (Kd.C_below HN.out HW.out)); (case side2 => exact Nat.le_refl _); rintro e w9 ⟨vc, rfl, hc, hb⟩; refine ⟨_, rfl, ?_⟩; have HSZ := sz_alloc HW hb; have HC9 := My.am (Kd.R_bound (Kd.S_R hc)); replace HW := My.st HW hb; clear hb hc hqn BN; obtain ⟨Ac, cp, ec, hle, hrr⟩ := HC9.out.2.reads; subst ec; have HRR := My.am hrr; clear hle hrr) | (at_builtin; refine Kd.R_append_rows k46 (w0 := w) w.heap.size rfl _ _ 22 46 (.agg #[(.int .i64 0), (.int .i64 0), (.int .i64 0), (.int .i64 0), (.int .i64 0), (.int .i64 0), (.slice none 0 0), (.string ⟨#[]⟩), (.int .i64 0)]) 96 rfl Try.underlying22 info46 rfl (by decide) (by decide) _ ys cc2 _ _ _ (fun _ => True) _ rfl rfl (Kd.R_below HO.out HW.out) HRR.out (fun _ _ hp => k46.M_lower (Nat.le_trans (below_size HB.out) HSZ.out) hp) (fun k_ hk => ⟨trivial, fun e_ => by have h1 := Kd.R_lt HO.out k_ e_.symm; have h2 := HSZ.out; have h3 := hk.1.2.1; omega⟩) (fun _ _ => trivial) (below_step HB.out HW.out) (below_size (below_step HB.out HW.out)) (by have h1 := D3.out; have h2 := D4.out; omega) ?_; rintro v1 w1 hr1 hb1 hg1 hat1; have HO2 := My.am hr1; have HB2 := My.am hb1; clear hr1 hb1 hg1 hat1))
      have hx1 := hx.out
      have hi1 := hi.out
      have hk1 := hk.out
      have hci := HCI.out
      go_roundg (l3.length - i)
      case measure => omega
      case rel => exact ⟨i + 1, x + 1, ys ++ cc2, by first | rfl | rw [hw], ⟨by omega⟩, ⟨by omega⟩, ⟨by omega⟩, HG, HO2, HB2⟩
     rw [if_neg d4] at hh
     cases hh
/-! ### outbox_Has: function 11 -/
def outbox_Has.f (k : Nat) (l0 : List (S46)) (a1_0 : Int) (a1_1 : Int) (a1_2 : Int) (l1_3 : List (S62)) (a1_4 : ByteArray) (a1_5 : Int) : Option (Bool) := (outbox_May.f k l0).bind fun t182 => (if t182 = 0 then ((outbox_has.f k l0 a1_0 a1_1 a1_2 l1_3 a1_4 a1_5).bind fun t183 => (some t183)) else (some false))
theorem outbox_Has.mono : ∀ a0 a1 a2 a3 a4 a5 a6 k, LeO (outbox_Has.f k a0 a1 a2 a3 a4 a5 a6) (outbox_Has.f (k + 1) a0 a1 a2 a3 a4 a5 a6) := by
 intro a0 a1 a2 a3 a4 a5 a6 k
 unfold outbox_Has.f
 repeat' (with_reducible first | exact outbox_May.mono _ _ | exact outbox_has.mono _ _ _ _ _ _ _ _ | exact LeO.refl _ | exact LeO.none _ | apply LeO.ite | refine LeO.bind ?_ (fun _ => ?_))
theorem outbox_Has.calls (k : Nat) (A0 : Option Addr) (c0 : Nat) (l0 : List (S46)) (a1_0 : Int) (a1_1 : Int) (a1_2 : Int) (A1_3 : Option Addr) (c1_3 : Nat) (l1_3 : List (S62)) (a1_4 : ByteArray) (a1_5 : Int) (r : Bool) (w : World) (hr0 : Kd.C k46 w A0 l0.length l0) (hc0 : l0.length ≤ c0) (hr1_3 : Kd.C k62 w A1_3 l1_3.length l1_3) (hc1_3 : l1_3.length ≤ c1_3) (h : outbox_Has.f k l0 a1_0 a1_1 a1_2 l1_3 a1_4 a1_5 = some r) :
  Calls Try.prog 11 #[.slice A0 l0.length c0, .agg #[.int .i64 a1_0, .int .i64 a1_1, .int .i64 a1_2, .slice A1_3 l1_3.length c1_3, .string a1_4, .int .i64 a1_5]] w fun e w' => e = .returned (.bool r) ∧ Below w.heap.size w w' := by
 have hu37 := Try.underlying37
 have HR0 := My.am hr0
 have HC0 := My.am hc0
 clear hr0 hc0
 have HR1_3 := My.am hr1_3
 have HC1_3 := My.am hc1_3
 clear hr1_3 hc1_3
 have HB := My.am (Below.refl w.heap.size w)
 unfold outbox_Has.f at h
 have H := h
 clear h
 replace H := Option.bind_eq_some_iff.mp H
 obtain ⟨t182, A30, H⟩ := H
 try dsimp only at H
 have A3 := My.am A30
 clear A30
 by_cases c4 : t182 = 0
 ·rw [if_pos c4] at H
  have c4b0 : (t182 == 0) = true := beq_iff_eq.mpr c4
  have c4b1 : (t182 != 0) = false := bne_eq_false_iff_eq.mpr c4
  clear c4
  replace H := Option.bind_eq_some_iff.mp H
  obtain ⟨t183, A50, H⟩ := H
  try dsimp only at H
  have A5 := My.am A50
  clear A50
  obtain rfl := Option.some.inj H
  go_enter Try.func11, Try.ntmps11
  go_wp2_with (first | ((with_reducible refine gate_dst (N := 3) rfl ?_); refine My.bx 3 #[.int .i64 a1_0, .int .i64 a1_1, .int .i64 a1_2, .slice A1_3 l1_3.length c1_3, .string a1_4, .int .i64 a1_5] 37 ?_; intro gb181 hg w6 hbox hb; have BK181 := My.am (hbox); have GE181 := My.nge hg (My.bl_ HB); replace HB := My.st HB hb; clear hb hbox hg) | ((with_reducible refine gate_callee (f := 13) rfl ?_); refine goesL_ (some 6) rfl rfl Try.func13 (by kernel_rfl) rfl #[.slice A0 l0.length c0] rfl My.gx ?_; (with_reducible refine (outbox_May.calls k _ _ l0 t182 _ ?side1 ?side2 A3.out).mono ?_); (case side1 => exact My.sd_ HR0 HB); (case side2 => exact HC0.out); rintro e w7 ⟨rfl, hb⟩; refine ⟨_, rfl, ?_⟩; replace BK181 := My.ab BK181 hb; replace HB := My.st HB hb; (try clear hb); have hq8 := My.cz6 BK181) | (go_at_call 27; (with_reducible refine (outbox_has.calls k _ _ l0 a1_0 a1_1 a1_2 _ _ l1_3 a1_4 a1_5 t183 _ ?side1 ?side2 ?side3 ?side4 A5.out).mono ?_); (case side1 => exact My.sd_ HR0 HB); (case side2 => exact HC0.out); (case side3 => exact My.sd_ HR1_3 HB); (case side4 => exact HC1_3.out); rintro e w9 ⟨rfl, hb⟩; replace HB := My.st HB hb; (try clear hb)))
  go_ret
  exact ⟨My.r2, (My.bl_ HB)⟩
 ·rw [if_neg c4] at H
  have c4b0 : (t182 == 0) = false := beq_eq_false_iff_ne.mpr c4
  have c4b1 : (t182 != 0) = true := bne_iff_ne.mpr c4
  obtain rfl := Option.some.inj H
  go_enter Try.func11, Try.ntmps11
  go_wp2_with (first | ((with_reducible refine gate_dst (N := 3) rfl ?_); refine My.bx 3 #[.int .i64 a1_0, .int .i64 a1_1, .int .i64 a1_2, .slice A1_3 l1_3.length c1_3, .string a1_4, .int .i64 a1_5] 37 ?_; intro gb181 hg w10 hbox hb; have GE181 := My.nge hg (My.bl_ HB); replace HB := My.st HB hb; clear hb hbox hg) | ((with_reducible refine gate_callee (f := 13) rfl ?_); refine goesL_ (some 6) rfl rfl Try.func13 (by kernel_rfl) rfl #[.slice A0 l0.length c0] rfl My.gx ?_; (with_reducible refine (outbox_May.calls k _ _ l0 t182 _ ?side1 ?side2 A3.out).mono ?_); (case side1 => exact My.sd_ HR0 HB); (case side2 => exact HC0.out); rintro e w11 ⟨rfl, hb⟩; refine ⟨_, rfl, ?_⟩; replace HB := My.st HB hb; (try clear hb)))
  go_ret
  exact ⟨My.r2, (My.bl_ HB)⟩

/-! ### backoff_Delay: function 17 -/
def backoff_Delay.l0 : Nat → Int → Int → Int → Option (Int)
 | 0, _, _, _ => none
 | k + 1, x3, x6, x7 => if x7 < x6 then (backoff_Delay.l0 k (mn (wrap64 (2 * x3)) 8) x6 (wrap64 (x7 + 1))) else (some x3)
def backoff_Delay.f (k : Nat) (a0 : Int) : Option (Int) := backoff_Delay.l0 k 1 (mn (mx a0 0) 8) 0
theorem backoff_Delay.mono_l : ∀ k, (∀ y0 y1 y2, LeO (backoff_Delay.l0 k y0 y1 y2) (backoff_Delay.l0 (k + 1) y0 y1 y2))
 | 0 => fun _ _ _ r h => by simp [backoff_Delay.l0] at h
 | k + 1 => by
  have ih0 := backoff_Delay.mono_l k
  intro y0 y1 y2
  unfold backoff_Delay.l0
  repeat' (with_reducible first | exact ih0 _ _ _ | exact LeO.refl _ | exact LeO.none _ | apply LeO.ite | refine LeO.bind ?_ (fun _ => ?_))
theorem backoff_Delay.mono : ∀ a0 k, LeO (backoff_Delay.f k a0) (backoff_Delay.f (k + 1) a0) := by
 intro a0 k
 have ih0 := backoff_Delay.mono_l k
 unfold backoff_Delay.f
 repeat' (with_reducible first | exact ih0 _ _ _ | exact LeO.refl _ | exact LeO.none _ | apply LeO.ite | refine LeO.bind ?_ (fun _ => ?_))
theorem backoff_Delay.calls (k : Nat) (a0 : Int) (r : Int) (w : World) (h : backoff_Delay.f k a0 = some r) :
  Calls Try.prog 17 #[.int .i64 a0] w fun e w' => e = .returned (.int .i64 r) ∧ Below w.heap.size w w' := by
 have HB := My.am (Below.refl w.heap.size w)
 have H : (backoff_Delay.l0 k 1 (mn (mx a0 0) 8) 0) = some r := h
 clear h
 obtain ⟨ji2, hji2⟩ : ∃ j_ : Int, (mx a0 0) = j_ := ⟨_, rfl⟩
 replace H : (backoff_Delay.l0 k 1 (mn (ji2) 8) 0) = some r := by first | (rw [hji2] at H; exact H) | (simp only [hji2] at H ⊢; exact H)
 (try (have hji2l : 0 ≤ ji2 := by (rw [← hji2]; unfold mx; (repeat' split) <;> omega)))
 (try (have hji2m : 0 ≤ ji2 := by omega))
 have hji2_ : (if a0 < 0 then 0 else a0) = ji2 := hji2
 obtain ⟨ji3, hji3⟩ : ∃ j_ : Int, (mn (ji2) 8) = j_ := ⟨_, rfl⟩
 replace H : (backoff_Delay.l0 k 1 ji3 0) = some r := by first | (rw [hji3] at H; exact H) | (simp only [hji3] at H ⊢; exact H)
 have hji3_ : (if 8 < (ji2) then 8 else (ji2)) = ji3 := hji3
 have H' := My.am H
 clear H
 go_enter Try.func17, Try.ntmps17
 go_wp2
 go_loopg [3, 7] k (fun kq v3 v7 w' => ∃ (x3_1 : Int) (x7_1 : Int), v3 = .int .i64 x3_1 ∧ v7 = .int .i64 x7_1 ∧ Aside0 (backoff_Delay.l0 kq x3_1 ji3 x7_1 = some r) ∧ Aside0 (kq ≤ k) ∧ Aside0 (Below w.heap.size w w'))
 case atStart => exact ⟨(1), (0), My.r1, My.r1, H', ⟨Nat.le_refl _⟩, ⟨(My.bl_ HB)⟩⟩
 case round =>
  clear H'
  obtain ⟨x3_1, x7_1, rfl, rfl, HA, HK1, HB⟩ := hrel
  cases gk with
  | zero => exact absurd HA.out (by simp [backoff_Delay.l0])
  | succ k1 =>
   have H := HA.out
   clear HA
   simp only [backoff_Delay.l0] at H
   by_cases c4 : x7_1 < ji3
   ·rw [if_pos c4] at H
    have c4b0 := decide_eq_true c4
    clear c4
    obtain ⟨ji5, hji5⟩ : ∃ j_ : Int, (mn (wrap64 (2 * x3_1)) 8) = j_ := ⟨_, rfl⟩
    replace H : (backoff_Delay.l0 k1 ji5 ji3 (wrap64 (x7_1 + 1))) = some r := by first | (rw [hji5] at H; exact H) | (simp only [hji5] at H ⊢; exact H)
    have hji5_ : (if 8 < (wrap64 (2 * x3_1)) then 8 else (wrap64 (2 * x3_1))) = ji5 := hji5
    have H' := My.am H
    clear H
    go_wp2
    go_roundg k1
    case measure => have := HK1.out; omega
    case rel => exact ⟨(ji5), (wrap64 (x7_1 + 1)), (by first | rfl | (simp; done) | (simp only [← hji5] <;> (first | rfl | simp)) | (simp [*]; done)), My.r1, H', ⟨by have := HK1.out; omega⟩, ⟨(My.bl_ HB)⟩⟩
   rw [if_neg c4] at H
   have c4b0 := decide_eq_false c4
   clear c4
   obtain rfl := Option.some.inj H
   go_wp2
   go_ret
   exact ⟨by first | rfl | (simp [errW_none, errW_some] <;> rfl) | (simp only [← hji2, ← hji3]; first | rfl | (simp [errW_none, errW_some] <;> rfl)) | (simp [*, errW_none, errW_some] <;> rfl), (My.bl_ HB)⟩

/-! ### backoff_Next: function 32 -/
def backoff_Next.f (k : Nat) (a0 : Int) (a1 : Int) : Option (Int × Int) := if a0 < 0 then (some (0, 110)) else (if a0 > 1000000000 then (some (0, 110)) else ((backoff_Delay.f k a1).bind fun t184 => (some (wrap64 (a0 + t184), 0))))
theorem backoff_Next.mono : ∀ a0 a1 k, LeO (backoff_Next.f k a0 a1) (backoff_Next.f (k + 1) a0 a1) := by
 intro a0 a1 k
 unfold backoff_Next.f
 repeat' (with_reducible first | exact backoff_Delay.mono _ _ | exact LeO.refl _ | exact LeO.none _ | apply LeO.ite | refine LeO.bind ?_ (fun _ => ?_))
theorem backoff_Next.calls (k : Nat) (a0 : Int) (a1 : Int) (r1 : Int) (r2 : Int) (w : World) (h : backoff_Next.f k a0 a1 = some (r1, r2)) :
  Calls Try.prog 32 #[.int .i64 a0, .int .i64 a1] w fun e w' => e = .returned (.tuple #[.int .i64 r1, .int .i64 r2]) ∧ Below w.heap.size w w' := by
 have HB := My.am (Below.refl w.heap.size w)
 unfold backoff_Next.f at h
 have H := h
 clear h
 by_cases c3 : a0 < 0
 ·rw [if_pos c3] at H
  have c3b0 := decide_eq_true c3
  clear c3
  simp only [Option.some.injEq, Prod.mk.injEq] at H
  obtain ⟨rfl, rfl⟩ := H
  go_enter Try.func32, Try.ntmps32
  go_wp2
  go_ret2
  exact ⟨My.r2, (My.bl_ HB)⟩
 ·rw [if_neg c3] at H
  have c3b0 := decide_eq_false c3
  clear c3
  by_cases c4 : a0 > 1000000000
  ·rw [if_pos c4] at H
   have c4b0 : decide (1000000000 < a0) = true := decide_eq_true c4
   clear c4
   simp only [Option.some.injEq, Prod.mk.injEq] at H
   obtain ⟨rfl, rfl⟩ := H
   go_enter Try.func32, Try.ntmps32
   go_wp2
   go_ret2
   exact ⟨My.r2, (My.bl_ HB)⟩
  rw [if_neg c4] at H
  have c4b0 : decide (1000000000 < a0) = false := decide_eq_false c4
  clear c4
  replace H := Option.bind_eq_some_iff.mp H
  obtain ⟨t184, A50, H⟩ := H
  try dsimp only at H
  have A5 := My.am A50
  clear A50
  simp only [Option.some.injEq, Prod.mk.injEq] at H
  obtain ⟨rfl, rfl⟩ := H
  go_enter Try.func32, Try.ntmps32
  go_wp2_with (first | ((with_reducible refine gate_callee (f := 17) rfl ?_); refine goesL_ (some 14) rfl rfl Try.func17 (by kernel_rfl) rfl #[.int .i64 a1] rfl My.gx ?_; (with_reducible refine (backoff_Delay.calls k a1 t184 _ A5.out).mono ?_); rintro e w6 ⟨rfl, hb⟩; refine ⟨_, rfl, ?_⟩; replace HB := My.st HB hb; (try clear hb)))
  go_ret2
  exact ⟨My.r2, (My.bl_ HB)⟩

end Go.Proofs.Ytcgmoeiknkdljaa.PA
