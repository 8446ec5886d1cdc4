-- Written by a program of this session (wip/tools/mp.py over the kit's printer); Lean checks it.
import Derived.Test.YtcgmoeiknkdljaaPAx0
import Derived.Test.YtcgmoeiknkdljaaPAx7
import Derived.Test.YtcgmoeiknkdljaaPAx8
import Derived.Test.YtcgmoeiknkdljaaPAx15
import Derived.Test.YtcgmoeiknkdljaaPAx16
namespace Go.Proofs.Ytcgmoeiknkdljaa.PA
open Go.RowKit Go.Proofs.YtcgmoeiknkdljaaW.PrintWords Go.Proofs.YtcgmoeiknkdljaaW.PrintLast Go.Proofs.YtcgmoeiknkdljaaW.PrintMore
attribute [local go_sem] max2_int min2_int max_two min_two max_three min_three max_four min_four   -- for this text's walks alone
set_option linter.unusedVariables false
set_option maxHeartbeats 8000000
set_option maxRecDepth 100000
set_option linter.unusedSimpArgs false

/-! ### ententeref19_Answered: function 20 -/
mutual
def ententeref19_Answered.l0 : Nat → List (S46) → Int → List (S46) → Int → Option ((List (S46)))
 | 0, _, _, _, _ => none
 | k + 1, x0, x1, x5, x6 => if x6 < (x0.length : Int) then ((ententeref19_May.f k x0).bind fun t369 => (ententeref19_Answered.j1 k x0 x1 x5 x6 (t369 == 0))) else (ententeref19_Answered.j1 k x0 x1 x5 x6 false)
def ententeref19_Answered.j1 : Nat → List (S46) → Int → List (S46) → Int → Bool → Option ((List (S46)))
 | 0, _, _, _, _, _ => none
 | k + 1, x0, x1, x5, x6, x15 => if x15 = true then (if 0 ≤ x6 then (if x6 < (x0.length : Int) then (if ((rd_T46 x0 x6).f0) > x1 then (if x5.length < 1466015503701 then (ententeref19_Answered.l0 k x0 x1 (x5 ++ [(⟨(rd_T46 x0 x6).f0, (rd_T46 x0 x6).f1, (rd_T46 x0 x6).f2, (⟨(rd_T46 x0 x6).f3.f0, (⟨(rd_T46 x0 x6).f3.f1.f0, (rd_T46 x0 x6).f3.f1.f1, (rd_T46 x0 x6).f3.f1.f2⟩ : S35), (rd_T46 x0 x6).f3.f2, (rd_T46 x0 x6).f3.f3⟩ : S37)⟩ : S46)]) (wrap64 (x6 + 1))) else (none)) else (ententeref19_Answered.l0 k x0 x1 x5 (wrap64 (x6 + 1)))) else (none)) else (none)) else (some x5)
end
def ententeref19_Answered.f (k : Nat) (l0 : List (S46)) (a1 : Int) : Option ((List (S46))) := ententeref19_Answered.l0 k l0 a1 ([] : List (S46)) 0
theorem ententeref19_Answered.mono_l : ∀ k, (∀ y0 y1 y2 y3, LeO (ententeref19_Answered.l0 k y0 y1 y2 y3) (ententeref19_Answered.l0 (k + 1) y0 y1 y2 y3)) ∧ (∀ y0 y1 y2 y3 y4, LeO (ententeref19_Answered.j1 k y0 y1 y2 y3 y4) (ententeref19_Answered.j1 (k + 1) y0 y1 y2 y3 y4))
 | 0 => ⟨fun _ _ _ _ r h => by simp [ententeref19_Answered.l0] at h, fun _ _ _ _ _ r h => by simp [ententeref19_Answered.j1] at h⟩
 | k + 1 => by
  obtain ⟨ih0, ih1⟩ := ententeref19_Answered.mono_l k
  refine ⟨?_, ?_⟩
  ·intro y0 y1 y2 y3
   unfold ententeref19_Answered.l0
   repeat' (with_reducible first | exact ih0 _ _ _ _ | exact ih1 _ _ _ _ _ | exact ententeref19_May.mono _ _ | exact LeO.refl _ | exact LeO.none _ | apply LeO.ite | refine LeO.bind ?_ (fun _ => ?_))
  intro y0 y1 y2 y3 y4
  unfold ententeref19_Answered.j1
  repeat' (with_reducible first | exact ih0 _ _ _ _ | exact ih1 _ _ _ _ _ | exact ententeref19_May.mono _ _ | exact LeO.refl _ | exact LeO.none _ | apply LeO.ite | refine LeO.bind ?_ (fun _ => ?_))
theorem ententeref19_Answered.mono : ∀ a0 a1 k, LeO (ententeref19_Answered.f k a0 a1) (ententeref19_Answered.f (k + 1) a0 a1) := by
 intro a0 a1 k
 obtain ⟨ih0, ih1⟩ := ententeref19_Answered.mono_l k
 unfold ententeref19_Answered.f
 repeat' (with_reducible first | exact ih0 _ _ _ _ | exact ih1 _ _ _ _ _ | exact ententeref19_May.mono _ _ | exact LeO.refl _ | exact LeO.none _ | apply LeO.ite | refine LeO.bind ?_ (fun _ => ?_))
theorem ententeref19_Answered.calls (k : Nat) (P0_ : Nat → Prop) (A0 : Option Addr) (c0 : Nat) (l0 : List (S46)) (a1 : Int) (r : List (S46)) (w : World) (hs0 : Kd.V k46 46 w w.heap.size (fun k_ => P0_ k_) (.slice A0 l0.length c0) l0) (h : ententeref19_Answered.f k l0 a1 = some r) :
  Calls Try.prog 20 #[.slice A0 l0.length c0, .int .i64 a1] w fun e w' => ∃ v0_ : Value, e = .returned (v0_) ∧ Kd.N k46 46 w' w.heap.size (fun k_ => (P0_ k_ ∨ w.heap.size ≤ k_)) v0_ r ∧ Below w.heap.size w w' := by
 have hu46 := Try.underlying46
 have HO0 := My.am (show Kd.V k46 46 w w.heap.size (fun k_ => (P0_ k_ ∨ w.heap.size ≤ k_)) (.slice A0 l0.length c0) l0 from Kd.V_mono hs0 (fun k_ hk => .inl hk))
 have HB := My.am (Below.refl w.heap.size w)
 unfold ententeref19_Answered.f at h
 have H := h
 clear h
 have H' := My.am H
 clear H
 go_enter Try.func20, Try.ntmps20
 go_wp2
 go_loopg [5, 6] k (fun kq v5 v6 w' => ∃ (x5_1 : List (S46)) (x6_1 : Int), v6 = .int .i64 x6_1 ∧ Aside0 (ententeref19_Answered.l0 kq l0 a1 x5_1 x6_1 = some r) ∧ Aside0 (kq ≤ k) ∧ Aside0 (Kd.V k46 46 w' w.heap.size (fun k_ => (P0_ k_ ∨ w.heap.size ≤ k_) ∧ some k_ ≠ (v5 : Value).ownBlock) (.slice A0 l0.length c0) l0) ∧ Aside0 (Kd.N k46 46 w' w.heap.size (fun k_ => (P0_ k_ ∨ w.heap.size ≤ k_)) v5 x5_1) ∧ Aside0 (Below w.heap.size w w'))
 case atStart => exact ⟨(([] : List (S46))), (0), My.r1, H', ⟨Nat.le_refl _⟩, ⟨My.dV (Kd.V_mono HO0.out (fun _ hk => ⟨hk, (by simp [Value.ownBlock])⟩))⟩, ⟨by first | exact Kd.S_nil _ _ _ _ _ | exact Kd.N_nil _ _ _ _ _ | exact Kd.V_nil _ _ _ _ _ | exact Kd.Q_nil _ _ _ _ _ | exact Kd.R_nil _ _ _ _ _⟩, ⟨(My.bl_ HB)⟩⟩
 case round =>
  clear H'
  obtain ⟨x5_1, x6_1, rfl, HA, HK1, HO_0, HO_5, HB⟩ := hrel
  cases gk with
  | zero => exact absurd HA.out (by simp [ententeref19_Answered.l0])
  | succ k1 =>
   have H := HA.out
   clear HA
   simp only [ententeref19_Answered.l0] at H
   have HC3 := My.am H
   clear H
   go_upto_region 3 with (fail)
   go_cut [15] (fun v15 wc => ∃ (kq : Nat) (x15_2 : Bool), v15 = .bool x15_2 ∧ Aside0 (ententeref19_Answered.j1 kq l0 a1 x5_1 x6_1 x15_2 = some r) ∧ Aside0 (kq ≤ k1) ∧ Aside0 (Kd.V k46 46 wc w.heap.size (fun k_ => (P0_ k_ ∨ w.heap.size ≤ k_) ∧ some k_ ≠ (u5 : Value).ownBlock) (.slice A0 l0.length c0) l0) ∧ Aside0 (Kd.N k46 46 wc w.heap.size (fun k_ => (P0_ k_ ∨ w.heap.size ≤ k_)) u5 x5_1) ∧ Aside0 (Below w.heap.size w wc))
   case first =>
    have H := HC3.out
    clear HC3
    by_cases c4 : x6_1 < (l0.length : Int)
    ·rw [if_pos c4] at H
     have c4b0 := decide_eq_true c4
     clear c4
     (first | rw [c4b0] | (simp only [i64_w, i32_w]; rw [c4b0]) | skip)
     replace H := Option.bind_eq_some_iff.mp H
     obtain ⟨t369, A50, H⟩ := H
     try dsimp only at H
     have A5 := My.am A50
     clear A50
     have H' := My.am H
     clear H
     go_wp2_with (first | (go_at_call 14; (with_reducible refine (ententeref19_May.calls k1 _ _ l0 t369 _ ?side1 ?side2 A5.out).mono ?_); (case side1 => repeat (first | exact (Kd.V_reads' HO_0.out).2.2 | (with_reducible refine Kd.C_alloc ?_ _) | (with_reducible refine Kd.C_drewN ?_ _) | (with_reducible refine Kd.C_drew ?_))); (case side2 => exact (Kd.V_reads' HO_0.out).2.1); rintro e w6 ⟨rfl, hb⟩; replace HO_0 := My.am (Kd.V_below (My.dV HO_0.out) hb); replace HO_5 := My.am (Kd.N_below (by (with_reducible repeat (first | apply Kd.N_alloc | apply Kd.N_drewN | apply Kd.N_drew)); exact HO_5.out) hb); replace HB := My.st HB hb; (try clear hb)))
     go_meet
     case rel => exact ⟨_, ((t369 == 0)), My.r1, H', ⟨by have := HK1.out; first | omega | exact Nat.le_refl _⟩, ⟨My.dV HO_0.out⟩, ⟨by (with_reducible repeat (first | apply Kd.N_alloc | apply Kd.N_drewN | apply Kd.N_drew)); exact HO_5.out⟩, ⟨(My.bl_ HB)⟩⟩
    rw [if_neg c4] at H
    have c4b0 := decide_eq_false c4
    clear c4
    (first | rw [c4b0] | (simp only [i64_w, i32_w]; rw [c4b0]) | skip)
    have H' := My.am H
    clear H
    go_wp2
    go_meet
    case rel => exact ⟨_, (false), My.r1, H', ⟨by have := HK1.out; first | omega | exact Nat.le_refl _⟩, ⟨My.dV HO_0.out⟩, ⟨by (with_reducible repeat (first | apply Kd.N_alloc | apply Kd.N_drewN | apply Kd.N_drew)); exact HO_5.out⟩, ⟨(My.bl_ HB)⟩⟩
   case rest =>
    clear HC3
    obtain ⟨kq, x15_2, rfl, HA, HJ2, HO_0, HO_5, HB⟩ := hcut
    cases kq with
    | zero => exact absurd HA.out (by simp [ententeref19_Answered.j1])
    | succ kj2 =>
     have H := HA.out
     clear HA
     simp only [ententeref19_Answered.j1] at H
     by_cases c7 : x15_2 = true
     rotate_left
     ·replace c7 := Bool.eq_false_iff.mpr c7
      subst c7
      rw [if_neg (show ¬ (false = true) by decide)] at H
      obtain rfl := Option.some.inj H
      go_wp2
      go_ret
      exact ⟨_, My.r2, by (with_reducible repeat (first | apply Kd.N_alloc | apply Kd.N_drewN | apply Kd.N_drew)); exact HO_5.out, (My.bl_ HB)⟩

     subst c7
     rw [if_pos rfl] at H
     replace H := My.ds H
     obtain ⟨c8b0, H⟩ := H
     replace H := My.ds H
     obtain ⟨c9b0, H⟩ := H
     by_cases c10 : ((rd_T46 l0 x6_1).f0) > a1
     rotate_left
     ·rw [if_neg c10] at H
      have c10b0 : decide (a1 < ((rd_T46 l0 x6_1).f0)) = false := decide_eq_false c10
      clear c10
      have H' := My.am H
      clear H
      have p370 : 0 ≤ (x6_1 : Int) := My.as_
      have q370 : x6_1 < (l0.length : Int) := My.as_
      obtain ⟨ad370, A370_6, c370_6, e370, hx370_0, hx370_1, hx370_2, hx370_3, hx370_4, hx370_5, hx370_6, hx370_7, hx370_8, hl370_6, hi370_6⟩ := at_T46 (Kd.V_reads' HO_0.out).2.2 x6_1 p370 q370
      cases e370
      obtain ⟨ce370, hce370, hMe370, hcc370⟩ := Kd.V_get HO_0.out z46 x6_1 p370 (by first | exact q370 | exact My.as_ | (have e_ := (Kd.V_reads' HO_0.out).1; omega))
      obtain ⟨ua370_6, uc370_6, rfl, ul370_6, ge370_6⟩ := k46_openF hMe370
      have hv370_6 := hcc370 6 _ rfl
      rw [add_field _ _ 6 (by omega)] at hv370_6
      replace hv370_6 := Option.some.inj (hv370_6.symm.trans hx370_6)
      injection hv370_6 with hva_ hvn_ hvc_
      rw [hva_] at ge370_6
      rw [hvc_] at ul370_6
      have HL370_6 := My.am (show Kd.V k62 62 _ w.heap.size _ _ ((rd_T46 l0 x6_1).f3.f1.f2) from Kd.V_mk ul370_6 ge370_6)
      clear hva_ hvn_ hvc_ ge370_6 ul370_6
      clear hcc370 hce370
      have HR370_6 := My.am hi370_6
      have HC370_6 := My.am hl370_6
      clear hi370_6 hl370_6
      replace p370 := eq_true p370
      replace q370 := eq_true q370
      go_wp2
      go_roundg kj2
      case measure => have := HK1.out; have := HJ2.out; omega
      case rel => exact ⟨(x5_1), (wrap64 (x6_1 + 1)), My.r1, H', ⟨by have := HK1.out; have := HJ2.out; omega⟩, ⟨My.dV HO_0.out⟩, ⟨by (with_reducible repeat (first | apply Kd.N_alloc | apply Kd.N_drewN | apply Kd.N_drew)); exact HO_5.out⟩, ⟨(My.bl_ HB)⟩⟩
     rw [if_pos c10] at H
     have c10b0 : decide (a1 < ((rd_T46 l0 x6_1).f0)) = true := decide_eq_true c10
     clear c10
     by_cases c11 : x5_1.length < 1466015503701
     rotate_left
     ·exact My.nn c11 H
     rw [if_pos c11] at H
     have LMc11 := My.am c11
     clear c11
     obtain ⟨y372, hy372⟩ : ∃ y_ : List (S46), y_ = (x5_1 ++ [(⟨(rd_T46 l0 x6_1).f0, (rd_T46 l0 x6_1).f1, (rd_T46 l0 x6_1).f2, (⟨(rd_T46 l0 x6_1).f3.f0, (⟨(rd_T46 l0 x6_1).f3.f1.f0, (rd_T46 l0 x6_1).f3.f1.f1, (rd_T46 l0 x6_1).f3.f1.f2⟩ : S35), (rd_T46 l0 x6_1).f3.f2, (rd_T46 l0 x6_1).f3.f3⟩ : S37)⟩ : S46)]) := ⟨_, rfl⟩
     replace H : (ententeref19_Answered.l0 kj2 l0 a1 y372 (wrap64 (x6_1 + 1))) = some r := by first | (rw [hy372]; with_reducible exact H) | (have H2_ := (Option.bind_some _ _).symm.trans H; rw [hy372]; with_reducible exact H2_) | (have H2_ := (Option.bind_some _ _).symm.trans H; with_reducible exact H2_) | with_reducible exact H | (rw [hy372]; exact H) | exact H
     have Ny372 := My.am hy372
     clear hy372
     have H' := My.am H
     clear H
     have p370 : 0 ≤ (x6_1 : Int) := My.as_
     have q370 : x6_1 < (l0.length : Int) := My.as_
     obtain ⟨ad370, A370_6, c370_6, e370, hx370_0, hx370_1, hx370_2, hx370_3, hx370_4, hx370_5, hx370_6, hx370_7, hx370_8, hl370_6, hi370_6⟩ := at_T46 (Kd.V_reads' HO_0.out).2.2 x6_1 p370 q370
     cases e370
     obtain ⟨ce370, hce370, hMe370, hcc370⟩ := Kd.V_get HO_0.out z46 x6_1 p370 (by first | exact q370 | exact My.as_ | (have e_ := (Kd.V_reads' HO_0.out).1; omega))
     obtain ⟨ua370_6, uc370_6, rfl, ul370_6, ge370_6⟩ := k46_openF hMe370
     have hv370_6 := hcc370 6 _ rfl
     rw [add_field _ _ 6 (by omega)] at hv370_6
     replace hv370_6 := Option.some.inj (hv370_6.symm.trans hx370_6)
     injection hv370_6 with hva_ hvn_ hvc_
     rw [hva_] at ge370_6
     rw [hvc_] at ul370_6
     have HL370_6 := My.am (show Kd.V k62 62 _ w.heap.size _ _ ((rd_T46 l0 x6_1).f3.f1.f2) from Kd.V_mk ul370_6 ge370_6)
     clear hva_ hvn_ hvc_ ge370_6 ul370_6
     clear hcc370 hce370
     have HR370_6 := My.am hi370_6
     have HC370_6 := My.am hl370_6
     clear hi370_6 hl370_6
     replace p370 := eq_true p370
     replace q370 := eq_true q370
     have p371 : 0 ≤ (x6_1 : Int) := My.as_
     have q371 : x6_1 < (l0.length : Int) := My.as_
     obtain ⟨ad371, A371_6, c371_6, e371, hx371_0, hx371_1, hx371_2, hx371_3, hx371_4, hx371_5, hx371_6, hx371_7, hx371_8, hl371_6, hi371_6⟩ := at_T46 (Kd.V_reads' HO_0.out).2.2 x6_1 p371 q371
     obtain rfl : ad370 = ad371 := (by injection e371)
     obtain ⟨ce371, hce371, hMe371, hcc371⟩ := Kd.V_get HO_0.out z46 x6_1 p371 (by first | exact q371 | exact My.as_ | (have e_ := (Kd.V_reads' HO_0.out).1; omega))
     obtain ⟨ua371_6, uc371_6, rfl, ul371_6, ge371_6⟩ := k46_openF hMe371
     have hv371_6 := hcc371 6 _ rfl
     rw [add_field _ _ 6 (by omega)] at hv371_6
     replace hv371_6 := Option.some.inj (hv371_6.symm.trans hx371_6)
     injection hv371_6 with hva_ hvn_ hvc_
     rw [hva_] at ge371_6
     rw [hvc_] at ul371_6
     have HL371_6 := My.am (show Kd.V k62 62 _ w.heap.size _ _ ((rd_T46 l0 x6_1).f3.f1.f2) from Kd.V_mk ul371_6 ge371_6)
     clear hva_ hvn_ hvc_ ge371_6 ul371_6
     clear hcc371 hce371
     have HR371_6 := My.am hi371_6
     have HC371_6 := My.am hl371_6
     clear hi371_6 hl371_6
     replace p371 := eq_true p371
     replace q371 := eq_true q371
     have ea_ := Option.some.inj (hx370_6.symm.trans hx371_6)
     injection ea_ with ea_ en_ ec_
     subst ea_
     subst ec_
     clear en_
     go_wp2_with (first | ((with_reducible refine gate_builtin (b := .append) (xs := #[.tmp 25, .tmp 30]) rfl ?_); at_builtin; refine Kd.N_append k46 (w0 := w) w.heap.size rfl (.tmp 25) (.tmp 30) 22 46 (.agg #[(.int .i64 0), (.int .i64 0), (.int .i64 0), (.int .i64 0), (.int .i64 0), (.int .i64 0), (.slice none 0 0), (.string ⟨#[]⟩), (.int .i64 0)]) 96 rfl Try.underlying22 info46 rfl (by decide) (by omega) u5 x5_1 (⟨(rd_T46 l0 x6_1).f0, (rd_T46 l0 x6_1).f1, (rd_T46 l0 x6_1).f2, (⟨(rd_T46 l0 x6_1).f3.f0, (⟨(rd_T46 l0 x6_1).f3.f1.f0, (rd_T46 l0 x6_1).f3.f1.f1, (rd_T46 l0 x6_1).f3.f1.f2⟩ : S35), (rd_T46 l0 x6_1).f3.f2, (rd_T46 l0 x6_1).f3.f3⟩ : S37)⟩ : S46) [.int .i64 ((rd_T46 l0 x6_1).f0), .int .i64 ((rd_T46 l0 x6_1).f1), .int .i64 ((rd_T46 l0 x6_1).f2), .int .i64 ((rd_T46 l0 x6_1).f3.f0), .int .i64 ((rd_T46 l0 x6_1).f3.f1.f0), .int .i64 ((rd_T46 l0 x6_1).f3.f1.f1), .slice A370_6 ((rd_T46 l0 x6_1).f3.f1.f2).length c370_6, .string ((rd_T46 l0 x6_1).f3.f2), .int .i64 ((rd_T46 l0 x6_1).f3.f3)] (fun k_ => (P0_ k_ ∨ w.heap.size ≤ k_)) (fun k_ => ((fun k_ => (P0_ k_ ∨ w.heap.size ≤ k_))) k_ ∧ some k_ ≠ (u5 : Value).ownBlock) rfl rfl ?aP (fun _ hk => hk) ?aF ?aO ?aB ?aS ?aL ?_; (case aP => exact (k46_mkF _ _ (⟨(rd_T46 l0 x6_1).f0, (rd_T46 l0 x6_1).f1, (rd_T46 l0 x6_1).f2, (⟨(rd_T46 l0 x6_1).f3.f0, (⟨(rd_T46 l0 x6_1).f3.f1.f0, (rd_T46 l0 x6_1).f3.f1.f1, (rd_T46 l0 x6_1).f3.f1.f2⟩ : S35), (rd_T46 l0 x6_1).f3.f2, (rd_T46 l0 x6_1).f3.f3⟩ : S37)⟩ : S46) (Kd.V_reads' (Kd.V_mono (ok' := (fun k_ => ((fun k_ => (P0_ k_ ∨ w.heap.size ≤ k_))) k_ ∧ some k_ ≠ (u5 : Value).ownBlock)) (HL371_6.out) (fun k_ hk => ⟨hk.1, hk.2⟩))).2.1 (Kd.V_F (Kd.V_mono (ok' := (fun k_ => ((fun k_ => (P0_ k_ ∨ w.heap.size ≤ k_))) k_ ∧ some k_ ≠ (u5 : Value).ownBlock)) (HL371_6.out) (fun k_ hk => ⟨hk.1, hk.2⟩))))); (case aB => exact (My.bl_ HB)); (case aF => exact (fun k_ hk => (.inr (Nat.le_trans (below_size (My.bl_ HB)) hk)))); (case aO => exact (by (with_reducible repeat (first | apply Kd.N_alloc | apply Kd.N_drewN | apply Kd.N_drew)); exact HO_5.out)); (case aS => exact (below_size (My.bl_ HB))); (case aL => have := LMc11.out; omega); intro v373 w12 ho hb hg hat; rw [← Ny372.out] at ho; replace HO_0 := My.am (Kd.V_afterv (ok := (fun k_ => (P0_ k_ ∨ w.heap.size ≤ k_))) (My.dV HO_0.out) hg hat); replace HL370_6 := My.am (Kd.V_afterv (ok := (fun k_ => (P0_ k_ ∨ w.heap.size ≤ k_))) (My.dV HL370_6.out) hg hat); replace HL371_6 := My.am (Kd.V_afterv (ok := (fun k_ => (P0_ k_ ∨ w.heap.size ≤ k_))) (My.dV HL371_6.out) hg hat); replace HB := My.am (hb); have HO374 := My.am (ho); (try clear HO_5); clear ho hb hg hat))
     go_roundg kj2
     case measure => have := HK1.out; have := HJ2.out; omega
     case rel => exact ⟨(y372), (wrap64 (x6_1 + 1)), My.r1, H', ⟨by have := HK1.out; have := HJ2.out; omega⟩, ⟨My.dV HO_0.out⟩, ⟨by (with_reducible repeat (first | apply Kd.N_alloc | apply Kd.N_drewN | apply Kd.N_drew)); exact HO374.out⟩, ⟨(My.bl_ HB)⟩⟩
/-! ### outbox_Anew: function 21 -/
mutual
def outbox_Anew.j0 : Nat → List (S46) → Int → Bool → Option ((List (S46)))
 | 0, _, _, _ => none
 | k + 1, x0, x1, x14 => if x14 = true then (some ([] : List (S46))) else ((outbox_copied.f k x0).bind fun t377 => (outbox_Anew.l0 k x1 t377 (t377.length : Int) 0))
def outbox_Anew.l0 : Nat → Int → List (S46) → Int → Int → Option ((List (S46)))
 | 0, _, _, _, _ => none
 | k + 1, x1, x5, x18, x19 => if x19 < x18 then (if 0 ≤ x19 then (if x19 < (x5.length : Int) then ((some (x5.set (x19 : Int).toNat (⟨wrap64 (x19 + 1), (rd_T46 x5 x19).f1, (rd_T46 x5 x19).f2, (⟨(rd_T46 x5 x19).f3.f0, (⟨(rd_T46 x5 x19).f3.f1.f0, (rd_T46 x5 x19).f3.f1.f1, (rd_T46 x5 x19).f3.f1.f2⟩ : S35), (rd_T46 x5 x19).f3.f2, (rd_T46 x5 x19).f3.f3⟩ : S37)⟩ : S46) : List (S46))).bind fun y380 => ((some (y380.set (x19 : Int).toNat (⟨(rd_T46 y380 x19).f0, x1, (rd_T46 y380 x19).f2, (⟨(rd_T46 y380 x19).f3.f0, (⟨(rd_T46 y380 x19).f3.f1.f0, (rd_T46 y380 x19).f3.f1.f1, (rd_T46 y380 x19).f3.f1.f2⟩ : S35), (rd_T46 y380 x19).f3.f2, (rd_T46 y380 x19).f3.f3⟩ : S37)⟩ : S46) : List (S46))).bind fun y381 => (outbox_Anew.l0 k x1 (y381.set (x19 : Int).toNat (⟨(rd_T46 y381 x19).f0, (rd_T46 y381 x19).f1, 0, (⟨(rd_T46 y381 x19).f3.f0, (⟨(rd_T46 y381 x19).f3.f1.f0, (rd_T46 y381 x19).f3.f1.f1, (rd_T46 y381 x19).f3.f1.f2⟩ : S35), (rd_T46 y381 x19).f3.f2, (rd_T46 y381 x19).f3.f3⟩ : S37)⟩ : S46)) x18 (wrap64 (x19 + 1))))) else (none)) else (none)) else (some x5)
end
def outbox_Anew.f (k : Nat) (l0 : List (S46)) (a1 : Int) : Option ((List (S46))) := (outbox_May.f k l0).bind fun t375 => (if t375 = 0 then ((outbox_time.f a1).bind fun t376 => (outbox_Anew.j0 k l0 a1 (!t376))) else (outbox_Anew.j0 k l0 a1 true))
theorem outbox_Anew.mono_l : ∀ k, (∀ y0 y1 y2, LeO (outbox_Anew.j0 k y0 y1 y2) (outbox_Anew.j0 (k + 1) y0 y1 y2)) ∧ (∀ y0 y1 y2 y3, LeO (outbox_Anew.l0 k y0 y1 y2 y3) (outbox_Anew.l0 (k + 1) y0 y1 y2 y3))
 | 0 => ⟨fun _ _ _ r h => by simp [outbox_Anew.j0] at h, fun _ _ _ _ r h => by simp [outbox_Anew.l0] at h⟩
 | k + 1 => by
  obtain ⟨ih0, ih1⟩ := outbox_Anew.mono_l k
  refine ⟨?_, ?_⟩
  ·intro y0 y1 y2
   unfold outbox_Anew.j0
   repeat' (with_reducible first | exact ih0 _ _ _ | exact ih1 _ _ _ _ | exact outbox_May.mono _ _ | exact outbox_copied.mono _ _ | exact LeO.refl _ | exact LeO.none _ | apply LeO.ite | refine LeO.bind ?_ (fun _ => ?_))
  intro y0 y1 y2 y3
  unfold outbox_Anew.l0
  repeat' (with_reducible first | exact ih0 _ _ _ | exact ih1 _ _ _ _ | exact outbox_May.mono _ _ | exact outbox_copied.mono _ _ | exact LeO.refl _ | exact LeO.none _ | apply LeO.ite | refine LeO.bind ?_ (fun _ => ?_))
theorem outbox_Anew.mono : ∀ a0 a1 k, LeO (outbox_Anew.f k a0 a1) (outbox_Anew.f (k + 1) a0 a1) := by
 intro a0 a1 k
 obtain ⟨ih0, ih1⟩ := outbox_Anew.mono_l k
 unfold outbox_Anew.f
 repeat' (with_reducible first | exact ih0 _ _ _ | exact ih1 _ _ _ _ | exact outbox_May.mono _ _ | exact outbox_copied.mono _ _ | exact LeO.refl _ | exact LeO.none _ | apply LeO.ite | refine LeO.bind ?_ (fun _ => ?_))
theorem outbox_Anew.calls (k : Nat) (A0 : Option Addr) (c0 : Nat) (l0 : List (S46)) (a1 : Int) (r : List (S46)) (w : World) (hr0 : Kd.C k46 w A0 l0.length l0) (hc0 : l0.length ≤ c0) (h : outbox_Anew.f k l0 a1 = some r) :
  Calls Try.prog 21 #[.slice A0 l0.length c0, .int .i64 a1] w fun e w' => ∃ v0_ : Value, e = .returned (v0_) ∧ Kd.S k46 46 w' w.heap.size (fun _ => True) v0_ r ∧ Below w.heap.size w w' := by
 have HR0 := My.am hr0
 have HC0 := My.am hc0
 clear hr0 hc0
 have HB := My.am (Below.refl w.heap.size w)
 unfold outbox_Anew.f at h
 have H := h
 clear h
 have HC3 := My.am H
 clear H
 go_enter Try.func21, Try.ntmps21
 go_upto_region 1 with (fail)
 go_cut [14] (fun v14 wc => ∃ (kq : Nat) (x14_2 : Bool), v14 = .bool x14_2 ∧ Aside0 (outbox_Anew.j0 kq l0 a1 x14_2 = some r) ∧ Aside0 (kq ≤ k) ∧ Aside0 (Below w.heap.size w wc))
 case first =>
  have H := HC3.out
  clear HC3
  replace H := Option.bind_eq_some_iff.mp H
  obtain ⟨t375, A40, H⟩ := H
  try dsimp only at H
  have A4 := My.am A40
  clear A40
  by_cases c5 : t375 = 0
  ·rw [if_pos c5] at H
   have c5b0 : (t375 == 0) = true := beq_iff_eq.mpr c5
   have c5b1 : (t375 != 0) = false := bne_eq_false_iff_eq.mpr c5
   clear c5
   (first | rw [c5b0] | (simp only [i64_w, i32_w]; rw [c5b0]) | skip)
   replace H := Option.bind_eq_some_iff.mp H
   obtain ⟨t376, A60, H⟩ := H
   try dsimp only at H
   have A6 := My.am A60
   clear A60
   have H' := My.am H
   clear H
   go_wp2_with (first | ((with_reducible refine gate_callee (f := 13) rfl ?_); refine goesL_ (some 8) rfl rfl Try.func13 (by kernel_rfl) rfl #[.slice A0 l0.length c0] rfl My.gx ?_; (with_reducible refine (outbox_May.calls k _ _ l0 t375 _ ?side1 ?side2 A4.out).mono ?_); (case side1 => exact My.sd_ HR0 HB); (case side2 => exact HC0.out); rintro e w7 ⟨rfl, hb⟩; refine ⟨_, rfl, ?_⟩; replace HB := My.st HB hb; (try clear hb)) | (go_at_call 24; (with_reducible refine (outbox_time.calls a1 t376 _ A6.out).mono ?_); rintro e w' ⟨rfl, ⟨nd, rfl⟩⟩))
   go_meet
   case rel => exact ⟨_, (!t376), My.r1, H', ⟨My.r4⟩, ⟨(My.bl_ HB)⟩⟩
  ·rw [if_neg c5] at H
   have c5b0 : (t375 == 0) = false := beq_eq_false_iff_ne.mpr c5
   have c5b1 : (t375 != 0) = true := bne_iff_ne.mpr c5
   (first | rw [c5b0] | (simp only [i64_w, i32_w]; rw [c5b0]) | skip)
   have H' := My.am H
   clear H
   go_wp2_with (first | ((with_reducible refine gate_callee (f := 13) rfl ?_); refine goesL_ (some 8) rfl rfl Try.func13 (by kernel_rfl) rfl #[.slice A0 l0.length c0] rfl My.gx ?_; (with_reducible refine (outbox_May.calls k _ _ l0 t375 _ ?side1 ?side2 A4.out).mono ?_); (case side1 => exact My.sd_ HR0 HB); (case side2 => exact HC0.out); rintro e w8 ⟨rfl, hb⟩; refine ⟨_, rfl, ?_⟩; replace HB := My.st HB hb; (try clear hb)))
   go_meet
   case rel => exact ⟨_, (true), My.r1, H', ⟨My.r4⟩, ⟨(My.bl_ HB)⟩⟩
 case rest =>
  clear HC3
  obtain ⟨kq, x14_2, rfl, HA, HJ2, HB⟩ := hcut
  cases kq with
  | zero => exact absurd HA.out (by simp [outbox_Anew.j0])
  | succ kj2 =>
   have H := HA.out
   clear HA
   simp only [outbox_Anew.j0] at H
   by_cases c9 : x14_2 = true
   ·subst c9
    rw [if_pos rfl] at H
    obtain rfl := Option.some.inj H
    go_wp2
    go_ret
    exact ⟨_, My.r2, by first | exact Kd.S_nil _ _ _ _ _ | exact Kd.N_nil _ _ _ _ _ | exact Kd.V_nil _ _ _ _ _ | exact Kd.Q_nil _ _ _ _ _ | exact Kd.R_nil _ _ _ _ _, (My.bl_ HB)⟩
   replace c9 := Bool.eq_false_iff.mpr c9
   subst c9
   rw [if_neg (show ¬ (false = true) by decide)] at H
   replace H := Option.bind_eq_some_iff.mp H
   obtain ⟨t377, A100, H⟩ := H
   try dsimp only at H
   have A10 := My.am A100
   clear A100
   have H' := My.am H
   clear H
   go_wp2_with (first | ((with_reducible refine gate_callee (f := 25) rfl ?_); refine goesL_ (some 16) rfl rfl Try.func25 (by kernel_rfl) rfl #[.slice A0 l0.length c0] rfl My.gx ?_; (with_reducible refine (outbox_copied.calls kj2 _ _ l0 t377 _ ?side1 ?side2 A10.out).mono ?_); (case side1 => exact My.sd_ HR0 HB); (case side2 => exact HC0.out); rintro e w11 ⟨v378, rfl, ho0, hb⟩; refine ⟨_, rfl, ?_⟩; have HO379 := My.am (Kd.S_lower ho0 (below_size (My.bl_ HB))); replace HB := My.st HB hb; (try clear hb); (try clear ho0); obtain ⟨Ao12, co12, eo12⟩ := Kd.S_slice HO379.out; subst eo12))
   go_loopg [19] kj2 (fun kq v19 w' => ∃ (x5_2 : List (S46)) (x19_2 : Int), v19 = .int .i64 x19_2 ∧ Aside0 (outbox_Anew.l0 kq a1 x5_2 (t377.length : Int) x19_2 = some r) ∧ Aside0 (kq ≤ kj2) ∧ Aside0 (Kd.S k46 46 w' w.heap.size (fun _ => True) (.slice Ao12 t377.length co12) x5_2) ∧ Aside0 (Below w.heap.size w w'))
   case atStart => exact ⟨(t377), (0), My.r1, H', ⟨Nat.le_refl _⟩, ⟨by (with_reducible repeat (first | apply Kd.S_alloc | apply Kd.S_drewN | apply Kd.S_drew)); exact HO379.out⟩, ⟨(My.bl_ HB)⟩⟩
   case round =>
    clear H'
    try clear c9
    obtain ⟨x5_2, x19_2, rfl, HA, HK2, HO_5, HB⟩ := hrel
    have hl5_2 := (Kd.S_reads' HO_5.out).1
    rw [hl5_2] at HO_5
    (try simp only [hl5_2])
    cases gk with
    | zero => exact absurd HA.out (by simp [outbox_Anew.l0])
    | succ k2 =>
     have H := HA.out
     clear HA
     simp only [outbox_Anew.l0] at H
     by_cases c13 : x19_2 < (t377.length : Int)
     rotate_left
     ·rw [if_neg c13] at H
      have c13b0 := decide_eq_false c13
      try rw [hl5_2] at c13b0
      clear c13
      obtain rfl := Option.some.inj H
      go_wp2
      go_ret
      exact ⟨_, My.r2, by (with_reducible repeat (first | apply Kd.S_alloc | apply Kd.S_drewN | apply Kd.S_drew)); exact HO_5.out, (My.bl_ HB)⟩

     rw [if_pos c13] at H
     have c13b0 := decide_eq_true c13
     try rw [hl5_2] at c13b0
     clear c13
     replace H := My.ds H
     obtain ⟨c14b0, H⟩ := H
     replace H := My.ds H
     obtain ⟨c15b0, H⟩ := H
     obtain ⟨y380, hy380⟩ : ∃ y_ : List (S46), y_ = (x5_2.set (x19_2 : Int).toNat (⟨wrap64 (x19_2 + 1), (rd_T46 x5_2 x19_2).f1, (rd_T46 x5_2 x19_2).f2, (⟨(rd_T46 x5_2 x19_2).f3.f0, (⟨(rd_T46 x5_2 x19_2).f3.f1.f0, (rd_T46 x5_2 x19_2).f3.f1.f1, (rd_T46 x5_2 x19_2).f3.f1.f2⟩ : S35), (rd_T46 x5_2 x19_2).f3.f2, (rd_T46 x5_2 x19_2).f3.f3⟩ : S37)⟩ : S46)) := ⟨_, rfl⟩
     replace H : ((some (y380.set (x19_2 : Int).toNat (⟨(rd_T46 y380 x19_2).f0, a1, (rd_T46 y380 x19_2).f2, (⟨(rd_T46 y380 x19_2).f3.f0, (⟨(rd_T46 y380 x19_2).f3.f1.f0, (rd_T46 y380 x19_2).f3.f1.f1, (rd_T46 y380 x19_2).f3.f1.f2⟩ : S35), (rd_T46 y380 x19_2).f3.f2, (rd_T46 y380 x19_2).f3.f3⟩ : S37)⟩ : S46) : List (S46))).bind fun y381 => (outbox_Anew.l0 k2 a1 (y381.set (x19_2 : Int).toNat (⟨(rd_T46 y381 x19_2).f0, (rd_T46 y381 x19_2).f1, 0, (⟨(rd_T46 y381 x19_2).f3.f0, (⟨(rd_T46 y381 x19_2).f3.f1.f0, (rd_T46 y381 x19_2).f3.f1.f1, (rd_T46 y381 x19_2).f3.f1.f2⟩ : S35), (rd_T46 y381 x19_2).f3.f2, (rd_T46 y381 x19_2).f3.f3⟩ : S37)⟩ : S46)) (t377.length : Int) (wrap64 (x19_2 + 1)))) = some r := by first | (rw [hy380]; with_reducible exact H) | (have H2_ := (Option.bind_some _ _).symm.trans H; rw [hy380]; with_reducible exact H2_) | (have H2_ := (Option.bind_some _ _).symm.trans H; with_reducible exact H2_) | with_reducible exact H | (rw [hy380]; exact H) | exact H
     have Ny380 := My.am hy380
     clear hy380
     obtain ⟨y381, hy381⟩ : ∃ y_ : List (S46), y_ = (y380.set (x19_2 : Int).toNat (⟨(rd_T46 y380 x19_2).f0, a1, (rd_T46 y380 x19_2).f2, (⟨(rd_T46 y380 x19_2).f3.f0, (⟨(rd_T46 y380 x19_2).f3.f1.f0, (rd_T46 y380 x19_2).f3.f1.f1, (rd_T46 y380 x19_2).f3.f1.f2⟩ : S35), (rd_T46 y380 x19_2).f3.f2, (rd_T46 y380 x19_2).f3.f3⟩ : S37)⟩ : S46)) := ⟨_, rfl⟩
     replace H : (outbox_Anew.l0 k2 a1 (y381.set (x19_2 : Int).toNat (⟨(rd_T46 y381 x19_2).f0, (rd_T46 y381 x19_2).f1, 0, (⟨(rd_T46 y381 x19_2).f3.f0, (⟨(rd_T46 y381 x19_2).f3.f1.f0, (rd_T46 y381 x19_2).f3.f1.f1, (rd_T46 y381 x19_2).f3.f1.f2⟩ : S35), (rd_T46 y381 x19_2).f3.f2, (rd_T46 y381 x19_2).f3.f3⟩ : S37)⟩ : S46)) (t377.length : Int) (wrap64 (x19_2 + 1))) = some r := by first | (rw [hy381]; with_reducible exact H) | (have H2_ := (Option.bind_some _ _).symm.trans H; rw [hy381]; with_reducible exact H2_) | (have H2_ := (Option.bind_some _ _).symm.trans H; with_reducible exact H2_) | with_reducible exact H | (rw [hy381]; exact H) | exact H
     have Ny381 := My.am hy381
     clear hy381
     obtain ⟨y382, hy382⟩ : ∃ y_ : List (S46), y_ = (y381.set (x19_2 : Int).toNat (⟨(rd_T46 y381 x19_2).f0, (rd_T46 y381 x19_2).f1, 0, (⟨(rd_T46 y381 x19_2).f3.f0, (⟨(rd_T46 y381 x19_2).f3.f1.f0, (rd_T46 y381 x19_2).f3.f1.f1, (rd_T46 y381 x19_2).f3.f1.f2⟩ : S35), (rd_T46 y381 x19_2).f3.f2, (rd_T46 y381 x19_2).f3.f3⟩ : S37)⟩ : S46)) := ⟨_, rfl⟩
     replace H : (outbox_Anew.l0 k2 a1 y382 (t377.length : Int) (wrap64 (x19_2 + 1))) = some r := by first | (rw [hy382]; with_reducible exact H) | (have H2_ := (Option.bind_some _ _).symm.trans H; rw [hy382]; with_reducible exact H2_) | (have H2_ := (Option.bind_some _ _).symm.trans H; with_reducible exact H2_) | with_reducible exact H | (rw [hy382]; exact H) | exact H
     have Ny382 := My.am hy382
     clear hy382
     have H' := My.am H
     clear H
     have p16 : 0 ≤ (x19_2 : Int) := My.as_
     have q16 : (x19_2 : Int) < ((x5_2.length : Int) : Int) := My.as_
     obtain ⟨go16, co16, eo16, gb16, gl16, cl16, HG16⟩ := Kd.S_form HO_5.out (by omega)
     (first | cases eo16 | (injection eo16 with ea_ en_ ec_; (first | subst ea_ | (injection ea_ with ea_; subst ea_)); subst ec_; clear en_))
     have GB16 := My.am gb16
     have GG16 := My.am HG16
     clear gb16 gl16 HG16
     obtain ⟨_, ce16, hcl16, hM16, hcc16, hfr16, _, _⟩ := Kd.S_elem HO_5.out z46 (x19_2 : Int) p16 q16
     obtain ⟨ve16_6, rfl, ge16_6⟩ := k46_openM hM16
     have hx16_0 : wr.cell? ⟨go16, (x19_2 : Int).toNat * 9, none⟩ = some (.int .i64 ((rd_T46 x5_2 x19_2).f0)) := hcc16 0 _ rfl
     have hx16_1 : wr.cell? ⟨go16, (x19_2 : Int).toNat * 9 + 1, none⟩ = some (.int .i64 ((rd_T46 x5_2 x19_2).f1)) := hcc16 1 _ rfl
     have hx16_2 : wr.cell? ⟨go16, (x19_2 : Int).toNat * 9 + 2, none⟩ = some (.int .i64 ((rd_T46 x5_2 x19_2).f2)) := hcc16 2 _ rfl
     have hx16_3 : wr.cell? ⟨go16, (x19_2 : Int).toNat * 9 + 3, none⟩ = some (.int .i64 ((rd_T46 x5_2 x19_2).f3.f0)) := hcc16 3 _ rfl
     have hx16_4 : wr.cell? ⟨go16, (x19_2 : Int).toNat * 9 + 4, none⟩ = some (.int .i64 ((rd_T46 x5_2 x19_2).f3.f1.f0)) := hcc16 4 _ rfl
     have hx16_5 : wr.cell? ⟨go16, (x19_2 : Int).toNat * 9 + 5, none⟩ = some (.int .i64 ((rd_T46 x5_2 x19_2).f3.f1.f1)) := hcc16 5 _ rfl
     have hx16_6 : wr.cell? ⟨go16, (x19_2 : Int).toNat * 9 + 6, none⟩ = some (ve16_6) := hcc16 6 _ rfl
     have hx16_7 : wr.cell? ⟨go16, (x19_2 : Int).toNat * 9 + 7, none⟩ = some (.string ((rd_T46 x5_2 x19_2).f3.f2)) := hcc16 7 _ rfl
     have hx16_8 : wr.cell? ⟨go16, (x19_2 : Int).toNat * 9 + 8, none⟩ = some (.int .i64 ((rd_T46 x5_2 x19_2).f3.f3)) := hcc16 8 _ rfl
     have hf16_0 : wr.frozen? ⟨go16, (x19_2 : Int).toNat * 9, none⟩ = false := hfr16 0
     have hf16_1 : wr.frozen? ⟨go16, (x19_2 : Int).toNat * 9 + 1, none⟩ = false := hfr16 1
     have hf16_2 : wr.frozen? ⟨go16, (x19_2 : Int).toNat * 9 + 2, none⟩ = false := hfr16 2
     have hf16_3 : wr.frozen? ⟨go16, (x19_2 : Int).toNat * 9 + 3, none⟩ = false := hfr16 3
     have hf16_4 : wr.frozen? ⟨go16, (x19_2 : Int).toNat * 9 + 4, none⟩ = false := hfr16 4
     have hf16_5 : wr.frozen? ⟨go16, (x19_2 : Int).toNat * 9 + 5, none⟩ = false := hfr16 5
     have hf16_6 : wr.frozen? ⟨go16, (x19_2 : Int).toNat * 9 + 6, none⟩ = false := hfr16 6
     have hf16_7 : wr.frozen? ⟨go16, (x19_2 : Int).toNat * 9 + 7, none⟩ = false := hfr16 7
     have hf16_8 : wr.frozen? ⟨go16, (x19_2 : Int).toNat * 9 + 8, none⟩ = false := hfr16 8
     clear hcl16 hcc16 hfr16 hM16
     replace p16 := eq_true p16
     replace q16 := eq_true q16
     have HX19 := My.am (show Kd.S k46 46 wr w.heap.size (fun k_ => ((fun _ => True)) k_ ∧ ¬ ((fun _ => False)) k_) (.slice (some ⟨go16, 0, none⟩) x5_2.length co12) x5_2 from (by (with_reducible repeat (first | apply Kd.S_alloc | apply Kd.S_drewN | apply Kd.S_drew)); exact Kd.S_mono HO_5.out (fun k_ hk => ⟨trivial, fun e_ => e_⟩)))
     obtain ⟨oki19, ce19, hcl19, hM19, hcc19, hfr19, hoki19, hH19⟩ := Kd.S_elem HX19.out z46 (x19_2 : Int) (My.as_) (by have h_ : (x19_2 : Int) < ((x5_2.length : Int) : Int) := My.as_; first | exact h_ | (have e_ := (Kd.S_reads' HO_5.out).1; omega) | simpa using h_)
     obtain ⟨ve19_6, rfl, ge19_6⟩ := k46_openM hM19
     have HP19 := Kd.S_seg hH19 (My.as_) (by have h_ : (x19_2 : Int) < ((x5_2.length : Int) : Int) := My.as_; first | exact h_ | (have e_ := (Kd.S_reads' HO_5.out).1; omega) | simpa using h_) (seg := [.int .i64 (wrap64 (x19_2 + 1))]) (j := 0) (show 1 ≤ 9 from by decide) (x' := (⟨wrap64 (x19_2 + 1), (rd_T46 x5_2 x19_2).f1, (rd_T46 x5_2 x19_2).f2, (⟨(rd_T46 x5_2 x19_2).f3.f0, (⟨(rd_T46 x5_2 x19_2).f3.f1.f0, (rd_T46 x5_2 x19_2).f3.f1.f1, (rd_T46 x5_2 x19_2).f3.f1.f2⟩ : S35), (rd_T46 x5_2 x19_2).f3.f2, (rd_T46 x5_2 x19_2).f3.f3⟩ : S37)⟩ : S46)) (k46_mkM _ _ _ (⟨wrap64 (x19_2 + 1), (rd_T46 x5_2 x19_2).f1, (rd_T46 x5_2 x19_2).f2, (⟨(rd_T46 x5_2 x19_2).f3.f0, (⟨(rd_T46 x5_2 x19_2).f3.f1.f0, (rd_T46 x5_2 x19_2).f3.f1.f1, (rd_T46 x5_2 x19_2).f3.f1.f2⟩ : S35), (rd_T46 x5_2 x19_2).f3.f2, (rd_T46 x5_2 x19_2).f3.f3⟩ : S37)⟩ : S46) (Kd.R_mono ge19_6 (fun _ h_ => Or.inl h_))) (fun _ hk => hk) (fun k_ hk_ => hk_.elim)
     have hx19_0 := hcc19 0 _ rfl
     (try simp only [show (k46).sz = 9 from rfl, Nat.mul_one, Nat.add_zero] at hx19_0)
     have hf19_0 := hfr19 0
     (try simp only [show (k46).sz = 9 from rfl, Nat.mul_one, Nat.add_zero] at hf19_0)
     clear hcl19 hcc19 hfr19 hM19 hoki19 hH19
     go_wp2_with (first | ((with_reducible refine gate_store (t := 3) (p := 32) rfl ?_); refine store_event (t := 3) (p := 32) (v := ?vo_w20) (w1 := (wr.setCell ⟨go16, (x19_2 : Int).toNat * 9, none⟩ (.int .i64 (wrap64 (x19_2 + 1))))) ?hg ?ho ?hn ?hr ?_; (case ho => rfl); (case hg => rfl); (case hn => rfl); (case hr => first | (go_simp; done) | (go_simp; rfl)); intro w20 hw; have hg : wr.grownBy w20 (some go16) := (by rw [hw]; exact HP19.2); have hp_ : Kd.S k46 46 w20 w.heap.size (fun _ => True) (.slice (some ⟨go16, 0, none⟩) x5_2.length co12) y380 := (by rw [hw, Ny380.out]; exact HP19.1); clear HP19; replace HO_5 := My.am (hp_); replace HB := My.am ((by rw [hw]; exact below_set (HB.out) GB16.out : Below w.heap.size w w20)); clear hg hw hp_; have p17 : 0 ≤ (x19_2 : Int) := My.as_; have q17 : (x19_2 : Int) < ((x5_2.length : Int) : Int) := My.as_; obtain ⟨_, ce17, hcl17, hM17, hcc17, hfr17, _, _⟩ := Kd.S_elem HO_5.out z46 (x19_2 : Int) p17 q17; obtain ⟨ve17_6, rfl, ge17_6⟩ := k46_openM hM17; have hx17_0 : w20.cell? ⟨go16, (x19_2 : Int).toNat * 9, none⟩ = some (.int .i64 ((rd_T46 y380 x19_2).f0)) := hcc17 0 _ rfl; have hx17_1 : w20.cell? ⟨go16, (x19_2 : Int).toNat * 9 + 1, none⟩ = some (.int .i64 ((rd_T46 y380 x19_2).f1)) := hcc17 1 _ rfl; have hx17_2 : w20.cell? ⟨go16, (x19_2 : Int).toNat * 9 + 2, none⟩ = some (.int .i64 ((rd_T46 y380 x19_2).f2)) := hcc17 2 _ rfl; have hx17_3 : w20.cell? ⟨go16, (x19_2 : Int).toNat * 9 + 3, none⟩ = some (.int .i64 ((rd_T46 y380 x19_2).f3.f0)) := hcc17 3 _ rfl; have hx17_4 : w20.cell? ⟨go16, (x19_2 : Int).toNat * 9 + 4, none⟩ = some (.int .i64 ((rd_T46 y380 x19_2).f3.f1.f0)) := hcc17 4 _ rfl; have hx17_5 : w20.cell? ⟨go16, (x19_2 : Int).toNat * 9 + 5, none⟩ = some (.int .i64 ((rd_T46 y380 x19_2).f3.f1.f1)) := hcc17 5 _ rfl; have hx17_6 : w20.cell? ⟨go16, (x19_2 : Int).toNat * 9 + 6, none⟩ = some (ve17_6) := hcc17 6 _ rfl; have hx17_7 : w20.cell? ⟨go16, (x19_2 : Int).toNat * 9 + 7, none⟩ = some (.string ((rd_T46 y380 x19_2).f3.f2)) := hcc17 7 _ rfl; have hx17_8 : w20.cell? ⟨go16, (x19_2 : Int).toNat * 9 + 8, none⟩ = some (.int .i64 ((rd_T46 y380 x19_2).f3.f3)) := hcc17 8 _ rfl; have hf17_0 : w20.frozen? ⟨go16, (x19_2 : Int).toNat * 9, none⟩ = false := hfr17 0; have hf17_1 : w20.frozen? ⟨go16, (x19_2 : Int).toNat * 9 + 1, none⟩ = false := hfr17 1; have hf17_2 : w20.frozen? ⟨go16, (x19_2 : Int).toNat * 9 + 2, none⟩ = false := hfr17 2; have hf17_3 : w20.frozen? ⟨go16, (x19_2 : Int).toNat * 9 + 3, none⟩ = false := hfr17 3; have hf17_4 : w20.frozen? ⟨go16, (x19_2 : Int).toNat * 9 + 4, none⟩ = false := hfr17 4; have hf17_5 : w20.frozen? ⟨go16, (x19_2 : Int).toNat * 9 + 5, none⟩ = false := hfr17 5; have hf17_6 : w20.frozen? ⟨go16, (x19_2 : Int).toNat * 9 + 6, none⟩ = false := hfr17 6; have hf17_7 : w20.frozen? ⟨go16, (x19_2 : Int).toNat * 9 + 7, none⟩ = false := hfr17 7; have hf17_8 : w20.frozen? ⟨go16, (x19_2 : Int).toNat * 9 + 8, none⟩ = false := hfr17 8; clear hcl17 hcc17 hfr17 hM17; replace p17 := eq_true p17; replace q17 := eq_true q17; have HX21 := My.am (show Kd.S k46 46 w20 w.heap.size (fun k_ => ((fun _ => True)) k_ ∧ ¬ ((fun _ => False)) k_) (.slice (some ⟨go16, 0, none⟩) x5_2.length co12) y380 from (by (with_reducible repeat (first | apply Kd.S_alloc | apply Kd.S_drewN | apply Kd.S_drew)); exact Kd.S_mono HO_5.out (fun k_ hk => ⟨trivial, fun e_ => e_⟩))); obtain ⟨oki21, ce21, hcl21, hM21, hcc21, hfr21, hoki21, hH21⟩ := Kd.S_elem HX21.out z46 (x19_2 : Int) (My.as_) (by have h_ : (x19_2 : Int) < ((x5_2.length : Int) : Int) := My.as_; first | exact h_ | (have e_ := (Kd.S_reads' HO_5.out).1; omega) | simpa using h_); obtain ⟨ve21_6, rfl, ge21_6⟩ := k46_openM hM21; have HP21 := Kd.S_seg hH21 (My.as_) (by have h_ : (x19_2 : Int) < ((x5_2.length : Int) : Int) := My.as_; first | exact h_ | (have e_ := (Kd.S_reads' HO_5.out).1; omega) | simpa using h_) (seg := [.int .i64 a1]) (j := 1) (show 2 ≤ 9 from by decide) (x' := (⟨(rd_T46 y380 x19_2).f0, a1, (rd_T46 y380 x19_2).f2, (⟨(rd_T46 y380 x19_2).f3.f0, (⟨(rd_T46 y380 x19_2).f3.f1.f0, (rd_T46 y380 x19_2).f3.f1.f1, (rd_T46 y380 x19_2).f3.f1.f2⟩ : S35), (rd_T46 y380 x19_2).f3.f2, (rd_T46 y380 x19_2).f3.f3⟩ : S37)⟩ : S46)) (k46_mkM _ _ _ (⟨(rd_T46 y380 x19_2).f0, a1, (rd_T46 y380 x19_2).f2, (⟨(rd_T46 y380 x19_2).f3.f0, (⟨(rd_T46 y380 x19_2).f3.f1.f0, (rd_T46 y380 x19_2).f3.f1.f1, (rd_T46 y380 x19_2).f3.f1.f2⟩ : S35), (rd_T46 y380 x19_2).f3.f2, (rd_T46 y380 x19_2).f3.f3⟩ : S37)⟩ : S46) (Kd.R_mono ge21_6 (fun _ h_ => Or.inl h_))) (fun _ hk => hk) (fun k_ hk_ => hk_.elim); have hx21_1 := hcc21 1 _ rfl; (try simp only [show (k46).sz = 9 from rfl, Nat.mul_one, Nat.add_zero] at hx21_1); have hf21_1 := hfr21 1; (try simp only [show (k46).sz = 9 from rfl, Nat.mul_one, Nat.add_zero] at hf21_1); clear hcl21 hcc21 hfr21 hM21 hoki21 hH21) | ((with_reducible refine gate_store (t := 3) (p := 34) rfl ?_); refine store_event (t := 3) (p := 34) (v := ?vo_w22) (w1 := (w20.setCell ⟨go16, (x19_2 : Int).toNat * 9 + 1, none⟩ (.int .i64 a1))) ?hg ?ho ?hn ?hr ?_; (case ho => rfl); (case hg => rfl); (case hn => rfl); (case hr => first | (go_simp; done) | (go_simp; rfl)); intro w22 hw; have hg : w20.grownBy w22 (some go16) := (by rw [hw]; exact HP21.2); have hp_ : Kd.S k46 46 w22 w.heap.size (fun _ => True) (.slice (some ⟨go16, 0, none⟩) x5_2.length co12) y381 := (by rw [hw, Ny381.out]; exact HP21.1); clear HP21; replace HO_5 := My.am (hp_); replace HB := My.am ((by rw [hw]; exact below_set (HB.out) GB16.out : Below w.heap.size w w22)); clear hg hw hp_; have p18 : 0 ≤ (x19_2 : Int) := My.as_; have q18 : (x19_2 : Int) < ((x5_2.length : Int) : Int) := My.as_; obtain ⟨_, ce18, hcl18, hM18, hcc18, hfr18, _, _⟩ := Kd.S_elem HO_5.out z46 (x19_2 : Int) p18 q18; obtain ⟨ve18_6, rfl, ge18_6⟩ := k46_openM hM18; have hx18_0 : w22.cell? ⟨go16, (x19_2 : Int).toNat * 9, none⟩ = some (.int .i64 ((rd_T46 y381 x19_2).f0)) := hcc18 0 _ rfl; have hx18_1 : w22.cell? ⟨go16, (x19_2 : Int).toNat * 9 + 1, none⟩ = some (.int .i64 ((rd_T46 y381 x19_2).f1)) := hcc18 1 _ rfl; have hx18_2 : w22.cell? ⟨go16, (x19_2 : Int).toNat * 9 + 2, none⟩ = some (.int .i64 ((rd_T46 y381 x19_2).f2)) := hcc18 2 _ rfl; have hx18_3 : w22.cell? ⟨go16, (x19_2 : Int).toNat * 9 + 3, none⟩ = some (.int .i64 ((rd_T46 y381 x19_2).f3.f0)) := hcc18 3 _ rfl; have hx18_4 : w22.cell? ⟨go16, (x19_2 : Int).toNat * 9 + 4, none⟩ = some (.int .i64 ((rd_T46 y381 x19_2).f3.f1.f0)) := hcc18 4 _ rfl; have hx18_5 : w22.cell? ⟨go16, (x19_2 : Int).toNat * 9 + 5, none⟩ = some (.int .i64 ((rd_T46 y381 x19_2).f3.f1.f1)) := hcc18 5 _ rfl; have hx18_6 : w22.cell? ⟨go16, (x19_2 : Int).toNat * 9 + 6, none⟩ = some (ve18_6) := hcc18 6 _ rfl; have hx18_7 : w22.cell? ⟨go16, (x19_2 : Int).toNat * 9 + 7, none⟩ = some (.string ((rd_T46 y381 x19_2).f3.f2)) := hcc18 7 _ rfl; have hx18_8 : w22.cell? ⟨go16, (x19_2 : Int).toNat * 9 + 8, none⟩ = some (.int .i64 ((rd_T46 y381 x19_2).f3.f3)) := hcc18 8 _ rfl; have hf18_0 : w22.frozen? ⟨go16, (x19_2 : Int).toNat * 9, none⟩ = false := hfr18 0; have hf18_1 : w22.frozen? ⟨go16, (x19_2 : Int).toNat * 9 + 1, none⟩ = false := hfr18 1; have hf18_2 : w22.frozen? ⟨go16, (x19_2 : Int).toNat * 9 + 2, none⟩ = false := hfr18 2; have hf18_3 : w22.frozen? ⟨go16, (x19_2 : Int).toNat * 9 + 3, none⟩ = false := hfr18 3; have hf18_4 : w22.frozen? ⟨go16, (x19_2 : Int).toNat * 9 + 4, none⟩ = false := hfr18 4; have hf18_5 : w22.frozen? ⟨go16, (x19_2 : Int).toNat * 9 + 5, none⟩ = false := hfr18 5; have hf18_6 : w22.frozen? ⟨go16, (x19_2 : Int).toNat * 9 + 6, none⟩ = false := hfr18 6; have hf18_7 : w22.frozen? ⟨go16, (x19_2 : Int).toNat * 9 + 7, none⟩ = false := hfr18 7; have hf18_8 : w22.frozen? ⟨go16, (x19_2 : Int).toNat * 9 + 8, none⟩ = false := hfr18 8; clear hcl18 hcc18 hfr18 hM18; replace p18 := eq_true p18; replace q18 := eq_true q18; have HX23 := My.am (show Kd.S k46 46 w22 w.heap.size (fun k_ => ((fun _ => True)) k_ ∧ ¬ ((fun _ => False)) k_) (.slice (some ⟨go16, 0, none⟩) x5_2.length co12) y381 from (by (with_reducible repeat (first | apply Kd.S_alloc | apply Kd.S_drewN | apply Kd.S_drew)); exact Kd.S_mono HO_5.out (fun k_ hk => ⟨trivial, fun e_ => e_⟩))); obtain ⟨oki23, ce23, hcl23, hM23, hcc23, hfr23, hoki23, hH23⟩ := Kd.S_elem HX23.out z46 (x19_2 : Int) (My.as_) (by have h_ : (x19_2 : Int) < ((x5_2.length : Int) : Int) := My.as_; first | exact h_ | (have e_ := (Kd.S_reads' HO_5.out).1; omega) | simpa using h_); obtain ⟨ve23_6, rfl, ge23_6⟩ := k46_openM hM23; have HP23 := Kd.S_seg hH23 (My.as_) (by have h_ : (x19_2 : Int) < ((x5_2.length : Int) : Int) := My.as_; first | exact h_ | (have e_ := (Kd.S_reads' HO_5.out).1; omega) | simpa using h_) (seg := [.int .i64 0]) (j := 2) (show 3 ≤ 9 from by decide) (x' := (⟨(rd_T46 y381 x19_2).f0, (rd_T46 y381 x19_2).f1, 0, (⟨(rd_T46 y381 x19_2).f3.f0, (⟨(rd_T46 y381 x19_2).f3.f1.f0, (rd_T46 y381 x19_2).f3.f1.f1, (rd_T46 y381 x19_2).f3.f1.f2⟩ : S35), (rd_T46 y381 x19_2).f3.f2, (rd_T46 y381 x19_2).f3.f3⟩ : S37)⟩ : S46)) (k46_mkM _ _ _ (⟨(rd_T46 y381 x19_2).f0, (rd_T46 y381 x19_2).f1, 0, (⟨(rd_T46 y381 x19_2).f3.f0, (⟨(rd_T46 y381 x19_2).f3.f1.f0, (rd_T46 y381 x19_2).f3.f1.f1, (rd_T46 y381 x19_2).f3.f1.f2⟩ : S35), (rd_T46 y381 x19_2).f3.f2, (rd_T46 y381 x19_2).f3.f3⟩ : S37)⟩ : S46) (Kd.R_mono ge23_6 (fun _ h_ => Or.inl h_))) (fun _ hk => hk) (fun k_ hk_ => hk_.elim); have hx23_2 := hcc23 2 _ rfl; (try simp only [show (k46).sz = 9 from rfl, Nat.mul_one, Nat.add_zero] at hx23_2); have hf23_2 := hfr23 2; (try simp only [show (k46).sz = 9 from rfl, Nat.mul_one, Nat.add_zero] at hf23_2); clear hcl23 hcc23 hfr23 hM23 hoki23 hH23) | ((with_reducible refine gate_store (t := 3) (p := 36) rfl ?_); refine store_event (t := 3) (p := 36) (v := ?vo_w24) (w1 := (w22.setCell ⟨go16, (x19_2 : Int).toNat * 9 + 2, none⟩ (.int .i64 0))) ?hg ?ho ?hn ?hr ?_; (case ho => rfl); (case hg => rfl); (case hn => rfl); (case hr => first | (go_simp; done) | (go_simp; rfl)); intro w24 hw; have hg : w22.grownBy w24 (some go16) := (by rw [hw]; exact HP23.2); have hp_ : Kd.S k46 46 w24 w.heap.size (fun _ => True) (.slice (some ⟨go16, 0, none⟩) x5_2.length co12) y382 := (by rw [hw, Ny382.out]; exact HP23.1); clear HP23; replace HO_5 := My.am (hp_); replace HB := My.am ((by rw [hw]; exact below_set (HB.out) GB16.out : Below w.heap.size w w24)); clear hg hw hp_))
     (try simp only [← hl5_2])
     go_roundg k2
     case measure => have := HJ2.out; have := HK2.out; omega
     case rel => exact ⟨(y382), (wrap64 (x19_2 + 1)), My.r1, H', ⟨by have := HJ2.out; have := HK2.out; omega⟩, ⟨by (try simp only [hl5_2]); (with_reducible repeat (first | apply Kd.S_alloc | apply Kd.S_drewN | apply Kd.S_drew)); exact HO_5.out⟩, ⟨(My.bl_ HB)⟩⟩
/-! ### ententeref19_Anew: function 22 -/
mutual
def ententeref19_Anew.j0 : Nat → List (S46) → Int → Bool → Option ((List (S46)))
 | 0, _, _, _ => none
 | k + 1, x0, x1, x14 => if x14 = true then (some ([] : List (S46))) else (ententeref19_Anew.l0 k x0 x1 ([] : List (S46)) 0)
def ententeref19_Anew.l0 : Nat → List (S46) → Int → List (S46) → Int → Option ((List (S46)))
 | 0, _, _, _, _ => none
 | k + 1, x0, x1, x5, x6 => if x6 < (x0.length : Int) then (if 0 ≤ x6 then (if x5.length < 1466015503701 then (ententeref19_Anew.l0 k x0 x1 (x5 ++ [(⟨wrap64 (x6 + 1), x1, 0, (⟨(rd_T46 x0 x6).f3.f0, (⟨(rd_T46 x0 x6).f3.f1.f0, (rd_T46 x0 x6).f3.f1.f1, (rd_T46 x0 x6).f3.f1.f2⟩ : S35), (rd_T46 x0 x6).f3.f2, (rd_T46 x0 x6).f3.f3⟩ : S37)⟩ : S46)]) (wrap64 (x6 + 1))) else (none)) else (none)) else (some x5)
end
def ententeref19_Anew.f (k : Nat) (l0 : List (S46)) (a1 : Int) : Option ((List (S46))) := (ententeref19_May.f k l0).bind fun t383 => (if t383 = 0 then ((ententeref19_time.f a1).bind fun t384 => (ententeref19_Anew.j0 k l0 a1 (!t384))) else (ententeref19_Anew.j0 k l0 a1 true))
theorem ententeref19_Anew.mono_l : ∀ k, (∀ y0 y1 y2, LeO (ententeref19_Anew.j0 k y0 y1 y2) (ententeref19_Anew.j0 (k + 1) y0 y1 y2)) ∧ (∀ y0 y1 y2 y3, LeO (ententeref19_Anew.l0 k y0 y1 y2 y3) (ententeref19_Anew.l0 (k + 1) y0 y1 y2 y3))
 | 0 => ⟨fun _ _ _ r h => by simp [ententeref19_Anew.j0] at h, fun _ _ _ _ r h => by simp [ententeref19_Anew.l0] at h⟩
 | k + 1 => by
  obtain ⟨ih0, ih1⟩ := ententeref19_Anew.mono_l k
  refine ⟨?_, ?_⟩
  ·intro y0 y1 y2
   unfold ententeref19_Anew.j0
   repeat' (with_reducible first | exact ih0 _ _ _ | exact ih1 _ _ _ _ | exact ententeref19_May.mono _ _ | exact LeO.refl _ | exact LeO.none _ | apply LeO.ite | refine LeO.bind ?_ (fun _ => ?_))
  intro y0 y1 y2 y3
  unfold ententeref19_Anew.l0
  repeat' (with_reducible first | exact ih0 _ _ _ | exact ih1 _ _ _ _ | exact ententeref19_May.mono _ _ | exact LeO.refl _ | exact LeO.none _ | apply LeO.ite | refine LeO.bind ?_ (fun _ => ?_))
theorem ententeref19_Anew.mono : ∀ a0 a1 k, LeO (ententeref19_Anew.f k a0 a1) (ententeref19_Anew.f (k + 1) a0 a1) := by
 intro a0 a1 k
 obtain ⟨ih0, ih1⟩ := ententeref19_Anew.mono_l k
 unfold ententeref19_Anew.f
 repeat' (with_reducible first | exact ih0 _ _ _ | exact ih1 _ _ _ _ | exact ententeref19_May.mono _ _ | exact LeO.refl _ | exact LeO.none _ | apply LeO.ite | refine LeO.bind ?_ (fun _ => ?_))
theorem ententeref19_Anew.calls (k : Nat) (P0_ : Nat → Prop) (A0 : Option Addr) (c0 : Nat) (l0 : List (S46)) (a1 : Int) (r : List (S46)) (w : World) (hs0 : Kd.V k46 46 w w.heap.size (fun k_ => P0_ k_) (.slice A0 l0.length c0) l0) (h : ententeref19_Anew.f k l0 a1 = some r) :
  Calls Try.prog 22 #[.slice A0 l0.length c0, .int .i64 a1] w fun e w' => ∃ v0_ : Value, e = .returned (v0_) ∧ Kd.N k46 46 w' w.heap.size (fun k_ => (P0_ k_ ∨ w.heap.size ≤ k_)) v0_ r ∧ Below w.heap.size w w' := by
 have hu37 := Try.underlying37
 have hu46 := Try.underlying46
 have HO0 := My.am (show Kd.V k46 46 w w.heap.size (fun k_ => (P0_ k_ ∨ w.heap.size ≤ k_)) (.slice A0 l0.length c0) l0 from Kd.V_mono hs0 (fun k_ hk => .inl hk))
 have HB := My.am (Below.refl w.heap.size w)
 unfold ententeref19_Anew.f at h
 have H := h
 clear h
 have HC3 := My.am H
 clear H
 go_enter Try.func22, Try.ntmps22
 go_upto_region 1 with (fail)
 go_cut [14] (fun v14 wc => ∃ (kq : Nat) (x14_2 : Bool), v14 = .bool x14_2 ∧ Aside0 (ententeref19_Anew.j0 kq l0 a1 x14_2 = some r) ∧ Aside0 (kq ≤ k) ∧ Aside0 (Kd.V k46 46 wc w.heap.size (fun k_ => (P0_ k_ ∨ w.heap.size ≤ k_)) (.slice A0 l0.length c0) l0) ∧ Aside0 (Below w.heap.size w wc))
 case first =>
  have H := HC3.out
  clear HC3
  replace H := Option.bind_eq_some_iff.mp H
  obtain ⟨t383, A40, H⟩ := H
  try dsimp only at H
  have A4 := My.am A40
  clear A40
  by_cases c5 : t383 = 0
  ·rw [if_pos c5] at H
   have c5b0 : (t383 == 0) = true := beq_iff_eq.mpr c5
   have c5b1 : (t383 != 0) = false := bne_eq_false_iff_eq.mpr c5
   clear c5
   (first | rw [c5b0] | (simp only [i64_w, i32_w]; rw [c5b0]) | skip)
   replace H := Option.bind_eq_some_iff.mp H
   obtain ⟨t384, A60, H⟩ := H
   try dsimp only at H
   have A6 := My.am A60
   clear A60
   have H' := My.am H
   clear H
   go_wp2_with (first | ((with_reducible refine gate_callee (f := 14) rfl ?_); refine goesL_ (some 8) rfl rfl Try.func14 (by kernel_rfl) rfl #[.slice A0 l0.length c0] rfl My.gx ?_; (with_reducible refine (ententeref19_May.calls k _ _ l0 t383 _ ?side1 ?side2 A4.out).mono ?_); (case side1 => repeat (first | exact (Kd.V_reads' HO0.out).2.2 | (with_reducible refine Kd.C_alloc ?_ _) | (with_reducible refine Kd.C_drewN ?_ _) | (with_reducible refine Kd.C_drew ?_))); (case side2 => exact (Kd.V_reads' HO0.out).2.1); rintro e w7 ⟨rfl, hb⟩; refine ⟨_, rfl, ?_⟩; replace HO0 := My.am (Kd.V_below (My.dV HO0.out) hb); replace HB := My.st HB hb; (try clear hb)) | (go_at_call 28; (with_reducible refine (ententeref19_time.calls a1 t384 _ A6.out).mono ?_); rintro e w' ⟨rfl, ⟨nd, rfl⟩⟩))
   go_meet
   case rel => exact ⟨_, (!t384), My.r1, H', ⟨My.r4⟩, ⟨My.dV HO0.out⟩, ⟨(My.bl_ HB)⟩⟩
  ·rw [if_neg c5] at H
   have c5b0 : (t383 == 0) = false := beq_eq_false_iff_ne.mpr c5
   have c5b1 : (t383 != 0) = true := bne_iff_ne.mpr c5
   (first | rw [c5b0] | (simp only [i64_w, i32_w]; rw [c5b0]) | skip)
   have H' := My.am H
   clear H
   go_wp2_with (first | ((with_reducible refine gate_callee (f := 14) rfl ?_); refine goesL_ (some 8) rfl rfl Try.func14 (by kernel_rfl) rfl #[.slice A0 l0.length c0] rfl My.gx ?_; (with_reducible refine (ententeref19_May.calls k _ _ l0 t383 _ ?side1 ?side2 A4.out).mono ?_); (case side1 => repeat (first | exact (Kd.V_reads' HO0.out).2.2 | (with_reducible refine Kd.C_alloc ?_ _) | (with_reducible refine Kd.C_drewN ?_ _) | (with_reducible refine Kd.C_drew ?_))); (case side2 => exact (Kd.V_reads' HO0.out).2.1); rintro e w8 ⟨rfl, hb⟩; refine ⟨_, rfl, ?_⟩; replace HO0 := My.am (Kd.V_below (My.dV HO0.out) hb); replace HB := My.st HB hb; (try clear hb)))
   go_meet
   case rel => exact ⟨_, (true), My.r1, H', ⟨My.r4⟩, ⟨My.dV HO0.out⟩, ⟨(My.bl_ HB)⟩⟩
 case rest =>
  clear HC3
  obtain ⟨kq, x14_2, rfl, HA, HJ2, HO_0, HB⟩ := hcut
  cases kq with
  | zero => exact absurd HA.out (by simp [ententeref19_Anew.j0])
  | succ kj2 =>
   have H := HA.out
   clear HA
   simp only [ententeref19_Anew.j0] at H
   by_cases c9 : x14_2 = true
   ·subst c9
    rw [if_pos rfl] at H
    obtain rfl := Option.some.inj H
    go_wp2
    go_ret
    exact ⟨_, My.r2, by first | exact Kd.S_nil _ _ _ _ _ | exact Kd.N_nil _ _ _ _ _ | exact Kd.V_nil _ _ _ _ _ | exact Kd.Q_nil _ _ _ _ _ | exact Kd.R_nil _ _ _ _ _, (My.bl_ HB)⟩
   replace c9 := Bool.eq_false_iff.mpr c9
   subst c9
   rw [if_neg (show ¬ (false = true) by decide)] at H
   have H' := My.am H
   clear H
   go_wp2
   go_loopg [5, 6] kj2 (fun kq v5 v6 w' => ∃ (x5_2 : List (S46)) (x6_2 : Int), v6 = .int .i64 x6_2 ∧ Aside0 (ententeref19_Anew.l0 kq l0 a1 x5_2 x6_2 = some r) ∧ Aside0 (kq ≤ kj2) ∧ Aside0 (Kd.V k46 46 w' w.heap.size (fun k_ => (P0_ k_ ∨ w.heap.size ≤ k_) ∧ some k_ ≠ (v5 : Value).ownBlock) (.slice A0 l0.length c0) l0) ∧ Aside0 (Kd.N k46 46 w' w.heap.size (fun k_ => (P0_ k_ ∨ w.heap.size ≤ k_)) v5 x5_2) ∧ Aside0 (Below w.heap.size w w'))
   case atStart => exact ⟨(([] : List (S46))), (0), My.r1, H', ⟨Nat.le_refl _⟩, ⟨My.dV (Kd.V_mono HO_0.out (fun _ hk => ⟨hk, (by simp [Value.ownBlock])⟩))⟩, ⟨by first | exact Kd.S_nil _ _ _ _ _ | exact Kd.N_nil _ _ _ _ _ | exact Kd.V_nil _ _ _ _ _ | exact Kd.Q_nil _ _ _ _ _ | exact Kd.R_nil _ _ _ _ _⟩, ⟨(My.bl_ HB)⟩⟩
   case round =>
    clear H'
    try clear c9
    obtain ⟨x5_2, x6_2, rfl, HA, HK2, HO_0, HO_5, HB⟩ := hrel
    cases gk with
    | zero => exact absurd HA.out (by simp [ententeref19_Anew.l0])
    | succ k2 =>
     have H := HA.out
     clear HA
     simp only [ententeref19_Anew.l0] at H
     by_cases c10 : x6_2 < (l0.length : Int)
     rotate_left
     ·rw [if_neg c10] at H
      have c10b0 := decide_eq_false c10
      clear c10
      obtain rfl := Option.some.inj H
      go_wp2
      go_ret
      exact ⟨_, My.r2, by (with_reducible repeat (first | apply Kd.N_alloc | apply Kd.N_drewN | apply Kd.N_drew)); exact HO_5.out, (My.bl_ HB)⟩

     rw [if_pos c10] at H
     have c10b0 := decide_eq_true c10
     clear c10
     replace H := My.ds H
     obtain ⟨c11b0, H⟩ := H
     by_cases c12 : x5_2.length < 1466015503701
     rotate_left
     ·exact My.nn c12 H
     rw [if_pos c12] at H
     have LMc12 := My.am c12
     clear c12
     obtain ⟨y386, hy386⟩ : ∃ y_ : List (S46), y_ = (x5_2 ++ [(⟨wrap64 (x6_2 + 1), a1, 0, (⟨(rd_T46 l0 x6_2).f3.f0, (⟨(rd_T46 l0 x6_2).f3.f1.f0, (rd_T46 l0 x6_2).f3.f1.f1, (rd_T46 l0 x6_2).f3.f1.f2⟩ : S35), (rd_T46 l0 x6_2).f3.f2, (rd_T46 l0 x6_2).f3.f3⟩ : S37)⟩ : S46)]) := ⟨_, rfl⟩
     replace H : (ententeref19_Anew.l0 k2 l0 a1 y386 (wrap64 (x6_2 + 1))) = some r := by first | (rw [hy386]; with_reducible exact H) | (have H2_ := (Option.bind_some _ _).symm.trans H; rw [hy386]; with_reducible exact H2_) | (have H2_ := (Option.bind_some _ _).symm.trans H; with_reducible exact H2_) | with_reducible exact H | (rw [hy386]; exact H) | exact H
     have Ny386 := My.am hy386
     clear hy386
     have H' := My.am H
     clear H
     have p385 : 0 ≤ (x6_2 : Int) := My.as_
     have q385 : x6_2 < (l0.length : Int) := My.as_
     obtain ⟨ad385, A385_6, c385_6, e385, hx385_0, hx385_1, hx385_2, hx385_3, hx385_4, hx385_5, hx385_6, hx385_7, hx385_8, hl385_6, hi385_6⟩ := at_T46 (Kd.V_reads' HO_0.out).2.2 x6_2 p385 q385
     cases e385
     obtain ⟨ce385, hce385, hMe385, hcc385⟩ := Kd.V_get HO_0.out z46 x6_2 p385 (by first | exact q385 | exact My.as_ | (have e_ := (Kd.V_reads' HO_0.out).1; omega))
     obtain ⟨ua385_6, uc385_6, rfl, ul385_6, ge385_6⟩ := k46_openF hMe385
     have hv385_6 := hcc385 6 _ rfl
     rw [add_field _ _ 6 (by omega)] at hv385_6
     replace hv385_6 := Option.some.inj (hv385_6.symm.trans hx385_6)
     injection hv385_6 with hva_ hvn_ hvc_
     rw [hva_] at ge385_6
     rw [hvc_] at ul385_6
     have HL385_6 := My.am (show Kd.V k62 62 _ w.heap.size _ _ ((rd_T46 l0 x6_2).f3.f1.f2) from Kd.V_mk ul385_6 ge385_6)
     clear hva_ hvn_ hvc_ ge385_6 ul385_6
     clear hcc385 hce385
     have HR385_6 := My.am hi385_6
     have HC385_6 := My.am hl385_6
     clear hi385_6 hl385_6
     replace p385 := eq_true p385
     replace q385 := eq_true q385
     go_wp2_with (first | ((with_reducible refine gate_builtin (b := .append) (xs := #[.tmp 21, .tmp 31]) rfl ?_); at_builtin; refine Kd.N_append k46 (w0 := w) w.heap.size rfl (.tmp 21) (.tmp 31) 22 46 (.agg #[(.int .i64 0), (.int .i64 0), (.int .i64 0), (.int .i64 0), (.int .i64 0), (.int .i64 0), (.slice none 0 0), (.string ⟨#[]⟩), (.int .i64 0)]) 96 rfl Try.underlying22 info46 rfl (by decide) (by omega) u5 x5_2 (⟨wrap64 (x6_2 + 1), a1, 0, (⟨(rd_T46 l0 x6_2).f3.f0, (⟨(rd_T46 l0 x6_2).f3.f1.f0, (rd_T46 l0 x6_2).f3.f1.f1, (rd_T46 l0 x6_2).f3.f1.f2⟩ : S35), (rd_T46 l0 x6_2).f3.f2, (rd_T46 l0 x6_2).f3.f3⟩ : S37)⟩ : S46) [.int .i64 (wrap64 (x6_2 + 1)), .int .i64 a1, .int .i64 0, .int .i64 ((rd_T46 l0 x6_2).f3.f0), .int .i64 ((rd_T46 l0 x6_2).f3.f1.f0), .int .i64 ((rd_T46 l0 x6_2).f3.f1.f1), .slice A385_6 ((rd_T46 l0 x6_2).f3.f1.f2).length c385_6, .string ((rd_T46 l0 x6_2).f3.f2), .int .i64 ((rd_T46 l0 x6_2).f3.f3)] (fun k_ => (P0_ k_ ∨ w.heap.size ≤ k_)) (fun k_ => ((fun k_ => (P0_ k_ ∨ w.heap.size ≤ k_))) k_ ∧ some k_ ≠ (u5 : Value).ownBlock) rfl rfl ?aP (fun _ hk => hk) ?aF ?aO ?aB ?aS ?aL ?_; (case aP => exact (k46_mkF _ _ (⟨wrap64 (x6_2 + 1), a1, 0, (⟨(rd_T46 l0 x6_2).f3.f0, (⟨(rd_T46 l0 x6_2).f3.f1.f0, (rd_T46 l0 x6_2).f3.f1.f1, (rd_T46 l0 x6_2).f3.f1.f2⟩ : S35), (rd_T46 l0 x6_2).f3.f2, (rd_T46 l0 x6_2).f3.f3⟩ : S37)⟩ : S46) (Kd.V_reads' (Kd.V_mono (ok' := (fun k_ => ((fun k_ => (P0_ k_ ∨ w.heap.size ≤ k_))) k_ ∧ some k_ ≠ (u5 : Value).ownBlock)) (HL385_6.out) (fun k_ hk => ⟨hk.1, hk.2⟩))).2.1 (Kd.V_F (Kd.V_mono (ok' := (fun k_ => ((fun k_ => (P0_ k_ ∨ w.heap.size ≤ k_))) k_ ∧ some k_ ≠ (u5 : Value).ownBlock)) (HL385_6.out) (fun k_ hk => ⟨hk.1, hk.2⟩))))); (case aB => exact (My.bl_ HB)); (case aF => exact (fun k_ hk => (.inr (Nat.le_trans (below_size (My.bl_ HB)) hk)))); (case aO => exact (by (with_reducible repeat (first | apply Kd.N_alloc | apply Kd.N_drewN | apply Kd.N_drew)); exact HO_5.out)); (case aS => exact (below_size (My.bl_ HB))); (case aL => have := LMc12.out; omega); intro v387 w13 ho hb hg hat; rw [← Ny386.out] at ho; replace HO_0 := My.am (Kd.V_afterv (ok := (fun k_ => (P0_ k_ ∨ w.heap.size ≤ k_))) (My.dV HO_0.out) hg hat); replace HL385_6 := My.am (Kd.V_afterv (ok := (fun k_ => (P0_ k_ ∨ w.heap.size ≤ k_))) (My.dV HL385_6.out) hg hat); replace HB := My.am (hb); have HO388 := My.am (ho); (try clear HO_5); clear ho hb hg hat))
     go_roundg k2
     case measure => have := HJ2.out; have := HK2.out; omega
     case rel => exact ⟨(y386), (wrap64 (x6_2 + 1)), My.r1, H', ⟨by have := HJ2.out; have := HK2.out; omega⟩, ⟨My.dV HO_0.out⟩, ⟨by (with_reducible repeat (first | apply Kd.N_alloc | apply Kd.N_drewN | apply Kd.N_drew)); exact HO388.out⟩, ⟨(My.bl_ HB)⟩⟩
end Go.Proofs.Ytcgmoeiknkdljaa.PA
