-- Written by a program of this session (wip/tools/mp.py over the kit's printer); Lean checks it.
import Derived.Test.YtcgmoeiknkdljaaPAx0
import Derived.Test.YtcgmoeiknkdljaaPAx2
import Derived.Test.YtcgmoeiknkdljaaPAx3
namespace Go.Proofs.Ytcgmoeiknkdljaa.PA
open Go.RowKit Go.Proofs.YtcgmoeiknkdljaaW.PrintWords Go.Proofs.YtcgmoeiknkdljaaW.PrintLast Go.Proofs.YtcgmoeiknkdljaaW.PrintMore
attribute [local go_sem] max2_int min2_int max_two min_two max_three min_three max_four min_four   -- for this text's walks alone
set_option linter.unusedVariables false
set_option maxHeartbeats 8000000
set_option maxRecDepth 100000
set_option linter.unusedSimpArgs false

/-! ### note_Check: function 26 -/
mutual
def note_Check.j0 : Nat → Bool → Bool → Bool → Int → Int → Int → List (S62) → ByteArray → Int → Option (Int)
 | 0, _, _, _, _, _, _, _, _, _ => none
 | k + 1, x6, x7, x21, x128000, x128001, x128002, x128003, x128004, x128005 => if x21 = true then (some 130) else ((act_Name.f k x128004).bind fun t136 => (if (x6 != t136) = true then (note_Check.j1 k x7 true x128000 x128001 x128002 x128003 x128004 x128005) else (if x6 = true then (note_Check.j1 k x7 false x128000 x128001 x128002 x128003 x128004 x128005) else (note_Check.j1 k x7 (x128004.toList != ([] : List UInt8)) x128000 x128001 x128002 x128003 x128004 x128005))))
def note_Check.j1 : Nat → Bool → Bool → Int → Int → Int → List (S62) → ByteArray → Int → Option (Int)
 | 0, _, _, _, _, _, _, _, _ => none
 | k + 1, x7, x34, x128000, x128001, x128002, x128003, x128004, x128005 => if x34 = true then (some 130) else (if x128005 ≥ 1 then (if (x7 != (decide (x128005 ≤ 9))) = true then (some 130) else (if x7 = true then (some 0) else (if x128005 = 0 then (some 0) else (some 130)))) else (if (x7 != false) = true then (some 130) else (if x7 = true then (some 0) else (if x128005 = 0 then (some 0) else (some 130)))))
end
def note_Check.f (k : Nat) (a0_0 : Int) (a0_1 : Int) (a0_2 : Int) (l0_3 : List (S62)) (a0_4 : ByteArray) (a0_5 : Int) : Option (Int) := (ident_Parent.f k a0_1 a0_2 l0_3).bind fun bt128 => (if a0_0 < 1 then (note_Check.j0 k (a0_0 == 1) (a0_0 == 6) true a0_0 a0_1 a0_2 l0_3 a0_4 a0_5) else (if a0_0 > 7 then (note_Check.j0 k (a0_0 == 1) (a0_0 == 6) true a0_0 a0_1 a0_2 l0_3 a0_4 a0_5) else (note_Check.j0 k (a0_0 == 1) (a0_0 == 6) (!bt128.2.2.2.2) a0_0 a0_1 a0_2 l0_3 a0_4 a0_5)))
theorem note_Check.mono_l : ∀ k, (∀ y0 y1 y2 y3 y4 y5 y6 y7 y8, LeO (note_Check.j0 k y0 y1 y2 y3 y4 y5 y6 y7 y8) (note_Check.j0 (k + 1) y0 y1 y2 y3 y4 y5 y6 y7 y8)) ∧ (∀ y0 y1 y2 y3 y4 y5 y6 y7, LeO (note_Check.j1 k y0 y1 y2 y3 y4 y5 y6 y7) (note_Check.j1 (k + 1) y0 y1 y2 y3 y4 y5 y6 y7))
 | 0 => ⟨fun _ _ _ _ _ _ _ _ _ r h => by simp [note_Check.j0] at h, fun _ _ _ _ _ _ _ _ r h => by simp [note_Check.j1] at h⟩
 | k + 1 => by
  obtain ⟨ih0, ih1⟩ := note_Check.mono_l k
  refine ⟨?_, ?_⟩
  ·intro y0 y1 y2 y3 y4 y5 y6 y7 y8
   unfold note_Check.j0
   repeat' (with_reducible first | exact ih0 _ _ _ _ _ _ _ _ _ | exact ih1 _ _ _ _ _ _ _ _ | exact act_Name.mono _ _ | exact ident_Parent.mono _ _ _ _ | exact LeO.refl _ | exact LeO.none _ | apply LeO.ite | refine LeO.bind ?_ (fun _ => ?_))
  intro y0 y1 y2 y3 y4 y5 y6 y7
  unfold note_Check.j1
  repeat' (with_reducible first | exact ih0 _ _ _ _ _ _ _ _ _ | exact ih1 _ _ _ _ _ _ _ _ | exact act_Name.mono _ _ | exact ident_Parent.mono _ _ _ _ | exact LeO.refl _ | exact LeO.none _ | apply LeO.ite | refine LeO.bind ?_ (fun _ => ?_))
theorem note_Check.mono : ∀ a0 a1 a2 a3 a4 a5 k, LeO (note_Check.f k a0 a1 a2 a3 a4 a5) (note_Check.f (k + 1) a0 a1 a2 a3 a4 a5) := by
 intro a0 a1 a2 a3 a4 a5 k
 obtain ⟨ih0, ih1⟩ := note_Check.mono_l k
 unfold note_Check.f
 repeat' (with_reducible first | exact ih0 _ _ _ _ _ _ _ _ _ | exact ih1 _ _ _ _ _ _ _ _ | exact act_Name.mono _ _ | exact ident_Parent.mono _ _ _ _ | exact LeO.refl _ | exact LeO.none _ | apply LeO.ite | refine LeO.bind ?_ (fun _ => ?_))
theorem note_Check.world {P : Program} {body : Code} {Q : Exit → Act → World → Prop} {a : Act} {w : World} (J : World → Prop) (h : J w) (k : ∀ W, J W → Code.wp P body Q a W) : Code.wp P body Q a w := k w h
theorem note_Check.j1_is {k : Nat} {x7 x34 : Bool} {a b c : Int} {l : List S62} {s : ByteArray} {w r : Int} (h : note_Check.j1 k x7 x34 a b c l s w = some r) : r = (if x34 = true then 130 else if (x7 != (decide (1 ≤ w) && decide (w ≤ 9))) = true then 130 else if (!x7 && (w != 0)) = true then 130 else 0) := by
  cases k with
  | zero => simp [note_Check.j1] at h
  | succ k =>
    rw [note_Check.j1] at h
    cases x34 <;> cases x7 <;> by_cases c1 : w ≥ 1 <;> by_cases c2 : w ≤ 9 <;> by_cases c3 : w = 0 <;> simp [c1, c2, c3] at h ⊢ <;> omega
theorem note_Check.j0_is {k : Nat} {x6 x7 : Bool} {a b c : Int} {l : List S62} {s : ByteArray} {w r : Int} (h : note_Check.j0 k x6 x7 false a b c l s w = some r) : ∃ k1 nm, act_Name.f k1 s = some nm ∧ r = (if (x6 != nm || (!x6 && (s.toList != ([] : List UInt8)))) = true then 130 else if (x7 != (decide (1 ≤ w) && decide (w ≤ 9))) = true then 130 else if (!x7 && (w != 0)) = true then 130 else 0) := by
  cases k with
  | zero => simp [note_Check.j0] at h
  | succ k =>
    rw [note_Check.j0, if_neg Bool.false_ne_true] at h
    obtain ⟨nm, h1, h2⟩ := Option.bind_eq_some_iff.1 h
    refine ⟨k, nm, h1, ?_⟩
    cases hx : (x6 != nm) with
    | true =>
      rw [hx, if_pos rfl] at h2
      exact note_Check.j1_is h2
    | false =>
      rw [hx, if_neg Bool.false_ne_true] at h2
      cases x6 with
      | true => rw [if_pos rfl] at h2; exact note_Check.j1_is h2
      | false => rw [if_neg Bool.false_ne_true] at h2; exact note_Check.j1_is h2
theorem note_Check.j0_bad {k : Nat} {x6 x7 : Bool} {a b c : Int} {l : List S62} {s : ByteArray} {w r : Int} (h : note_Check.j0 k x6 x7 true a b c l s w = some r) : r = 130 := by
  cases k with
  | zero => simp [note_Check.j0] at h
  | succ k =>
    rw [note_Check.j0, if_pos rfl] at h
    exact (Option.some.inj h).symm
theorem note_Check.calls (k : Nat) (a0_0 : Int) (a0_1 : Int) (a0_2 : Int) (A0_3 : Option Addr) (c0_3 : Nat) (l0_3 : List (S62)) (a0_4 : ByteArray) (a0_5 : Int) (r : Int) (w : World) (hr0_3 : Kd.C k62 w A0_3 l0_3.length l0_3) (hc0_3 : l0_3.length ≤ c0_3) (h : note_Check.f k a0_0 a0_1 a0_2 l0_3 a0_4 a0_5 = some r) :
  Calls Try.prog 26 #[.agg #[.int .i64 a0_0, .int .i64 a0_1, .int .i64 a0_2, .slice A0_3 l0_3.length c0_3, .string a0_4, .int .i64 a0_5]] w fun e w' => e = .returned (.int .i64 r) ∧ Below w.heap.size w w' := by
 have hu37 := Try.underlying37
 have hu35 := Try.underlying35
 have HR0_3 := My.am hr0_3
 have HC0_3 := My.am hc0_3
 clear hr0_3 hc0_3
 have HB := My.am (Below.refl w.heap.size w)
 unfold note_Check.f at h
 have H := h
 clear h
 replace H := Option.bind_eq_some_iff.mp H
 obtain ⟨⟨t128, t129, t130, t133, t134⟩, A20, H⟩ := H
 try dsimp only at H
 have A2 := My.am A20
 clear A20
 have HC3 := My.am H
 clear H
 go_enter Try.func26, Try.ntmps26
 go_upto_region 3 with (first | ((with_reducible refine gate_dst (N := 1) rfl ?_); refine My.bx 1 #[.int .i64 a0_0, .int .i64 a0_1, .int .i64 a0_2, .slice A0_3 l0_3.length c0_3, .string a0_4, .int .i64 a0_5] 37 ?_; intro gb127 hg w4 hbox hb; have BK127 := My.am (hbox); have GE127 := My.nge hg (My.bl_ HB); replace HB := My.st HB hb; clear hb hbox hg; have hq5 := My.cz6 BK127) | (go_at_call 37; (with_reducible refine (ident_Parent.calls k a0_1 a0_2 _ _ l0_3 t128 t129 t130 t133 t134 _ ?side1 ?side2 A2.out).mono ?_); (case side1 => exact My.sd_ HR0_3 HB); (case side2 => exact HC0_3.out); rintro e w6 ⟨v131, rfl, ho0, hb⟩; have HO132 := My.am (Kd.R_lower ho0 (below_size (My.bl_ HB))); replace BK127 := My.ab BK127 hb; replace HB := My.st HB hb; (try clear hb); (try clear ho0)) | ((with_reducible refine gate_dst (N := 3) rfl ?_); refine My.bx 3 #[.int .i64 0, .int .i64 0, .slice none 0 0] 35 ?_; intro gb135 hg w7 hbox hb; replace HO132 := My.am (Kd.R_below (My.dr HO132.out) hb); have BK135 := My.am (hbox); have GE135 := My.nge hg (My.bl_ HB); replace HB := My.st HB hb; obtain ⟨NB127_135, NB135_127, BK127⟩ := My.nb hg hb BK127; clear hb hbox hg; have hnb8 := NB135_127.out; have hnc8 := NB127_135.out; have hq9 := My.cz3 BK135; obtain ⟨Ao10, co10, eo10⟩ := Kd.R_slice HO132.out; subst eo10; have hq11 := My.cz6 BK127))
 repeat (go_quiet (first | ((with_reducible refine gate_dst (N := 1) rfl ?_); refine My.bx 1 #[.int .i64 a0_0, .int .i64 a0_1, .int .i64 a0_2, .slice A0_3 l0_3.length c0_3, .string a0_4, .int .i64 a0_5] 37 ?_; intro gb127 hg w4 hbox hb; have BK127 := My.am (hbox); have GE127 := My.nge hg (My.bl_ HB); replace HB := My.st HB hb; clear hb hbox hg; have hq5 := My.cz6 BK127) | (go_at_call 37; (with_reducible refine (ident_Parent.calls k a0_1 a0_2 _ _ l0_3 t128 t129 t130 t133 t134 _ ?side1 ?side2 A2.out).mono ?_); (case side1 => exact My.sd_ HR0_3 HB); (case side2 => exact HC0_3.out); rintro e w6 ⟨v131, rfl, ho0, hb⟩; have HO132 := My.am (Kd.R_lower ho0 (below_size (My.bl_ HB))); replace BK127 := My.ab BK127 hb; replace HB := My.st HB hb; (try clear hb); (try clear ho0)) | ((with_reducible refine gate_dst (N := 3) rfl ?_); refine My.bx 3 #[.int .i64 0, .int .i64 0, .slice none 0 0] 35 ?_; intro gb135 hg w7 hbox hb; replace HO132 := My.am (Kd.R_below (My.dr HO132.out) hb); have BK135 := My.am (hbox); have GE135 := My.nge hg (My.bl_ HB); replace HB := My.st HB hb; obtain ⟨NB127_135, NB135_127, BK127⟩ := My.nb hg hb BK127; clear hb hbox hg; have hnb8 := NB135_127.out; have hnc8 := NB127_135.out; have hq9 := My.cz3 BK135; obtain ⟨Ao10, co10, eo10⟩ := Kd.R_slice HO132.out; subst eo10; have hq11 := My.cz6 BK127)); go_upto_region 3 with (first | ((with_reducible refine gate_dst (N := 1) rfl ?_); refine My.bx 1 #[.int .i64 a0_0, .int .i64 a0_1, .int .i64 a0_2, .slice A0_3 l0_3.length c0_3, .string a0_4, .int .i64 a0_5] 37 ?_; intro gb127 hg w4 hbox hb; have BK127 := My.am (hbox); have GE127 := My.nge hg (My.bl_ HB); replace HB := My.st HB hb; clear hb hbox hg; have hq5 := My.cz6 BK127) | (go_at_call 37; (with_reducible refine (ident_Parent.calls k a0_1 a0_2 _ _ l0_3 t128 t129 t130 t133 t134 _ ?side1 ?side2 A2.out).mono ?_); (case side1 => exact My.sd_ HR0_3 HB); (case side2 => exact HC0_3.out); rintro e w6 ⟨v131, rfl, ho0, hb⟩; have HO132 := My.am (Kd.R_lower ho0 (below_size (My.bl_ HB))); replace BK127 := My.ab BK127 hb; replace HB := My.st HB hb; (try clear hb); (try clear ho0)) | ((with_reducible refine gate_dst (N := 3) rfl ?_); refine My.bx 3 #[.int .i64 0, .int .i64 0, .slice none 0 0] 35 ?_; intro gb135 hg w7 hbox hb; replace HO132 := My.am (Kd.R_below (My.dr HO132.out) hb); have BK135 := My.am (hbox); have GE135 := My.nge hg (My.bl_ HB); replace HB := My.st HB hb; obtain ⟨NB127_135, NB135_127, BK127⟩ := My.nb hg hb BK127; clear hb hbox hg; have hnb8 := NB135_127.out; have hnc8 := NB127_135.out; have hq9 := My.cz3 BK135; obtain ⟨Ao10, co10, eo10⟩ := Kd.R_slice HO132.out; subst eo10; have hq11 := My.cz6 BK127)))
 (try simp only [Act.put, List.setIfInBounds_toArray, List.set_cons_zero, List.set_cons_succ])
 refine note_Check.world (J := fun W => W.heap[gb127]? = some (.cells #[.int .i64 a0_0, .int .i64 a0_1, .int .i64 a0_2, .slice A0_3 l0_3.length c0_3, .string a0_4, .int .i64 a0_5] 37 (0, 0)) ∧ Below w.heap.size w W) ⟨(My.sv_ BK127), (My.bl_ HB)⟩ ?_
 rintro wn ⟨j1, j2⟩
 clear BK127 HB
 have BK127 := My.am j1
 have HB := My.am j2
 clear j1 j2
 have hqn := My.cz6 BK127
 have H := HC3.out
 clear HC3
 by_cases c1 : a0_0 < 1
 · rw [if_pos c1] at H
   obtain rfl := note_Check.j0_bad H
   have b1 : decide (a0_0 < 1) = true := decide_eq_true c1
   clear H c1
   go_wp2
   repeat (go_quiet (fail); try go_wp2)
   go_ret
   exact ⟨My.r1, (My.bl_ HB)⟩
 rw [if_neg c1] at H
 have b1 : decide (a0_0 < 1) = false := decide_eq_false c1
 by_cases c2 : a0_0 > 7
 · rw [if_pos c2] at H
   obtain rfl := note_Check.j0_bad H
   have b2 : decide (7 < a0_0) = true := decide_eq_true c2
   have b2' : decide (a0_0 > 7) = true := decide_eq_true c2
   clear H c1 c2
   go_wp2
   repeat (go_quiet (fail); try go_wp2)
   go_ret
   exact ⟨My.r1, (My.bl_ HB)⟩
 rw [if_neg c2] at H
 have b2 : decide (7 < a0_0) = false := decide_eq_false c2
 have b2' : decide (a0_0 > 7) = false := decide_eq_false c2
 cases t134 with
 | false =>
   obtain rfl := note_Check.j0_bad H
   clear H c1 c2
   go_wp2
   repeat (go_quiet (fail); try go_wp2)
   go_ret
   exact ⟨My.r1, (My.bl_ HB)⟩
 | true =>
   obtain ⟨k1, nm, hnm, hr⟩ := note_Check.j0_is H
   have HNM := My.am hnm
   have HRR := My.am hr
   clear H c1 c2 hnm hr
   obtain ⟨p, k2⟩ : ∃ p, (a0_0 == 1) = p := ⟨_, rfl⟩
   obtain ⟨em, k3⟩ : ∃ em : Bool, a0_4.toList.isEmpty = em := ⟨_, rfl⟩
   have k4 : (a0_4.toList == ([] : List UInt8)) = em := by rw [← k3]; cases a0_4.toList <;> rfl
   have k5 : (a0_4.toList != ([] : List UInt8)) = !em := by rw [← k3]; cases a0_4.toList <;> rfl
   have go : ∀ (q w1 w9 w0 : Bool), (a0_0 == 6) = q → decide (1 ≤ a0_5) = w1 → decide (a0_5 ≤ 9) = w9 → (a0_5 == 0) = w0 → True := fun _ _ _ _ _ _ _ _ => trivial
   clear go
   obtain ⟨q, k6⟩ : ∃ q, (a0_0 == 6) = q := ⟨_, rfl⟩
   obtain ⟨w1, k7⟩ : ∃ q, decide (1 ≤ a0_5) = q := ⟨_, rfl⟩
   obtain ⟨w9, k8⟩ : ∃ q, decide (a0_5 ≤ 9) = q := ⟨_, rfl⟩
   obtain ⟨w0, k9⟩ : ∃ q, (a0_5 == 0) = q := ⟨_, rfl⟩
   have k10 : (a0_5 != 0) = !w0 := by rw [← k9]; rfl
   have hv := HRR.out
   rw [k2, k5, k6, k7, k8, k10] at hv
   have HV := My.am hv
   clear hv HRR
   cases p <;> cases nm <;> cases em <;> (first | (have hv := HV.out; simp at hv; subst hv; go_wp2_with (first | (go_at_call 38; (with_reducible refine (act_Name.calls k1 a0_4 _ _ HNM.out).mono ?_); rintro e w7 ⟨rfl, hb⟩; clear hqn; replace BK127 := My.ab BK127 hb.below; replace HB := My.st HB hb.below; clear hb; have hqn := My.cz6 BK127)); go_ret; exact ⟨My.r1, (My.bl_ HB)⟩; done) | (cases q <;> cases w1 <;> cases w9 <;> cases w0 <;> (have hv := HV.out; simp at hv; subst hv; go_wp2_with (first | (go_at_call 38; (with_reducible refine (act_Name.calls k1 a0_4 _ _ HNM.out).mono ?_); rintro e w7 ⟨rfl, hb⟩; clear hqn; replace BK127 := My.ab BK127 hb.below; replace HB := My.st HB hb.below; clear hb; have hqn := My.cz6 BK127)); go_ret; exact ⟨My.r1, (My.bl_ HB)⟩; done)))
/-! ### api_Item_45: function 45 -/


/-! ### api_Item_39: function 39 -/


/-! ### cmp_Or_int: function 52 -/
def cmp_Or_int.l0 : Nat → Int → List Int → Int → Int → Option (Int)
 | 0, _, _, _, _ => none
 | k + 1, x3, x6, x7, x8 => if x8 < x7 then (if 0 ≤ x8 then (if x8 < (x6.length : Int) then (if (rd x6 x8) = x3 then (cmp_Or_int.l0 k x3 x6 x7 (wrap64 (x8 + 1))) else (some (rd x6 x8))) else (none)) else (none)) else (some x3)
def cmp_Or_int.f (k : Nat) (l0 : List Int) : Option (Int) := cmp_Or_int.l0 k 0 l0 (l0.length : Int) 0
theorem cmp_Or_int.mono_l : ∀ k, (∀ y0 y1 y2 y3, LeO (cmp_Or_int.l0 k y0 y1 y2 y3) (cmp_Or_int.l0 (k + 1) y0 y1 y2 y3))
 | 0 => fun _ _ _ _ r h => by simp [cmp_Or_int.l0] at h
 | k + 1 => by
  have ih0 := cmp_Or_int.mono_l k
  intro y0 y1 y2 y3
  unfold cmp_Or_int.l0
  repeat' (with_reducible first | exact ih0 _ _ _ _ | exact LeO.refl _ | exact LeO.none _ | apply LeO.ite | refine LeO.bind ?_ (fun _ => ?_))
theorem cmp_Or_int.mono : ∀ a0 k, LeO (cmp_Or_int.f k a0) (cmp_Or_int.f (k + 1) a0) := by
 intro a0 k
 have ih0 := cmp_Or_int.mono_l k
 unfold cmp_Or_int.f
 repeat' (with_reducible first | exact ih0 _ _ _ _ | exact LeO.refl _ | exact LeO.none _ | apply LeO.ite | refine LeO.bind ?_ (fun _ => ?_))
theorem cmp_Or_int.calls (k : Nat) (A0 : Option Addr) (c0 : Nat) (l0 : List Int) (r : Int) (w : World) (hr0 : Kd.C (Kd.int .i64) w A0 l0.length l0) (hc0 : l0.length ≤ c0) (h : cmp_Or_int.f k l0 = some r) :
  Calls Try.prog 52 #[.slice A0 l0.length c0] w fun e w' => e = .returned (.int .i64 r) ∧ Drawn0 w w' := by
 have HR0 := My.am hr0
 have HC0 := My.am hc0
 clear hr0 hc0
 have H : (cmp_Or_int.l0 k 0 l0 (l0.length : Int) 0) = some r := h
 clear h
 have H' := My.am H
 clear H
 go_enter Try.func52, Try.ntmps52
 go_wp2
 go_loopg [8] k (fun kq v8 w' => ∃ (x8_1 : Int), v8 = .int .i64 x8_1 ∧ Aside0 (cmp_Or_int.l0 kq 0 l0 (l0.length : Int) x8_1 = some r) ∧ Aside0 (kq ≤ k) ∧ Drawn0 w w')
 case atStart => exact ⟨(0), My.r1, H', ⟨Nat.le_refl _⟩, by repeat (first | exact Drawn0.refl _ | apply Drawn0.step)⟩
 case round =>
  clear H'
  obtain ⟨x8_1, rfl, HA, HK1, ⟨m1, rfl⟩⟩ := hrel
  cases gk with
  | zero => exact absurd HA.out (by simp [cmp_Or_int.l0])
  | succ k1 =>
   have H := HA.out
   clear HA
   simp only [cmp_Or_int.l0] at H
   by_cases c2 : x8_1 < (l0.length : Int)
   rotate_left
   ·rw [if_neg c2] at H
    have c2b0 := decide_eq_false c2
    clear c2
    obtain rfl := Option.some.inj H
    go_wp2
    go_ret
    exact ⟨by first | rfl | (simp; done) | (simp [*]; done), by repeat (first | exact Drawn0.refl _ | apply Drawn0.step)⟩

   rw [if_pos c2] at H
   have c2b0 := decide_eq_true c2
   clear c2
   replace H := My.ds H
   obtain ⟨c3b0, H⟩ := H
   replace H := My.ds H
   obtain ⟨c4b0, H⟩ := H
   by_cases c5 : (rd l0 x8_1) = 0
   ·rw [if_pos c5] at H
    have c5b0 : ((rd l0 x8_1) == 0) = true := beq_iff_eq.mpr c5
    have c5b1 : ((rd l0 x8_1) != 0) = false := bne_eq_false_iff_eq.mpr c5
    clear c5
    have H' := My.am H
    clear H
    have p137 : 0 ≤ (x8_1 : Int) := My.as_
    have q137 : x8_1 < (l0.length : Int) := My.as_
    obtain ⟨ad137, e137, hx137_0⟩ := Kd.at_int HR0.out x8_1 p137 q137
    cases e137
    replace p137 := eq_true p137
    replace q137 := eq_true q137
    go_wp2
    go_roundg k1
    case measure => have := HK1.out; omega
    case rel => exact ⟨(wrap64 (x8_1 + 1)), My.r1, H', ⟨by have := HK1.out; omega⟩, by repeat (first | exact Drawn0.refl _ | apply Drawn0.step)⟩
   rw [if_neg c5] at H
   have c5b0 : ((rd l0 x8_1) == 0) = false := beq_eq_false_iff_ne.mpr c5
   have c5b1 : ((rd l0 x8_1) != 0) = true := bne_iff_ne.mpr c5
   obtain rfl := Option.some.inj H
   have p137 : 0 ≤ (x8_1 : Int) := My.as_
   have q137 : x8_1 < (l0.length : Int) := My.as_
   obtain ⟨ad137, e137, hx137_0⟩ := Kd.at_int HR0.out x8_1 p137 q137
   cases e137
   replace p137 := eq_true p137
   replace q137 := eq_true q137
   go_wp2
   go_ret
   exact ⟨by first | rfl | (simp; done) | (simp [*]; done), by repeat (first | exact Drawn0.refl _ | apply Drawn0.step)⟩
/-! ### cmp_isNaN_int: function 58 -/
def cmp_isNaN_int.f (a0 : Int) : Option (Bool) := some (a0 != a0)
theorem cmp_isNaN_int.calls (a0 : Int) (r : Bool) (w : World) (h : cmp_isNaN_int.f a0 = some r) :
  Calls Try.prog 58 #[.int .i64 a0] w fun e w' => e = .returned (.bool r) ∧ Drawn0 w w' := by
 have H : (some (a0 != a0)) = some r := h
 clear h
 obtain rfl := Option.some.inj H
 go_enter Try.func58, Try.ntmps58
 go_wp2
 go_ret
 exact ⟨by first | rfl | (simp; done) | (simp [*]; done), by repeat (first | exact Drawn0.refl _ | apply Drawn0.step)⟩

end Go.Proofs.Ytcgmoeiknkdljaa.PA
