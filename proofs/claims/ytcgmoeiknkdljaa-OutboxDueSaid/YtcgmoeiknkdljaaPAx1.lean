-- Written by a program of this session (wip/tools/mp.py over the kit's printer); Lean checks it.
import Derived.Test.YtcgmoeiknkdljaaPAx0
namespace Go.Proofs.Ytcgmoeiknkdljaa.PA
open Go.RowKit Go.Proofs.YtcgmoeiknkdljaaW.PrintWords Go.Proofs.YtcgmoeiknkdljaaW.PrintLast Go.Proofs.YtcgmoeiknkdljaaW.PrintMore
attribute [local go_sem] max2_int min2_int max_two min_two max_three min_three max_four min_four   -- for this text's walks alone
set_option linter.unusedVariables false
set_option maxHeartbeats 8000000
set_option maxRecDepth 100000
set_option linter.unusedSimpArgs false

/-! ### ententelaw19_few: function 7 -/
mutual
def ententelaw19_few.j0 : Nat → List (S46) → List (S37) → Bool → Option (Bool)
 | 0, _, _, _ => none
 | k + 1, x0, x1, x14 => if x14 = true then (some false) else (ententelaw19_few.l0 k x0 x1 0)
def ententelaw19_few.l0 : Nat → List (S46) → List (S37) → Int → Option (Bool)
 | 0, _, _, _ => none
 | k + 1, x0, x1, x5 => if x5 < (x0.length : Int) then (if 0 ≤ x5 then (if (((rd_T46 x0 x5).f3.f1.f2).length : Int) > 100 then (some false) else (ententelaw19_few.l0 k x0 x1 (wrap64 (x5 + 1)))) else (none)) else (ententelaw19_few.l1 k x1 0)
def ententelaw19_few.l1 : Nat → List (S37) → Int → Option (Bool)
 | 0, _, _ => none
 | k + 1, x1, x6 => if x6 < (x1.length : Int) then (if 0 ≤ x6 then (if (((rd_T37 x1 x6).f1.f2).length : Int) > 100 then (some false) else (ententelaw19_few.l1 k x1 (wrap64 (x6 + 1)))) else (none)) else (some true)
end
def ententelaw19_few.f (k : Nat) (l0 : List (S46)) (l1 : List (S37)) : Option (Bool) := if (l0.length : Int) > 100 then (ententelaw19_few.j0 k l0 l1 true) else (ententelaw19_few.j0 k l0 l1 (decide ((l1.length : Int) > 100)))
theorem ententelaw19_few.mono_l : ∀ k, (∀ y0 y1 y2, LeO (ententelaw19_few.j0 k y0 y1 y2) (ententelaw19_few.j0 (k + 1) y0 y1 y2)) ∧ (∀ y0 y1 y2, LeO (ententelaw19_few.l0 k y0 y1 y2) (ententelaw19_few.l0 (k + 1) y0 y1 y2)) ∧ (∀ y0 y1, LeO (ententelaw19_few.l1 k y0 y1) (ententelaw19_few.l1 (k + 1) y0 y1))
 | 0 => ⟨fun _ _ _ r h => by simp [ententelaw19_few.j0] at h, fun _ _ _ r h => by simp [ententelaw19_few.l0] at h, fun _ _ r h => by simp [ententelaw19_few.l1] at h⟩
 | k + 1 => by
  obtain ⟨ih0, ih1, ih2⟩ := ententelaw19_few.mono_l k
  refine ⟨?_, ?_, ?_⟩
  ·intro y0 y1 y2
   unfold ententelaw19_few.j0
   repeat' (with_reducible first | exact ih0 _ _ _ | exact ih1 _ _ _ | exact ih2 _ _ | exact LeO.refl _ | exact LeO.none _ | apply LeO.ite | refine LeO.bind ?_ (fun _ => ?_))
  ·intro y0 y1 y2
   unfold ententelaw19_few.l0
   repeat' (with_reducible first | exact ih0 _ _ _ | exact ih1 _ _ _ | exact ih2 _ _ | exact LeO.refl _ | exact LeO.none _ | apply LeO.ite | refine LeO.bind ?_ (fun _ => ?_))
  intro y0 y1
  unfold ententelaw19_few.l1
  repeat' (with_reducible first | exact ih0 _ _ _ | exact ih1 _ _ _ | exact ih2 _ _ | exact LeO.refl _ | exact LeO.none _ | apply LeO.ite | refine LeO.bind ?_ (fun _ => ?_))
theorem ententelaw19_few.mono : ∀ a0 a1 k, LeO (ententelaw19_few.f k a0 a1) (ententelaw19_few.f (k + 1) a0 a1) := by
 intro a0 a1 k
 obtain ⟨ih0, ih1, ih2⟩ := ententelaw19_few.mono_l k
 unfold ententelaw19_few.f
 repeat' (with_reducible first | exact ih0 _ _ _ | exact ih1 _ _ _ | exact ih2 _ _ | exact LeO.refl _ | exact LeO.none _ | apply LeO.ite | refine LeO.bind ?_ (fun _ => ?_))
theorem ententelaw19_few.calls (k : Nat) (A0 : Option Addr) (c0 : Nat) (l0 : List (S46)) (A1 : Option Addr) (c1 : Nat) (l1 : List (S37)) (r : Bool) (w : World) (hr0 : Kd.C k46 w A0 l0.length l0) (hc0 : l0.length ≤ c0) (hr1 : Kd.C k37 w A1 l1.length l1) (hc1 : l1.length ≤ c1) (h : ententelaw19_few.f k l0 l1 = some r) :
  Calls Try.prog 7 #[.slice A0 l0.length c0, .slice A1 l1.length c1] w fun e w' => e = .returned (.bool r) ∧ Drawn0 w w' := by
 have HR0 := My.am hr0
 have HC0 := My.am hc0
 clear hr0 hc0
 have HR1 := My.am hr1
 have HC1 := My.am hc1
 clear hr1 hc1
 unfold ententelaw19_few.f at h
 have H := h
 clear h
 have HC3 := My.am H
 clear H
 go_enter Try.func7, Try.ntmps7
 go_upto_region 1 with (fail)
 go_cut [14] (fun v14 wc => ∃ (kq : Nat) (x14_2 : Bool), v14 = .bool x14_2 ∧ Aside0 (ententelaw19_few.j0 kq l0 l1 x14_2 = some r) ∧ Aside0 (kq ≤ k) ∧ Drawn0 w wc)
 case first =>
  have H := HC3.out
  clear HC3
  by_cases c4 : (l0.length : Int) > 100
  ·rw [if_pos c4] at H
   have c4b0 : decide (100 < (l0.length : Int)) = true := decide_eq_true c4
   have c4b1 : decide (100 < l0.length) = true := decide_eq_true (by omega)
   clear c4
   (first | rw [c4b0] | (simp only [i64_w, i32_w]; rw [c4b0]) | skip)
   have H' := My.am H
   clear H
   go_wp2
   go_meet
   case rel => exact ⟨_, (true), My.r1, H', ⟨My.r4⟩, by repeat (first | exact Drawn0.refl _ | apply Drawn0.step)⟩
  ·rw [if_neg c4] at H
   have c4b0 : decide (100 < (l0.length : Int)) = false := decide_eq_false c4
   have c4b1 : decide (100 < l0.length) = false := decide_eq_false (by omega)
   clear c4
   (first | rw [c4b0] | (simp only [i64_w, i32_w]; rw [c4b0]) | skip)
   have H' := My.am H
   clear H
   go_wp2
   go_meet
   case rel => exact ⟨_, (decide ((l1.length : Int) > 100)), My.r1, H', ⟨My.r4⟩, by repeat (first | exact Drawn0.refl _ | apply Drawn0.step)⟩
 case rest =>
  clear HC3
  try clear c1
  obtain ⟨kq, x14_2, rfl, HA, HJ2, ⟨mc2, rfl⟩⟩ := hcut
  cases kq with
  | zero => exact absurd HA.out (by simp [ententelaw19_few.j0])
  | succ kj2 =>
   have H := HA.out
   clear HA
   simp only [ententelaw19_few.j0] at H
   by_cases c5 : x14_2 = true
   ·subst c5
    rw [if_pos rfl] at H
    obtain rfl := Option.some.inj H
    go_wp2
    go_ret
    exact ⟨by first | rfl | (simp; done) | (simp [*]; done), by repeat (first | exact Drawn0.refl _ | apply Drawn0.step)⟩
   replace c5 := Bool.eq_false_iff.mpr c5
   subst c5
   rw [if_neg (show ¬ (false = true) by decide)] at H
   have H' := My.am H
   clear H
   go_wp2
   go_loopg [5] kj2 (fun kq v5 w' => ∃ (x5_2 : Int), v5 = .int .i64 x5_2 ∧ Aside0 (ententelaw19_few.l0 kq l0 l1 x5_2 = some r) ∧ Aside0 (kq ≤ kj2) ∧ Drawn0 w w')
   case atStart => exact ⟨(0), My.r1, H', ⟨Nat.le_refl _⟩, by repeat (first | exact Drawn0.refl _ | apply Drawn0.step)⟩
   case round =>
    clear H'
    try clear c1
    try clear c5
    obtain ⟨x5_2, rfl, HA, HK2, ⟨m2, rfl⟩⟩ := hrel
    cases gk with
    | zero => exact absurd HA.out (by simp [ententelaw19_few.l0])
    | succ k2 =>
     have H := HA.out
     clear HA
     simp only [ententelaw19_few.l0] at H
     by_cases c6 : x5_2 < (l0.length : Int)
     ·rw [if_pos c6] at H
      have c6b0 := decide_eq_true c6
      clear c6
      replace H := My.ds H
      obtain ⟨c7b0, H⟩ := H
      by_cases c8 : (((rd_T46 l0 x5_2).f3.f1.f2).length : Int) > 100
      ·rw [if_pos c8] at H
       have c8b0 : decide (100 < (((rd_T46 l0 x5_2).f3.f1.f2).length : Int)) = true := decide_eq_true c8
       have c8b1 : decide (100 < ((rd_T46 l0 x5_2).f3.f1.f2).length) = true := decide_eq_true (by omega)
       clear c8
       obtain rfl := Option.some.inj H
       have p101 : 0 ≤ (x5_2 : Int) := My.as_
       have q101 : x5_2 < (l0.length : Int) := My.as_
       obtain ⟨ad101, A101_6, c101_6, e101, hx101_0, hx101_1, hx101_2, hx101_3, hx101_4, hx101_5, hx101_6, hx101_7, hx101_8, hl101_6, hi101_6⟩ := at_T46 HR0.out x5_2 p101 q101
       cases e101
       have HR101_6 := My.am hi101_6
       have HC101_6 := My.am hl101_6
       clear hi101_6 hl101_6
       replace p101 := eq_true p101
       replace q101 := eq_true q101
       go_wp2
       go_ret
       exact ⟨by first | rfl | (simp; done) | (simp [*]; done), by repeat (first | exact Drawn0.refl _ | apply Drawn0.step)⟩
      rw [if_neg c8] at H
      have c8b0 : decide (100 < (((rd_T46 l0 x5_2).f3.f1.f2).length : Int)) = false := decide_eq_false c8
      have c8b1 : decide (100 < ((rd_T46 l0 x5_2).f3.f1.f2).length) = false := decide_eq_false (by omega)
      clear c8
      have H' := My.am H
      clear H
      have p101 : 0 ≤ (x5_2 : Int) := My.as_
      have q101 : x5_2 < (l0.length : Int) := My.as_
      obtain ⟨ad101, A101_6, c101_6, e101, hx101_0, hx101_1, hx101_2, hx101_3, hx101_4, hx101_5, hx101_6, hx101_7, hx101_8, hl101_6, hi101_6⟩ := at_T46 HR0.out x5_2 p101 q101
      cases e101
      have HR101_6 := My.am hi101_6
      have HC101_6 := My.am hl101_6
      clear hi101_6 hl101_6
      replace p101 := eq_true p101
      replace q101 := eq_true q101
      go_wp2
      go_roundg k2
      case measure => have := HJ2.out; have := HK2.out; omega
      case rel => exact ⟨(wrap64 (x5_2 + 1)), My.r1, H', ⟨by have := HJ2.out; have := HK2.out; omega⟩, by repeat (first | exact Drawn0.refl _ | apply Drawn0.step)⟩
     rw [if_neg c6] at H
     have c6b0 := decide_eq_false c6
     clear c6
     have H' := My.am H
     clear H
     go_wp2
     go_loopg [6] k2 (fun kq v6 w' => ∃ (x6_3 : Int), v6 = .int .i64 x6_3 ∧ Aside0 (ententelaw19_few.l1 kq l1 x6_3 = some r) ∧ Aside0 (kq ≤ k2) ∧ Drawn0 w w')
     case atStart => exact ⟨(0), My.r1, H', ⟨Nat.le_refl _⟩, by repeat (first | exact Drawn0.refl _ | apply Drawn0.step)⟩
     case round =>
      clear H'
      try clear c1
      try clear c5
      try clear c6
      try clear c6b0
      obtain ⟨x6_3, rfl, HA, HK3, ⟨m3, rfl⟩⟩ := hrel
      cases gk with
      | zero => exact absurd HA.out (by simp [ententelaw19_few.l1])
      | succ k3 =>
       have H := HA.out
       clear HA
       simp only [ententelaw19_few.l1] at H
       by_cases c9 : x6_3 < (l1.length : Int)
       rotate_left
       ·rw [if_neg c9] at H
        have c9b0 := decide_eq_false c9
        clear c9
        obtain rfl := Option.some.inj H
        go_wp2
        go_ret
        exact ⟨by first | rfl | (simp; done) | (simp [*]; done), by repeat (first | exact Drawn0.refl _ | apply Drawn0.step)⟩

       rw [if_pos c9] at H
       have c9b0 := decide_eq_true c9
       clear c9
       replace H := My.ds H
       obtain ⟨c10b0, H⟩ := H
       by_cases c11 : (((rd_T37 l1 x6_3).f1.f2).length : Int) > 100
       ·rw [if_pos c11] at H
        have c11b0 : decide (100 < (((rd_T37 l1 x6_3).f1.f2).length : Int)) = true := decide_eq_true c11
        have c11b1 : decide (100 < ((rd_T37 l1 x6_3).f1.f2).length) = true := decide_eq_true (by omega)
        clear c11
        obtain rfl := Option.some.inj H
        have p102 : 0 ≤ (x6_3 : Int) := My.as_
        have q102 : x6_3 < (l1.length : Int) := My.as_
        obtain ⟨ad102, A102_3, c102_3, e102, hx102_0, hx102_1, hx102_2, hx102_3, hx102_4, hx102_5, hl102_3, hi102_3⟩ := at_T37 HR1.out x6_3 p102 q102
        cases e102
        have HR102_3 := My.am hi102_3
        have HC102_3 := My.am hl102_3
        clear hi102_3 hl102_3
        replace p102 := eq_true p102
        replace q102 := eq_true q102
        go_wp2
        go_ret
        exact ⟨by first | rfl | (simp; done) | (simp [*]; done), by repeat (first | exact Drawn0.refl _ | apply Drawn0.step)⟩
       rw [if_neg c11] at H
       have c11b0 : decide (100 < (((rd_T37 l1 x6_3).f1.f2).length : Int)) = false := decide_eq_false c11
       have c11b1 : decide (100 < ((rd_T37 l1 x6_3).f1.f2).length) = false := decide_eq_false (by omega)
       clear c11
       have H' := My.am H
       clear H
       have p102 : 0 ≤ (x6_3 : Int) := My.as_
       have q102 : x6_3 < (l1.length : Int) := My.as_
       obtain ⟨ad102, A102_3, c102_3, e102, hx102_0, hx102_1, hx102_2, hx102_3, hx102_4, hx102_5, hl102_3, hi102_3⟩ := at_T37 HR1.out x6_3 p102 q102
       cases e102
       have HR102_3 := My.am hi102_3
       have HC102_3 := My.am hl102_3
       clear hi102_3 hl102_3
       replace p102 := eq_true p102
       replace q102 := eq_true q102
       go_wp2
       go_roundg k3
       case measure => have := HJ2.out; have := HK2.out; have := HK3.out; omega
       case rel => exact ⟨(wrap64 (x6_3 + 1)), My.r1, H', ⟨by have := HJ2.out; have := HK2.out; have := HK3.out; omega⟩, by repeat (first | exact Drawn0.refl _ | apply Drawn0.step)⟩
/-! ### api_Hop_36: function 36 -/

def api_Hop_36.f (l0 : List S62) : Option (List S62) := if l0.length * 16 ≤ 140737488351232 then some l0 else none
theorem api_Hop_36.info : (Try.prog.info? 62).map (fun i => (i.zero, i.size, i.bytes)) = some (some (.agg #[.int .i64 0, .int .i64 0]), k62.sz, 16) := by kernel_rfl
set_option maxHeartbeats 4000000 in
theorem api_Hop_36.calls (A0 : Option Addr) (c0 : Nat) (l0 : List S62) (r : List S62) (w : World) (hr0 : Kd.C k62 w A0 l0.length l0) (hc0 : l0.length ≤ c0) (h : api_Hop_36.f l0 = some r) :
  Calls Try.prog 36 #[.slice A0 l0.length c0] w fun e w' => ∃ v0_ : Value, e = .returned v0_ ∧ Kd.R k62 62 w' w.heap.size (fun _ => True) v0_ r ∧ Below w.heap.size w w' := by
 unfold api_Hop_36.f at h
 by_cases c : l0.length * 16 ≤ 140737488351232
 ·rw [if_pos c] at h
  obtain rfl := Option.some.inj h
  clear h
  have q22 : ∀ (w : World) (a : Option Addr) (n c n' c' : Nat), (binOp .eql 33 (.slice a n c) (.slice none n' c')).run Try.prog w = .ok (.bool a.isNone) w := fun w a n c n' c' => Lib.run_eql_slice_nil w _ _ a n c n' c' Try.underlying33
  have HC := My.am hr0
  rcases A0 with _ | ad
  ·have h0 : l0 = [] := by
    rcases l0 with _ | ⟨x, l⟩
    ·rfl
    obtain ⟨ad, e, _⟩ := hr0.2.2 (by simp)
    cases e
   clear hr0
   subst h0
   go_enter Try.func36, Try.ntmps36
   go_wp2
   go_ret
   exact ⟨_, rfl, Kd.R_nil _ _ _ _ _, Below.refl _ _⟩
  ·clear hr0
   have hr2 := Kd.R_nil k62 62 (w.alloc (.cells #[] 62)) w.heap.size (fun _ => True)
   have hm : Kd.R k62 62 (w.alloc (.cells #[] 62)) w.heap.size (fun _ => True) (.slice (some ⟨w.heap.size, 0, none⟩) 0 0) [] := ⟨fun _ _ => trivial, _, World.ownsRow_made w #[] 0 (Nat.le_refl _) (Nat.zero_le _) rfl, Reps.none _ _⟩
   have HM := My.am hm
   have HA := My.am (Kd.C_alloc HC.out (.cells #[] 62))
   have HB := My.am (below_alloc (Below.refl w.heap.size w) (.cells #[] 62))
   clear hm hr2
   go_enter Try.func36, Try.ntmps36
   go_wp2_with (at_builtin; refine Kd.R_append_rows k62 (w0 := w) w.heap.size rfl _ _ 33 62 (.agg #[.int .i64 0, .int .i64 0]) 16 rfl Try.underlying33 api_Hop_36.info rfl (by decide) (by decide) _ [] l0 _ _ _ (fun _ => True) (fun _ => False) rfl rfl HM.out HA.out (fun x cs h => by rw [k62_open h]; exact k62_mkM _ _ _ x) (fun _ h => h.elim) (fun _ _ => trivial) HB.out (by simp) (by simp; omega) ?_; intro v1 w1 hr1 hb1 hg1 hat1)
   go_ret
   exact ⟨_, rfl, by simpa using hr1, hb1⟩
 ·rw [if_neg c] at h
  cases h


/-! ### ident_path: function 49 -/
def ident_path.l0 : Nat → List Int → List (S62) → Int → Int → Option (List Int)
 | 0, _, _, _, _ => none
 | k + 1, x3, x10, x11, x12 => if x12 < x11 then (if 0 ≤ x12 then (if x12 < (x10.length : Int) then (if x3.length < 17592186044416 then (ident_path.l0 k (x3 ++ [(rd_T62 x10 x12).f1]) x10 x11 (wrap64 (x12 + 1))) else (none)) else (none)) else (none)) else (some x3)
def ident_path.f (k : Nat) (a0_0 : Int) (a0_1 : Int) (l0_2 : List (S62)) : Option (List Int) := ident_path.l0 k (([a0_0] : List Int)) l0_2 (l0_2.length : Int) 0
theorem ident_path.mono_l : ∀ k, (∀ y0 y1 y2 y3, LeO (ident_path.l0 k y0 y1 y2 y3) (ident_path.l0 (k + 1) y0 y1 y2 y3))
 | 0 => fun _ _ _ _ r h => by simp [ident_path.l0] at h
 | k + 1 => by
  have ih0 := ident_path.mono_l k
  intro y0 y1 y2 y3
  unfold ident_path.l0
  repeat' (with_reducible first | exact ih0 _ _ _ _ | exact LeO.refl _ | exact LeO.none _ | apply LeO.ite | refine LeO.bind ?_ (fun _ => ?_))
theorem ident_path.mono : ∀ a0 a1 a2 k, LeO (ident_path.f k a0 a1 a2) (ident_path.f (k + 1) a0 a1 a2) := by
 intro a0 a1 a2 k
 have ih0 := ident_path.mono_l k
 unfold ident_path.f
 repeat' (with_reducible first | exact ih0 _ _ _ _ | exact LeO.refl _ | exact LeO.none _ | apply LeO.ite | refine LeO.bind ?_ (fun _ => ?_))
theorem ident_path.calls (k : Nat) (a0_0 : Int) (a0_1 : Int) (A0_2 : Option Addr) (c0_2 : Nat) (l0_2 : List (S62)) (r : List Int) (w : World) (hr0_2 : Kd.C k62 w A0_2 l0_2.length l0_2) (hc0_2 : l0_2.length ≤ c0_2) (h : ident_path.f k a0_0 a0_1 l0_2 = some r) :
  Calls Try.prog 49 #[.agg #[.int .i64 a0_0, .int .i64 a0_1, .slice A0_2 l0_2.length c0_2]] w fun e w' => ∃ v0_ : Value, e = .returned (v0_) ∧ Kd.R (Kd.int .i64) 3 w' w.heap.size (fun _ => True) v0_ r ∧ Below w.heap.size w w' := by
 have hu35 := Try.underlying35
 have hu62 := Try.underlying62
 have HR0_2 := My.am hr0_2
 have HC0_2 := My.am hc0_2
 clear hr0_2 hc0_2
 have HB := My.am (Below.refl w.heap.size w)
 unfold ident_path.f at h
 have H := h
 clear h
 obtain ⟨y104, hy104⟩ : ∃ y_ : List Int, y_ = (([a0_0] : List Int)) := ⟨_, rfl⟩
 replace H : (ident_path.l0 k y104 l0_2 (l0_2.length : Int) 0) = some r := by first | (rw [hy104]; with_reducible exact H) | (have H2_ := (Option.bind_some _ _).symm.trans H; rw [hy104]; with_reducible exact H2_) | (have H2_ := (Option.bind_some _ _).symm.trans H; with_reducible exact H2_) | with_reducible exact H | (rw [hy104]; exact H) | exact H
 have Ny104 := My.am hy104
 clear hy104
 have H' := My.am H
 clear H
 go_enter Try.func49, Try.ntmps49
 go_wp2_with (first | ((with_reducible refine gate_dst (N := 1) rfl ?_); refine My.bx 1 #[.int .i64 a0_0, .int .i64 a0_1, .slice A0_2 l0_2.length c0_2] 35 ?_; intro gb103 hg w2 hbox hb; have BK103 := My.am (hbox); have GE103 := My.nge hg (My.bl_ HB); replace HB := My.st HB hb; clear hb hbox hg; have hq3 := My.cz3 BK103) | ((with_reducible refine gate_dst (N := 8) rfl ?_); refine Kd.R_lit (Kd.int .i64) _ 3 ?hg (N := 8) ?hd (xs := ([a0_0] : List Int)) (inner := [.int .i64 a0_0]) (ok := fun _ => True) (okp := fun _ => True) ?hr ?hp (fun _ hk => hk) trivial (Below.refl _ _) (Nat.le_refl _) (by simp) ?_; (case hd => rfl); (case hg => rfl); (case hr => first | (go_simp; done) | (go_simp; rfl)); (case hp => exact (Reps.one (show Kd.M (Kd.int .i64) _ _ _ a0_0 [.int .i64 a0_0] from rfl) (Reps.none _ _))); intro v105 w4 ho5 hb hg_ hnew_; clear hg_ hnew_; (first | rw [← Ny104.out] at ho5 | (simp only [Int.reduceToNat] at ho5; rw [← Ny104.out] at ho5)); have HO106 := My.am (Kd.R_lower ho5 (below_size (My.bl_ HB))); replace BK103 := My.ab BK103 hb; replace HB := My.st HB hb; clear hb ho5; have hq6 := My.cz3 BK103))
 go_loopg [3, 12] k (fun kq v3 v12 w' => ∃ (x3_1 : List Int) (x12_1 : Int), v12 = .int .i64 x12_1 ∧ Aside0 (ident_path.l0 kq x3_1 l0_2 (l0_2.length : Int) x12_1 = some r) ∧ Aside0 (kq ≤ k) ∧ Aside0 (Kd.R (Kd.int .i64) 3 w' w.heap.size (fun _ => True) v3 x3_1) ∧ Aside0 (w'.heap[gb103]? = some (.cells #[.int .i64 a0_0, .int .i64 a0_1, (.slice A0_2 l0_2.length c0_2)] 35 (0, 0))) ∧ Aside0 (Below w.heap.size w w'))
 case atStart => exact ⟨(y104), (0), My.r1, H', ⟨Nat.le_refl _⟩, ⟨My.dR HO106.out⟩, ⟨(My.at_ BK103)⟩, ⟨(My.bl_ HB)⟩⟩
 case round =>
  clear H'
  try clear hq3
  try clear hq6
  obtain ⟨x3_1, x12_1, rfl, HA, HK1, HO_3, BK103, HB⟩ := hrel
  cases gk with
  | zero => exact absurd HA.out (by simp [ident_path.l0])
  | succ k1 =>
   have H := HA.out
   clear HA
   simp only [ident_path.l0] at H
   by_cases c7 : x12_1 < (l0_2.length : Int)
   rotate_left
   ·rw [if_neg c7] at H
    have c7b0 := decide_eq_false c7
    clear c7
    obtain rfl := Option.some.inj H
    go_wp2
    go_ret
    exact ⟨_, My.r2, My.dR HO_3.out, (My.bl_ HB)⟩

   rw [if_pos c7] at H
   have c7b0 := decide_eq_true c7
   clear c7
   replace H := My.ds H
   obtain ⟨c8b0, H⟩ := H
   replace H := My.ds H
   obtain ⟨c9b0, H⟩ := H
   by_cases c10 : x3_1.length < 17592186044416
   rotate_left
   ·exact My.nn c10 H
   rw [if_pos c10] at H
   have LMc10 := My.am c10
   clear c10
   obtain ⟨y109, hy109⟩ : ∃ y_ : List Int, y_ = (x3_1 ++ [(rd_T62 l0_2 x12_1).f1]) := ⟨_, rfl⟩
   replace H : (ident_path.l0 k1 y109 l0_2 (l0_2.length : Int) (wrap64 (x12_1 + 1))) = some r := by first | (rw [hy109]; with_reducible exact H) | (have H2_ := (Option.bind_some _ _).symm.trans H; rw [hy109]; with_reducible exact H2_) | (have H2_ := (Option.bind_some _ _).symm.trans H; with_reducible exact H2_) | with_reducible exact H | (rw [hy109]; exact H) | exact H
   have Ny109 := My.am hy109
   clear hy109
   have H' := My.am H
   clear H
   have p107 : 0 ≤ (x12_1 : Int) := My.as_
   have q107 : x12_1 < (l0_2.length : Int) := My.as_
   obtain ⟨ad107, e107, hx107_0, hx107_1⟩ := My.up2 HB (at_T62 HR0_2.out x12_1 p107 q107)
   cases e107
   replace p107 := eq_true p107
   replace q107 := eq_true q107
   go_wp2_with (first | ((with_reducible refine gate_dst (N := 5) rfl ?_); refine My.bx 5 #[.int .i64 0, .int .i64 0] 62 ?_; intro gb108 hg w11 hbox hb; replace HO_3 := My.am (Kd.R_below (My.dr HO_3.out) hb); have BK108 := My.am (hbox); have GE108 := My.nge hg (My.bl_ HB); replace HB := My.st HB hb; obtain ⟨NB103_108, NB108_103, BK103⟩ := My.nb hg hb BK103; clear hb hbox hg; have hnb12 := NB108_103.out; have hnc12 := NB103_108.out; have hq13 := My.cz2 BK108) | ((with_reducible refine gate_builtin (b := .append) (xs := #[.tmp 16, .tmp 19]) rfl ?_); at_builtin; refine Kd.R_append (Kd.int .i64) (w0 := w) w.heap.size rfl (.tmp 16) (.tmp 19) 74 3 (.int .i64 0) 8 rfl Try.underlying74 info3 rfl (by decide) (by omega) u3 x3_1 ((rd_T62 l0_2 x12_1).f1) [.int .i64 ((rd_T62 l0_2 x12_1).f1)] (fun _ => True) (fun _ => False) rfl (by first | (go_simp; done) | (go_simp; rfl)) ?aP (fun _ hk => hk.elim) ?aF ?aO ?aB ?aS ?aL ?_; (case aP => exact rfl); (case aB => exact (My.bl_ HB)); (case aF => exact (fun _ _ => trivial)); (case aO => exact (My.dR (Kd.R_mono (Kd.R_far (p := ⟨gb108, 1, none⟩) (Kd.R_far (p := ⟨gb108, 0, none⟩) (Kd.R_types HO_3.out BK108.out (by decide)) (fun _ hk => hk.2) (.int .i64 ((rd_T62 l0_2 x12_1).f0))) (fun _ hk => hk.2) (.int .i64 ((rd_T62 l0_2 x12_1).f1))) (fun _ hk => trivial)))); (case aS => exact (below_size (My.bl_ HB))); (case aL => have := LMc10.out; omega); intro v110 w14 ho hb hg hat; rw [← Ny109.out] at ho; replace BK103 := My.am (blk_grown (g := gb103) (o := .cells #[.int .i64 a0_0, .int .i64 a0_1, .slice (some ad107) l0_2.length c0_2] 35 (0, 0)) ((My.sv_ BK103)) hg (Kd.R_ne HO_3.out BK103.out (by decide))); replace HB := My.am (hb); have HO111 := My.am (ho); (try clear HO_3); clear ho hb hg hat))
   go_roundg k1
   case measure => have := HK1.out; omega
   case rel => exact ⟨(y109), (wrap64 (x12_1 + 1)), My.r1, H', ⟨by have := HK1.out; omega⟩, ⟨My.dR HO111.out⟩, ⟨(My.at_ BK103)⟩, ⟨(My.bl_ HB)⟩⟩
/-! ### ident_Check_1: function 51 -/
def ident_Check_1.f (a0_0 : Int) (a0_1 : Int) : Option (Bool) := if a0_0 < 0 then (some true) else (some (decide (a0_0 ≥ 8)))
theorem ident_Check_1.calls (a0_0 : Int) (a0_1 : Int) (r : Bool) (w : World) (h : ident_Check_1.f a0_0 a0_1 = some r) :
  Calls Try.prog 51 #[.agg #[.int .i64 a0_0, .int .i64 a0_1]] w fun e w' => e = .returned (.bool r) ∧ Below w.heap.size w w' := by
 have hu62 := Try.underlying62
 have HB := My.am (Below.refl w.heap.size w)
 unfold ident_Check_1.f at h
 have H := h
 clear h
 by_cases c2 : a0_0 < 0
 ·rw [if_pos c2] at H
  have c2b0 := decide_eq_true c2
  clear c2
  obtain rfl := Option.some.inj H
  go_enter Try.func51, Try.ntmps51
  go_wp2_with (first | ((with_reducible refine gate_dst (N := 1) rfl ?_); refine My.bx 1 #[.int .i64 a0_0, .int .i64 a0_1] 62 ?_; intro gb112 hg w3 hbox hb; have BK112 := My.am (hbox); have GE112 := My.nge hg (My.bl_ HB); replace HB := My.st HB hb; clear hb hbox hg; have hq4 := My.cz2 BK112))
  go_ret
  exact ⟨My.r2, (My.bl_ HB)⟩
 ·rw [if_neg c2] at H
  have c2b0 := decide_eq_false c2
  clear c2
  obtain rfl := Option.some.inj H
  go_enter Try.func51, Try.ntmps51
  go_wp2_with (first | ((with_reducible refine gate_dst (N := 1) rfl ?_); refine My.bx 1 #[.int .i64 a0_0, .int .i64 a0_1] 62 ?_; intro gb112 hg w5 hbox hb; have BK112 := My.am (hbox); have GE112 := My.nge hg (My.bl_ HB); replace HB := My.st HB hb; clear hb hbox hg; have hq6 := My.cz2 BK112))
  go_ret
  exact ⟨My.r2, (My.bl_ HB)⟩

/-! ### api_Hop_57: function 57 -/
def api_Hop_57.l0 : Nat → List (S62) → Int → Int → Option (Int)
 | 0, _, _, _ => none
 | k + 1, x0, x7, x8 => if x8 < x7 then (if 0 ≤ x8 then (if x8 < (x0.length : Int) then ((ident_Check_1.f ((rd_T62 x0 x8).f0) ((rd_T62 x0 x8).f1)).bind fun t114 => (if t114 = true then (some x8) else (api_Hop_57.l0 k x0 x7 (wrap64 (x8 + 1))))) else (none)) else (none)) else (some (-1))
def api_Hop_57.f (k : Nat) (l0 : List (S62)) (a1 : Int) : Option (Int) := api_Hop_57.l0 k l0 (l0.length : Int) 0
theorem api_Hop_57.mono_l : ∀ k, (∀ y0 y1 y2, LeO (api_Hop_57.l0 k y0 y1 y2) (api_Hop_57.l0 (k + 1) y0 y1 y2))
 | 0 => fun _ _ _ r h => by simp [api_Hop_57.l0] at h
 | k + 1 => by
  have ih0 := api_Hop_57.mono_l k
  intro y0 y1 y2
  unfold api_Hop_57.l0
  repeat' (with_reducible first | exact ih0 _ _ _ | exact LeO.refl _ | exact LeO.none _ | apply LeO.ite | refine LeO.bind ?_ (fun _ => ?_))
theorem api_Hop_57.mono : ∀ a0 a1 k, LeO (api_Hop_57.f k a0 a1) (api_Hop_57.f (k + 1) a0 a1) := by
 intro a0 a1 k
 have ih0 := api_Hop_57.mono_l k
 unfold api_Hop_57.f
 repeat' (with_reducible first | exact ih0 _ _ _ | exact LeO.refl _ | exact LeO.none _ | apply LeO.ite | refine LeO.bind ?_ (fun _ => ?_))
theorem api_Hop_57.calls (k : Nat) (A0 : Option Addr) (c0 : Nat) (l0 : List (S62)) (a1 : Int) (r : Int) (w : World) (hr0 : Kd.C k62 w A0 l0.length l0) (hc0 : l0.length ≤ c0) (h : api_Hop_57.f k l0 a1 = some r) :
  Calls Try.prog 57 #[.slice A0 l0.length c0, .func (.func 51) #[] #[]] w fun e w' => e = .returned (.int .i64 r) ∧ Below w.heap.size w w' := by
 have hu62 := Try.underlying62
 have HR0 := My.am hr0
 have HC0 := My.am hc0
 clear hr0 hc0
 have HB := My.am (Below.refl w.heap.size w)
 have H : (api_Hop_57.l0 k l0 (l0.length : Int) 0) = some r := h
 clear h
 have H' := My.am H
 clear H
 go_enter Try.func57, Try.ntmps57
 go_wp2
 go_loopg [8] k (fun kq v8 w' => ∃ (x8_1 : Int), v8 = .int .i64 x8_1 ∧ Aside0 (api_Hop_57.l0 kq l0 (l0.length : Int) x8_1 = some r) ∧ Aside0 (kq ≤ k) ∧ Aside0 (Below w.heap.size w w'))
 case atStart => exact ⟨(0), My.r1, H', ⟨Nat.le_refl _⟩, ⟨(My.bl_ HB)⟩⟩
 case round =>
  clear H'
  obtain ⟨x8_1, rfl, HA, HK1, HB⟩ := hrel
  cases gk with
  | zero => exact absurd HA.out (by simp [api_Hop_57.l0])
  | succ k1 =>
   have H := HA.out
   clear HA
   simp only [api_Hop_57.l0] at H
   by_cases c3 : x8_1 < (l0.length : Int)
   rotate_left
   ·rw [if_neg c3] at H
    have c3b0 := decide_eq_false c3
    clear c3
    obtain rfl := Option.some.inj H
    go_wp2
    go_ret
    exact ⟨My.r2, (My.bl_ HB)⟩

   rw [if_pos c3] at H
   have c3b0 := decide_eq_true c3
   clear c3
   replace H := My.ds H
   obtain ⟨c4b0, H⟩ := H
   replace H := My.ds H
   obtain ⟨c5b0, H⟩ := H
   replace H := Option.bind_eq_some_iff.mp H
   obtain ⟨t114, A60, H⟩ := H
   try dsimp only at H
   have A6 := My.am A60
   clear A60
   by_cases c7 : t114 = true
   ·subst c7
    rw [if_pos rfl] at H
    obtain rfl := Option.some.inj H
    have p113 : 0 ≤ (x8_1 : Int) := My.as_
    have q113 : x8_1 < (l0.length : Int) := My.as_
    obtain ⟨ad113, e113, hx113_0, hx113_1⟩ := My.up2 HB (at_T62 HR0.out x8_1 p113 q113)
    cases e113
    replace p113 := eq_true p113
    replace q113 := eq_true q113
    go_wp2_with (first | ((with_reducible refine gate_dst (N := 16) rfl ?_); refine My.goesV_ (f := 51) (first := #[]) (cap := #[]) (some 16) rfl rfl Try.func51 (by kernel_rfl) rfl #[.agg #[.int .i64 ((rd_T62 l0 x8_1).f0), .int .i64 ((rd_T62 l0 x8_1).f1)]] rfl rfl (by simp only [List.map_toArray, List.map_cons, List.map_nil, Array.empty_append, Array.append_empty]; first | done | rfl | (simp [Act.eval]; done)) ?_; (with_reducible refine (ident_Check_1.calls ((rd_T62 l0 x8_1).f0) ((rd_T62 l0 x8_1).f1) true _ A6.out).mono ?_); rintro e w8 ⟨rfl, hb⟩; refine ⟨_, rfl, ?_⟩; replace HB := My.st HB hb; (try clear hb)))
    go_ret
    exact ⟨My.r2, (My.bl_ HB)⟩
   replace c7 := Bool.eq_false_iff.mpr c7
   subst c7
   rw [if_neg (show ¬ (false = true) by decide)] at H
   have H' := My.am H
   clear H
   have p113 : 0 ≤ (x8_1 : Int) := My.as_
   have q113 : x8_1 < (l0.length : Int) := My.as_
   obtain ⟨ad113, e113, hx113_0, hx113_1⟩ := My.up2 HB (at_T62 HR0.out x8_1 p113 q113)
   cases e113
   replace p113 := eq_true p113
   replace q113 := eq_true q113
   go_wp2_with (first | ((with_reducible refine gate_dst (N := 16) rfl ?_); refine My.goesV_ (f := 51) (first := #[]) (cap := #[]) (some 16) rfl rfl Try.func51 (by kernel_rfl) rfl #[.agg #[.int .i64 ((rd_T62 l0 x8_1).f0), .int .i64 ((rd_T62 l0 x8_1).f1)]] rfl rfl (by simp only [List.map_toArray, List.map_cons, List.map_nil, Array.empty_append, Array.append_empty]; first | done | rfl | (simp [Act.eval]; done)) ?_; (with_reducible refine (ident_Check_1.calls ((rd_T62 l0 x8_1).f0) ((rd_T62 l0 x8_1).f1) false _ A6.out).mono ?_); rintro e w9 ⟨rfl, hb⟩; refine ⟨_, rfl, ?_⟩; replace HB := My.st HB hb; (try clear hb)))
   go_roundg k1
   case measure => have := HK1.out; omega
   case rel => exact ⟨(wrap64 (x8_1 + 1)), My.r1, H', ⟨by have := HK1.out; omega⟩, ⟨(My.bl_ HB)⟩⟩
/-! ### api_Hop_50: function 50 -/
def api_Hop_50.f (k : Nat) (l0 : List (S62)) (a1 : Int) : Option (Bool) := (api_Hop_57.f k l0 a1).bind fun t115 => (some (decide (t115 ≥ 0)))
theorem api_Hop_50.mono : ∀ a0 a1 k, LeO (api_Hop_50.f k a0 a1) (api_Hop_50.f (k + 1) a0 a1) := by
 intro a0 a1 k
 unfold api_Hop_50.f
 repeat' (with_reducible first | exact api_Hop_57.mono _ _ _ | exact LeO.refl _ | exact LeO.none _ | apply LeO.ite | refine LeO.bind ?_ (fun _ => ?_))
theorem api_Hop_50.calls (k : Nat) (A0 : Option Addr) (c0 : Nat) (l0 : List (S62)) (a1 : Int) (r : Bool) (w : World) (hr0 : Kd.C k62 w A0 l0.length l0) (hc0 : l0.length ≤ c0) (h : api_Hop_50.f k l0 a1 = some r) :
  Calls Try.prog 50 #[.slice A0 l0.length c0, .func (.func 51) #[] #[]] w fun e w' => e = .returned (.bool r) ∧ Below w.heap.size w w' := by
 have HR0 := My.am hr0
 have HC0 := My.am hc0
 clear hr0 hc0
 have HB := My.am (Below.refl w.heap.size w)
 unfold api_Hop_50.f at h
 have H := h
 clear h
 replace H := Option.bind_eq_some_iff.mp H
 obtain ⟨t115, A30, H⟩ := H
 try dsimp only at H
 have A3 := My.am A30
 clear A30
 obtain rfl := Option.some.inj H
 go_enter Try.func50, Try.ntmps50
 go_wp2_with (first | ((with_reducible refine gate_callee (f := 57) rfl ?_); refine goesL_ (some 7) rfl rfl Try.func57 (by kernel_rfl) rfl #[.slice A0 l0.length c0, .func (.func 51) #[] #[]] rfl My.gx ?_; (with_reducible refine (api_Hop_57.calls k _ _ l0 a1 t115 _ ?side1 ?side2 A3.out).mono ?_); (case side1 => repeat (first | exact HR0.out | (with_reducible refine Kd.C_alloc ?_ _) | (with_reducible refine Kd.C_drewN ?_ _) | (with_reducible refine Kd.C_drew ?_))); (case side2 => exact HC0.out); rintro e w4 ⟨rfl, hb⟩; refine ⟨_, rfl, ?_⟩; replace HB := My.st HB hb; (try clear hb)))
 go_ret
 exact ⟨My.r2, (My.bl_ HB)⟩

end Go.Proofs.Ytcgmoeiknkdljaa.PA
