/- ActUndone: proved for all arguments; no condition. -/
import Derived.Test.YtmfpgjpekmaemaaNum
import Derived.Test.YtmfpgjpekmaemaaPDx9
namespace Go.Proofs.Ytmfpgjpekmaemaa.Pure
open Go.RowKit Go.Proofs.Ytmfpgjpekmaemaa.PD Go.Proofs.YtmfpgjpekmaemaaW.PrintWords Go.Proofs.YtmfpgjpekmaemaaW.PrintLast Go.Proofs.YtmfpgjpekmaemaaW.PrintMore Go.Proofs.Ytmfpgjpekmaemaa.Num
set_option linter.unusedVariables false
set_option linter.unusedSimpArgs false

/-! The words of Num are used here (wr, toList_iff), nothing of numS. -/
theorem ev_pos {α : Type} {c : Prop} [Decidable c] {f g : Nat → Option α} {a b : α} (h : c) (hf : Ev f a) : Ev (fun k => if c then f k else g k) (if c then a else b) := by
  simp only [if_pos h]
  exact hf
theorem ev_neg {α : Type} {c : Prop} [Decidable c] {f g : Nat → Option α} {a b : α} (h : ¬ c) (hg : Ev g b) : Ev (fun k => if c then f k else g k) (if c then a else b) := by
  simp only [if_neg h]
  exact hg
theorem drop_bt (s : ByteArray) (i : Nat) (h : i < s.size) : (bytesOf s).drop i = bt s (i : Int) :: (bytesOf s).drop (i + 1) := by
  have hl : i < (bytesOf s).length := by rw [bytesOf_length]; exact h
  rw [List.drop_eq_getElem_cons hl, ← rd_bytesOf]
  congr 1
  simp [rd, List.getD_eq_getElem?_getD, hl]
/-- May a letter stand in a name? -/
def okc (c : Int) : Bool := (decide (97 ≤ c) && decide (c ≤ 122)) || (decide (48 ≤ c) && decide (c ≤ 57))
def low (c : Int) : Bool := decide (97 ≤ c) && decide (c ≤ 122)
def nameB (s : ByteArray) : Bool := decide (1 ≤ s.size ∧ s.size ≤ 16) && (low (bt s 0) && (bytesOf s).all okc)
theorem empty_iff (s : ByteArray) : s.toList = ([] : List UInt8) ↔ s.size = 0 := by
  have h1 : s.toList = ([] : List UInt8) ↔ s.toList = ByteArray.empty.toList := by rw [show ByteArray.empty.toList = ([] : List UInt8) from by decide +kernel]
  rw [h1, toList_iff]
  constructor
  · intro h; rw [h]; rfl
  · intro h
    apply bytesOf_inj
    rw [bytesOf_empty]
    exact List.eq_nil_of_length_eq_zero (by rw [bytesOf_length, h])
theorem name_step (c : Int) (n : Option Bool) : (if c < 97 then (if c < 48 then some false else (if c > 57 then some false else n)) else (if c > 122 then (if c < 48 then some false else (if c > 57 then some false else n)) else n)) = if okc c = true then n else some false := by
  by_cases h1 : c < 97 <;> by_cases h2 : c < 48 <;> by_cases h3 : c > 57 <;> by_cases h4 : c > 122 <;> simp [okc, h1, h2, h3, h4] <;> omega
theorem name_loop (s : ByteArray) (hs : s.size ≤ 1000) (d : Nat) : ∀ i : Nat, i + d = s.size → Ev (fun k => act_Name.l0 k s (s.size : Int) (i : Int)) (((bytesOf s).drop i).all okc) := by
  induction d with
  | zero =>
    intro i hi
    refine Ev.step (f := fun _ => some (((bytesOf s).drop i).all okc)) (fun k => ?_) (Ev.now _)
    rw [act_Name.l0, if_neg (by omega), List.drop_eq_nil_of_le (by rw [bytesOf_length]; omega)]
    rfl
  | succ d ih =>
    intro i hi
    rw [drop_bt s i (by omega), List.all_cons]
    by_cases c : okc (bt s (i : Int)) = true
    · rw [c, Bool.true_and]
      refine Ev.step (fun k => ?_) (ih (i + 1) (by omega))
      rw [act_Name.l0, if_pos (by omega), if_pos (by omega), if_pos (by omega), name_step, if_pos c, wr _ (by omega)]
      rfl
    · rw [show okc (bt s (i : Int)) = false by simpa using c, Bool.false_and]
      refine Ev.step (f := fun _ => some false) (fun k => ?_) (Ev.now _)
      rw [act_Name.l0, if_pos (by omega), if_pos (by omega), if_pos (by omega), name_step, if_neg c]
theorem name_ev (s : ByteArray) : Ev (fun k => act_Name.f k s) (nameB s) := by
  have bad : Ev (fun k => act_Name.j0 k s true) false := Ev.step (f := fun _ => some false) (fun k => by rw [act_Name.j0, if_pos rfl]) (Ev.now _)
  unfold act_Name.f
  by_cases c1 : s.toList = ([] : List UInt8)
  · have h0 := (empty_iff s).1 c1
    rw [show nameB s = false by unfold nameB; rw [decide_eq_false (by omega), Bool.false_and]]
    exact Ev.congr (fun k => if_pos c1) bad
  have h0 : s.size ≠ 0 := fun h => c1 ((empty_iff s).2 h)
  refine Ev.congr (fun k => if_neg c1) ?_
  by_cases c2 : (s.size : Int) > 16
  · rw [show nameB s = false by unfold nameB; rw [decide_eq_false (by omega), Bool.false_and]]
    exact Ev.congr (fun k => if_pos c2) bad
  have e : nameB s = (low (bt s 0) && (bytesOf s).all okc) := by unfold nameB; rw [decide_eq_true (by omega), Bool.true_and]
  rw [e]
  refine Ev.congr (fun k => by rw [if_neg c2, if_pos (by omega)]) ?_
  by_cases c3 : bt s 0 < 97
  · rw [show low (bt s 0) = false by unfold low; rw [decide_eq_false (by omega), Bool.false_and], Bool.false_and]
    exact Ev.congr (fun k => if_pos c3) bad
  refine Ev.congr (fun k => if_neg c3) ?_
  by_cases c4 : bt s 0 > 122
  · rw [show low (bt s 0) = false by unfold low; rw [decide_eq_false (show ¬ bt s 0 ≤ 122 by omega), Bool.and_false], Bool.false_and, decide_eq_true c4]
    exact bad
  rw [show low (bt s 0) = true by unfold low; rw [decide_eq_true (by omega), decide_eq_true (by omega)]; rfl, Bool.true_and, decide_eq_false c4]
  have := name_loop s (by omega) s.size 0 (by omega)
  rw [List.drop_zero] at this
  refine Ev.step (fun k => ?_) this
  rw [act_Name.j0, if_neg (by decide)]
  rfl
def checkI (kind : Int) (nm : ByteArray) (a : Int) : Int := if kind < 1 then 60 else if kind > 4 then 60 else if nameB nm = true then (if a < 1 then 60 else if a ≤ 1000000000000000 then 0 else 60) else 60
theorem check_ev (kind : Int) (nm : ByteArray) (a : Int) : Ev (fun k => act_Check.f k kind nm a) (checkI kind nm a) := by
  unfold act_Check.f checkI
  by_cases c1 : kind < 1
  · exact ev_pos c1 (Ev.now _)
  refine ev_neg c1 ?_
  by_cases c2 : kind > 4
  · exact ev_pos c2 (Ev.now _)
  refine ev_neg c2 ?_
  refine Ev.bind (name_ev nm) ?_
  by_cases c3 : nameB nm = true
  · refine ev_pos c3 ?_
    by_cases c4 : a < 1
    · exact ev_pos c4 (Ev.now _)
    refine ev_neg c4 ?_
    unfold cash_Fits.f
    rw [if_pos (by omega), Option.bind_some]
    by_cases c5 : a ≤ 1000000000000000
    · rw [if_pos c5, decide_eq_true c5]
      exact Ev.congr (fun k => if_pos rfl) (Ev.now _)
    · rw [if_neg c5, decide_eq_false c5]
      exact Ev.congr (fun k => if_neg (by decide)) (Ev.now _)
  · exact ev_neg c3 (Ev.now _)
theorem check_zero (kind : Int) (nm : ByteArray) (a : Int) (h : checkI kind nm a = 0) : 1 ≤ kind ∧ kind ≤ 4 ∧ 1 ≤ a ∧ a ≤ 1000000000000000 := by
  unfold checkI at h
  by_cases c1 : kind < 1
  · rw [if_pos c1] at h; omega
  by_cases c2 : kind > 4
  · rw [if_neg c1, if_pos c2] at h; omega
  rw [if_neg c1, if_neg c2] at h
  by_cases c3 : nameB nm = true
  · rw [if_pos c3] at h
    by_cases c4 : a < 1
    · rw [if_pos c4] at h; omega
    rw [if_neg c4] at h
    by_cases c5 : a ≤ 1000000000000000
    · omega
    · rw [if_neg c5] at h; omega
  · rw [if_neg c3] at h; omega
/-- May a pot be? -/
def Pot (h i o : Int) : Prop := 0 ≤ i ∧ i ≤ h ∧ 0 ≤ o ∧ h + o ≤ 1000000000000000
instance (h i o : Int) : Decidable (Pot h i o) := by unfold Pot; exact inferInstance
def potI (h i o : Int) : Int := if Pot h i o then 0 else 2
theorem pot_is (h i o : Int) (ho : -9223372036854775808 ≤ o ∧ o ≤ 9223372036854775807) : pot_Check.f h i o = some (potI h i o) := by
  unfold pot_Check.f potI
  by_cases c1 : i < 0
  · rw [if_pos c1, if_neg (by unfold Pot; omega)]
  by_cases c2 : i > h
  · rw [if_neg c1, if_pos c2, if_neg (by unfold Pot; omega)]
  by_cases c3 : o < 0
  · rw [if_neg c1, if_neg c2, if_pos c3, if_neg (by unfold Pot; omega)]
  by_cases c4 : h > 1000000000000000
  · rw [if_neg c1, if_neg c2, if_neg c3, if_pos c4, if_neg (by unfold Pot; omega)]
  rw [if_neg c1, if_neg c2, if_neg c3, if_neg c4, wr (1000000000000000 - h) (by omega)]
  by_cases c5 : o > 1000000000000000 - h
  · rw [if_pos c5, if_neg (by unfold Pot; omega)]
  · rw [if_neg c5, if_pos (by unfold Pot; omega)]
def mayI (n : ByteArray) (h i o h2 i2 o2 : Int) : Int := if nameB n = true ∧ Pot h i o ∧ Pot h2 i2 o2 then 0 else 2
theorem may_ev (n : ByteArray) (h i o h2 i2 o2 : Int) (b1 : -9223372036854775808 ≤ o ∧ o ≤ 9223372036854775807) (b2 : -9223372036854775808 ≤ o2 ∧ o2 ≤ 9223372036854775807) : Ev (fun k => act_May.f k n h i o h2 i2 o2) (mayI n h i o h2 i2 o2) := by
  unfold act_May.f
  refine Ev.bind (name_ev n) ?_
  by_cases c1 : nameB n = true
  · refine Ev.congr (fun k => if_pos c1) ?_
    rw [pot_is h i o b1, pot_is h2 i2 o2 b2]
    simp only [Option.bind_some]
    unfold potI
    by_cases c2 : Pot h i o
    · rw [if_pos c2]
      refine Ev.congr (fun k => if_pos rfl) ?_
      by_cases c3 : Pot h2 i2 o2
      · rw [if_pos c3, show mayI n h i o h2 i2 o2 = 0 from if_pos ⟨c1, c2, c3⟩]
        exact Ev.congr (fun k => if_pos rfl) (Ev.now _)
      · rw [if_neg c3, show mayI n h i o h2 i2 o2 = 2 from if_neg (fun h => c3 h.2.2)]
        exact Ev.congr (fun k => if_neg (by decide)) (Ev.now _)
    · rw [if_neg c2, show mayI n h i o h2 i2 o2 = 2 from if_neg (fun h => c2 h.2.1)]
      exact Ev.congr (fun k => if_neg (by decide)) (Ev.now _)
  · rw [show mayI n h i o h2 i2 o2 = 2 from if_neg (fun h => c1 h.1)]
    exact Ev.congr (fun k => if_neg c1) (Ev.now _)
def ways (kind : Int) : Int × Int := if kind = 3 then (-1, 1) else if kind = 1 then (-1, 0) else if kind = 4 then (1, -1) else if kind = 2 then (1, 0) else (0, 0)
theorem ways_is (kind : Int) : act_ways.f kind = some (ways kind) := by
  unfold act_ways.f ways
  by_cases c1 : kind = 3
  · rw [if_pos c1, if_pos c1]
  by_cases c2 : kind = 1
  · rw [if_neg c1, if_neg c1, if_pos c2, if_pos c2]
  by_cases c3 : kind = 4
  · rw [if_neg c1, if_neg c1, if_neg c2, if_neg c2, if_pos c3, if_pos c3]
  by_cases c4 : kind = 2
  · rw [if_neg c1, if_neg c1, if_neg c2, if_neg c2, if_neg c3, if_neg c3, if_pos c4, if_pos c4]
  · rw [if_neg c1, if_neg c1, if_neg c2, if_neg c2, if_neg c3, if_neg c3, if_neg c4, if_neg c4]
def DL (kind : Int) (nm : ByteArray) (a : Int) : Int × Int := if checkI kind nm a = 0 then ((ways kind).1 * a, (ways kind).2 * a) else (0, 0)
theorem ways_one (kind : Int) : -1 ≤ (ways kind).1 ∧ (ways kind).1 ≤ 1 ∧ -1 ≤ (ways kind).2 ∧ (ways kind).2 ≤ 1 := by
  unfold ways
  repeat' split
  all_goals simp
theorem times_wr (w a : Int) (h : -1 ≤ w ∧ w ≤ 1) (ha : 1 ≤ a ∧ a ≤ 1000000000000000) : wrap64 (w * a) = w * a := by
  rcases (show w = -1 ∨ w = 0 ∨ w = 1 by omega) with rfl | rfl | rfl
  · rw [wr _ (by omega)]
  · rw [wr _ (by omega)]
  · rw [wr _ (by omega)]
theorem delta_ev (kind : Int) (nm : ByteArray) (a : Int) : Ev (fun k => act_Delta.f k kind nm a) (DL kind nm a) := by
  unfold act_Delta.f DL
  refine Ev.bind (check_ev kind nm a) ?_
  by_cases c : checkI kind nm a = 0
  · refine ev_pos c ?_
    have hw := ways_one kind
    have hz := check_zero kind nm a c
    rw [ways_is]
    refine Ev.congr (f := fun _ => some ((ways kind).1 * a, (ways kind).2 * a)) (fun k => ?_) (Ev.now _)
    rw [Option.bind_some, times_wr _ a ⟨hw.1, hw.2.1⟩ ⟨hz.2.2.1, hz.2.2.2⟩, times_wr _ a ⟨hw.2.2.1, hw.2.2.2⟩ ⟨hz.2.2.1, hz.2.2.2⟩]
  · exact ev_neg c (Ev.now _)
theorem awake_ev : Ev (fun k => ententelaw06_awake.f k) true := Ev.of ententelaw06_awake.mono (k := 40) (by decide +kernel)
theorem awake_ends : Ev (fun k => (ententelaw06_awake.f k).bind fun t => some t) true := Ev.bind (f := fun _ t => some t) awake_ev (Ev.now _)
/-- What Do does with a pot. -/
def DOP (h i o : Int) (out : Bool) (a : Int) : Int × Int × Int × Int :=
  if ¬ Pot h i o ∨ a < 1 ∨ a > 1000000000000000 then (0, 0, 0, 2)
  else if out = true then (if a > h - i then (0, 0, 0, 50) else (h - a, i, o + a, 0))
  else (if a > 1000000000000000 - h - o then (0, 0, 0, 50) else (h + a, i + a, o, 0))
theorem moved_ev (h i o a lim x y z : Int) (bo : -9223372036854775808 ≤ o ∧ o ≤ 9223372036854775807) (hx : -1 ≤ x ∧ x ≤ 1) (hy : -1 ≤ y ∧ y ≤ 1) (hz : -1 ≤ z ∧ z ≤ 1) :
    Ev (fun k => pot_moved.f k h i o a lim x y z) (if ¬ Pot h i o ∨ a < 1 ∨ a > 1000000000000000 then (0, 0, 0, 2) else if a > lim then (0, 0, 0, 50) else (h + x * a, i + y * a, o + z * a, 0)) := by
  have bad : Ev (fun k => pot_moved.j0 k a lim x y z true h i o) (0, 0, 0, 2) := Ev.step (f := fun _ => some (0, 0, 0, 2)) (fun k => by rw [pot_moved.j0, if_pos rfl]) (Ev.now _)
  unfold pot_moved.f
  refine Ev.congr (fun k => by rw [pot_is h i o bo, Option.bind_some]) ?_
  by_cases c1 : Pot h i o
  · refine Ev.congr (fun k => if_pos (show potI h i o = 0 from if_pos c1)) ?_
    by_cases c2 : a < 1
    · rw [if_pos (.inr (.inl c2))]
      exact Ev.congr (fun k => if_pos c2) bad
    refine Ev.congr (fun k => if_neg c2) ?_
    have hf : cash_Fits.f a = some (decide (a ≤ 1000000000000000)) := by unfold cash_Fits.f; rw [if_pos (by omega)]
    refine Ev.congr (fun k => by rw [hf, Option.bind_some]) ?_
    by_cases c3 : a ≤ 1000000000000000
    · rw [if_neg (fun h => by rcases h with h | h | h; exact h c1; omega; omega), decide_eq_true c3]
      have c1' := c1
      unfold Pot at c1'
      have t : ∀ w : Int, -1 ≤ w ∧ w ≤ 1 → wrap64 (w * a) = w * a ∧ -1000000000000000 ≤ w * a ∧ w * a ≤ 1000000000000000 := by
        intro w hw
        refine ⟨times_wr w a hw ⟨by omega, c3⟩, ?_⟩
        rcases (show w = -1 ∨ w = 0 ∨ w = 1 by omega) with rfl | rfl | rfl <;> omega
      obtain ⟨tx, ux, vx⟩ := t x hx
      obtain ⟨ty, uy, vy⟩ := t y hy
      obtain ⟨tz, uz, vz⟩ := t z hz
      by_cases c4 : a > lim
      · rw [if_pos c4]
        exact Ev.step (f := fun _ => some (0, 0, 0, 50)) (fun k => by rw [pot_moved.j0, if_neg (by decide), if_pos c4]) (Ev.now _)
      · rw [if_neg c4]
        refine Ev.step (f := fun _ => some (h + x * a, i + y * a, o + z * a, 0)) (fun k => ?_) (Ev.now _)
        rw [pot_moved.j0, if_neg (by decide), if_neg c4, tx, ty, tz]
        generalize x * a = X at *
        generalize y * a = Y at *
        generalize z * a = Z at *
        rw [wr (h + X) (by omega), wr (i + Y) (by omega), wr (o + Z) (by omega)]
    · rw [if_pos (.inr (.inr (by omega))), decide_eq_false c3]
      exact bad
  · rw [if_pos (.inl c1)]
    exact Ev.congr (fun k => if_neg (by rw [show potI h i o = 2 from if_neg c1]; decide)) bad
theorem free_is (h i o : Int) (bo : -9223372036854775808 ≤ o ∧ o ≤ 9223372036854775807) : pot_Free.f h i o = some (if Pot h i o then h - i else 0) := by
  unfold pot_Free.f
  rw [pot_is h i o bo, Option.bind_some]
  by_cases c1 : Pot h i o
  · have c1' := c1
    unfold Pot at c1'
    rw [show potI h i o = 0 from if_pos c1, if_pos rfl, if_pos c1, wr (h - i) (by omega)]
  · rw [show potI h i o = 2 from if_neg c1, if_neg (by decide), if_neg c1]
theorem room_is (h i o : Int) (bo : -9223372036854775808 ≤ o ∧ o ≤ 9223372036854775807) : pot_Room.f h i o = some (if Pot h i o then 1000000000000000 - h - o else 0) := by
  unfold pot_Room.f
  rw [pot_is h i o bo, Option.bind_some]
  by_cases c1 : Pot h i o
  · have c1' := c1
    unfold Pot at c1'
    rw [show potI h i o = 0 from if_pos c1, if_pos rfl, if_pos c1, wr (1000000000000000 - h) (by omega), wr _ (by omega)]
  · rw [show potI h i o = 2 from if_neg c1, if_neg (by decide), if_neg c1]
theorem do_pot_ev (h i o : Int) (out : Bool) (a : Int) (bo : -9223372036854775808 ≤ o ∧ o ≤ 9223372036854775807) : Ev (fun k => pot_Do.f k h i o out a) (DOP h i o out a) := by
  unfold pot_Do.f
  have yes : ¬ (¬ Pot h i o ∨ a < 1 ∨ a > 1000000000000000) → Pot h i o := fun g => Decidable.byContradiction fun q => g (.inl q)
  cases out with
  | true =>
    have e : (if ¬ Pot h i o ∨ a < 1 ∨ a > 1000000000000000 then (0, 0, 0, 2) else if a > (if Pot h i o then h - i else 0) then (0, 0, 0, 50) else (h + -1 * a, i + 0 * a, o + 1 * a, 0)) = DOP h i o true a := by
      unfold DOP
      by_cases c2 : ¬ Pot h i o ∨ a < 1 ∨ a > 1000000000000000
      · rw [if_pos c2, if_pos c2]
      · rw [if_neg c2, if_neg c2, if_pos (yes c2), if_pos rfl, show h + -1 * a = h - a by omega, show i + 0 * a = i by omega, show o + 1 * a = o + a by omega]
    have := moved_ev h i o a (if Pot h i o then h - i else 0) (-1) 0 1 bo (by omega) (by omega) (by omega)
    rw [e] at this
    exact Ev.congr (fun k => by rw [if_pos rfl, free_is h i o bo, Option.bind_some]) (Ev.bind this (Ev.now _))
  | false =>
    have e : (if ¬ Pot h i o ∨ a < 1 ∨ a > 1000000000000000 then (0, 0, 0, 2) else if a > (if Pot h i o then 1000000000000000 - h - o else 0) then (0, 0, 0, 50) else (h + 1 * a, i + 1 * a, o + 0 * a, 0)) = DOP h i o false a := by
      unfold DOP
      by_cases c2 : ¬ Pot h i o ∨ a < 1 ∨ a > 1000000000000000
      · rw [if_pos c2, if_pos c2]
      · rw [if_neg c2, if_neg c2, if_pos (yes c2), if_neg Bool.false_ne_true, show h + 1 * a = h + a by omega, show i + 1 * a = i + a by omega, show o + 0 * a = o by omega]
    have := moved_ev h i o a (if Pot h i o then 1000000000000000 - h - o else 0) 1 1 0 bo (by omega) (by omega) (by omega)
    rw [e] at this
    exact Ev.congr (fun k => by rw [if_neg Bool.false_ne_true, room_is h i o bo, Option.bind_some]) (Ev.bind this (Ev.now _))
/-- What is done with both pots, the same with each. -/
def EACH (D : Int → Int → Int → Bool → Int → Int × Int × Int × Int) (n : ByteArray) (h i o h2 i2 o2 kind : Int) (nm : ByteArray) (a : Int) : ByteArray × Int × Int × Int × Int × Int × Int × Int :=
  if mayI n h i o h2 i2 o2 = 0 then
    if checkI kind nm a = 0 ∧ nm = n then
      if (D h i o (decide ((ways kind).1 < 0)) a).2.2.2 = 0 then
        if (ways kind).2 = 0 then (n, (D h i o (decide ((ways kind).1 < 0)) a).1, (D h i o (decide ((ways kind).1 < 0)) a).2.1, (D h i o (decide ((ways kind).1 < 0)) a).2.2.1, h2, i2, o2, 0)
        else if (D h2 i2 o2 (decide ((ways kind).2 < 0)) a).2.2.2 = 0 then
          (n, (D h i o (decide ((ways kind).1 < 0)) a).1, (D h i o (decide ((ways kind).1 < 0)) a).2.1, (D h i o (decide ((ways kind).1 < 0)) a).2.2.1, (D h2 i2 o2 (decide ((ways kind).2 < 0)) a).1, (D h2 i2 o2 (decide ((ways kind).2 < 0)) a).2.1, (D h2 i2 o2 (decide ((ways kind).2 < 0)) a).2.2.1, 0)
        else (⟨#[]⟩, 0, 0, 0, 0, 0, 0, (D h2 i2 o2 (decide ((ways kind).2 < 0)) a).2.2.2)
      else (⟨#[]⟩, 0, 0, 0, 0, 0, 0, (D h i o (decide ((ways kind).1 < 0)) a).2.2.2)
    else (⟨#[]⟩, 0, 0, 0, 0, 0, 0, 60)
  else (⟨#[]⟩, 0, 0, 0, 0, 0, 0, 2)
theorem ways_some (kind : Int) (h : 1 ≤ kind ∧ kind ≤ 4) : ¬ (ways kind).1 = 0 := by
  rcases (show kind = 1 ∨ kind = 2 ∨ kind = 3 ∨ kind = 4 by omega) with rfl | rfl | rfl | rfl <;> simp [ways]
theorem toList_ne (s t : ByteArray) : (s.toList != t.toList) = decide (¬ s = t) := by
  by_cases h : s = t
  · subst h
    simp
  · have g : ¬ s.toList = t.toList := fun g => h (toList_iff.1 g)
    rw [decide_eq_true h]
    exact bne_iff_ne.2 g
def UNP (h i o : Int) (out : Bool) (a : Int) : Int × Int × Int × Int :=
  if ¬ Pot h i o ∨ a < 1 ∨ a > 1000000000000000 then (0, 0, 0, 2)
  else if out = true then (if a > o then (0, 0, 0, 50) else (h + a, i, o - a, 0))
  else (if a > i then (0, 0, 0, 50) else (h - a, i - a, o, 0))
def KPP (h i o : Int) (out : Bool) (a : Int) : Int × Int × Int × Int :=
  if ¬ Pot h i o ∨ a < 1 ∨ a > 1000000000000000 then (0, 0, 0, 2)
  else if out = true then (if a > o then (0, 0, 0, 50) else (h, i, o - a, 0))
  else (if a > i then (0, 0, 0, 50) else (h, i - a, o, 0))
theorem undo_pot_ev (h i o : Int) (out : Bool) (a : Int) (bo : -9223372036854775808 ≤ o ∧ o ≤ 9223372036854775807) : Ev (fun k => pot_Undo.f k h i o out a) (UNP h i o out a) := by
  unfold pot_Undo.f
  cases out with
  | true =>
    have e : (if ¬ Pot h i o ∨ a < 1 ∨ a > 1000000000000000 then (0, 0, 0, 2) else if a > o then (0, 0, 0, 50) else (h + 1 * a, i + 0 * a, o + -1 * a, 0)) = UNP h i o true a := by
      unfold UNP
      by_cases c2 : ¬ Pot h i o ∨ a < 1 ∨ a > 1000000000000000
      · rw [if_pos c2, if_pos c2]
      · rw [if_neg c2, if_neg c2, if_pos rfl, show h + 1 * a = h + a by omega, show i + 0 * a = i by omega, show o + -1 * a = o - a by omega]
    have := moved_ev h i o a o 1 0 (-1) bo (by omega) (by omega) (by omega)
    rw [e] at this
    exact Ev.congr (fun k => if_pos rfl) (Ev.bind this (Ev.now _))
  | false =>
    have e : (if ¬ Pot h i o ∨ a < 1 ∨ a > 1000000000000000 then (0, 0, 0, 2) else if a > i then (0, 0, 0, 50) else (h + -1 * a, i + -1 * a, o + 0 * a, 0)) = UNP h i o false a := by
      unfold UNP
      by_cases c2 : ¬ Pot h i o ∨ a < 1 ∨ a > 1000000000000000
      · rw [if_pos c2, if_pos c2]
      · rw [if_neg c2, if_neg c2, if_neg Bool.false_ne_true, show h + -1 * a = h - a by omega, show i + -1 * a = i - a by omega, show o + 0 * a = o by omega]
    have := moved_ev h i o a i (-1) (-1) 0 bo (by omega) (by omega) (by omega)
    rw [e] at this
    exact Ev.congr (fun k => if_neg Bool.false_ne_true) (Ev.bind this (Ev.now _))
theorem keep_pot_ev (h i o : Int) (out : Bool) (a : Int) (bo : -9223372036854775808 ≤ o ∧ o ≤ 9223372036854775807) : Ev (fun k => pot_Keep.f k h i o out a) (KPP h i o out a) := by
  unfold pot_Keep.f
  have he : ∀ (b : Bool) (x y : Int), pot_either_int64.f b x y = some (if b = true then x else y) := by
    intro b x y
    unfold pot_either_int64.f
    cases b <;> rfl
  simp only [he, Option.bind_some]
  cases out with
  | true =>
    have e : (if ¬ Pot h i o ∨ a < 1 ∨ a > 1000000000000000 then (0, 0, 0, 2) else if a > o then (0, 0, 0, 50) else (h + 0 * a, i + 0 * a, o + -1 * a, 0)) = KPP h i o true a := by
      unfold KPP
      by_cases c2 : ¬ Pot h i o ∨ a < 1 ∨ a > 1000000000000000
      · rw [if_pos c2, if_pos c2]
      · rw [if_neg c2, if_neg c2, if_pos rfl, show h + 0 * a = h by omega, show i + 0 * a = i by omega, show o + -1 * a = o - a by omega]
    have := moved_ev h i o a o 0 0 (-1) bo (by omega) (by omega) (by omega)
    rw [e] at this
    exact Ev.bind this (Ev.now _)
  | false =>
    have e : (if ¬ Pot h i o ∨ a < 1 ∨ a > 1000000000000000 then (0, 0, 0, 2) else if a > i then (0, 0, 0, 50) else (h + 0 * a, i + -1 * a, o + 0 * a, 0)) = KPP h i o false a := by
      unfold KPP
      by_cases c2 : ¬ Pot h i o ∨ a < 1 ∨ a > 1000000000000000
      · rw [if_pos c2, if_pos c2]
      · rw [if_neg c2, if_neg c2, if_neg Bool.false_ne_true, show h + 0 * a = h by omega, show i + -1 * a = i - a by omega, show o + 0 * a = o by omega]
    have := moved_ev h i o a i 0 (-1) 0 bo (by omega) (by omega) (by omega)
    rw [e] at this
    exact Ev.bind this (Ev.now _)
theorem each_any_ev (D : Nat → Int → Int → Int → Bool → Int → Option (Int × Int × Int × Int)) (DD : Int → Int → Int → Bool → Int → Int × Int × Int × Int) (hD : ∀ h i o out a, -9223372036854775808 ≤ o ∧ o ≤ 9223372036854775807 → Ev (fun k => D k h i o out a) (DD h i o out a)) (n : ByteArray) (h i o h2 i2 o2 kind : Int) (nm : ByteArray) (a z : Int) (b1 : -9223372036854775808 ≤ o ∧ o ≤ 9223372036854775807) (b2 : -9223372036854775808 ≤ o2 ∧ o2 ≤ 9223372036854775807) :
    Ev (fun k => act_each_any.f D k n h i o h2 i2 o2 kind nm a z) (EACH DD n h i o h2 i2 o2 kind nm a) := by
  have bad : Ev (fun k => act_each_any.j0 D k true n h i o h2 i2 o2 kind nm a) (⟨#[]⟩, 0, 0, 0, 0, 0, 0, 60) := Ev.step (f := fun _ => some (⟨#[]⟩, 0, 0, 0, 0, 0, 0, 60)) (fun k => by rw [act_each_any.j0, if_pos rfl]) (Ev.now _)
  unfold act_each_any.f EACH
  refine Ev.bind (may_ev n h i o h2 i2 o2 b1 b2) ?_
  by_cases c1 : mayI n h i o h2 i2 o2 = 0
  · refine ev_pos c1 ?_
    refine Ev.bind (check_ev kind nm a) ?_
    by_cases c2 : checkI kind nm a = 0
    · refine Ev.congr (fun k => if_pos c2) ?_
      rw [toList_ne]
      by_cases c3 : nm = n
      · rw [if_pos ⟨c2, c3⟩, decide_eq_false (fun g => g c3)]
        have hz := check_zero kind nm a c2
        have hw := ways_some kind ⟨hz.1, hz.2.1⟩
        refine Ev.step (fun k => by rw [act_each_any.j0, if_neg (by decide), ways_is, Option.bind_some, if_neg hw]) ?_
        refine Ev.bind (hD h i o _ a b1) ?_
        by_cases c4 : (DD h i o (decide ((ways kind).1 < 0)) a).2.2.2 = 0
        · refine ev_pos c4 ?_
          by_cases c5 : (ways kind).2 = 0
          · rw [if_pos c5]
            exact Ev.step (f := fun _ => some _) (fun k => by rw [act_each_any.j1, if_pos c5]) (Ev.now _)
          · rw [if_neg c5]
            refine Ev.step (fun k => by rw [act_each_any.j1, if_neg c5]) ?_
            refine Ev.bind (hD h2 i2 o2 _ a b2) ?_
            by_cases c6 : (DD h2 i2 o2 (decide ((ways kind).2 < 0)) a).2.2.2 = 0
            · exact ev_pos c6 (Ev.now _)
            · exact ev_neg c6 (Ev.now _)
        · exact ev_neg c4 (Ev.now _)
      · rw [if_neg (fun g => c3 g.2), decide_eq_true c3]
        exact bad
    · rw [if_neg (fun g => c2 g.1)]
      exact Ev.congr (fun k => if_neg c2) bad
  · rw [if_neg c1]
    have e2 : mayI n h i o h2 i2 o2 = 2 := by
      unfold mayI at c1 ⊢
      by_cases g : nameB n = true ∧ Pot h i o ∧ Pot h2 i2 o2
      · rw [if_pos g] at c1
        exact absurd rfl c1
      · rw [if_neg g]
    refine Ev.congr (fun k => if_neg c1) ?_
    rw [e2]
    exact Ev.now _
theorem act_do_ev (n : ByteArray) (h i o h2 i2 o2 kind : Int) (nm : ByteArray) (a : Int) (b1 : -9223372036854775808 ≤ o ∧ o ≤ 9223372036854775807) (b2 : -9223372036854775808 ≤ o2 ∧ o2 ≤ 9223372036854775807) :
    Ev (fun k => act_Do.f k n h i o h2 i2 o2 kind nm a) (EACH DOP n h i o h2 i2 o2 kind nm a) := by
  unfold act_Do.f act_each_pot_Do.f
  exact Ev.bind (each_any_ev _ DOP do_pot_ev n h i o h2 i2 o2 kind nm a 0 b1 b2) (Ev.now _)
theorem act_undo_ev (n : ByteArray) (h i o h2 i2 o2 kind : Int) (nm : ByteArray) (a : Int) (b1 : -9223372036854775808 ≤ o ∧ o ≤ 9223372036854775807) (b2 : -9223372036854775808 ≤ o2 ∧ o2 ≤ 9223372036854775807) :
    Ev (fun k => act_Undo.f k n h i o h2 i2 o2 kind nm a) (EACH UNP n h i o h2 i2 o2 kind nm a) := by
  unfold act_Undo.f act_each_pot_Undo.f
  exact Ev.bind (each_any_ev _ UNP undo_pot_ev n h i o h2 i2 o2 kind nm a 0 b1 b2) (Ev.now _)
theorem act_keep_ev (n : ByteArray) (h i o h2 i2 o2 kind : Int) (nm : ByteArray) (a : Int) (b1 : -9223372036854775808 ≤ o ∧ o ≤ 9223372036854775807) (b2 : -9223372036854775808 ≤ o2 ∧ o2 ≤ 9223372036854775807) :
    Ev (fun k => act_Keep.f k n h i o h2 i2 o2 kind nm a) (EACH KPP n h i o h2 i2 o2 kind nm a) := by
  unfold act_Keep.f act_each_pot_Keep.f
  exact Ev.bind (each_any_ev _ KPP keep_pot_ev n h i o h2 i2 o2 kind nm a 0 b1 b2) (Ev.now _)
theorem dop_parts (h i o : Int) (out : Bool) (a : Int) (hp : Pot h i o) (ha : 1 ≤ a ∧ a ≤ 1000000000000000) (hk : (DOP h i o out a).2.2.2 = 0) :
    (out = true ∧ a ≤ h - i ∧ DOP h i o out a = (h - a, i, o + a, 0)) ∨ (out = false ∧ a ≤ 1000000000000000 - h - o ∧ DOP h i o out a = (h + a, i + a, o, 0)) := by
  unfold DOP at hk ⊢
  have hn : ¬ (¬ Pot h i o ∨ a < 1 ∨ a > 1000000000000000) := by
    rintro (g | g | g)
    · exact g hp
    · omega
    · omega
  rw [if_neg hn] at hk ⊢
  cases out with
  | true =>
    simp only [if_true] at hk ⊢
    by_cases c : a > h - i
    · rw [if_pos c] at hk
      exact absurd hk (by decide)
    · rw [if_neg c]
      exact .inl ⟨trivial, by omega, rfl⟩
  | false =>
    simp only [Bool.false_eq_true, if_false] at hk ⊢
    by_cases c : a > 1000000000000000 - h - o
    · rw [if_pos c] at hk
      exact absurd hk (by decide)
    · rw [if_neg c]
      exact .inr ⟨trivial, by omega, rfl⟩
/-- What is done with a pot is undone, and kept. -/
theorem pot_back (h i o : Int) (out : Bool) (a : Int) (hp : Pot h i o) (ha : 1 ≤ a ∧ a ≤ 1000000000000000) (hk : (DOP h i o out a).2.2.2 = 0) :
    ∃ h', DOP h i o out a = (h', (DOP h i o out a).2.1, (DOP h i o out a).2.2.1, 0) ∧ Pot h' (DOP h i o out a).2.1 (DOP h i o out a).2.2.1 ∧ Pot h' i o ∧ h' = (if out = true then h - a else h + a) ∧
      UNP h' (DOP h i o out a).2.1 (DOP h i o out a).2.2.1 out a = (h, i, o, 0) ∧ KPP h' (DOP h i o out a).2.1 (DOP h i o out a).2.2.1 out a = (h', i, o, 0) := by
  have hp' := hp
  unfold Pot at hp'
  have ok : ∀ x y z : Int, Pot x y z → ¬ (¬ Pot x y z ∨ a < 1 ∨ a > 1000000000000000) := by
    rintro x y z g (q | q | q)
    · exact q g
    · omega
    · omega
  rcases dop_parts h i o out a hp ha hk with ⟨rfl, g, e⟩ | ⟨rfl, g, e⟩
  · rw [e]
    have p1 : Pot (h - a) i (o + a) := by unfold Pot; omega
    refine ⟨h - a, rfl, p1, by unfold Pot; omega, rfl, ?_, ?_⟩
    · unfold UNP
      rw [if_neg (ok _ _ _ p1), if_pos rfl, if_neg (by show ¬ a > o + a; omega)]
      show (h - a + a, i, o + a - a, (0 : Int)) = _
      rw [show h - a + a = h by omega, show o + a - a = o by omega]
    · unfold KPP
      rw [if_neg (ok _ _ _ p1), if_pos rfl, if_neg (by show ¬ a > o + a; omega)]
      show (h - a, i, o + a - a, (0 : Int)) = _
      rw [show o + a - a = o by omega]
  · rw [e]
    have p1 : Pot (h + a) (i + a) o := by unfold Pot; omega
    refine ⟨h + a, rfl, p1, by unfold Pot; omega, rfl, ?_, ?_⟩
    · unfold UNP
      rw [if_neg (ok _ _ _ p1), if_neg Bool.false_ne_true, if_neg (by show ¬ a > i + a; omega)]
      show (h + a - a, i + a - a, o, (0 : Int)) = _
      rw [show h + a - a = h by omega, show i + a - a = i by omega]
    · unfold KPP
      rw [if_neg (ok _ _ _ p1), if_neg Bool.false_ne_true, if_neg (by show ¬ a > i + a; omega)]
      show (h + a, i + a - a, o, (0 : Int)) = _
      rw [show i + a - a = i by omega]
theorem may_facts (n : ByteArray) (h i o h2 i2 o2 : Int) (g : mayI n h i o h2 i2 o2 = 0) : nameB n = true ∧ Pot h i o ∧ Pot h2 i2 o2 := by
  unfold mayI at g
  by_cases c : nameB n = true ∧ Pot h i o ∧ Pot h2 i2 o2
  · exact c
  · rw [if_neg c] at g
    omega
theorem each_err (DD : Int → Int → Int → Bool → Int → Int × Int × Int × Int) (n : ByteArray) (h i o h2 i2 o2 kind : Int) (nm : ByteArray) (a : Int) (hk : ¬ (EACH DD n h i o h2 i2 o2 kind nm a).2.2.2.2.2.2.2 = 0) :
    ∃ e, EACH DD n h i o h2 i2 o2 kind nm a = (⟨#[]⟩, 0, 0, 0, 0, 0, 0, e) := by
  unfold EACH at hk ⊢
  by_cases c1 : mayI n h i o h2 i2 o2 = 0
  · rw [if_pos c1] at hk ⊢
    by_cases c2 : checkI kind nm a = 0 ∧ nm = n
    · rw [if_pos c2] at hk ⊢
      by_cases c3 : (DD h i o (decide ((ways kind).1 < 0)) a).2.2.2 = 0
      · rw [if_pos c3] at hk ⊢
        by_cases c4 : (ways kind).2 = 0
        · rw [if_pos c4] at hk
          exact absurd rfl hk
        · rw [if_neg c4] at hk ⊢
          by_cases c5 : (DD h2 i2 o2 (decide ((ways kind).2 < 0)) a).2.2.2 = 0
          · rw [if_pos c5] at hk
            exact absurd rfl hk
          · rw [if_neg c5]
            exact ⟨_, rfl⟩
      · rw [if_neg c3]
        exact ⟨_, rfl⟩
    · rw [if_neg c2]
      exact ⟨_, rfl⟩
  · rw [if_neg c1]
    exact ⟨_, rfl⟩
/-- What is done with an account is undone, and kept. -/
theorem each_back (n : ByteArray) (h i o h2 i2 o2 kind : Int) (nm : ByteArray) (a : Int) (hk : (EACH DOP n h i o h2 i2 o2 kind nm a).2.2.2.2.2.2.2 = 0) :
    ∃ h' i' o' h2' i2' o2', EACH DOP n h i o h2 i2 o2 kind nm a = (n, h', i', o', h2', i2', o2', 0) ∧ EACH UNP n h' i' o' h2' i2' o2' kind nm a = (n, h, i, o, h2, i2, o2, 0) ∧ EACH KPP n h' i' o' h2' i2' o2' kind nm a = (n, h', i, o, h2', i2, o2, 0) ∧
      mayI n h' i o h2' i2 o2 = 0 ∧ wrap64 (h + (DL kind nm a).1) = h' ∧ wrap64 (h2 + (DL kind nm a).2) = h2' ∧ Pot h' i' o' ∧ Pot h2' i2' o2' := by
  have hk0 := hk
  unfold EACH at hk
  by_cases c1 : mayI n h i o h2 i2 o2 = 0
  · rw [if_pos c1] at hk
    obtain ⟨m1, m2, m3⟩ := may_facts _ _ _ _ _ _ _ c1
    by_cases c2 : checkI kind nm a = 0 ∧ nm = n
    · rw [if_pos c2] at hk
      have hz := check_zero kind nm a c2.1
      have hd : DL kind nm a = ((ways kind).1 * a, (ways kind).2 * a) := if_pos c2.1
      by_cases c3 : (DOP h i o (decide ((ways kind).1 < 0)) a).2.2.2 = 0
      · rw [if_pos c3] at hk
        obtain ⟨h', e1, e2, e3, e4, e5, e6⟩ := pot_back h i o _ a m2 hz.2.2 c3
        generalize hi' : (DOP h i o (decide ((ways kind).1 < 0)) a).2.1 = i' at *
        generalize ho' : (DOP h i o (decide ((ways kind).1 < 0)) a).2.2.1 = o' at *
        have e2' := e2
        have m3' := m3
        unfold Pot at e2' m3'
        have w1 : wrap64 (h + (DL kind nm a).1) = h' := by
          rw [hd, e4]
          have m2' := m2
          unfold Pot at m2'
          rcases (show kind = 1 ∨ kind = 2 ∨ kind = 3 ∨ kind = 4 by omega) with rfl | rfl | rfl | rfl <;> simp [ways] <;> rw [wr _ (by omega)] <;> omega
        by_cases c4 : (ways kind).2 = 0
        · have d0 : EACH DOP n h i o h2 i2 o2 kind nm a = (n, h', i', o', h2, i2, o2, 0) := by
            unfold EACH
            rw [if_pos c1, if_pos c2, e1]
            simp [c4]
          have w2 : wrap64 (h2 + (DL kind nm a).2) = h2 := by
            rw [hd, c4, Int.zero_mul, Int.add_zero, wr _ (by omega)]
          have mm : mayI n h' i' o' h2 i2 o2 = 0 := if_pos ⟨m1, e2, m3⟩
          refine ⟨h', i', o', h2, i2, o2, d0, ?_, ?_, if_pos ⟨m1, e3, m3⟩, w1, w2, e2, m3⟩
          · unfold EACH
            rw [if_pos mm, if_pos c2, e5]
            simp [c4]
          · unfold EACH
            rw [if_pos mm, if_pos c2, e6]
            simp [c4]
        · rw [if_neg c4] at hk
          by_cases c5 : (DOP h2 i2 o2 (decide ((ways kind).2 < 0)) a).2.2.2 = 0
          · obtain ⟨h2', f1, f2, f3, f4, f5, f6⟩ := pot_back h2 i2 o2 _ a m3 hz.2.2 c5
            generalize hi2' : (DOP h2 i2 o2 (decide ((ways kind).2 < 0)) a).2.1 = i2' at *
            generalize ho2' : (DOP h2 i2 o2 (decide ((ways kind).2 < 0)) a).2.2.1 = o2' at *
            have d0 : EACH DOP n h i o h2 i2 o2 kind nm a = (n, h', i', o', h2', i2', o2', 0) := by
              unfold EACH
              rw [if_pos c1, if_pos c2, e1, f1]
              simp [c4]
            have w2 : wrap64 (h2 + (DL kind nm a).2) = h2' := by
              rw [hd, f4]
              rcases (show kind = 1 ∨ kind = 2 ∨ kind = 3 ∨ kind = 4 by omega) with rfl | rfl | rfl | rfl <;> simp [ways] at c4 ⊢ <;> rw [wr _ (by omega)] <;> omega
            have mm : mayI n h' i' o' h2' i2' o2' = 0 := if_pos ⟨m1, e2, f2⟩
            refine ⟨h', i', o', h2', i2', o2', d0, ?_, ?_, if_pos ⟨m1, e3, f3⟩, w1, w2, e2, f2⟩
            · unfold EACH
              rw [if_pos mm, if_pos c2, e5, f5]
              simp [c4]
            · unfold EACH
              rw [if_pos mm, if_pos c2, e6, f6]
              simp [c4]
          · rw [if_neg c5] at hk
            exact absurd hk c5
      · rw [if_neg c3] at hk
        exact absurd hk c3
    · rw [if_neg c2] at hk
      exact absurd hk (by decide)
  · rw [if_neg c1] at hk
    exact absurd hk (by decide)
theorem ActUndone : ententelaw06_ActUndone.Pure := by
  intro n h i o h2 i2 o2 kind nm a q0 q1 q2 q3 q4 q5 q6 q7 q8 q9
  have w64 : ∀ x : Int, (Lit.int .i64 x).wf = true → -9223372036854775808 ≤ x ∧ x ≤ 9223372036854775807 := by
    intro x hx
    simp [Lit.wf, IntKind.min, IntKind.max, IntKind.bits, IntKind.signed] at hx
    omega
  have b1 := w64 o q3
  have b2 := w64 o2 q6
  refine Ev.rounds (g := fun k => ententelaw06_ActUndone.f k n h i o h2 i2 o2 kind nm a) ?_
  unfold ententelaw06_ActUndone.f
  refine Ev.bind (act_do_ev n h i o h2 i2 o2 kind nm a b1 b2) ?_
  by_cases c : (EACH DOP n h i o h2 i2 o2 kind nm a).2.2.2.2.2.2.2 = 0
  · refine Ev.congr (fun k => if_pos c) ?_
    refine Ev.bind (delta_ev kind nm a) ?_
    obtain ⟨h', i', o', h2', i2', o2', e1, e2, e3, e4, e5, e6, e7, e8⟩ := each_back n h i o h2 i2 o2 kind nm a c
    unfold Pot at e7 e8
    rw [e1]
    refine Ev.bind (act_undo_ev n h' i' o' h2' i2' o2' kind nm a (by omega) (by omega)) ?_
    refine Ev.bind (act_keep_ev n h' i' o' h2' i2' o2' kind nm a (by omega) (by omega)) ?_
    rw [e2, e3]
    refine Ev.congr (fun k => if_neg (by simp)) ?_
    refine Ev.congr (fun k => by rw [if_pos rfl, if_pos rfl]) ?_
    refine Ev.bind (may_ev n h' i o h2' i2 o2 b1 b2) ?_
    rw [e4]
    refine Ev.step (fun k => ?_) awake_ends
    rw [show ((0 : Int) != 0) = false from rfl, ententelaw06_ActUndone.j0, if_neg (by decide), e5, e6]
    simp
  · refine Ev.congr (fun k => if_neg c) ?_
    obtain ⟨e, he⟩ := each_err DOP n h i o h2 i2 o2 kind nm a c
    rw [he]
    exact Ev.congr (fun k => if_pos (show (((⟨#[]⟩ : ByteArray).toList == ([] : List UInt8)) && ((((0 : Int) == 0) && (((0 : Int) == 0) && ((0 : Int) == 0))) && (((0 : Int) == 0) && (((0 : Int) == 0) && ((0 : Int) == 0))))) = true from by decide +kernel)) awake_ends

end Go.Proofs.Ytmfpgjpekmaemaa.Pure
