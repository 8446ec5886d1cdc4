/- ActTotals: proved for all arguments; no condition. -/
import Derived.Test.YtmfpgjpekmaemaaNum
import Derived.Test.YtmfpgjpekmaemaaPBx6
namespace Go.Proofs.Ytmfpgjpekmaemaa.Pure
open Go.RowKit Go.Proofs.Ytmfpgjpekmaemaa.PB Go.Proofs.YtmfpgjpekmaemaaW.PrintWords Go.Proofs.YtmfpgjpekmaemaaW.PrintLast Go.Proofs.YtmfpgjpekmaemaaW.PrintMore Go.Proofs.Ytmfpgjpekmaemaa.Num
set_option linter.unusedVariables false
set_option linter.unusedSimpArgs false

/-! The words of Num are used here (wr, toList_iff), nothing of numS. -/
theorem ev_pos {α : Type} {c : Prop} [Decidable c] {f g : Nat → Option α} {a b : α} (h : c) (hf : Ev f a) : Ev (fun k => if c then f k else g k) (if c then a else b) := by
  simp only [if_pos h]
  exact hf
theorem ev_neg {α : Type} {c : Prop} [Decidable c] {f g : Nat → Option α} {a b : α} (h : ¬ c) (hg : Ev g b) : Ev (fun k => if c then f k else g k) (if c then a else b) := by
  simp only [if_neg h]
  exact hg
theorem drop_bt (s : ByteArray) (i : Nat) (h : i < s.size) : (bytesOf s).drop i = bt s (i : Int) :: (bytesOf s).drop (i + 1) := by
  have hl : i < (bytesOf s).length := by rw [bytesOf_length]; exact h
  rw [List.drop_eq_getElem_cons hl, ← rd_bytesOf]
  congr 1
  simp [rd, List.getD_eq_getElem?_getD, hl]
/-- May a letter stand in a name? -/
def okc (c : Int) : Bool := (decide (97 ≤ c) && decide (c ≤ 122)) || (decide (48 ≤ c) && decide (c ≤ 57))
def low (c : Int) : Bool := decide (97 ≤ c) && decide (c ≤ 122)
def nameB (s : ByteArray) : Bool := decide (1 ≤ s.size ∧ s.size ≤ 16) && (low (bt s 0) && (bytesOf s).all okc)
theorem empty_iff (s : ByteArray) : s.toList = ([] : List UInt8) ↔ s.size = 0 := by
  have h1 : s.toList = ([] : List UInt8) ↔ s.toList = ByteArray.empty.toList := by rw [show ByteArray.empty.toList = ([] : List UInt8) from by decide +kernel]
  rw [h1, toList_iff]
  constructor
  · intro h; rw [h]; rfl
  · intro h
    apply bytesOf_inj
    rw [bytesOf_empty]
    exact List.eq_nil_of_length_eq_zero (by rw [bytesOf_length, h])
theorem name_step (c : Int) (n : Option Bool) : (if c < 97 then (if c < 48 then some false else (if c > 57 then some false else n)) else (if c > 122 then (if c < 48 then some false else (if c > 57 then some false else n)) else n)) = if okc c = true then n else some false := by
  by_cases h1 : c < 97 <;> by_cases h2 : c < 48 <;> by_cases h3 : c > 57 <;> by_cases h4 : c > 122 <;> simp [okc, h1, h2, h3, h4] <;> omega
theorem name_loop (s : ByteArray) (hs : s.size ≤ 1000) (d : Nat) : ∀ i : Nat, i + d = s.size → Ev (fun k => act_Name.l0 k s (s.size : Int) (i : Int)) (((bytesOf s).drop i).all okc) := by
  induction d with
  | zero =>
    intro i hi
    refine Ev.step (f := fun _ => some (((bytesOf s).drop i).all okc)) (fun k => ?_) (Ev.now _)
    rw [act_Name.l0, if_neg (by omega), List.drop_eq_nil_of_le (by rw [bytesOf_length]; omega)]
    rfl
  | succ d ih =>
    intro i hi
    rw [drop_bt s i (by omega), List.all_cons]
    by_cases c : okc (bt s (i : Int)) = true
    · rw [c, Bool.true_and]
      refine Ev.step (fun k => ?_) (ih (i + 1) (by omega))
      rw [act_Name.l0, if_pos (by omega), if_pos (by omega), if_pos (by omega), name_step, if_pos c, wr _ (by omega)]
      rfl
    · rw [show okc (bt s (i : Int)) = false by simpa using c, Bool.false_and]
      refine Ev.step (f := fun _ => some false) (fun k => ?_) (Ev.now _)
      rw [act_Name.l0, if_pos (by omega), if_pos (by omega), if_pos (by omega), name_step, if_neg c]
theorem name_ev (s : ByteArray) : Ev (fun k => act_Name.f k s) (nameB s) := by
  have bad : Ev (fun k => act_Name.j0 k s true) false := Ev.step (f := fun _ => some false) (fun k => by rw [act_Name.j0, if_pos rfl]) (Ev.now _)
  unfold act_Name.f
  by_cases c1 : s.toList = ([] : List UInt8)
  · have h0 := (empty_iff s).1 c1
    rw [show nameB s = false by unfold nameB; rw [decide_eq_false (by omega), Bool.false_and]]
    exact Ev.congr (fun k => if_pos c1) bad
  have h0 : s.size ≠ 0 := fun h => c1 ((empty_iff s).2 h)
  refine Ev.congr (fun k => if_neg c1) ?_
  by_cases c2 : (s.size : Int) > 16
  · rw [show nameB s = false by unfold nameB; rw [decide_eq_false (by omega), Bool.false_and]]
    exact Ev.congr (fun k => if_pos c2) bad
  have e : nameB s = (low (bt s 0) && (bytesOf s).all okc) := by unfold nameB; rw [decide_eq_true (by omega), Bool.true_and]
  rw [e]
  refine Ev.congr (fun k => by rw [if_neg c2, if_pos (by omega)]) ?_
  by_cases c3 : bt s 0 < 97
  · rw [show low (bt s 0) = false by unfold low; rw [decide_eq_false (by omega), Bool.false_and], Bool.false_and]
    exact Ev.congr (fun k => if_pos c3) bad
  refine Ev.congr (fun k => if_neg c3) ?_
  by_cases c4 : bt s 0 > 122
  · rw [show low (bt s 0) = false by unfold low; rw [decide_eq_false (show ¬ bt s 0 ≤ 122 by omega), Bool.and_false], Bool.false_and, decide_eq_true c4]
    exact bad
  rw [show low (bt s 0) = true by unfold low; rw [decide_eq_true (by omega), decide_eq_true (by omega)]; rfl, Bool.true_and, decide_eq_false c4]
  have := name_loop s (by omega) s.size 0 (by omega)
  rw [List.drop_zero] at this
  refine Ev.step (fun k => ?_) this
  rw [act_Name.j0, if_neg (by decide)]
  rfl
def checkI (kind : Int) (nm : ByteArray) (a : Int) : Int := if kind < 1 then 60 else if kind > 4 then 60 else if nameB nm = true then (if a < 1 then 60 else if a ≤ 1000000000000000 then 0 else 60) else 60
theorem check_ev (kind : Int) (nm : ByteArray) (a : Int) : Ev (fun k => act_Check.f k kind nm a) (checkI kind nm a) := by
  unfold act_Check.f checkI
  by_cases c1 : kind < 1
  · exact ev_pos c1 (Ev.now _)
  refine ev_neg c1 ?_
  by_cases c2 : kind > 4
  · exact ev_pos c2 (Ev.now _)
  refine ev_neg c2 ?_
  refine Ev.bind (name_ev nm) ?_
  by_cases c3 : nameB nm = true
  · refine ev_pos c3 ?_
    by_cases c4 : a < 1
    · exact ev_pos c4 (Ev.now _)
    refine ev_neg c4 ?_
    unfold cash_Fits.f
    rw [if_pos (by omega), Option.bind_some]
    by_cases c5 : a ≤ 1000000000000000
    · rw [if_pos c5, decide_eq_true c5]
      exact Ev.congr (fun k => if_pos rfl) (Ev.now _)
    · rw [if_neg c5, decide_eq_false c5]
      exact Ev.congr (fun k => if_neg (by decide)) (Ev.now _)
  · exact ev_neg c3 (Ev.now _)
theorem check_zero (kind : Int) (nm : ByteArray) (a : Int) (h : checkI kind nm a = 0) : 1 ≤ kind ∧ kind ≤ 4 ∧ 1 ≤ a ∧ a ≤ 1000000000000000 := by
  unfold checkI at h
  by_cases c1 : kind < 1
  · rw [if_pos c1] at h; omega
  by_cases c2 : kind > 4
  · rw [if_neg c1, if_pos c2] at h; omega
  rw [if_neg c1, if_neg c2] at h
  by_cases c3 : nameB nm = true
  · rw [if_pos c3] at h
    by_cases c4 : a < 1
    · rw [if_pos c4] at h; omega
    rw [if_neg c4] at h
    by_cases c5 : a ≤ 1000000000000000
    · omega
    · rw [if_neg c5] at h; omega
  · rw [if_neg c3] at h; omega
/-- May a pot be? -/
def Pot (h i o : Int) : Prop := 0 ≤ i ∧ i ≤ h ∧ 0 ≤ o ∧ h + o ≤ 1000000000000000
instance (h i o : Int) : Decidable (Pot h i o) := by unfold Pot; exact inferInstance
def potI (h i o : Int) : Int := if Pot h i o then 0 else 2
theorem pot_is (h i o : Int) (ho : -9223372036854775808 ≤ o ∧ o ≤ 9223372036854775807) : pot_Check.f h i o = some (potI h i o) := by
  unfold pot_Check.f potI
  by_cases c1 : i < 0
  · rw [if_pos c1, if_neg (by unfold Pot; omega)]
  by_cases c2 : i > h
  · rw [if_neg c1, if_pos c2, if_neg (by unfold Pot; omega)]
  by_cases c3 : o < 0
  · rw [if_neg c1, if_neg c2, if_pos c3, if_neg (by unfold Pot; omega)]
  by_cases c4 : h > 1000000000000000
  · rw [if_neg c1, if_neg c2, if_neg c3, if_pos c4, if_neg (by unfold Pot; omega)]
  rw [if_neg c1, if_neg c2, if_neg c3, if_neg c4, wr (1000000000000000 - h) (by omega)]
  by_cases c5 : o > 1000000000000000 - h
  · rw [if_pos c5, if_neg (by unfold Pot; omega)]
  · rw [if_neg c5, if_pos (by unfold Pot; omega)]
def mayI (n : ByteArray) (h i o h2 i2 o2 : Int) : Int := if nameB n = true ∧ Pot h i o ∧ Pot h2 i2 o2 then 0 else 2
theorem may_ev (n : ByteArray) (h i o h2 i2 o2 : Int) (b1 : -9223372036854775808 ≤ o ∧ o ≤ 9223372036854775807) (b2 : -9223372036854775808 ≤ o2 ∧ o2 ≤ 9223372036854775807) : Ev (fun k => act_May.f k n h i o h2 i2 o2) (mayI n h i o h2 i2 o2) := by
  unfold act_May.f
  refine Ev.bind (name_ev n) ?_
  by_cases c1 : nameB n = true
  · refine Ev.congr (fun k => if_pos c1) ?_
    rw [pot_is h i o b1, pot_is h2 i2 o2 b2]
    simp only [Option.bind_some]
    unfold potI
    by_cases c2 : Pot h i o
    · rw [if_pos c2]
      refine Ev.congr (fun k => if_pos rfl) ?_
      by_cases c3 : Pot h2 i2 o2
      · rw [if_pos c3, show mayI n h i o h2 i2 o2 = 0 from if_pos ⟨c1, c2, c3⟩]
        exact Ev.congr (fun k => if_pos rfl) (Ev.now _)
      · rw [if_neg c3, show mayI n h i o h2 i2 o2 = 2 from if_neg (fun h => c3 h.2.2)]
        exact Ev.congr (fun k => if_neg (by decide)) (Ev.now _)
    · rw [if_neg c2, show mayI n h i o h2 i2 o2 = 2 from if_neg (fun h => c2 h.2.1)]
      exact Ev.congr (fun k => if_neg (by decide)) (Ev.now _)
  · rw [show mayI n h i o h2 i2 o2 = 2 from if_neg (fun h => c1 h.1)]
    exact Ev.congr (fun k => if_neg c1) (Ev.now _)
def ways (kind : Int) : Int × Int := if kind = 3 then (-1, 1) else if kind = 1 then (-1, 0) else if kind = 4 then (1, -1) else if kind = 2 then (1, 0) else (0, 0)
theorem ways_is (kind : Int) : act_ways.f kind = some (ways kind) := by
  unfold act_ways.f ways
  by_cases c1 : kind = 3
  · rw [if_pos c1, if_pos c1]
  by_cases c2 : kind = 1
  · rw [if_neg c1, if_neg c1, if_pos c2, if_pos c2]
  by_cases c3 : kind = 4
  · rw [if_neg c1, if_neg c1, if_neg c2, if_neg c2, if_pos c3, if_pos c3]
  by_cases c4 : kind = 2
  · rw [if_neg c1, if_neg c1, if_neg c2, if_neg c2, if_neg c3, if_neg c3, if_pos c4, if_pos c4]
  · rw [if_neg c1, if_neg c1, if_neg c2, if_neg c2, if_neg c3, if_neg c3, if_neg c4, if_neg c4]
def DL (kind : Int) (nm : ByteArray) (a : Int) : Int × Int := if checkI kind nm a = 0 then ((ways kind).1 * a, (ways kind).2 * a) else (0, 0)
theorem ways_one (kind : Int) : -1 ≤ (ways kind).1 ∧ (ways kind).1 ≤ 1 ∧ -1 ≤ (ways kind).2 ∧ (ways kind).2 ≤ 1 := by
  unfold ways
  repeat' split
  all_goals simp
theorem times_wr (w a : Int) (h : -1 ≤ w ∧ w ≤ 1) (ha : 1 ≤ a ∧ a ≤ 1000000000000000) : wrap64 (w * a) = w * a := by
  rcases (show w = -1 ∨ w = 0 ∨ w = 1 by omega) with rfl | rfl | rfl
  · rw [wr _ (by omega)]
  · rw [wr _ (by omega)]
  · rw [wr _ (by omega)]
theorem delta_ev (kind : Int) (nm : ByteArray) (a : Int) : Ev (fun k => act_Delta.f k kind nm a) (DL kind nm a) := by
  unfold act_Delta.f DL
  refine Ev.bind (check_ev kind nm a) ?_
  by_cases c : checkI kind nm a = 0
  · refine ev_pos c ?_
    have hw := ways_one kind
    have hz := check_zero kind nm a c
    rw [ways_is]
    refine Ev.congr (f := fun _ => some ((ways kind).1 * a, (ways kind).2 * a)) (fun k => ?_) (Ev.now _)
    rw [Option.bind_some, times_wr _ a ⟨hw.1, hw.2.1⟩ ⟨hz.2.2.1, hz.2.2.2⟩, times_wr _ a ⟨hw.2.2.1, hw.2.2.2⟩ ⟨hz.2.2.1, hz.2.2.2⟩]
  · exact ev_neg c (Ev.now _)
theorem awake_ev : Ev (fun k => ententelaw06_awake.f k) true := Ev.of ententelaw06_awake.mono (k := 40) (by decide +kernel)
theorem awake_ends : Ev (fun k => (ententelaw06_awake.f k).bind fun t => some t) true := Ev.bind (f := fun _ t => some t) awake_ev (Ev.now _)
/-- What Do does with a pot. -/
def DOP (h i o : Int) (out : Bool) (a : Int) : Int × Int × Int × Int :=
  if ¬ Pot h i o ∨ a < 1 ∨ a > 1000000000000000 then (0, 0, 0, 2)
  else if out = true then (if a > h - i then (0, 0, 0, 50) else (h - a, i, o + a, 0))
  else (if a > 1000000000000000 - h - o then (0, 0, 0, 50) else (h + a, i + a, o, 0))
theorem moved_ev (h i o a lim x y z : Int) (bo : -9223372036854775808 ≤ o ∧ o ≤ 9223372036854775807) (hx : -1 ≤ x ∧ x ≤ 1) (hy : -1 ≤ y ∧ y ≤ 1) (hz : -1 ≤ z ∧ z ≤ 1) :
    Ev (fun k => pot_moved.f k h i o a lim x y z) (if ¬ Pot h i o ∨ a < 1 ∨ a > 1000000000000000 then (0, 0, 0, 2) else if a > lim then (0, 0, 0, 50) else (h + x * a, i + y * a, o + z * a, 0)) := by
  have bad : Ev (fun k => pot_moved.j0 k a lim x y z true h i o) (0, 0, 0, 2) := Ev.step (f := fun _ => some (0, 0, 0, 2)) (fun k => by rw [pot_moved.j0, if_pos rfl]) (Ev.now _)
  unfold pot_moved.f
  refine Ev.congr (fun k => by rw [pot_is h i o bo, Option.bind_some]) ?_
  by_cases c1 : Pot h i o
  · refine Ev.congr (fun k => if_pos (show potI h i o = 0 from if_pos c1)) ?_
    by_cases c2 : a < 1
    · rw [if_pos (.inr (.inl c2))]
      exact Ev.congr (fun k => if_pos c2) bad
    refine Ev.congr (fun k => if_neg c2) ?_
    have hf : cash_Fits.f a = some (decide (a ≤ 1000000000000000)) := by unfold cash_Fits.f; rw [if_pos (by omega)]
    refine Ev.congr (fun k => by rw [hf, Option.bind_some]) ?_
    by_cases c3 : a ≤ 1000000000000000
    · rw [if_neg (fun h => by rcases h with h | h | h; exact h c1; omega; omega), decide_eq_true c3]
      have c1' := c1
      unfold Pot at c1'
      have t : ∀ w : Int, -1 ≤ w ∧ w ≤ 1 → wrap64 (w * a) = w * a ∧ -1000000000000000 ≤ w * a ∧ w * a ≤ 1000000000000000 := by
        intro w hw
        refine ⟨times_wr w a hw ⟨by omega, c3⟩, ?_⟩
        rcases (show w = -1 ∨ w = 0 ∨ w = 1 by omega) with rfl | rfl | rfl <;> omega
      obtain ⟨tx, ux, vx⟩ := t x hx
      obtain ⟨ty, uy, vy⟩ := t y hy
      obtain ⟨tz, uz, vz⟩ := t z hz
      by_cases c4 : a > lim
      · rw [if_pos c4]
        exact Ev.step (f := fun _ => some (0, 0, 0, 50)) (fun k => by rw [pot_moved.j0, if_neg (by decide), if_pos c4]) (Ev.now _)
      · rw [if_neg c4]
        refine Ev.step (f := fun _ => some (h + x * a, i + y * a, o + z * a, 0)) (fun k => ?_) (Ev.now _)
        rw [pot_moved.j0, if_neg (by decide), if_neg c4, tx, ty, tz]
        generalize x * a = X at *
        generalize y * a = Y at *
        generalize z * a = Z at *
        rw [wr (h + X) (by omega), wr (i + Y) (by omega), wr (o + Z) (by omega)]
    · rw [if_pos (.inr (.inr (by omega))), decide_eq_false c3]
      exact bad
  · rw [if_pos (.inl c1)]
    exact Ev.congr (fun k => if_neg (by rw [show potI h i o = 2 from if_neg c1]; decide)) bad
theorem free_is (h i o : Int) (bo : -9223372036854775808 ≤ o ∧ o ≤ 9223372036854775807) : pot_Free.f h i o = some (if Pot h i o then h - i else 0) := by
  unfold pot_Free.f
  rw [pot_is h i o bo, Option.bind_some]
  by_cases c1 : Pot h i o
  · have c1' := c1
    unfold Pot at c1'
    rw [show potI h i o = 0 from if_pos c1, if_pos rfl, if_pos c1, wr (h - i) (by omega)]
  · rw [show potI h i o = 2 from if_neg c1, if_neg (by decide), if_neg c1]
theorem room_is (h i o : Int) (bo : -9223372036854775808 ≤ o ∧ o ≤ 9223372036854775807) : pot_Room.f h i o = some (if Pot h i o then 1000000000000000 - h - o else 0) := by
  unfold pot_Room.f
  rw [pot_is h i o bo, Option.bind_some]
  by_cases c1 : Pot h i o
  · have c1' := c1
    unfold Pot at c1'
    rw [show potI h i o = 0 from if_pos c1, if_pos rfl, if_pos c1, wr (1000000000000000 - h) (by omega), wr _ (by omega)]
  · rw [show potI h i o = 2 from if_neg c1, if_neg (by decide), if_neg c1]
theorem do_pot_ev (h i o : Int) (out : Bool) (a : Int) (bo : -9223372036854775808 ≤ o ∧ o ≤ 9223372036854775807) : Ev (fun k => pot_Do.f k h i o out a) (DOP h i o out a) := by
  unfold pot_Do.f
  have yes : ¬ (¬ Pot h i o ∨ a < 1 ∨ a > 1000000000000000) → Pot h i o := fun g => Decidable.byContradiction fun q => g (.inl q)
  cases out with
  | true =>
    have e : (if ¬ Pot h i o ∨ a < 1 ∨ a > 1000000000000000 then (0, 0, 0, 2) else if a > (if Pot h i o then h - i else 0) then (0, 0, 0, 50) else (h + -1 * a, i + 0 * a, o + 1 * a, 0)) = DOP h i o true a := by
      unfold DOP
      by_cases c2 : ¬ Pot h i o ∨ a < 1 ∨ a > 1000000000000000
      · rw [if_pos c2, if_pos c2]
      · rw [if_neg c2, if_neg c2, if_pos (yes c2), if_pos rfl, show h + -1 * a = h - a by omega, show i + 0 * a = i by omega, show o + 1 * a = o + a by omega]
    have := moved_ev h i o a (if Pot h i o then h - i else 0) (-1) 0 1 bo (by omega) (by omega) (by omega)
    rw [e] at this
    exact Ev.congr (fun k => by rw [if_pos rfl, free_is h i o bo, Option.bind_some]) (Ev.bind this (Ev.now _))
  | false =>
    have e : (if ¬ Pot h i o ∨ a < 1 ∨ a > 1000000000000000 then (0, 0, 0, 2) else if a > (if Pot h i o then 1000000000000000 - h - o else 0) then (0, 0, 0, 50) else (h + 1 * a, i + 1 * a, o + 0 * a, 0)) = DOP h i o false a := by
      unfold DOP
      by_cases c2 : ¬ Pot h i o ∨ a < 1 ∨ a > 1000000000000000
      · rw [if_pos c2, if_pos c2]
      · rw [if_neg c2, if_neg c2, if_pos (yes c2), if_neg Bool.false_ne_true, show h + 1 * a = h + a by omega, show i + 1 * a = i + a by omega, show o + 0 * a = o by omega]
    have := moved_ev h i o a (if Pot h i o then 1000000000000000 - h - o else 0) 1 1 0 bo (by omega) (by omega) (by omega)
    rw [e] at this
    exact Ev.congr (fun k => by rw [if_neg Bool.false_ne_true, room_is h i o bo, Option.bind_some]) (Ev.bind this (Ev.now _))
/-- What is done with both pots, the same with each. -/
def EACH (D : Int → Int → Int → Bool → Int → Int × Int × Int × Int) (n : ByteArray) (h i o h2 i2 o2 kind : Int) (nm : ByteArray) (a : Int) : ByteArray × Int × Int × Int × Int × Int × Int × Int :=
  if mayI n h i o h2 i2 o2 = 0 then
    if checkI kind nm a = 0 ∧ nm = n then
      if (D h i o (decide ((ways kind).1 < 0)) a).2.2.2 = 0 then
        if (ways kind).2 = 0 then (n, (D h i o (decide ((ways kind).1 < 0)) a).1, (D h i o (decide ((ways kind).1 < 0)) a).2.1, (D h i o (decide ((ways kind).1 < 0)) a).2.2.1, h2, i2, o2, 0)
        else if (D h2 i2 o2 (decide ((ways kind).2 < 0)) a).2.2.2 = 0 then
          (n, (D h i o (decide ((ways kind).1 < 0)) a).1, (D h i o (decide ((ways kind).1 < 0)) a).2.1, (D h i o (decide ((ways kind).1 < 0)) a).2.2.1, (D h2 i2 o2 (decide ((ways kind).2 < 0)) a).1, (D h2 i2 o2 (decide ((ways kind).2 < 0)) a).2.1, (D h2 i2 o2 (decide ((ways kind).2 < 0)) a).2.2.1, 0)
        else (⟨#[]⟩, 0, 0, 0, 0, 0, 0, (D h2 i2 o2 (decide ((ways kind).2 < 0)) a).2.2.2)
      else (⟨#[]⟩, 0, 0, 0, 0, 0, 0, (D h i o (decide ((ways kind).1 < 0)) a).2.2.2)
    else (⟨#[]⟩, 0, 0, 0, 0, 0, 0, 60)
  else (⟨#[]⟩, 0, 0, 0, 0, 0, 0, 2)
theorem ways_some (kind : Int) (h : 1 ≤ kind ∧ kind ≤ 4) : ¬ (ways kind).1 = 0 := by
  rcases (show kind = 1 ∨ kind = 2 ∨ kind = 3 ∨ kind = 4 by omega) with rfl | rfl | rfl | rfl <;> simp [ways]
theorem toList_ne (s t : ByteArray) : (s.toList != t.toList) = decide (¬ s = t) := by
  by_cases h : s = t
  · subst h
    simp
  · have g : ¬ s.toList = t.toList := fun g => h (toList_iff.1 g)
    rw [decide_eq_true h]
    exact bne_iff_ne.2 g
theorem each_do_ev (n : ByteArray) (h i o h2 i2 o2 kind : Int) (nm : ByteArray) (a z : Int) (b1 : -9223372036854775808 ≤ o ∧ o ≤ 9223372036854775807) (b2 : -9223372036854775808 ≤ o2 ∧ o2 ≤ 9223372036854775807) :
    Ev (fun k => act_each_pot_Do.f k n h i o h2 i2 o2 kind nm a z) (EACH DOP n h i o h2 i2 o2 kind nm a) := by
  have bad : Ev (fun k => act_each_pot_Do.j0 k true n h i o h2 i2 o2 kind nm a) (⟨#[]⟩, 0, 0, 0, 0, 0, 0, 60) := Ev.step (f := fun _ => some (⟨#[]⟩, 0, 0, 0, 0, 0, 0, 60)) (fun k => by rw [act_each_pot_Do.j0, if_pos rfl]) (Ev.now _)
  unfold act_each_pot_Do.f EACH
  refine Ev.bind (may_ev n h i o h2 i2 o2 b1 b2) ?_
  by_cases c1 : mayI n h i o h2 i2 o2 = 0
  · refine ev_pos c1 ?_
    refine Ev.bind (check_ev kind nm a) ?_
    by_cases c2 : checkI kind nm a = 0
    · refine Ev.congr (fun k => if_pos c2) ?_
      rw [toList_ne]
      by_cases c3 : nm = n
      · rw [if_pos ⟨c2, c3⟩, decide_eq_false (fun g => g c3)]
        have hz := check_zero kind nm a c2
        have hw := ways_some kind ⟨hz.1, hz.2.1⟩
        refine Ev.step (fun k => by rw [act_each_pot_Do.j0, if_neg (by decide), ways_is, Option.bind_some, if_neg hw]) ?_
        refine Ev.bind (do_pot_ev h i o _ a b1) ?_
        by_cases c4 : (DOP h i o (decide ((ways kind).1 < 0)) a).2.2.2 = 0
        · refine ev_pos c4 ?_
          by_cases c5 : (ways kind).2 = 0
          · rw [if_pos c5]
            exact Ev.step (f := fun _ => some _) (fun k => by rw [act_each_pot_Do.j1, if_pos c5]) (Ev.now _)
          · rw [if_neg c5]
            refine Ev.step (fun k => by rw [act_each_pot_Do.j1, if_neg c5]) ?_
            refine Ev.bind (do_pot_ev h2 i2 o2 _ a b2) ?_
            by_cases c6 : (DOP h2 i2 o2 (decide ((ways kind).2 < 0)) a).2.2.2 = 0
            · exact ev_pos c6 (Ev.now _)
            · exact ev_neg c6 (Ev.now _)
        · exact ev_neg c4 (Ev.now _)
      · rw [if_neg (fun g => c3 g.2), decide_eq_true c3]
        exact bad
    · rw [if_neg (fun g => c2 g.1)]
      exact Ev.congr (fun k => if_neg c2) bad
  · rw [if_neg c1]
    have e2 : mayI n h i o h2 i2 o2 = 2 := by
      unfold mayI at c1 ⊢
      by_cases g : nameB n = true ∧ Pot h i o ∧ Pot h2 i2 o2
      · rw [if_pos g] at c1
        exact absurd rfl c1
      · rw [if_neg g]
    refine Ev.congr (fun k => if_neg c1) ?_
    rw [e2]
    exact Ev.now _
theorem act_do_ev (n : ByteArray) (h i o h2 i2 o2 kind : Int) (nm : ByteArray) (a : Int) (b1 : -9223372036854775808 ≤ o ∧ o ≤ 9223372036854775807) (b2 : -9223372036854775808 ≤ o2 ∧ o2 ≤ 9223372036854775807) :
    Ev (fun k => act_Do.f k n h i o h2 i2 o2 kind nm a) (EACH DOP n h i o h2 i2 o2 kind nm a) := by
  unfold act_Do.f
  exact Ev.bind (each_do_ev n h i o h2 i2 o2 kind nm a 0 b1 b2) (Ev.now _)
theorem may_facts (n : ByteArray) (h i o h2 i2 o2 : Int) (g : mayI n h i o h2 i2 o2 = 0) : nameB n = true ∧ Pot h i o ∧ Pot h2 i2 o2 := by
  unfold mayI at g
  by_cases c : nameB n = true ∧ Pot h i o ∧ Pot h2 i2 o2
  · exact c
  · rw [if_neg c] at g
    omega
theorem may_mk (n : ByteArray) (h i o h2 i2 o2 : Int) (g1 : nameB n = true) (g2 : Pot h i o) (g3 : Pot h2 i2 o2) : mayI n h i o h2 i2 o2 = 0 := if_pos ⟨g1, g2, g3⟩
theorem dop_ok (h i o : Int) (out : Bool) (a : Int) (hp : Pot h i o) (ha : 1 ≤ a ∧ a ≤ 1000000000000000) (hk : (DOP h i o out a).2.2.2 = 0) :
    Pot (DOP h i o out a).1 (DOP h i o out a).2.1 (DOP h i o out a).2.2.1 ∧ (DOP h i o out a).1 = (if out = true then h - a else h + a) := by
  unfold DOP at hk ⊢
  have hp' := hp
  unfold Pot at hp'
  have hn : ¬ (¬ Pot h i o ∨ a < 1 ∨ a > 1000000000000000) := by
    rintro (g | g | g)
    · exact g hp
    · omega
    · omega
  rw [if_neg hn] at hk ⊢
  cases out with
  | true =>
    simp only [if_true] at hk ⊢
    by_cases c : a > h - i
    · rw [if_pos c] at hk
      exact absurd hk (by decide)
    · rw [if_neg c]
      refine ⟨?_, rfl⟩
      show Pot (h - a) i (o + a)
      unfold Pot
      omega
  | false =>
    simp only [Bool.false_eq_true, if_false] at hk ⊢
    by_cases c : a > 1000000000000000 - h - o
    · rw [if_pos c] at hk
      exact absurd hk (by decide)
    · rw [if_neg c]
      refine ⟨?_, rfl⟩
      show Pot (h + a) (i + a) o
      unfold Pot
      omega
/-- What is done keeps an account one, and changes what it has by what the activity says. -/
theorem each_ok (n : ByteArray) (h i o h2 i2 o2 kind : Int) (nm : ByteArray) (a : Int) (hm : mayI n h i o h2 i2 o2 = 0) (hk : (EACH DOP n h i o h2 i2 o2 kind nm a).2.2.2.2.2.2.2 = 0) :
    ∃ n' h' i' o' h2' i2' o2', EACH DOP n h i o h2 i2 o2 kind nm a = (n', h', i', o', h2', i2', o2', 0) ∧ mayI n' h' i' o' h2' i2' o2' = 0 ∧ h' = h + (DL kind nm a).1 ∧ h2' = h2 + (DL kind nm a).2 ∧
      1 ≤ kind ∧ kind ≤ 4 ∧ ((kind = 3 ∨ kind = 4) → (DL kind nm a).1 + (DL kind nm a).2 = 0) ∧ -1000000000000000 ≤ (DL kind nm a).1 ∧ (DL kind nm a).1 ≤ 1000000000000000 ∧ -1000000000000000 ≤ (DL kind nm a).2 ∧ (DL kind nm a).2 ≤ 1000000000000000 := by
  unfold EACH at hk ⊢
  obtain ⟨m1, m2, m3⟩ := may_facts _ _ _ _ _ _ _ hm
  rw [if_pos hm] at hk ⊢
  by_cases c : checkI kind nm a = 0 ∧ nm = n
  · rw [if_pos c] at hk ⊢
    have hz := check_zero kind nm a c.1
    have hd : DL kind nm a = ((ways kind).1 * a, (ways kind).2 * a) := if_pos c.1
    rw [hd]
    by_cases c4 : (DOP h i o (decide ((ways kind).1 < 0)) a).2.2.2 = 0
    · rw [if_pos c4] at hk ⊢
      obtain ⟨p1, p2⟩ := dop_ok h i o _ a m2 ⟨hz.2.2.1, hz.2.2.2⟩ c4
      by_cases c5 : (ways kind).2 = 0
      · rw [if_pos c5]
        refine ⟨_, _, _, _, _, _, _, rfl, may_mk _ _ _ _ _ _ _ m1 p1 m3, ?_, ?_, hz.1, hz.2.1, ?_, ?_⟩
        · rw [p2]
          rcases (show kind = 1 ∨ kind = 2 ∨ kind = 3 ∨ kind = 4 by omega) with rfl | rfl | rfl | rfl <;> simp [ways] at c5 ⊢ <;> omega
        · simp [c5]
        · rintro (rfl | rfl) <;> simp [ways] at c5
        · rcases (show kind = 1 ∨ kind = 2 ∨ kind = 3 ∨ kind = 4 by omega) with rfl | rfl | rfl | rfl <;> simp [ways] at c5 ⊢ <;> omega
      · rw [if_neg c5] at hk ⊢
        by_cases c6 : (DOP h2 i2 o2 (decide ((ways kind).2 < 0)) a).2.2.2 = 0
        · rw [if_pos c6]
          obtain ⟨r1, r2⟩ := dop_ok h2 i2 o2 _ a m3 ⟨hz.2.2.1, hz.2.2.2⟩ c6
          refine ⟨_, _, _, _, _, _, _, rfl, may_mk _ _ _ _ _ _ _ m1 p1 r1, ?_, ?_, hz.1, hz.2.1, ?_, ?_⟩
          · rw [p2]
            rcases (show kind = 1 ∨ kind = 2 ∨ kind = 3 ∨ kind = 4 by omega) with rfl | rfl | rfl | rfl <;> simp [ways] <;> omega
          · rw [r2]
            rcases (show kind = 1 ∨ kind = 2 ∨ kind = 3 ∨ kind = 4 by omega) with rfl | rfl | rfl | rfl <;> simp [ways] at c5 ⊢ <;> omega
          · rintro (rfl | rfl) <;> simp [ways] <;> omega
          · rcases (show kind = 1 ∨ kind = 2 ∨ kind = 3 ∨ kind = 4 by omega) with rfl | rfl | rfl | rfl <;> simp [ways] <;> omega
        · rw [if_neg c6] at hk
          exact absurd hk c6
    · rw [if_neg c4] at hk
      exact absurd hk c4
  · rw [if_neg c] at hk
    exact absurd hk (by decide)
theorem totals_loop (l : List S23) (hl : l.length ≤ 200) (d : Nat) : ∀ (j : Nat) (n : ByteArray) (h i o h2 i2 o2 : Int), j + d = l.length → mayI n h i o h2 i2 o2 = 0 →
    Ev (fun k => ententelaw06_ActTotals.l0 k l (h + h2) (j : Int) n h i o h2 i2 o2) true := by
  induction d with
  | zero =>
    intro j n h i o h2 i2 o2 hj hm
    refine Ev.step (fun k => ?_) awake_ends
    rw [ententelaw06_ActTotals.l0, if_neg (by omega)]
  | succ d ih =>
    intro j n h i o h2 i2 o2 hj hm
    obtain ⟨m1, m2, m3⟩ := may_facts _ _ _ _ _ _ _ hm
    unfold Pot at m2 m3
    generalize hx : rd_T23 l (j : Int) = x
    refine Ev.step (fun k => by rw [ententelaw06_ActTotals.l0, if_pos (by omega), if_pos (by omega), hx]) ?_
    refine Ev.bind (act_do_ev n h i o h2 i2 o2 x.f0 x.f1 x.f2 (by omega) (by omega)) ?_
    by_cases c : (EACH DOP n h i o h2 i2 o2 x.f0 x.f1 x.f2).2.2.2.2.2.2.2 = 0
    · refine Ev.congr (fun k => if_pos c) ?_
      obtain ⟨n', h', i', o', h2', i2', o2', e1, e2, e3, e4, e5, e6, e7, e8, e9, e10, e11⟩ := each_ok n h i o h2 i2 o2 x.f0 x.f1 x.f2 hm c
      refine Ev.bind (delta_ev x.f0 x.f1 x.f2) ?_
      rw [e1]
      generalize DL x.f0 x.f1 x.f2 = D at *
      obtain ⟨q1, q2, q3⟩ := may_facts _ _ _ _ _ _ _ e2
      have q2' := q2
      have q3' := q3
      unfold Pot at q2' q3'
      have w1 : wrap64 (h' + h2') = h' + h2' := wr _ (by omega)
      have w2 : wrap64 (wrap64 (h + h2 + D.1) + D.2) = h' + h2' := by rw [wr (h + h2 + D.1) (by omega), wr _ (by omega)]; omega
      have next := ih (j + 1) n' h' i' o' h2' i2' o2' (by omega) e2
      have rest : ∀ b : Bool, (b = true → D.1 + D.2 = 0) → Ev (fun k => ententelaw06_ActTotals.j2 k l (h + h2) (j : Int) D.1 D.2 b n' h' i' o' h2' i2' o2') true := by
        intro b hb
        have tail : Ev (fun k => (act_May.f k n' h' i' o' h2' i2' o2').bind fun t => if t = 0 then ententelaw06_ActTotals.l0 k l (h' + h2') ((j + 1 : Nat) : Int) n' h' i' o' h2' i2' o2' else some false) true := by
          refine Ev.bind (may_ev n' h' i' o' h2' i2' o2' (by omega) (by omega)) ?_
          exact Ev.congr (fun k => if_pos e2) next
        refine Ev.step (fun k => ?_) tail
        cases b with
        | true =>
          have h0 := hb rfl
          rw [ententelaw06_ActTotals.j2, if_pos rfl, if_pos (by rw [h0]; unfold wrap64; omega), w1, w2, if_pos rfl, wr ((j : Int) + 1) (by omega)]
          rfl
        | false =>
          rw [ententelaw06_ActTotals.j2, if_neg (by decide), w1, w2, if_pos rfl, wr ((j : Int) + 1) (by omega)]
          rfl
      by_cases k3 : x.f0 = 3
      · exact Ev.congr (fun k => if_pos k3) (rest true (fun _ => e7 (.inl k3)))
      · exact Ev.congr (fun k => if_neg k3) (rest (x.f0 == 4) (fun g => e7 (.inr (by simpa using g))))
    · refine Ev.congr (fun k => if_neg c) ?_
      rw [wr _ (by omega)]
      exact ih (j + 1) n h i o h2 i2 o2 (by omega) hm
theorem ActTotals : ententelaw06_ActTotals.Pure := by
  intro n h i o h2 i2 o2 l q0 q1 q2 q3 q4 q5 q6 q7
  have w64 : ∀ x : Int, (Lit.int .i64 x).wf = true → -9223372036854775808 ≤ x ∧ x ≤ 9223372036854775807 := by
    intro x hx
    simp [Lit.wf, IntKind.min, IntKind.max, IntKind.bits, IntKind.signed] at hx
    omega
  have b1 := w64 o q3
  have b2 := w64 o2 q6
  have yes : Ev (fun k => ententelaw06_ActTotals.j0 k l true n h i o h2 i2 o2) true := Ev.step (fun k => by rw [ententelaw06_ActTotals.j0, if_pos rfl]) awake_ends
  refine Ev.rounds (g := fun k => ententelaw06_ActTotals.f k n h i o h2 i2 o2 l) ?_
  unfold ententelaw06_ActTotals.f
  by_cases g : (l.length : Int) > 200
  · exact Ev.congr (fun k => if_pos g) yes
  · refine Ev.congr (fun k => if_neg g) ?_
    refine Ev.bind (may_ev n h i o h2 i2 o2 b1 b2) ?_
    by_cases c : mayI n h i o h2 i2 o2 = 0
    · obtain ⟨m1, m2, m3⟩ := may_facts _ _ _ _ _ _ _ c
      unfold Pot at m2 m3
      rw [c]
      have := totals_loop l (by omega) l.length 0 n h i o h2 i2 o2 (by omega) c
      refine Ev.step (fun k => ?_) this
      rw [show ((0 : Int) != 0) = false from rfl, ententelaw06_ActTotals.j0, if_neg (by decide), wr _ (by omega)]
      rfl
    · rw [show (mayI n h i o h2 i2 o2 != 0) = true by simpa using c]
      exact yes

end Go.Proofs.Ytmfpgjpekmaemaa.Pure
