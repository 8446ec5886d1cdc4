/- ActChecks: proved for all arguments; no condition. -/
import Derived.Test.YtmfpgjpekmaemaaNum
import Derived.Test.YtmfpgjpekmaemaaPAx6
namespace Go.Proofs.Ytmfpgjpekmaemaa.Pure
open Go.RowKit Go.Proofs.Ytmfpgjpekmaemaa.PA Go.Proofs.YtmfpgjpekmaemaaW.PrintWords Go.Proofs.YtmfpgjpekmaemaaW.PrintLast Go.Proofs.YtmfpgjpekmaemaaW.PrintMore Go.Proofs.Ytmfpgjpekmaemaa.Num
set_option linter.unusedVariables false
set_option linter.unusedSimpArgs false

/-! The words of Num are used here (wr, toList_iff), nothing of numS. -/
theorem ev_pos {α : Type} {c : Prop} [Decidable c] {f g : Nat → Option α} {a b : α} (h : c) (hf : Ev f a) : Ev (fun k => if c then f k else g k) (if c then a else b) := by
  simp only [if_pos h]
  exact hf
theorem ev_neg {α : Type} {c : Prop} [Decidable c] {f g : Nat → Option α} {a b : α} (h : ¬ c) (hg : Ev g b) : Ev (fun k => if c then f k else g k) (if c then a else b) := by
  simp only [if_neg h]
  exact hg
theorem drop_bt (s : ByteArray) (i : Nat) (h : i < s.size) : (bytesOf s).drop i = bt s (i : Int) :: (bytesOf s).drop (i + 1) := by
  have hl : i < (bytesOf s).length := by rw [bytesOf_length]; exact h
  rw [List.drop_eq_getElem_cons hl, ← rd_bytesOf]
  congr 1
  simp [rd, List.getD_eq_getElem?_getD, hl]
/-- May a letter stand in a name? -/
def okc (c : Int) : Bool := (decide (97 ≤ c) && decide (c ≤ 122)) || (decide (48 ≤ c) && decide (c ≤ 57))
def low (c : Int) : Bool := decide (97 ≤ c) && decide (c ≤ 122)
def nameB (s : ByteArray) : Bool := decide (1 ≤ s.size ∧ s.size ≤ 16) && (low (bt s 0) && (bytesOf s).all okc)
theorem empty_iff (s : ByteArray) : s.toList = ([] : List UInt8) ↔ s.size = 0 := by
  have h1 : s.toList = ([] : List UInt8) ↔ s.toList = ByteArray.empty.toList := by rw [show ByteArray.empty.toList = ([] : List UInt8) from by decide +kernel]
  rw [h1, toList_iff]
  constructor
  · intro h; rw [h]; rfl
  · intro h
    apply bytesOf_inj
    rw [bytesOf_empty]
    exact List.eq_nil_of_length_eq_zero (by rw [bytesOf_length, h])
theorem name_step (c : Int) (n : Option Bool) : (if c < 97 then (if c < 48 then some false else (if c > 57 then some false else n)) else (if c > 122 then (if c < 48 then some false else (if c > 57 then some false else n)) else n)) = if okc c = true then n else some false := by
  by_cases h1 : c < 97 <;> by_cases h2 : c < 48 <;> by_cases h3 : c > 57 <;> by_cases h4 : c > 122 <;> simp [okc, h1, h2, h3, h4] <;> omega
theorem name_loop (s : ByteArray) (hs : s.size ≤ 1000) (d : Nat) : ∀ i : Nat, i + d = s.size → Ev (fun k => act_Name.l0 k s (s.size : Int) (i : Int)) (((bytesOf s).drop i).all okc) := by
  induction d with
  | zero =>
    intro i hi
    refine Ev.step (f := fun _ => some (((bytesOf s).drop i).all okc)) (fun k => ?_) (Ev.now _)
    rw [act_Name.l0, if_neg (by omega), List.drop_eq_nil_of_le (by rw [bytesOf_length]; omega)]
    rfl
  | succ d ih =>
    intro i hi
    rw [drop_bt s i (by omega), List.all_cons]
    by_cases c : okc (bt s (i : Int)) = true
    · rw [c, Bool.true_and]
      refine Ev.step (fun k => ?_) (ih (i + 1) (by omega))
      rw [act_Name.l0, if_pos (by omega), if_pos (by omega), if_pos (by omega), name_step, if_pos c, wr _ (by omega)]
      rfl
    · rw [show okc (bt s (i : Int)) = false by simpa using c, Bool.false_and]
      refine Ev.step (f := fun _ => some false) (fun k => ?_) (Ev.now _)
      rw [act_Name.l0, if_pos (by omega), if_pos (by omega), if_pos (by omega), name_step, if_neg c]
theorem name_ev (s : ByteArray) : Ev (fun k => act_Name.f k s) (nameB s) := by
  have bad : Ev (fun k => act_Name.j0 k s true) false := Ev.step (f := fun _ => some false) (fun k => by rw [act_Name.j0, if_pos rfl]) (Ev.now _)
  unfold act_Name.f
  by_cases c1 : s.toList = ([] : List UInt8)
  · have h0 := (empty_iff s).1 c1
    rw [show nameB s = false by unfold nameB; rw [decide_eq_false (by omega), Bool.false_and]]
    exact Ev.congr (fun k => if_pos c1) bad
  have h0 : s.size ≠ 0 := fun h => c1 ((empty_iff s).2 h)
  refine Ev.congr (fun k => if_neg c1) ?_
  by_cases c2 : (s.size : Int) > 16
  · rw [show nameB s = false by unfold nameB; rw [decide_eq_false (by omega), Bool.false_and]]
    exact Ev.congr (fun k => if_pos c2) bad
  have e : nameB s = (low (bt s 0) && (bytesOf s).all okc) := by unfold nameB; rw [decide_eq_true (by omega), Bool.true_and]
  rw [e]
  refine Ev.congr (fun k => by rw [if_neg c2, if_pos (by omega)]) ?_
  by_cases c3 : bt s 0 < 97
  · rw [show low (bt s 0) = false by unfold low; rw [decide_eq_false (by omega), Bool.false_and], Bool.false_and]
    exact Ev.congr (fun k => if_pos c3) bad
  refine Ev.congr (fun k => if_neg c3) ?_
  by_cases c4 : bt s 0 > 122
  · rw [show low (bt s 0) = false by unfold low; rw [decide_eq_false (show ¬ bt s 0 ≤ 122 by omega), Bool.and_false], Bool.false_and, decide_eq_true c4]
    exact bad
  rw [show low (bt s 0) = true by unfold low; rw [decide_eq_true (by omega), decide_eq_true (by omega)]; rfl, Bool.true_and, decide_eq_false c4]
  have := name_loop s (by omega) s.size 0 (by omega)
  rw [List.drop_zero] at this
  refine Ev.step (fun k => ?_) this
  rw [act_Name.j0, if_neg (by decide)]
  rfl
def checkI (kind : Int) (nm : ByteArray) (a : Int) : Int := if kind < 1 then 60 else if kind > 4 then 60 else if nameB nm = true then (if a < 1 then 60 else if a ≤ 1000000000000000 then 0 else 60) else 60
theorem check_ev (kind : Int) (nm : ByteArray) (a : Int) : Ev (fun k => act_Check.f k kind nm a) (checkI kind nm a) := by
  unfold act_Check.f checkI
  by_cases c1 : kind < 1
  · exact ev_pos c1 (Ev.now _)
  refine ev_neg c1 ?_
  by_cases c2 : kind > 4
  · exact ev_pos c2 (Ev.now _)
  refine ev_neg c2 ?_
  refine Ev.bind (name_ev nm) ?_
  by_cases c3 : nameB nm = true
  · refine ev_pos c3 ?_
    by_cases c4 : a < 1
    · exact ev_pos c4 (Ev.now _)
    refine ev_neg c4 ?_
    unfold cash_Fits.f
    rw [if_pos (by omega), Option.bind_some]
    by_cases c5 : a ≤ 1000000000000000
    · rw [if_pos c5, decide_eq_true c5]
      exact Ev.congr (fun k => if_pos rfl) (Ev.now _)
    · rw [if_neg c5, decide_eq_false c5]
      exact Ev.congr (fun k => if_neg (by decide)) (Ev.now _)
  · exact ev_neg c3 (Ev.now _)
theorem check_zero (kind : Int) (nm : ByteArray) (a : Int) (h : checkI kind nm a = 0) : 1 ≤ kind ∧ kind ≤ 4 ∧ 1 ≤ a ∧ a ≤ 1000000000000000 := by
  unfold checkI at h
  by_cases c1 : kind < 1
  · rw [if_pos c1] at h; omega
  by_cases c2 : kind > 4
  · rw [if_neg c1, if_pos c2] at h; omega
  rw [if_neg c1, if_neg c2] at h
  by_cases c3 : nameB nm = true
  · rw [if_pos c3] at h
    by_cases c4 : a < 1
    · rw [if_pos c4] at h; omega
    rw [if_neg c4] at h
    by_cases c5 : a ≤ 1000000000000000
    · omega
    · rw [if_neg c5] at h; omega
  · rw [if_neg c3] at h; omega
/-- May a pot be? -/
def Pot (h i o : Int) : Prop := 0 ≤ i ∧ i ≤ h ∧ 0 ≤ o ∧ h + o ≤ 1000000000000000
instance (h i o : Int) : Decidable (Pot h i o) := by unfold Pot; exact inferInstance
def potI (h i o : Int) : Int := if Pot h i o then 0 else 2
theorem pot_is (h i o : Int) (ho : -9223372036854775808 ≤ o ∧ o ≤ 9223372036854775807) : pot_Check.f h i o = some (potI h i o) := by
  unfold pot_Check.f potI
  by_cases c1 : i < 0
  · rw [if_pos c1, if_neg (by unfold Pot; omega)]
  by_cases c2 : i > h
  · rw [if_neg c1, if_pos c2, if_neg (by unfold Pot; omega)]
  by_cases c3 : o < 0
  · rw [if_neg c1, if_neg c2, if_pos c3, if_neg (by unfold Pot; omega)]
  by_cases c4 : h > 1000000000000000
  · rw [if_neg c1, if_neg c2, if_neg c3, if_pos c4, if_neg (by unfold Pot; omega)]
  rw [if_neg c1, if_neg c2, if_neg c3, if_neg c4, wr (1000000000000000 - h) (by omega)]
  by_cases c5 : o > 1000000000000000 - h
  · rw [if_pos c5, if_neg (by unfold Pot; omega)]
  · rw [if_neg c5, if_pos (by unfold Pot; omega)]
def mayI (n : ByteArray) (h i o h2 i2 o2 : Int) : Int := if nameB n = true ∧ Pot h i o ∧ Pot h2 i2 o2 then 0 else 2
theorem may_ev (n : ByteArray) (h i o h2 i2 o2 : Int) (b1 : -9223372036854775808 ≤ o ∧ o ≤ 9223372036854775807) (b2 : -9223372036854775808 ≤ o2 ∧ o2 ≤ 9223372036854775807) : Ev (fun k => act_May.f k n h i o h2 i2 o2) (mayI n h i o h2 i2 o2) := by
  unfold act_May.f
  refine Ev.bind (name_ev n) ?_
  by_cases c1 : nameB n = true
  · refine Ev.congr (fun k => if_pos c1) ?_
    rw [pot_is h i o b1, pot_is h2 i2 o2 b2]
    simp only [Option.bind_some]
    unfold potI
    by_cases c2 : Pot h i o
    · rw [if_pos c2]
      refine Ev.congr (fun k => if_pos rfl) ?_
      by_cases c3 : Pot h2 i2 o2
      · rw [if_pos c3, show mayI n h i o h2 i2 o2 = 0 from if_pos ⟨c1, c2, c3⟩]
        exact Ev.congr (fun k => if_pos rfl) (Ev.now _)
      · rw [if_neg c3, show mayI n h i o h2 i2 o2 = 2 from if_neg (fun h => c3 h.2.2)]
        exact Ev.congr (fun k => if_neg (by decide)) (Ev.now _)
    · rw [if_neg c2, show mayI n h i o h2 i2 o2 = 2 from if_neg (fun h => c2 h.2.1)]
      exact Ev.congr (fun k => if_neg (by decide)) (Ev.now _)
  · rw [show mayI n h i o h2 i2 o2 = 2 from if_neg (fun h => c1 h.1)]
    exact Ev.congr (fun k => if_neg c1) (Ev.now _)
def ways (kind : Int) : Int × Int := if kind = 3 then (-1, 1) else if kind = 1 then (-1, 0) else if kind = 4 then (1, -1) else if kind = 2 then (1, 0) else (0, 0)
theorem ways_is (kind : Int) : act_ways.f kind = some (ways kind) := by
  unfold act_ways.f ways
  by_cases c1 : kind = 3
  · rw [if_pos c1, if_pos c1]
  by_cases c2 : kind = 1
  · rw [if_neg c1, if_neg c1, if_pos c2, if_pos c2]
  by_cases c3 : kind = 4
  · rw [if_neg c1, if_neg c1, if_neg c2, if_neg c2, if_pos c3, if_pos c3]
  by_cases c4 : kind = 2
  · rw [if_neg c1, if_neg c1, if_neg c2, if_neg c2, if_neg c3, if_neg c3, if_pos c4, if_pos c4]
  · rw [if_neg c1, if_neg c1, if_neg c2, if_neg c2, if_neg c3, if_neg c3, if_neg c4, if_neg c4]
def DL (kind : Int) (nm : ByteArray) (a : Int) : Int × Int := if checkI kind nm a = 0 then ((ways kind).1 * a, (ways kind).2 * a) else (0, 0)
theorem ways_one (kind : Int) : -1 ≤ (ways kind).1 ∧ (ways kind).1 ≤ 1 ∧ -1 ≤ (ways kind).2 ∧ (ways kind).2 ≤ 1 := by
  unfold ways
  repeat' split
  all_goals simp
theorem times_wr (w a : Int) (h : -1 ≤ w ∧ w ≤ 1) (ha : 1 ≤ a ∧ a ≤ 1000000000000000) : wrap64 (w * a) = w * a := by
  rcases (show w = -1 ∨ w = 0 ∨ w = 1 by omega) with rfl | rfl | rfl
  · rw [wr _ (by omega)]
  · rw [wr _ (by omega)]
  · rw [wr _ (by omega)]
theorem delta_ev (kind : Int) (nm : ByteArray) (a : Int) : Ev (fun k => act_Delta.f k kind nm a) (DL kind nm a) := by
  unfold act_Delta.f DL
  refine Ev.bind (check_ev kind nm a) ?_
  by_cases c : checkI kind nm a = 0
  · refine ev_pos c ?_
    have hw := ways_one kind
    have hz := check_zero kind nm a c
    rw [ways_is]
    refine Ev.congr (f := fun _ => some ((ways kind).1 * a, (ways kind).2 * a)) (fun k => ?_) (Ev.now _)
    rw [Option.bind_some, times_wr _ a ⟨hw.1, hw.2.1⟩ ⟨hz.2.2.1, hz.2.2.2⟩, times_wr _ a ⟨hw.2.2.1, hw.2.2.2⟩ ⟨hz.2.2.1, hz.2.2.2⟩]
  · exact ev_neg c (Ev.now _)
theorem awake_ev : Ev (fun k => ententelaw06_awake.f k) true := Ev.of ententelaw06_awake.mono (k := 40) (by decide +kernel)
theorem awake_ends : Ev (fun k => (ententelaw06_awake.f k).bind fun t => some t) true := Ev.bind (f := fun _ t => some t) awake_ev (Ev.now _)
theorem rname_loop (s : ByteArray) (hs : s.size ≤ 1000) (d : Nat) : ∀ i : Nat, 1 ≤ i → i + d = s.size → Ev (fun k => ententeref06_Name.l0 k s (i : Int)) (((bytesOf s).drop i).all okc) := by
  induction d with
  | zero =>
    intro i h1 hi
    refine Ev.step (f := fun _ => some (((bytesOf s).drop i).all okc)) (fun k => ?_) (Ev.now _)
    rw [ententeref06_Name.l0, if_neg (by omega), List.drop_eq_nil_of_le (by rw [bytesOf_length]; omega)]
    rfl
  | succ d ih =>
    intro i h1 hi
    rw [drop_bt s i (by omega), List.all_cons]
    have h0 : ¬ (i : Int) = 0 := by omega
    by_cases c : okc (bt s (i : Int)) = true
    · rw [c, Bool.true_and]
      refine Ev.step (fun k => ?_) (ih (i + 1) (by omega) (by omega))
      rw [ententeref06_Name.l0, if_pos (by omega), if_pos (by omega), wr _ (by omega)]
      generalize bt s (i : Int) = b at c
      simp only [if_neg h0]
      by_cases b1 : b ≥ 97 <;> by_cases b2 : b ≥ 48 <;> by_cases b3 : b ≤ 122 <;> by_cases b4 : b ≤ 57 <;> simp [okc, b1, b2, b3, b4] at c ⊢ <;> omega
    · rw [show okc (bt s (i : Int)) = false by simpa using c, Bool.false_and]
      refine Ev.step (f := fun _ => some false) (fun k => ?_) (Ev.now _)
      rw [ententeref06_Name.l0, if_pos (by omega), if_pos (by omega)]
      generalize bt s (i : Int) = b at c
      by_cases b1 : b ≥ 97 <;> by_cases b2 : b ≥ 48 <;> by_cases b3 : b ≤ 122 <;> by_cases b4 : b ≤ 57 <;> simp [okc, b1, b2, b3, b4] at c ⊢ <;> omega
theorem rname_ev (s : ByteArray) : Ev (fun k => ententeref06_Name.f k s) (nameB s) := by
  have bad : Ev (fun k => ententeref06_Name.j0 k s true) false := Ev.step (f := fun _ => some false) (fun k => by rw [ententeref06_Name.j0, if_pos rfl]) (Ev.now _)
  unfold ententeref06_Name.f
  by_cases c1 : (s.size : Int) < 1
  · rw [show nameB s = false by unfold nameB; rw [decide_eq_false (by omega), Bool.false_and]]
    exact Ev.congr (fun k => if_pos c1) bad
  refine Ev.congr (fun k => if_neg c1) ?_
  by_cases c2 : (s.size : Int) > 16
  · rw [show nameB s = false by unfold nameB; rw [decide_eq_false (by omega), Bool.false_and], decide_eq_true c2]
    exact bad
  have e : nameB s = (low (bt s 0) && (bytesOf s).all okc) := by unfold nameB; rw [decide_eq_true (by omega), Bool.true_and]
  rw [e, decide_eq_false c2]
  refine Ev.step (f := fun k => ententeref06_Name.l0 k s 0) (fun k => by rw [ententeref06_Name.j0, if_neg (by decide)]) ?_
  have hd := drop_bt s 0 (by omega)
  rw [List.drop_zero] at hd
  rw [hd, List.all_cons]
  have hn := rname_loop s (by omega) (s.size - 1) 1 (by omega) (by omega)
  have z : ((0 : Nat) : Int) = 0 := rfl
  rw [z]
  by_cases c : low (bt s 0) = true
  · have c' := c
    unfold low at c'
    have hok : okc (bt s 0) = true := by unfold okc; rw [c']; rfl
    rw [c, hok, Bool.true_and, Bool.true_and]
    refine Ev.step (fun k => ?_) hn
    rw [ententeref06_Name.l0, if_pos (by omega), if_pos (by omega), wr _ (by omega)]
    generalize bt s 0 = b at c'
    by_cases b1 : b ≥ 97 <;> by_cases b2 : b ≥ 48 <;> by_cases b3 : b ≤ 122 <;> by_cases b4 : b ≤ 57 <;> simp [b1, b2, b3, b4] at c' ⊢ <;> omega
  · rw [show low (bt s 0) = false by simpa using c, Bool.false_and]
    unfold low at c
    refine Ev.step (f := fun _ => some false) (fun k => ?_) (Ev.now _)
    rw [ententeref06_Name.l0, if_pos (by omega), if_pos (by omega)]
    generalize bt s 0 = b at c
    by_cases b1 : b ≥ 97 <;> by_cases b2 : b ≥ 48 <;> by_cases b3 : b ≤ 122 <;> by_cases b4 : b ≤ 57 <;> simp [b1, b2, b3, b4] at c ⊢ <;> omega
theorem rcheck_ev (kind : Int) (nm : ByteArray) (a : Int) : Ev (fun k => ententeref06_Check.f k kind nm a) (checkI kind nm a) := by
  unfold ententeref06_Check.f checkI
  by_cases c1 : kind < 1
  · exact ev_pos c1 (Ev.now _)
  refine ev_neg c1 ?_
  by_cases c2 : kind > 4
  · exact ev_pos c2 (Ev.now _)
  refine ev_neg c2 ?_
  refine Ev.bind (rname_ev nm) ?_
  by_cases c3 : nameB nm = true
  · refine ev_pos c3 ?_
    by_cases c4 : a < 1
    · exact ev_pos c4 (Ev.now _)
    refine ev_neg c4 ?_
    by_cases c5 : a ≤ 1000000000000000
    · rw [if_pos c5]
      exact Ev.congr (fun k => if_neg (by omega)) (Ev.now _)
    · rw [if_neg c5]
      exact Ev.congr (fun k => if_pos (by omega)) (Ev.now _)
  · exact ev_neg c3 (Ev.now _)
theorem rpot_is (h i o : Int) (ho : -9223372036854775808 ≤ o ∧ o ≤ 9223372036854775807) : ententeref05_Check.f h i o = some (potI h i o) := by
  unfold ententeref05_Check.f potI
  by_cases c1 : i < 0
  · rw [if_pos c1, if_neg (by unfold Pot; omega)]
  by_cases c2 : h < i
  · rw [if_neg c1, if_pos c2, if_neg (by unfold Pot; omega)]
  by_cases c3 : o < 0
  · rw [if_neg c1, if_neg c2, if_pos c3, if_neg (by unfold Pot; omega)]
  by_cases c4 : h > 1000000000000000
  · rw [if_neg c1, if_neg c2, if_neg c3, if_pos c4, if_neg (by unfold Pot; omega)]
  by_cases c5 : o > 1000000000000000
  · rw [if_neg c1, if_neg c2, if_neg c3, if_neg c4, if_pos c5, if_neg (by unfold Pot; omega)]
  rw [if_neg c1, if_neg c2, if_neg c3, if_neg c4, if_neg c5, wr (h + o) (by omega)]
  by_cases c6 : h + o > 1000000000000000
  · rw [if_pos c6, if_neg (by unfold Pot; omega)]
  · rw [if_neg c6, if_pos (by unfold Pot; omega)]
theorem rmay_ev (n : ByteArray) (h i o h2 i2 o2 : Int) (b1 : -9223372036854775808 ≤ o ∧ o ≤ 9223372036854775807) (b2 : -9223372036854775808 ≤ o2 ∧ o2 ≤ 9223372036854775807) : Ev (fun k => ententeref06_May.f k n h i o h2 i2 o2) (mayI n h i o h2 i2 o2) := by
  unfold ententeref06_May.f
  refine Ev.bind (rname_ev n) ?_
  by_cases c1 : nameB n = true
  · refine Ev.congr (fun k => if_pos c1) ?_
    rw [rpot_is h i o b1, rpot_is h2 i2 o2 b2]
    simp only [Option.bind_some]
    unfold potI
    by_cases c2 : Pot h i o
    · rw [if_pos c2]
      refine Ev.congr (fun k => if_pos rfl) ?_
      by_cases c3 : Pot h2 i2 o2
      · rw [if_pos c3, show mayI n h i o h2 i2 o2 = 0 from if_pos ⟨c1, c2, c3⟩]
        exact Ev.congr (fun k => if_pos rfl) (Ev.now _)
      · rw [if_neg c3, show mayI n h i o h2 i2 o2 = 2 from if_neg (fun h => c3 h.2.2)]
        exact Ev.congr (fun k => if_neg (by decide)) (Ev.now _)
    · rw [if_neg c2, show mayI n h i o h2 i2 o2 = 2 from if_neg (fun h => c2 h.2.1)]
      exact Ev.congr (fun k => if_neg (by decide)) (Ev.now _)
  · rw [show mayI n h i o h2 i2 o2 = 2 from if_neg (fun h => c1 h.1)]
    exact Ev.congr (fun k => if_neg c1) (Ev.now _)
theorem rdelta_ev (kind : Int) (nm : ByteArray) (a : Int) : Ev (fun k => ententeref06_Delta.f k kind nm a) (DL kind nm a) := by
  unfold ententeref06_Delta.f DL
  refine Ev.bind (rcheck_ev kind nm a) ?_
  by_cases c : checkI kind nm a = 0
  · refine ev_pos c ?_
    have hz := check_zero kind nm a c
    rw [wr (-a) (by omega)]
    refine Ev.congr (f := fun _ => some ((ways kind).1 * a, (ways kind).2 * a)) (fun k => ?_) (Ev.now _)
    rcases (show kind = 1 ∨ kind = 2 ∨ kind = 3 ∨ kind = 4 by omega) with rfl | rfl | rfl | rfl <;> simp [ways]
  · exact ev_neg c (Ev.now _)
theorem ActChecks : ententelaw06_ActChecks.Pure := by
  intro s kind nm a n h i o h2 i2 o2 q0 q1 q2 q3 q4 q5 q6 q7 q8 q9 q10
  have w64 : ∀ x : Int, (Lit.int .i64 x).wf = true → -9223372036854775808 ≤ x ∧ x ≤ 9223372036854775807 := by
    intro x hx
    simp [Lit.wf, IntKind.min, IntKind.max, IntKind.bits, IntKind.signed] at hx
    omega
  have b1 := w64 o q7
  have b2 := w64 o2 q10
  refine Ev.rounds (g := fun k => ententelaw06_ActChecks.f k s kind nm a n h i o h2 i2 o2) ?_
  unfold ententelaw06_ActChecks.f
  refine Ev.bind (delta_ev kind nm a) ?_
  refine Ev.bind (rdelta_ev kind nm a) ?_
  refine Ev.bind (name_ev s) ?_
  refine Ev.bind (rname_ev s) ?_
  refine Ev.congr (fun k => if_pos (by simp)) ?_
  refine Ev.bind (check_ev kind nm a) ?_
  refine Ev.bind (rcheck_ev kind nm a) ?_
  refine Ev.congr (fun k => if_pos rfl) ?_
  refine Ev.bind (may_ev n h i o h2 i2 o2 b1 b2) ?_
  refine Ev.bind (rmay_ev n h i o h2 i2 o2 b1 b2) ?_
  refine Ev.congr (fun k => if_pos rfl) ?_
  refine Ev.congr (fun k => if_pos rfl) ?_
  refine Ev.congr (fun k => if_pos rfl) ?_
  exact awake_ends

end Go.Proofs.Ytmfpgjpekmaemaa.Pure
