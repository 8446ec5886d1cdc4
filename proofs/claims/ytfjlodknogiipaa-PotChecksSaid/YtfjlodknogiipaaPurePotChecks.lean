/- PotChecks: proved for all arguments; no condition. -/
import Derived.Test.YtfjlodknogiipaaPAx3
namespace Go.Proofs.Ytfjlodknogiipaa.Pure
open Go.RowKit Go.Proofs.Ytfjlodknogiipaa.PA Go.Proofs.YtfjlodknogiipaaW.PrintWords Go.Proofs.YtfjlodknogiipaaW.PrintLast Go.Proofs.YtfjlodknogiipaaW.PrintMore

/-- A pot may be. -/
def okP (h i o : Int) : Prop := 0 ≤ i ∧ i ≤ h ∧ 0 ≤ o ∧ h + o ≤ 1000000000000000
instance (h i o : Int) : Decidable (okP h i o) := by unfold okP; exact inferInstance
theorem check_is (h i o : Int) : pot_Check.f h i o = some (if okP h i o then 0 else 2) := by
  unfold pot_Check.f
  by_cases c : okP h i o
  · have c' := c
    unfold okP at c'
    have e : wrap64 (1000000000000000 - h) = 1000000000000000 - h := by unfold wrap64; omega
    rw [e, if_pos c, if_neg (by omega), if_neg (by omega), if_neg (by omega), if_neg (by omega), if_neg (by omega)]
  · rw [if_neg c]
    unfold okP at c
    repeat' split
    all_goals first
      | rfl
      | (exfalso
         have e : wrap64 (1000000000000000 - h) = 1000000000000000 - h := by (unfold wrap64; omega)
         omega)
theorem free_is (h i o : Int) : pot_Free.f h i o = some (if okP h i o then h - i else 0) := by
  unfold pot_Free.f
  rw [check_is]
  by_cases c : okP h i o
  · simp only [if_pos c, Option.bind_some, if_true]
    unfold okP at c
    congr 1
    unfold wrap64; omega
  · simp only [if_neg c, Option.bind_some]
    rfl
theorem room_is (h i o : Int) : pot_Room.f h i o = some (if okP h i o then 1000000000000000 - h - o else 0) := by
  unfold pot_Room.f
  rw [check_is]
  by_cases c : okP h i o
  · simp only [if_pos c, Option.bind_some, if_true]
    unfold okP at c
    congr 1
    unfold wrap64; omega
  · simp only [if_neg c, Option.bind_some]
    rfl
theorem moved_is (k : Nat) (h i o a lim x y z : Int) : pot_moved.f (k + 1) h i o a lim x y z = some (if okP h i o ∧ 1 ≤ a ∧ a ≤ 1000000000000000 then (if a > lim then (0, 0, 0, 50) else (wrap64 (h + wrap64 (x * a)), wrap64 (i + wrap64 (y * a)), wrap64 (o + wrap64 (z * a)), 0)) else (0, 0, 0, 2)) := by
  unfold pot_moved.f cash_Fits.f
  rw [check_is]
  by_cases c : okP h i o
  · simp only [if_pos c, Option.bind_some, if_true]
    by_cases c1 : a < 1
    · rw [if_pos c1, if_neg (show ¬ (okP h i o ∧ 1 ≤ a ∧ a ≤ 1000000000000000) by omega)]
      simp [pot_moved.j0]
    · rw [if_neg c1, if_pos (show a ≥ 0 by omega)]
      simp only [Option.bind_some, pot_moved.j0]
      by_cases c2 : a ≤ 1000000000000000
      · rw [decide_eq_true c2, if_neg (by simp), if_pos (show okP h i o ∧ 1 ≤ a ∧ a ≤ 1000000000000000 from ⟨c, by omega, c2⟩)]
        by_cases c3 : a > lim
        · rw [if_pos c3, if_pos c3]
        · rw [if_neg c3, if_neg c3]
      · rw [decide_eq_false c2, if_pos (by simp), if_neg (show ¬ (okP h i o ∧ 1 ≤ a ∧ a ≤ 1000000000000000) from fun z => c2 z.2.2)]
  · rw [if_neg c, if_neg (show ¬ (okP h i o ∧ 1 ≤ a ∧ a ≤ 1000000000000000) from fun z => c z.1)]
    simp [pot_moved.j0]
/-- What Do answers. -/
def doS (h i o : Int) (out : Bool) (a : Int) : Int × Int × Int × Int :=
  if okP h i o ∧ 1 ≤ a ∧ a ≤ 1000000000000000 then
    (if out = true then (if h - i < a then (0, 0, 0, 50) else (h - a, i, o + a, 0)) else (if 1000000000000000 - h - o < a then (0, 0, 0, 50) else (h + a, i + a, o, 0)))
  else (0, 0, 0, 2)
def undoS (h i o : Int) (out : Bool) (a : Int) : Int × Int × Int × Int :=
  if okP h i o ∧ 1 ≤ a ∧ a ≤ 1000000000000000 then
    (if out = true then (if o < a then (0, 0, 0, 50) else (h + a, i, o - a, 0)) else (if i < a then (0, 0, 0, 50) else (h - a, i - a, o, 0)))
  else (0, 0, 0, 2)
def keepS (h i o : Int) (out : Bool) (a : Int) : Int × Int × Int × Int :=
  if okP h i o ∧ 1 ≤ a ∧ a ≤ 1000000000000000 then
    (if out = true then (if o < a then (0, 0, 0, 50) else (h, i, o - a, 0)) else (if i < a then (0, 0, 0, 50) else (h, i - a, o, 0)))
  else (0, 0, 0, 2)
theorem wr (n : Int) (h : -9223372036854775808 ≤ n ∧ n ≤ 9223372036854775807) : wrap64 n = n := by unfold wrap64; omega
theorem neg_one_mul' (a : Int) : (-1) * a = -a := by omega
theorem do_is (k : Nat) (h i o : Int) (out : Bool) (a : Int) : pot_Do.f (k + 1) h i o out a = some (doS h i o out a) := by
  unfold pot_Do.f doS
  rw [free_is, room_is]
  simp only [Option.bind_some, moved_is]
  by_cases c : okP h i o ∧ 1 ≤ a ∧ a ≤ 1000000000000000
  · have c' := c
    simp only [if_pos c, if_pos c.1]
    unfold okP at c'
    cases out with
    | true =>
      simp only [if_true]
      by_cases d : h - i < a
      · rw [if_pos d, if_pos d]
      · rw [if_neg (show ¬ a > h - i by omega), if_neg d]
        simp only [Int.zero_mul, neg_one_mul', Int.one_mul, wr 0 (by omega), Int.add_zero]
        rw [wr (-a) (by omega), wr a (by omega), wr _ (by omega), wr _ (by omega), wr _ (by omega)]
        rfl
    | false =>
      simp only [Bool.false_eq_true, if_false]
      by_cases d : 1000000000000000 - h - o < a
      · rw [if_pos d, if_pos d]
      · rw [if_neg (show ¬ a > 1000000000000000 - h - o by omega), if_neg d]
        simp only [Int.zero_mul, Int.one_mul, wr 0 (by omega), Int.add_zero]
        rw [wr a (by omega), wr _ (by omega), wr _ (by omega), wr _ (by omega)]
  · simp only [if_neg c]
    cases out <;> rfl
theorem undo_is (k : Nat) (h i o : Int) (out : Bool) (a : Int) : pot_Undo.f (k + 1) h i o out a = some (undoS h i o out a) := by
  unfold pot_Undo.f undoS
  simp only [Option.bind_some, moved_is]
  by_cases c : okP h i o ∧ 1 ≤ a ∧ a ≤ 1000000000000000
  · have c' := c
    simp only [if_pos c]
    unfold okP at c'
    cases out with
    | true =>
      simp only [if_true]
      by_cases d : o < a
      · rw [if_pos d, if_pos d]
      · rw [if_neg (show ¬ a > o by omega), if_neg d]
        simp only [Int.zero_mul, neg_one_mul', Int.one_mul, wr 0 (by omega), Int.add_zero]
        rw [wr (-a) (by omega), wr a (by omega), wr _ (by omega), wr _ (by omega), wr _ (by omega)]
        rfl
    | false =>
      simp only [Bool.false_eq_true, if_false]
      by_cases d : i < a
      · rw [if_pos d, if_pos d]
      · rw [if_neg (show ¬ a > i by omega), if_neg d]
        simp only [Int.zero_mul, neg_one_mul', wr 0 (by omega), Int.add_zero]
        rw [wr (-a) (by omega), wr _ (by omega), wr _ (by omega), wr _ (by omega)]
        rfl
  · simp only [if_neg c]
    cases out <;> rfl
theorem awake_ev : Ev (fun k => ententelaw05_awake.f k) true :=
  Ev.of (fun k => ententelaw05_awake.mono k) (k := 10) (by decide +kernel)
theorem rcheck_is (h i o : Int) : ententeref05_Check.f h i o = some (if okP h i o then 0 else 2) := by
  unfold ententeref05_Check.f
  by_cases c : okP h i o
  · have c' := c
    unfold okP at c'
    rw [wr (h + o) (by omega), if_pos c, if_neg (by omega), if_neg (by omega), if_neg (by omega), if_neg (by omega), if_neg (by omega), if_neg (by omega)]
  · rw [if_neg c]
    unfold okP at c
    repeat' split
    all_goals first | rfl | (exfalso; have e : wrap64 (h + o) = h + o := wr _ (by omega)
                             omega)
theorem rfree_is (h i o : Int) : ententeref05_Free.f h i o = some (if okP h i o then h - i else 0) := by
  unfold ententeref05_Free.f
  rw [rcheck_is]
  by_cases c : okP h i o
  · simp only [if_pos c, Option.bind_some, if_true]
    unfold okP at c
    rw [wr _ (by omega)]
  · simp only [if_neg c, Option.bind_some]
    rfl
theorem rroom_is (h i o : Int) : ententeref05_Room.f h i o = some (if okP h i o then 1000000000000000 - h - o else 0) := by
  unfold ententeref05_Room.f
  rw [rcheck_is]
  by_cases c : okP h i o
  · simp only [if_pos c, Option.bind_some, if_true]
    unfold okP at c
    rw [wr (1000000000000000 - h) (by omega), wr _ (by omega)]
  · simp only [if_neg c, Option.bind_some]
    rfl
theorem PotChecks : ententelaw05_PotChecks.Pure := by
  intro h i o _ _ _
  obtain ⟨k, hk⟩ := awake_ev.rounds
  refine ⟨k, ?_⟩
  unfold ententelaw05_PotChecks.f
  simp only [check_is, rcheck_is, free_is, rfree_is, room_is, rroom_is, hk, Option.bind_some, if_true]

end Go.Proofs.Ytfjlodknogiipaa.Pure
