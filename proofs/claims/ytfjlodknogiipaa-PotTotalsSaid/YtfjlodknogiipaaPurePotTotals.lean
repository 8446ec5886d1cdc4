/- PotTotals: proved for all arguments; no condition. -/
import Derived.Test.YtfjlodknogiipaaNum
import Derived.Test.YtfjlodknogiipaaPTx4
namespace Go.Proofs.Ytfjlodknogiipaa.Pure
open Go.RowKit Go.Proofs.Ytfjlodknogiipaa.PT Go.Proofs.YtfjlodknogiipaaW.PrintWords Go.Proofs.YtfjlodknogiipaaW.PrintLast Go.Proofs.YtfjlodknogiipaaW.PrintMore Go.Proofs.Ytfjlodknogiipaa.Num
set_option linter.unusedVariables false
set_option linter.unusedSimpArgs false

/-- A pot may be. -/
def okP (h i o : Int) : Prop := 0 ≤ i ∧ i ≤ h ∧ 0 ≤ o ∧ h + o ≤ 1000000000000000
instance (h i o : Int) : Decidable (okP h i o) := by unfold okP; exact inferInstance
theorem check_is (h i o : Int) : pot_Check.f h i o = some (if okP h i o then 0 else 2) := by
  unfold pot_Check.f
  by_cases c : okP h i o
  · have c' := c
    unfold okP at c'
    have e : wrap64 (1000000000000000 - h) = 1000000000000000 - h := by unfold wrap64; omega
    rw [e, if_pos c, if_neg (by omega), if_neg (by omega), if_neg (by omega), if_neg (by omega), if_neg (by omega)]
  · rw [if_neg c]
    unfold okP at c
    repeat' split
    all_goals first
      | rfl
      | (exfalso
         have e : wrap64 (1000000000000000 - h) = 1000000000000000 - h := by (unfold wrap64; omega)
         omega)
theorem free_is (h i o : Int) : pot_Free.f h i o = some (if okP h i o then h - i else 0) := by
  unfold pot_Free.f
  rw [check_is]
  by_cases c : okP h i o
  · simp only [if_pos c, Option.bind_some, if_true]
    unfold okP at c
    congr 1
    unfold wrap64; omega
  · simp only [if_neg c, Option.bind_some]
    rfl
theorem room_is (h i o : Int) : pot_Room.f h i o = some (if okP h i o then 1000000000000000 - h - o else 0) := by
  unfold pot_Room.f
  rw [check_is]
  by_cases c : okP h i o
  · simp only [if_pos c, Option.bind_some, if_true]
    unfold okP at c
    congr 1
    unfold wrap64; omega
  · simp only [if_neg c, Option.bind_some]
    rfl
theorem moved_is (k : Nat) (h i o a lim x y z : Int) : pot_moved.f (k + 1) h i o a lim x y z = some (if okP h i o ∧ 1 ≤ a ∧ a ≤ 1000000000000000 then (if a > lim then (0, 0, 0, 50) else (wrap64 (h + wrap64 (x * a)), wrap64 (i + wrap64 (y * a)), wrap64 (o + wrap64 (z * a)), 0)) else (0, 0, 0, 2)) := by
  unfold pot_moved.f cash_Fits.f
  rw [check_is]
  by_cases c : okP h i o
  · simp only [if_pos c, Option.bind_some, if_true]
    by_cases c1 : a < 1
    · rw [if_pos c1, if_neg (show ¬ (okP h i o ∧ 1 ≤ a ∧ a ≤ 1000000000000000) by omega)]
      simp [pot_moved.j0]
    · rw [if_neg c1, if_pos (show a ≥ 0 by omega)]
      simp only [Option.bind_some, pot_moved.j0]
      by_cases c2 : a ≤ 1000000000000000
      · rw [decide_eq_true c2, if_neg (by simp), if_pos (show okP h i o ∧ 1 ≤ a ∧ a ≤ 1000000000000000 from ⟨c, by omega, c2⟩)]
        by_cases c3 : a > lim
        · rw [if_pos c3, if_pos c3]
        · rw [if_neg c3, if_neg c3]
      · rw [decide_eq_false c2, if_pos (by simp), if_neg (show ¬ (okP h i o ∧ 1 ≤ a ∧ a ≤ 1000000000000000) from fun z => c2 z.2.2)]
  · rw [if_neg c, if_neg (show ¬ (okP h i o ∧ 1 ≤ a ∧ a ≤ 1000000000000000) from fun z => c z.1)]
    simp [pot_moved.j0]
/-- What Do answers. -/
def doS (h i o : Int) (out : Bool) (a : Int) : Int × Int × Int × Int :=
  if okP h i o ∧ 1 ≤ a ∧ a ≤ 1000000000000000 then
    (if out = true then (if h - i < a then (0, 0, 0, 50) else (h - a, i, o + a, 0)) else (if 1000000000000000 - h - o < a then (0, 0, 0, 50) else (h + a, i + a, o, 0)))
  else (0, 0, 0, 2)
def undoS (h i o : Int) (out : Bool) (a : Int) : Int × Int × Int × Int :=
  if okP h i o ∧ 1 ≤ a ∧ a ≤ 1000000000000000 then
    (if out = true then (if o < a then (0, 0, 0, 50) else (h + a, i, o - a, 0)) else (if i < a then (0, 0, 0, 50) else (h - a, i - a, o, 0)))
  else (0, 0, 0, 2)
def keepS (h i o : Int) (out : Bool) (a : Int) : Int × Int × Int × Int :=
  if okP h i o ∧ 1 ≤ a ∧ a ≤ 1000000000000000 then
    (if out = true then (if o < a then (0, 0, 0, 50) else (h, i, o - a, 0)) else (if i < a then (0, 0, 0, 50) else (h, i - a, o, 0)))
  else (0, 0, 0, 2)
theorem wr (n : Int) (h : -9223372036854775808 ≤ n ∧ n ≤ 9223372036854775807) : wrap64 n = n := by unfold wrap64; omega
theorem neg_one_mul' (a : Int) : (-1) * a = -a := by omega
theorem do_is (k : Nat) (h i o : Int) (out : Bool) (a : Int) : pot_Do.f (k + 1) h i o out a = some (doS h i o out a) := by
  unfold pot_Do.f doS
  rw [free_is, room_is]
  simp only [Option.bind_some, moved_is]
  by_cases c : okP h i o ∧ 1 ≤ a ∧ a ≤ 1000000000000000
  · have c' := c
    simp only [if_pos c, if_pos c.1]
    unfold okP at c'
    cases out with
    | true =>
      simp only [if_true]
      by_cases d : h - i < a
      · rw [if_pos d, if_pos d]
      · rw [if_neg (show ¬ a > h - i by omega), if_neg d]
        simp only [Int.zero_mul, neg_one_mul', Int.one_mul, wr 0 (by omega), Int.add_zero]
        rw [wr (-a) (by omega), wr a (by omega), wr _ (by omega), wr _ (by omega), wr _ (by omega)]
        rfl
    | false =>
      simp only [Bool.false_eq_true, if_false]
      by_cases d : 1000000000000000 - h - o < a
      · rw [if_pos d, if_pos d]
      · rw [if_neg (show ¬ a > 1000000000000000 - h - o by omega), if_neg d]
        simp only [Int.zero_mul, Int.one_mul, wr 0 (by omega), Int.add_zero]
        rw [wr a (by omega), wr _ (by omega), wr _ (by omega), wr _ (by omega)]
  · simp only [if_neg c]
    cases out <;> rfl
theorem undo_is (k : Nat) (h i o : Int) (out : Bool) (a : Int) : pot_Undo.f (k + 1) h i o out a = some (undoS h i o out a) := by
  unfold pot_Undo.f undoS
  simp only [Option.bind_some, moved_is]
  by_cases c : okP h i o ∧ 1 ≤ a ∧ a ≤ 1000000000000000
  · have c' := c
    simp only [if_pos c]
    unfold okP at c'
    cases out with
    | true =>
      simp only [if_true]
      by_cases d : o < a
      · rw [if_pos d, if_pos d]
      · rw [if_neg (show ¬ a > o by omega), if_neg d]
        simp only [Int.zero_mul, neg_one_mul', Int.one_mul, wr 0 (by omega), Int.add_zero]
        rw [wr (-a) (by omega), wr a (by omega), wr _ (by omega), wr _ (by omega), wr _ (by omega)]
        rfl
    | false =>
      simp only [Bool.false_eq_true, if_false]
      by_cases d : i < a
      · rw [if_pos d, if_pos d]
      · rw [if_neg (show ¬ a > i by omega), if_neg d]
        simp only [Int.zero_mul, neg_one_mul', wr 0 (by omega), Int.add_zero]
        rw [wr (-a) (by omega), wr _ (by omega), wr _ (by omega), wr _ (by omega)]
        rfl
  · simp only [if_neg c]
    cases out <;> rfl
theorem awake_ev : Ev (fun k => ententelaw05_awake.f k) true :=
  Ev.of (fun k => ententelaw05_awake.mono k) (k := 10) (by decide +kernel)
/-! The words of Num are used here (wr, drop_cons), nothing of numS. -/
def sumI : List Int → Int
  | [] => 0
  | x :: l => x + sumI l
def Amt (l : List Int) : Prop := ∀ x ∈ l, 0 ≤ x ∧ x ≤ 1000000000000000
theorem sumI_range (l : List Int) (h : Amt l) : 0 ≤ sumI l ∧ sumI l ≤ 1000000000000000 * (l.length : Int) := by
  induction l with
  | nil => simp [sumI]
  | cons x l ih =>
    have hx := h x (List.mem_cons_self ..)
    have := ih (fun y hy => h y (List.mem_cons_of_mem _ hy))
    simp only [sumI, List.length_cons]
    omega
theorem amt_rd (l : List Int) (h : Amt l) (i : Nat) (hi : i < l.length) : 0 ≤ rd l (i : Int) ∧ rd l (i : Int) ≤ 1000000000000000 := by
  have e := drop_cons l i hi
  exact h _ (List.mem_of_mem_drop (by rw [e]; exact List.mem_cons_self ..))
theorem add_is (lo a : Int) (h0 : 0 ≤ lo ∧ lo ≤ 9000000000000000000) (h1 : 0 ≤ a ∧ a ≤ 1000000000000000) : cash_wide_add.f 0 lo a = some (0, lo + a) := by
  unfold cash_wide_add.f
  rw [if_pos h0.1, uw a (by omega), show a / 9223372036854775808 = 0 by omega, show (lo + a) / 18446744073709551616 = 0 by omega, show (lo + a) % 18446744073709551616 = lo + a by omega]
  simp [wrap64]
theorem narrow_is (lo : Int) (h0 : 0 ≤ lo ∧ lo ≤ 9000000000000000000) : cash_wide_narrow.f 0 lo = some (lo, 0) := by
  unfold cash_wide_narrow.f
  rw [wr lo (by omega), if_pos (by omega)]
theorem sum_loop (l : List Int) (hl : l.length ≤ 5000) (hb : Amt l) (d : Nat) : ∀ (i : Nat) (lo : Int), i + d = l.length → 0 ≤ lo → lo ≤ 1000000000000000 * (i : Int) →
    Ev (fun k => cash_Sum.l0 k l (l.length : Int) (i : Int) 0 lo) (lo + sumI (l.drop i), 0) := by
  induction d with
  | zero =>
    intro i lo hi h0 h1
    have hn := narrow_is lo (by omega)
    refine Ev.step (f := fun _ => some (lo + sumI (l.drop i), 0)) (fun k => ?_) (Ev.now _)
    rw [cash_Sum.l0, if_neg (by omega), hn, List.drop_eq_nil_of_le (by omega)]
    simp [sumI]
  | succ d ih =>
    intro i lo hi h0 h1
    have hd := drop_cons l i (by omega)
    have ha := amt_rd l hb i (by omega)
    have e := add_is lo (rd l (i : Int)) (by omega) ha
    have := ih (i + 1) (lo + rd l (i : Int)) (by omega) (by omega) (by omega)
    rw [hd]
    simp only [sumI]
    rw [← Int.add_assoc]
    refine Ev.step (fun k => ?_) this
    rw [cash_Sum.l0, if_pos (by omega), if_pos (by omega), if_pos (by omega), e, Option.bind_some, wr ((i : Int) + 1) (by omega)]
    rfl
theorem sum_ev (l : List Int) (hl : l.length ≤ 5000) (hb : Amt l) : Ev (fun k => cash_Sum.f k l) (sumI l, 0) := by
  have := sum_loop l hl hb l.length 0 0 (by omega) (by omega) (by omega)
  rw [List.drop_zero, Int.zero_add] at this
  exact this
theorem low_is (a : Int) (h1 : 0 ≤ a ∧ a ≤ 1000000000000000) : Int.tmod (wrap64 ((Int.tmod a 4294967296) + 4294967296)) 4294967296 = a % 4294967296 := by
  rw [Int.tmod_eq_emod_of_nonneg h1.1, wr (a % 4294967296 + 4294967296) (by omega), Int.tmod_eq_emod_of_nonneg (by omega)]
  omega
theorem high_step (p a : Int) (h0 : 0 ≤ p ∧ p ≤ 9000000000000000000) (h1 : 0 ≤ a ∧ a ≤ 1000000000000000) :
    wrap64 ((wrap64 (p / 4294967296 + (wrap64 (Int.tdiv (wrap64 (a - a % 4294967296)) 4294967296)))) + (wrap64 (Int.tdiv (wrap64 (p % 4294967296 + a % 4294967296)) 4294967296))) = (p + a) / 4294967296 := by
  rw [wr (a - a % 4294967296) (by omega), wr (p % 4294967296 + a % 4294967296) (by omega), Int.tdiv_eq_ediv_of_nonneg (by omega), Int.tdiv_eq_ediv_of_nonneg (by omega)]
  rw [wr ((a - a % 4294967296) / 4294967296) (by omega), wr ((p % 4294967296 + a % 4294967296) / 4294967296) (by omega), wr (p / 4294967296 + (a - a % 4294967296) / 4294967296) (by omega), wr _ (by omega)]
  omega
theorem low_step (p a : Int) (h0 : 0 ≤ p ∧ p ≤ 9000000000000000000) (h1 : 0 ≤ a ∧ a ≤ 1000000000000000) : Int.tmod (wrap64 (p % 4294967296 + a % 4294967296)) 4294967296 = (p + a) % 4294967296 := by
  rw [wr (p % 4294967296 + a % 4294967296) (by omega), Int.tmod_eq_emod_of_nonneg (by omega)]
  omega
theorem rsum_loop (l : List Int) (hl : l.length ≤ 5000) (hb : Amt l) (d : Nat) : ∀ (i : Nat) (p : Int), i + d = l.length → 0 ≤ p → p ≤ 1000000000000000 * (i : Int) →
    Ev (fun k => ententeref04_Sum.l0 k l (p / 4294967296) (p % 4294967296) (i : Int)) (p + sumI (l.drop i), 0) := by
  induction d with
  | zero =>
    intro i p hi h0 h1
    have e : wrap64 ((wrap64 ((p / 4294967296) * 4294967296)) + p % 4294967296) = p := by
      rw [wr (p / 4294967296 * 4294967296) (by omega), wr _ (by omega)]; omega
    refine Ev.step (f := fun _ => some (p + sumI (l.drop i), 0)) (fun k => ?_) (Ev.now _)
    rw [ententeref04_Sum.l0, if_neg (by omega), if_neg (by clear e; omega), if_neg (by clear e; omega), e, List.drop_eq_nil_of_le (by omega)]
    simp [sumI]
  | succ d ih =>
    intro i p hi h0 h1
    have hd := drop_cons l i (by omega)
    have ha := amt_rd l hb i (by omega)
    have := ih (i + 1) (p + rd l (i : Int)) (by omega) (by omega) (by omega)
    rw [hd]
    simp only [sumI]
    rw [← Int.add_assoc]
    refine Ev.step (fun k => ?_) this
    rw [ententeref04_Sum.l0, if_pos (by omega), if_pos (by omega), low_is _ ha, high_step p _ (by omega) ha, low_step p _ (by omega) ha, wr ((i : Int) + 1) (by omega)]
    rfl
theorem rsum_ev (l : List Int) (hl : l.length ≤ 5000) (hb : Amt l) : Ev (fun k => ententeref04_Sum.f k l) (sumI l, 0) := by
  have := rsum_loop l hl hb l.length 0 0 (by omega) (by omega) (by omega)
  rw [List.drop_zero, Int.zero_add] at this
  exact this
theorem rcheck_is (h i o : Int) (hr : (Lit.int .i64 h).wf = true) (hi : (Lit.int .i64 i).wf = true) (ho : (Lit.int .i64 o).wf = true) : ententeref05_Check.f h i o = some (if okP h i o then 0 else 2) := by
  simp [Lit.wf, IntKind.min, IntKind.max, IntKind.signed, IntKind.bits] at hr hi ho
  unfold ententeref05_Check.f
  by_cases c : okP h i o
  · have c' := c
    unfold okP at c'
    have e : wrap64 (h + o) = h + o := by unfold wrap64; omega
    rw [e, if_pos c, if_neg (by omega), if_neg (by omega), if_neg (by omega), if_neg (by omega), if_neg (by omega), if_neg (by omega)]
  · rw [if_neg c]
    unfold okP at c
    repeat' split
    all_goals first
      | rfl
      | (exfalso
         have e : wrap64 (h + o) = h + o := by (unfold wrap64; omega)
         omega)
theorem rd_q (l : List S23) (h : ∀ y ∈ l, Q23 y) (i : Nat) (hi : i < l.length) : Q23 (rd_T23 l (i : Int)) := by
  unfold rd_T23
  rw [Int.toNat_natCast, List.getD_eq_getElem?_getD, List.getElem?_eq_getElem hi]
  exact h _ (List.getElem_mem hi)
theorem tot_loop (l : List S23) (hl : l.length ≤ 5000) (hq : ∀ y ∈ l, Q23 y) (d : Nat) : ∀ (i : Nat) (acc : List Int), i + d = l.length → acc.length = i → Amt acc →
    ∃ r, Ev (fun k => pot_Total.l0 k acc l (l.length : Int) (i : Int)) r ∧ Ev (fun k => ententeref05_Total.l0 k l acc (i : Int)) r := by
  induction d with
  | zero =>
    intro i acc hi h0 h1
    refine ⟨(sumI acc, 0), ?_, ?_⟩
    · refine Ev.step (f := fun k => (cash_Sum.f k acc).bind fun bt167 => (some (bt167.1, bt167.2))) (fun k => ?_) (Ev.bind (sum_ev acc (by omega) h1) (Ev.now _))
      rw [pot_Total.l0, if_neg (by omega)]
    · refine Ev.step (f := fun k => (ententeref04_Sum.f k acc).bind fun bt178 => (some (bt178.1, bt178.2))) (fun k => ?_) (Ev.bind (rsum_ev acc (by omega) h1) (Ev.now _))
      rw [ententeref05_Total.l0, if_neg (by omega)]
  | succ d ih =>
    intro i acc hi h0 h1
    obtain ⟨q0, q1, q2⟩ := rd_q l hq i (by omega)
    have e1 := check_is (rd_T23 l (i : Int)).f0 (rd_T23 l (i : Int)).f1 (rd_T23 l (i : Int)).f2
    have e2 := rcheck_is (rd_T23 l (i : Int)).f0 (rd_T23 l (i : Int)).f1 (rd_T23 l (i : Int)).f2 q0 q1 q2
    by_cases c : okP (rd_T23 l (i : Int)).f0 (rd_T23 l (i : Int)).f1 (rd_T23 l (i : Int)).f2
    · rw [if_pos c] at e1 e2
      have c' := c
      unfold okP at c'
      obtain ⟨r, r1, r2⟩ := ih (i + 1) (acc ++ [(rd_T23 l (i : Int)).f0]) (by omega) (by rw [List.length_append, List.length_singleton]; omega) (fun x hx => by
        rcases List.mem_append.1 hx with hx | hx
        · exact h1 x hx
        · rw [List.mem_singleton.1 hx]; omega)
      refine ⟨r, Ev.step (fun k => ?_) r1, Ev.step (fun k => ?_) r2⟩
      · rw [pot_Total.l0, if_pos (by omega), if_pos (by omega), if_pos (by omega), e1, Option.bind_some, if_pos rfl, if_pos (by omega), wr ((i : Int) + 1) (by omega)]
        rfl
      · rw [ententeref05_Total.l0, if_pos (by omega), if_pos (by omega), e2, Option.bind_some, if_pos rfl, if_pos (by omega), wr ((i : Int) + 1) (by omega)]
        rfl
    · rw [if_neg c] at e1 e2
      refine ⟨(0, 2), Ev.step (f := fun _ => some (0, 2)) (fun k => ?_) (Ev.now _), Ev.step (f := fun _ => some (0, 2)) (fun k => ?_) (Ev.now _)⟩
      · rw [pot_Total.l0, if_pos (by omega), if_pos (by omega), if_pos (by omega), e1, Option.bind_some, if_neg (by decide)]
      · rw [ententeref05_Total.l0, if_pos (by omega), if_pos (by omega), e2, Option.bind_some, if_neg (by decide)]
theorem PotTotals : ententelaw05_PotTotals.Pure := by
  intro l ⟨_, _, hq⟩
  refine Ev.rounds (g := fun k => ententelaw05_PotTotals.f k l) ?_
  unfold ententelaw05_PotTotals.f
  by_cases c : (l.length : Int) > 5000
  · exact Ev.congr (fun k => if_pos c) (Ev.bind awake_ev (Ev.now true))
  · refine Ev.congr (fun k => if_neg c) ?_
    obtain ⟨r, r1, r2⟩ := tot_loop l (by omega) hq l.length 0 [] (by omega) rfl (fun x hx => by simp at hx)
    refine Ev.bind r1 (Ev.bind r2 ?_)
    exact Ev.congr (fun k => (if_pos rfl).trans (if_pos rfl)) (Ev.bind awake_ev (Ev.now true))

end Go.Proofs.Ytfjlodknogiipaa.Pure
