/- PotPending: proved for all arguments; no condition. -/
import Derived.Test.YtfjlodknogiipaaPBx5
namespace Go.Proofs.Ytfjlodknogiipaa.Pure
open Go.RowKit Go.Proofs.Ytfjlodknogiipaa.PB Go.Proofs.YtfjlodknogiipaaW.PrintWords Go.Proofs.YtfjlodknogiipaaW.PrintLast Go.Proofs.YtfjlodknogiipaaW.PrintMore

/-- A pot may be. -/
def okP (h i o : Int) : Prop := 0 ≤ i ∧ i ≤ h ∧ 0 ≤ o ∧ h + o ≤ 1000000000000000
instance (h i o : Int) : Decidable (okP h i o) := by unfold okP; exact inferInstance
theorem check_is (h i o : Int) : pot_Check.f h i o = some (if okP h i o then 0 else 2) := by
  unfold pot_Check.f
  by_cases c : okP h i o
  · have c' := c
    unfold okP at c'
    have e : wrap64 (1000000000000000 - h) = 1000000000000000 - h := by unfold wrap64; omega
    rw [e, if_pos c, if_neg (by omega), if_neg (by omega), if_neg (by omega), if_neg (by omega), if_neg (by omega)]
  · rw [if_neg c]
    unfold okP at c
    repeat' split
    all_goals first
      | rfl
      | (exfalso
         have e : wrap64 (1000000000000000 - h) = 1000000000000000 - h := by (unfold wrap64; omega)
         omega)
theorem free_is (h i o : Int) : pot_Free.f h i o = some (if okP h i o then h - i else 0) := by
  unfold pot_Free.f
  rw [check_is]
  by_cases c : okP h i o
  · simp only [if_pos c, Option.bind_some, if_true]
    unfold okP at c
    congr 1
    unfold wrap64; omega
  · simp only [if_neg c, Option.bind_some]
    rfl
theorem room_is (h i o : Int) : pot_Room.f h i o = some (if okP h i o then 1000000000000000 - h - o else 0) := by
  unfold pot_Room.f
  rw [check_is]
  by_cases c : okP h i o
  · simp only [if_pos c, Option.bind_some, if_true]
    unfold okP at c
    congr 1
    unfold wrap64; omega
  · simp only [if_neg c, Option.bind_some]
    rfl
theorem moved_is (k : Nat) (h i o a lim x y z : Int) : pot_moved.f (k + 1) h i o a lim x y z = some (if okP h i o ∧ 1 ≤ a ∧ a ≤ 1000000000000000 then (if a > lim then (0, 0, 0, 50) else (wrap64 (h + wrap64 (x * a)), wrap64 (i + wrap64 (y * a)), wrap64 (o + wrap64 (z * a)), 0)) else (0, 0, 0, 2)) := by
  unfold pot_moved.f cash_Fits.f
  rw [check_is]
  by_cases c : okP h i o
  · simp only [if_pos c, Option.bind_some, if_true]
    by_cases c1 : a < 1
    · rw [if_pos c1, if_neg (show ¬ (okP h i o ∧ 1 ≤ a ∧ a ≤ 1000000000000000) by omega)]
      simp [pot_moved.j0]
    · rw [if_neg c1, if_pos (show a ≥ 0 by omega)]
      simp only [Option.bind_some, pot_moved.j0]
      by_cases c2 : a ≤ 1000000000000000
      · rw [decide_eq_true c2, if_neg (by simp), if_pos (show okP h i o ∧ 1 ≤ a ∧ a ≤ 1000000000000000 from ⟨c, by omega, c2⟩)]
        by_cases c3 : a > lim
        · rw [if_pos c3, if_pos c3]
        · rw [if_neg c3, if_neg c3]
      · rw [decide_eq_false c2, if_pos (by simp), if_neg (show ¬ (okP h i o ∧ 1 ≤ a ∧ a ≤ 1000000000000000) from fun z => c2 z.2.2)]
  · rw [if_neg c, if_neg (show ¬ (okP h i o ∧ 1 ≤ a ∧ a ≤ 1000000000000000) from fun z => c z.1)]
    simp [pot_moved.j0]
/-- What Do answers. -/
def doS (h i o : Int) (out : Bool) (a : Int) : Int × Int × Int × Int :=
  if okP h i o ∧ 1 ≤ a ∧ a ≤ 1000000000000000 then
    (if out = true then (if h - i < a then (0, 0, 0, 50) else (h - a, i, o + a, 0)) else (if 1000000000000000 - h - o < a then (0, 0, 0, 50) else (h + a, i + a, o, 0)))
  else (0, 0, 0, 2)
def undoS (h i o : Int) (out : Bool) (a : Int) : Int × Int × Int × Int :=
  if okP h i o ∧ 1 ≤ a ∧ a ≤ 1000000000000000 then
    (if out = true then (if o < a then (0, 0, 0, 50) else (h + a, i, o - a, 0)) else (if i < a then (0, 0, 0, 50) else (h - a, i - a, o, 0)))
  else (0, 0, 0, 2)
def keepS (h i o : Int) (out : Bool) (a : Int) : Int × Int × Int × Int :=
  if okP h i o ∧ 1 ≤ a ∧ a ≤ 1000000000000000 then
    (if out = true then (if o < a then (0, 0, 0, 50) else (h, i, o - a, 0)) else (if i < a then (0, 0, 0, 50) else (h, i - a, o, 0)))
  else (0, 0, 0, 2)
theorem wr (n : Int) (h : -9223372036854775808 ≤ n ∧ n ≤ 9223372036854775807) : wrap64 n = n := by unfold wrap64; omega
theorem neg_one_mul' (a : Int) : (-1) * a = -a := by omega
theorem do_is (k : Nat) (h i o : Int) (out : Bool) (a : Int) : pot_Do.f (k + 1) h i o out a = some (doS h i o out a) := by
  unfold pot_Do.f doS
  rw [free_is, room_is]
  simp only [Option.bind_some, moved_is]
  by_cases c : okP h i o ∧ 1 ≤ a ∧ a ≤ 1000000000000000
  · have c' := c
    simp only [if_pos c, if_pos c.1]
    unfold okP at c'
    cases out with
    | true =>
      simp only [if_true]
      by_cases d : h - i < a
      · rw [if_pos d, if_pos d]
      · rw [if_neg (show ¬ a > h - i by omega), if_neg d]
        simp only [Int.zero_mul, neg_one_mul', Int.one_mul, wr 0 (by omega), Int.add_zero]
        rw [wr (-a) (by omega), wr a (by omega), wr _ (by omega), wr _ (by omega), wr _ (by omega)]
        rfl
    | false =>
      simp only [Bool.false_eq_true, if_false]
      by_cases d : 1000000000000000 - h - o < a
      · rw [if_pos d, if_pos d]
      · rw [if_neg (show ¬ a > 1000000000000000 - h - o by omega), if_neg d]
        simp only [Int.zero_mul, Int.one_mul, wr 0 (by omega), Int.add_zero]
        rw [wr a (by omega), wr _ (by omega), wr _ (by omega), wr _ (by omega)]
  · simp only [if_neg c]
    cases out <;> rfl
theorem undo_is (k : Nat) (h i o : Int) (out : Bool) (a : Int) : pot_Undo.f (k + 1) h i o out a = some (undoS h i o out a) := by
  unfold pot_Undo.f undoS
  simp only [Option.bind_some, moved_is]
  by_cases c : okP h i o ∧ 1 ≤ a ∧ a ≤ 1000000000000000
  · have c' := c
    simp only [if_pos c]
    unfold okP at c'
    cases out with
    | true =>
      simp only [if_true]
      by_cases d : o < a
      · rw [if_pos d, if_pos d]
      · rw [if_neg (show ¬ a > o by omega), if_neg d]
        simp only [Int.zero_mul, neg_one_mul', Int.one_mul, wr 0 (by omega), Int.add_zero]
        rw [wr (-a) (by omega), wr a (by omega), wr _ (by omega), wr _ (by omega), wr _ (by omega)]
        rfl
    | false =>
      simp only [Bool.false_eq_true, if_false]
      by_cases d : i < a
      · rw [if_pos d, if_pos d]
      · rw [if_neg (show ¬ a > i by omega), if_neg d]
        simp only [Int.zero_mul, neg_one_mul', wr 0 (by omega), Int.add_zero]
        rw [wr (-a) (by omega), wr _ (by omega), wr _ (by omega), wr _ (by omega)]
        rfl
  · simp only [if_neg c]
    cases out <;> rfl
theorem awake_ev : Ev (fun k => ententelaw05_awake.f k) true :=
  Ev.of (fun k => ententelaw05_awake.mono k) (k := 10) (by decide +kernel)
theorem keep_is (k : Nat) (h i o : Int) (out : Bool) (a : Int) : pot_Keep.f (k + 1) h i o out a = some (keepS h i o out a) := by
  unfold pot_Keep.f keepS pot_either_int64.f
  by_cases c : okP h i o ∧ 1 ≤ a ∧ a ≤ 1000000000000000
  · have c' := c
    simp only [if_pos c]
    unfold okP at c'
    cases out with
    | true =>
      simp only [if_true, Option.bind_some, moved_is, if_pos c]
      by_cases d : o < a
      · rw [if_pos d, if_pos d]
      · rw [if_neg (show ¬ a > o by omega), if_neg d]
        simp only [Int.zero_mul, neg_one_mul', wr 0 (by omega), Int.add_zero]
        rw [wr (-a) (by omega), wr _ (by omega), wr _ (by omega), wr _ (by omega)]
        rfl
    | false =>
      simp only [Bool.false_eq_true, if_false, Option.bind_some, moved_is, if_pos c]
      by_cases d : i < a
      · rw [if_pos d, if_pos d]
      · rw [if_neg (show ¬ a > i by omega), if_neg d]
        simp only [Int.zero_mul, neg_one_mul', wr 0 (by omega), Int.add_zero]
        rw [wr (-a) (by omega), wr _ (by omega), wr _ (by omega), wr _ (by omega)]
        rfl
  · simp only [if_neg c]
    cases out <;> simp [moved_is, c]
theorem ev_shift {α : Type} {g f : Nat → Option α} {r : α} (n : Nat) (h : ∀ k, g (k + n) = f k) (hf : Ev f r) : Ev g r := by
  obtain ⟨K, hf⟩ := hf
  refine ⟨K + n, fun k hk => ?_⟩
  obtain ⟨m, rfl⟩ : ∃ m, k = m + n := ⟨k - n, by omega⟩
  rw [h]
  exact hf m (by omega)
theorem ev_up {α : Type} {g : Nat → Option α} {r : α} (n : Nat) (hf : Ev g r) : Ev (fun k => g (k + n)) r := by
  obtain ⟨K, hf⟩ := hf
  exact ⟨K, fun k hk => hf (k + n) (by omega)⟩
def sumIn : List S39 → Int
  | [] => 0
  | x :: l => (if x.f1 = true then 0 else x.f2) + sumIn l
def sumOut : List S39 → Int
  | [] => 0
  | x :: l => (if x.f1 = true then x.f2 else 0) + sumOut l
theorem sumIn_app (l m : List S39) : sumIn (l ++ m) = sumIn l + sumIn m := by
  induction l with
  | nil => simp [sumIn]
  | cons x l ih => simp only [List.cons_append, sumIn, ih]; omega
theorem sumOut_app (l m : List S39) : sumOut (l ++ m) = sumOut l + sumOut m := by
  induction l with
  | nil => simp [sumOut]
  | cons x l ih => simp only [List.cons_append, sumOut, ih]; omega
def Fine (l : List S39) : Prop := ∀ x ∈ l, 1 ≤ x.f2 ∧ x.f2 ≤ 1000000000000000
theorem sum_pos (l : List S39) (h : Fine l) : 0 ≤ sumIn l ∧ 0 ≤ sumOut l := by
  induction l with
  | nil => simp [sumIn, sumOut]
  | cons x l ih =>
    have h1 := h x (List.mem_cons_self ..)
    have h2 := ih (fun y hy => h y (List.mem_cons_of_mem _ hy))
    simp only [sumIn, sumOut]
    constructor <;> split <;> omega
theorem split_at (l : List S39) (w : Nat) (h : w < l.length) : l = l.take w ++ (rd_T39 l (w : Int) :: l.drop (w + 1)) := by
  have e : rd_T39 l (w : Int) = l[w] := by
    unfold rd_T39
    simp [List.getD_eq_getElem?_getD, List.getElem?_eq_getElem h]
  rw [e, ← List.drop_eq_getElem_cons h, List.take_append_drop]
/-- What holds of a pot, and of what is pending. -/
structure Inv (a0 : Int) (op : List S39) (kept h i o : Int) : Prop where
  ok : okP h i o
  si : i = sumIn op
  so : o = sumOut op
  fine : Fine op
  sum : h - i + o = a0 + kept
theorem doS_ok (h i o : Int) (out : Bool) (a : Int) (e : (doS h i o out a).2.2.2 = 0) :
    1 ≤ a ∧ a ≤ 1000000000000000 ∧ ((out = true ∧ a ≤ h - i ∧ doS h i o out a = (h - a, i, o + a, 0)) ∨ (out = false ∧ a ≤ 1000000000000000 - h - o ∧ doS h i o out a = (h + a, i + a, o, 0))) := by
  unfold doS at e ⊢
  by_cases c : okP h i o ∧ 1 ≤ a ∧ a ≤ 1000000000000000
  · simp only [if_pos c] at e ⊢
    refine ⟨c.2.1, c.2.2, ?_⟩
    cases out with
    | true =>
      simp only [if_true] at e ⊢
      by_cases d : h - i < a
      · simp [if_pos d] at e
      · simp only [if_neg d]; exact .inl ⟨trivial, by omega, trivial⟩
    | false =>
      simp only [Bool.false_eq_true, if_false] at e ⊢
      by_cases d : 1000000000000000 - h - o < a
      · simp [if_pos d] at e
      · simp only [if_neg d]; exact .inr ⟨trivial, by omega, trivial⟩
  · simp [if_neg c] at e
theorem inv_do {a0 : Int} {op : List S39} {kept h i o : Int} (hI : Inv a0 op kept h i o) (x : S39) (e : (doS h i o x.f1 x.f2).2.2.2 = 0) :
    Inv a0 (op ++ [x]) kept (doS h i o x.f1 x.f2).1 (doS h i o x.f1 x.f2).2.1 (doS h i o x.f1 x.f2).2.2.1 := by
  obtain ⟨b1, b2, ⟨c1, c2, c3⟩ | ⟨c1, c2, c3⟩⟩ := doS_ok h i o x.f1 x.f2 e
  · obtain ⟨h1, h2, h3, h4, h5⟩ := hI
    unfold okP at h1
    rw [c3]
    exact ⟨by show okP (h - x.f2) i (o + x.f2); unfold okP; omega, by rw [sumIn_app]; simp [sumIn, c1, h2], by rw [sumOut_app]; simp [sumOut, c1, h3], fun y hy => by
      rcases List.mem_append.1 hy with hy | hy
      · exact h4 y hy
      · rw [List.mem_singleton.1 hy]; exact ⟨b1, b2⟩, by show h - x.f2 - i + (o + x.f2) = a0 + kept; omega⟩
  · obtain ⟨h1, h2, h3, h4, h5⟩ := hI
    unfold okP at h1
    rw [c3]
    exact ⟨by show okP (h + x.f2) (i + x.f2) o; unfold okP; omega, by rw [sumIn_app]; simp [sumIn, c1, h2], by rw [sumOut_app]; simp [sumOut, c1, h3], fun y hy => by
      rcases List.mem_append.1 hy with hy | hy
      · exact h4 y hy
      · rw [List.mem_singleton.1 hy]; exact ⟨b1, b2⟩, by show h + x.f2 - (i + x.f2) + o = a0 + kept; omega⟩
/-- One that is pending can be undone, and kept. -/
theorem inv_undo {a0 : Int} {l m : List S39} {x : S39} {kept h i o : Int} (hI : Inv a0 (l ++ x :: m) kept h i o) :
    ∃ h' i' o', undoS h i o x.f1 x.f2 = (h', i', o', 0) ∧ Inv a0 (l ++ m) kept h' i' o' := by
  obtain ⟨h1, h2, h3, h4, h5⟩ := hI
  have hx := h4 x (by simp)
  have hf : Fine (l ++ m) := fun y hy => h4 y (by
    rcases List.mem_append.1 hy with hy | hy
    · simp [hy]
    · simp [hy])
  have hp := sum_pos _ hf
  have h1' := h1
  unfold okP at h1
  rw [sumIn_app] at h2 hp
  rw [sumOut_app] at h3 hp
  simp only [sumIn] at h2
  simp only [sumOut] at h3
  unfold undoS
  rw [if_pos ⟨h1', hx.1, hx.2⟩]
  cases hb : x.f1 with
  | true =>
    simp only [hb, if_true] at h2 h3 ⊢
    rw [if_neg (by omega)]
    exact ⟨_, _, _, rfl, by unfold okP; omega, by rw [sumIn_app]; omega, by rw [sumOut_app]; omega, hf, by omega⟩
  | false =>
    simp only [hb, Bool.false_eq_true, if_false] at h2 h3 ⊢
    rw [if_neg (by omega)]
    exact ⟨_, _, _, rfl, by unfold okP; omega, by rw [sumIn_app]; omega, by rw [sumOut_app]; omega, hf, by omega⟩
theorem inv_keep {a0 : Int} {l m : List S39} {x : S39} {kept h i o : Int} (hI : Inv a0 (l ++ x :: m) kept h i o) :
    ∃ h' i' o', keepS h i o x.f1 x.f2 = (h', i', o', 0) ∧ Inv a0 (l ++ m) (if x.f1 = true then kept - x.f2 else kept + x.f2) h' i' o' := by
  obtain ⟨h1, h2, h3, h4, h5⟩ := hI
  have hx := h4 x (by simp)
  have hf : Fine (l ++ m) := fun y hy => h4 y (by
    rcases List.mem_append.1 hy with hy | hy
    · simp [hy]
    · simp [hy])
  have hp := sum_pos _ hf
  have h1' := h1
  unfold okP at h1
  rw [sumIn_app] at h2 hp
  rw [sumOut_app] at h3 hp
  simp only [sumIn] at h2
  simp only [sumOut] at h3
  unfold keepS
  rw [if_pos ⟨h1', hx.1, hx.2⟩]
  cases hb : x.f1 with
  | true =>
    simp only [hb, if_true] at h2 h3 ⊢
    rw [if_neg (by omega)]
    exact ⟨_, _, _, rfl, by unfold okP; omega, by rw [sumIn_app]; omega, by rw [sumOut_app]; omega, hf, by omega⟩
  | false =>
    simp only [hb, Bool.false_eq_true, if_false] at h2 h3 ⊢
    rw [if_neg (by omega)]
    exact ⟨_, _, _, rfl, by unfold okP; omega, by rw [sumIn_app]; omega, by rw [sumOut_app]; omega, hf, by omega⟩
/-- What the end of the acts comes to, from a place on. -/
def Plays (a0 : Int) (l : List S39) (n : Nat) (op : List S39) (kept h i o : Int) : Prop :=
  ∃ op' kept' h' i' o', Ev (fun k => ententelaw05_played.l0 k l op kept (n : Int) h i o) (h', i', o', op', kept', true) ∧ Inv a0 op' kept' h' i' o' ∧ op'.length ≤ l.length
theorem Plays.back {a0 : Int} {l : List S39} {n m : Nat} {op op2 : List S39} {kept kept2 h i o h2 i2 o2 : Int} {s t : Nat} (H : Plays a0 l m op2 kept2 h2 i2 o2)
    (e : ∀ k, ententelaw05_played.l0 (k + s) l op kept (n : Int) h i o = ententelaw05_played.l0 (k + t) l op2 kept2 (m : Int) h2 i2 o2) : Plays a0 l n op kept h i o := by
  obtain ⟨op', kept', h', i', o', E, R⟩ := H
  exact ⟨op', kept', h', i', o', ev_shift s e (ev_up t E), R⟩
theorem j1_skip (k : Nat) (l op : List S39) (kept n h i o f0 : Int) (f1 : Bool) (f2 f3 : Int) : ententelaw05_played.j1 (k + 1) l op kept n true h i o f0 f1 f2 f3 = ententelaw05_played.l0 k l op kept (wrap64 (n + 1)) h i o := by
  simp only [ententelaw05_played.j1, if_true]
theorem j2_go (k : Nat) (l op : List S39) (kept n h i o h' i' o' : Int) (c : okP h' i' o') : ententelaw05_played.j2 (k + 1) l op kept n 0 h i o h' i' o' = ententelaw05_played.l0 k l op kept (wrap64 (n + 1)) h' i' o' := by
  simp only [ententelaw05_played.j2, check_is, if_pos c, Option.bind_some, if_true]
theorem cut_at (op : List S39) (w : Nat) (h : w < op.length) (hl : op.length ≤ 300) : wrap64 ((w : Int) + 1) = ((w + 1 : Nat) : Int) := by unfold wrap64; omega
theorem j1_undo (k : Nat) (l op : List S39) (kept n h i o f0 : Int) (f1 : Bool) (f2 : Int) (w : Nat) (hw : w < op.length) (hl : op.length ≤ 300) (h' i' o' : Int) (hf : f0 ≠ 2)
    (e : undoS h i o (rd_T39 op w).f1 (rd_T39 op w).f2 = (h', i', o', 0)) (c : okP h' i' o') :
    ententelaw05_played.j1 (k + 3) l op kept n false h i o f0 f1 f2 (w : Int) = ententelaw05_played.l0 (k + 1) l (op.take w ++ op.drop (w + 1)) kept (wrap64 (n + 1)) h' i' o' := by
  have e1 := cut_at op w hw hl
  rw [ententelaw05_played.j1, if_neg (by simp), if_pos (by omega), if_pos (by omega), Option.bind_some, if_pos (by omega), Option.bind_some, if_pos (by rw [List.length_nil, List.length_take]; omega), Option.bind_some, e1, if_pos (by omega), if_pos (by omega), Option.bind_some, if_pos (by rw [List.length_append, List.length_nil, List.length_take, List.length_drop]; omega), Option.bind_some, undo_is, e, Option.bind_some]
  rw [show (([] : List S39) ++ op.take ((w : Int)).toNat ++ op.drop (((w + 1 : Nat) : Int)).toNat) = op.take w ++ op.drop (w + 1) from rfl]
  rw [if_neg hf, j2_go _ _ _ _ _ _ _ _ _ _ _ c]
theorem j1_keep (k : Nat) (l op : List S39) (kept n h i o : Int) (f1 : Bool) (f2 : Int) (w : Nat) (hw : w < op.length) (hl : op.length ≤ 300) (h' i' o' : Int) (h2 i2 o2 : Int)
    (e0 : undoS h i o (rd_T39 op w).f1 (rd_T39 op w).f2 = (h2, i2, o2, 0))
    (e : keepS h i o (rd_T39 op w).f1 (rd_T39 op w).f2 = (h', i', o', 0)) (c : okP h' i' o') (kept' : Int)
    (ek : kept' = if (rd_T39 op w).f1 = true then kept - (rd_T39 op w).f2 else kept + (rd_T39 op w).f2) (eb : -9223372036854775808 ≤ kept' ∧ kept' ≤ 9223372036854775807) :
    ententelaw05_played.j1 (k + 3) l op kept n false h i o 2 f1 f2 (w : Int) = ententelaw05_played.l0 (k + 1) l (op.take w ++ op.drop (w + 1)) kept' (wrap64 (n + 1)) h' i' o' := by
  have e1 := cut_at op w hw hl
  rw [ententelaw05_played.j1, if_neg (by simp), if_pos (by omega), if_pos (by omega), Option.bind_some, if_pos (by omega), Option.bind_some, if_pos (by rw [List.length_nil, List.length_take]; omega), Option.bind_some, e1, if_pos (by omega), if_pos (by omega), Option.bind_some, if_pos (by rw [List.length_append, List.length_nil, List.length_take, List.length_drop]; omega), Option.bind_some, undo_is, e0, Option.bind_some]
  rw [show (([] : List S39) ++ op.take ((w : Int)).toNat ++ op.drop (((w + 1 : Nat) : Int)).toNat) = op.take w ++ op.drop (w + 1) from rfl]
  rw [if_pos rfl, keep_is, e, Option.bind_some]
  cases hb : (rd_T39 op w).f1 with
  | true =>
    simp only [hb, if_true] at ek ⊢
    rw [j2_go _ _ _ _ _ _ _ _ _ _ _ c, wr (kept - (rd_T39 op w).f2) (by omega), ← ek]
  | false =>
    simp only [hb, Bool.false_eq_true, if_false] at ek ⊢
    rw [j2_go _ _ _ _ _ _ _ _ _ _ _ c, wr (kept + (rd_T39 op w).f2) (by omega), ← ek]
theorem played_all (a0 : Int) (ha : 0 ≤ a0 ∧ a0 ≤ 1000000000000000) (l : List S39) (hl : l.length ≤ 300) (d : Nat) : ∀ (n : Nat) (op : List S39) (kept h i o : Int), n + d = l.length → Inv a0 op kept h i o → op.length ≤ n → Plays a0 l n op kept h i o := by
  induction d with
  | zero =>
    intro n op kept h i o hn hI ho
    refine ⟨op, kept, h, i, o, Ev.step (f := fun _ => some (h, i, o, op, kept, true)) (fun k => ?_) (Ev.now _), hI, by omega⟩
    simp only [ententelaw05_played.l0]
    rw [if_neg (by omega)]
  | succ d ih =>
    intro n op kept h i o hn hI ho
    have hn1 : wrap64 ((n : Int) + 1) = ((n + 1 : Nat) : Int) := by unfold wrap64; omega
    obtain ⟨x, hx⟩ : ∃ x, rd_T39 l (n : Int) = x := ⟨_, rfl⟩
    have skip : Plays a0 l (n + 1) op kept h i o := ih (n + 1) op kept h i o (by omega) hI (by omega)
    by_cases c0 : x.f0 = 0
    · by_cases c1 : (doS h i o x.f1 x.f2).2.2.2 = 0
      · have hI2 := inv_do hI x c1
        refine (ih (n + 1) (op ++ [x]) kept _ _ _ (by omega) hI2 (by simp; omega)).back (s := 2) (t := 1) (fun k => ?_)
        simp only [ententelaw05_played.l0]
        rw [hx, if_pos (by omega), if_pos (by omega), if_pos c0, do_is]
        simp only [Option.bind_some]
        rw [if_pos c1, if_pos (by omega), hn1]
      · refine skip.back (s := 2) (t := 1) (fun k => ?_)
        simp only [ententelaw05_played.l0]
        rw [hx, if_pos (by omega), if_pos (by omega), if_pos c0, do_is]
        simp only [Option.bind_some]
        rw [if_neg c1, hn1]
    · by_cases c1 : (x.f0 = 1 ∨ x.f0 = 2) ∧ 0 ≤ x.f3 ∧ x.f3 < op.length
      · obtain ⟨w, hw⟩ := Int.eq_ofNat_of_zero_le c1.2.1
        have hwl : w < op.length := by omega
        have hs := split_at op w hwl
        have hI' := hI
        rw [hs] at hI'
        obtain ⟨h2, i2, o2, e2, J2⟩ := inv_undo hI'
        have len2 : (op.take w ++ op.drop (w + 1)).length ≤ n + 1 := by rw [List.length_append, List.length_take, List.length_drop]; omega
        have head : ∀ k, ententelaw05_played.l0 (k + 1) l op kept (n : Int) h i o = ententelaw05_played.j1 k l op kept (n : Int) false h i o x.f0 x.f1 x.f2 (w : Int) := fun k => by
          simp only [ententelaw05_played.l0]
          rw [hx, if_pos (by omega), if_pos (by omega), if_neg c0]
          by_cases c2 : x.f0 = 1
          · rw [if_pos c2, if_neg (by omega), decide_eq_false (by omega), hw]
          · rw [if_neg c2, if_pos (by omega), if_neg (by omega), decide_eq_false (by omega), hw]
        by_cases c2 : x.f0 = 2
        · obtain ⟨h3, i3, o3, e3, J3⟩ := inv_keep hI'
          have q := J3.sum
          have q2 := J3.ok
          unfold okP at q2
          refine (ih (n + 1) _ _ h3 i3 o3 (by omega) J3 len2).back (s := 4) (t := 1) (fun k => ?_)
          rw [head, c2, j1_keep k l op kept n h i o x.f1 x.f2 w hwl (by omega) h3 i3 o3 h2 i2 o2 e2 e3 J3.ok _ rfl (by omega), hn1]
        · refine (ih (n + 1) _ _ h2 i2 o2 (by omega) J2 len2).back (s := 4) (t := 1) (fun k => ?_)
          rw [head, j1_undo k l op kept n h i o x.f0 x.f1 x.f2 w hwl (by omega) h2 i2 o2 c2 e2 J2.ok, hn1]
      · refine skip.back (s := 2) (t := 0) (fun k => ?_)
        simp only [ententelaw05_played.l0]
        rw [hx, if_pos (by omega), if_pos (by omega), if_neg c0]
        by_cases c2 : x.f0 = 1
        · rw [if_pos c2]
          by_cases c3 : x.f3 < 0
          · rw [if_pos c3, j1_skip, hn1]; rfl
          · rw [if_neg c3, decide_eq_true (by omega), j1_skip, hn1]; rfl
        · rw [if_neg c2]
          by_cases c4 : x.f0 = 2
          · rw [if_pos c4]
            by_cases c3 : x.f3 < 0
            · rw [if_pos c3, j1_skip, hn1]; rfl
            · rw [if_neg c3, decide_eq_true (by omega), j1_skip, hn1]; rfl
          · rw [if_neg c4, j1_skip, hn1]; rfl
theorem played_ev (a0 : Int) (ha : 0 ≤ a0 ∧ a0 ≤ 1000000000000000) (l : List S39) (hl : l.length ≤ 300) :
    ∃ op' kept' h' i' o', Ev (fun k => ententelaw05_played.f k a0 l) (h', i', o', op', kept', true) ∧ Inv a0 op' kept' h' i' o' ∧ op'.length ≤ l.length :=
  played_all a0 ha l hl l.length 0 [] 0 a0 0 0 (by omega) ⟨by unfold okP; omega, rfl, rfl, fun x hx => by simp at hx, by omega⟩ (by simp)
theorem pend_loop (a0 : Int) (op : List S39) (kept h i o : Int) (hI : Inv a0 op kept h i o) (hl : op.length ≤ 300) (d : Nat) : ∀ n : Nat, n + d = op.length →
    Ev (fun k => ententelaw05_PotPending.l0 k op (n : Int) h i o) true := by
  induction d with
  | zero =>
    intro n hn
    refine Ev.step (f := fun k => (ententelaw05_awake.f k).bind fun t => some t) (fun k => ?_) (Ev.bind awake_ev (Ev.now true))
    simp only [ententelaw05_PotPending.l0]
    rw [if_neg (by omega)]
  | succ d ih =>
    intro n hn
    have hn1 : wrap64 ((n : Int) + 1) = ((n + 1 : Nat) : Int) := by unfold wrap64; omega
    have hs := split_at op n (by omega)
    have hI' := hI
    rw [hs] at hI'
    obtain ⟨h2, i2, o2, e2, _⟩ := inv_undo hI'
    obtain ⟨h3, i3, o3, e3, _⟩ := inv_keep hI'
    refine ev_shift 2 (fun k => ?_) (ev_up 1 (ih (n + 1) (by omega)))
    rw [ententelaw05_PotPending.l0, if_pos (by omega), if_pos (by omega), undo_is, keep_is, e2, e3]
    rw [Option.bind_some, Option.bind_some, if_pos rfl, if_pos rfl, hn1]
theorem pend_ev (a0 : Int) (l : List S39) : Ev (fun k => ententelaw05_PotPending.f k a0 l) true := by
  have aw : ∀ x, Ev (fun k => ententelaw05_PotPending.j0 k a0 x true) true := fun x =>
    Ev.step (f := fun k => (ententelaw05_awake.f k).bind fun t => some t) (fun k => by simp only [ententelaw05_PotPending.j0, if_true]) (Ev.bind awake_ev (Ev.now true))
  by_cases c1 : a0 < 0
  · exact Ev.congr (fun k => by unfold ententelaw05_PotPending.f; rw [if_pos c1]) (aw l)
  by_cases c2 : a0 > 1000000000000000
  · exact Ev.congr (fun k => by unfold ententelaw05_PotPending.f; rw [if_neg c1, if_pos c2]) (aw l)
  by_cases c3 : (l.length : Int) > 300
  · exact Ev.congr (fun k => by unfold ententelaw05_PotPending.f; rw [if_neg c1, if_neg c2, decide_eq_true c3]) (aw l)
  refine Ev.congr (f := fun k => ententelaw05_PotPending.j0 k a0 l false) (fun k => by unfold ententelaw05_PotPending.f; rw [if_neg c1, if_neg c2, decide_eq_false c3]) ?_
  obtain ⟨op, kept, h, i, o, E, hI, hlen⟩ := played_ev a0 ⟨by omega, by omega⟩ l (by omega)
  refine Ev.step (f := fun k => (ententelaw05_played.f k a0 l).bind fun bt => (if bt.2.2.2.2.2 = true then ((pot_Check.f bt.1 bt.2.1 bt.2.2.1).bind fun t => (ententelaw05_PotPending.j1 k bt.2.2.2.1 (t != 0) bt.1 bt.2.1 bt.2.2.1)) else (ententelaw05_PotPending.j1 k bt.2.2.2.1 true bt.1 bt.2.1 bt.2.2.1))) (fun k => by simp only [ententelaw05_PotPending.j0, Bool.false_eq_true, if_false]) ?_
  refine Ev.bind E ?_
  refine Ev.congr (f := fun k => ententelaw05_PotPending.j1 k op false h i o) (fun k => by simp only [if_true, check_is, if_pos hI.ok, Option.bind_some, bne_self_eq_false]) ?_
  refine Ev.step (f := fun k => ententelaw05_PotPending.l0 k op 0 h i o) (fun k => by simp only [ententelaw05_PotPending.j1, Bool.false_eq_true, if_false]) ?_
  exact pend_loop a0 op kept h i o hI (by omega) op.length 0 (by omega)
theorem PotPending : ententelaw05_PotPending.Pure := fun a0 l _ _ => (pend_ev a0 l).rounds

end Go.Proofs.Ytfjlodknogiipaa.Pure
