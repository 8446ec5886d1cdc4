/- WindowOnce: proved for all arguments; no condition. -/
import Derived.Test.YthlmcnhpjdflmaaPAx9
namespace Go.Proofs.Ythlmcnhpjdflmaa.Pure
open Go.RowKit Go.Proofs.Ythlmcnhpjdflmaa.PA Go.Proofs.YthlmcnhpjdflmaaW.PrintWords Go.Proofs.YthlmcnhpjdflmaaW.PrintLast Go.Proofs.YthlmcnhpjdflmaaW.PrintMore
set_option linter.unusedVariables false
set_option linter.unusedSimpArgs false

/-! ### rounds, tests -/
theorem wr (n : Int) (h : -9223372036854775808 ≤ n ∧ n ≤ 9223372036854775807) : wrap64 n = n := by unfold wrap64; omega
theorem ev_ite {α : Type} {c : Prop} [Decidable c] {f g : Nat → Option α} {r : α} (h1 : c → Ev f r) (h2 : ¬ c → Ev g r) : Ev (fun k => if c then f k else g k) r := by
  by_cases hc : c
  · exact Ev.congr (fun k => if_pos hc) (h1 hc)
  · exact Ev.congr (fun k => if_neg hc) (h2 hc)
theorem ev_pos {α : Type} {c : Prop} [Decidable c] {f g : Nat → Option α} {r : α} (hc : c) (h1 : Ev f r) : Ev (fun k => if c then f k else g k) r := Ev.congr (fun k => if_pos hc) h1
theorem ev_neg {α : Type} {c : Prop} [Decidable c] {f g : Nat → Option α} {r : α} (hc : ¬ c) (h2 : Ev g r) : Ev (fun k => if c then f k else g k) r := Ev.congr (fun k => if_neg hc) h2
theorem ev_eq {α : Type} {f : Nat → Option α} {r r' : α} (h : Ev f r) (e : r = r') : Ev f r' := e ▸ h
theorem rd_mem (l : List Int) (i : Nat) (h : i < l.length) : rd l (i : Int) ∈ l := by
  unfold rd
  rw [Int.toNat_natCast, List.getD_eq_getElem?_getD, List.getElem?_eq_getElem h]
  exact List.getElem_mem h
theorem rd_at (l : List Int) (i : Nat) (h : i < l.length) : rd l (i : Int) = l[i] := by
  unfold rd
  rw [Int.toNat_natCast, List.getD_eq_getElem?_getD, List.getElem?_eq_getElem h]
  rfl
theorem drop_rd (l : List Int) (i : Nat) (h : i < l.length) : l.drop i = rd l (i : Int) :: l.drop (i + 1) := by
  rw [rd_at l i h]
  exact List.drop_eq_getElem_cons h
/-! ### what a window may be -/
/-- Greater and greater, from least to hi. -/
def chk (hi : Int) : Int → List Int → Bool
  | _, [] => true
  | least, n :: r => decide (least ≤ n ∧ n ≤ hi) && chk hi (n + 1) r
theorem chk_low {hi : Int} (l : List Int) : ∀ {a : Int}, chk hi a l = true → ∀ n ∈ l, a ≤ n ∧ n ≤ hi := by
  induction l with
  | nil => intro a _ n hn; cases hn
  | cons x l ih =>
    intro a h n hn
    simp only [chk, Bool.and_eq_true, decide_eq_true_eq] at h
    rcases List.mem_cons.1 hn with rfl | hn
    · exact h.1
    · have := ih h.2 n hn
      omega
theorem chk_len {hi : Int} (l : List Int) : ∀ {a : Int}, a ≤ hi + 1 → chk hi a l = true → (l.length : Int) ≤ hi - a + 1 := by
  induction l with
  | nil => intro a h0 h; simp; omega
  | cons x l ih =>
    intro a h0 h
    simp only [chk, Bool.and_eq_true, decide_eq_true_eq] at h
    have := ih (by omega) h.2
    simp
    omega
def WIN (lo : Int) (l : List Int) : Prop := 0 ≤ lo ∧ lo ≤ 1000000000 ∧ chk (lo + 16) (lo + 2) l = true
instance (lo : Int) (l : List Int) : Decidable (WIN lo l) := by unfold WIN; infer_instance
theorem win_len {lo : Int} {l : List Int} (h : WIN lo l) : (l.length : Int) ≤ 15 := by
  have := chk_len l (by omega) h.2.2
  omega
theorem may_loop (lo : Int) (h0 : 0 ≤ lo) (h1 : lo ≤ 1000000000) (l : List Int) (hl : l.length ≤ 16) (d : Nat) : ∀ (i : Nat) (least : Int), i + d = l.length → 0 ≤ least →
    Ev (fun k => window_May.l0 k least l (l.length : Int) (i : Int) lo l) (if chk (lo + 16) least (l.drop i) = true then 0 else 2) := by
  induction d with
  | zero =>
    intro i least hi hle
    refine Ev.step (fun k => by rw [window_May.l0]) ?_
    refine ev_neg (by omega) ?_
    rw [List.drop_eq_nil_of_le (by omega)]
    exact Ev.now _
  | succ d ih =>
    intro i least hi hle
    refine Ev.step (fun k => by rw [window_May.l0]) ?_
    refine ev_pos (by omega) (ev_pos (by omega) (ev_pos (by omega) ?_))
    rw [drop_rd l i (by omega), wr (lo + 16) (by omega), wr ((i : Int) + 1) (by omega)]
    refine ev_ite (fun c => ?_) (fun c => ev_ite (fun c2 => ?_) (fun c2 => ?_))
    · exact ev_eq (Ev.now _) (by rw [if_neg]; simp [chk]; omega)
    · exact ev_eq (Ev.now _) (by rw [if_neg]; simp [chk]; omega)
    · rw [wr (rd l i + 1) (by omega)]
      have := ih (i + 1) (rd l i + 1) (by omega) (by omega)
      refine ev_eq this ?_
      have e : chk (lo + 16) least (rd l i :: l.drop (i + 1)) = chk (lo + 16) (rd l i + 1) (l.drop (i + 1)) := by
        simp only [chk]
        rw [decide_eq_true (by omega), Bool.true_and]
      rw [e]
theorem may_ev (lo : Int) (l : List Int) : Ev (fun k => window_May.f k lo l) (if WIN lo l then 0 else 2) := by
  have bad : ∀ r, r = (2 : Int) → Ev (fun k => window_May.j0 k true lo l) r := fun r hr => Ev.step (fun k => by rw [window_May.j0]) (ev_pos rfl (ev_eq (Ev.now _) hr.symm))
  unfold window_May.f
  refine ev_ite (fun c => bad _ (if_neg (fun h => by have := h.1; omega))) (fun c => ev_ite (fun c2 => bad _ (if_neg (fun h => by have := h.2.1; omega))) (fun c2 => ?_))
  by_cases c3 : (l.length : Int) > 16
  · rw [decide_eq_true c3]
    exact bad _ (if_neg (fun h => by have := win_len h; omega))
  · rw [decide_eq_false c3]
    refine Ev.step (fun k => by rw [window_May.j0]) (ev_neg (by decide) ?_)
    rw [wr (lo + 2) (by omega)]
    have := may_loop lo (by omega) (by omega) l (by omega) l.length 0 (lo + 2) (by omega) (by omega)
    refine ev_eq this ?_
    rw [List.drop_zero]
    by_cases c4 : chk (lo + 16) (lo + 2) l = true
    · rw [if_pos c4, if_pos ⟨by omega, by omega, c4⟩]
    · rw [if_neg c4, if_neg (fun h => c4 h.2.2)]
/-! ### what a window has taken -/
theorem index_loop (l : List Int) (n : Int) (hl : l.length ≤ 1000000000000) (d : Nat) : ∀ i : Nat, i + d = l.length →
    Ev (fun k => (slices_Index_int_int.l0 k l n (l.length : Int) (i : Int)).bind fun t => some (decide (t ≥ 0))) (decide (n ∈ l.drop i)) := by
  induction d with
  | zero =>
    intro i hi
    refine Ev.bind (a := -1) (f := fun _ t => some (decide (t ≥ 0))) (Ev.step (fun k => by rw [slices_Index_int_int.l0]) (ev_neg (by omega) (Ev.now _))) ?_
    rw [List.drop_eq_nil_of_le (by omega)]
    exact ev_eq (Ev.now _) (by simp)
  | succ d ih =>
    intro i hi
    have ih' := ih (i + 1) (by omega)
    rw [drop_rd l i (by omega)]
    obtain ⟨K, hK⟩ := ih'
    refine ⟨K + 1, fun k hk => ?_⟩
    obtain ⟨k, rfl⟩ : ∃ m, k = m + 1 := ⟨k - 1, by omega⟩
    show (slices_Index_int_int.l0 (k + 1) l n (l.length : Int) (i : Int)).bind _ = _
    rw [slices_Index_int_int.l0, if_pos (by omega), if_pos (by omega), if_pos (by omega), wr ((i : Int) + 1) (by omega)]
    by_cases c : n = rd l i
    · rw [if_pos c, Option.bind_some, decide_eq_true (by omega), decide_eq_true (by rw [c]; exact List.mem_cons_self)]
    · rw [if_neg c]
      have := hK k (by omega)
      simp only [] at this
      rw [show (((i + 1 : Nat) : Int)) = (i : Int) + 1 from by omega] at this
      rw [this]
      congr 1
      rw [Bool.eq_iff_iff, decide_eq_true_eq, decide_eq_true_eq, List.mem_cons]
      exact ⟨fun h => .inr h, fun h => h.resolve_left c⟩
theorem contains_ev (l : List Int) (n : Int) (hl : l.length ≤ 1000000000000) : Ev (fun k => slices_Contains_int_int.f k l n) (decide (n ∈ l)) := by
  have := index_loop l n hl l.length 0 (by omega)
  rw [List.drop_zero] at this
  exact this
/-! ### where a number belongs -/
theorem less_some (a b : Int) : cmp_Less_int.f a b = some (decide (a < b)) := by
  unfold cmp_Less_int.f cmp_isNaN_int.f
  simp
theorem nan_some (a : Int) : slices_isNaN_int.f a = some false := by
  unfold slices_isNaN_int.f
  simp
theorem half_sum (a b : Nat) (h : a + b ≤ 1000000000000) : wrap64 (IntKind.u64.wrap (wrap64 ((a : Int) + (b : Int))) / 2) = (((a + b) / 2 : Nat) : Int) := by
  rw [wr ((a : Int) + (b : Int)) (by omega)]
  have e : IntKind.u64.wrap ((a : Int) + (b : Int)) = (a : Int) + (b : Int) := by
    simp [IntKind.wrap, IntKind.bits, IntKind.signed]
    omega
  rw [e, wr _ (by omega)]
  omega
/-- Sorted: what is ahead of j is less than n, what is from j on isn't. -/
def Cut (l : List Int) (n : Int) (j : Nat) : Prop := j ≤ l.length ∧ (∀ i, i < j → rd l (i : Int) < n) ∧ (∀ i, j ≤ i → i < l.length → n ≤ rd l (i : Int))
theorem search_loop (l : List Int) (n : Int) (hl : l.length ≤ 100000000000) (hs : ∀ i j, i < j → j < l.length → rd l (i : Int) < rd l (j : Int)) (d : Nat) : ∀ a b : Nat, b - a = d → a ≤ b → b ≤ l.length → (∀ i, i < a → rd l (i : Int) < n) → (∀ i, b ≤ i → i < l.length → n ≤ rd l (i : Int)) →
    ∃ j f, Cut l n j ∧ Ev (fun k => slices_BinarySearch_int_int.l0 k l n (l.length : Int) (a : Int) (b : Int)) ((j : Int), f) := by
  induction d using Nat.strongRecOn with
  | _ d ih =>
    intro a b hd hab hbl h1 h2
    by_cases c : a < b
    · have hh := half_sum a b (by omega)
      by_cases c2 : rd l (((a + b) / 2 : Nat) : Int) < n
      · obtain ⟨j, f, hj, hf⟩ := ih (b - ((a + b) / 2 + 1)) (by omega) ((a + b) / 2 + 1) b rfl (by omega) hbl (fun i hi => by
          rcases Nat.lt_or_ge i ((a + b) / 2) with q | q
          · have := hs i ((a + b) / 2) q (by omega)
            omega
          · have : i = (a + b) / 2 := by omega
            rw [this]
            exact c2) h2
        refine ⟨j, f, hj, Ev.step (fun k => by rw [slices_BinarySearch_int_int.l0]) (ev_pos (by omega) ?_)⟩
        rw [hh]
        refine ev_pos (by omega) (ev_pos (by omega) ?_)
        simp only [less_some, Option.bind_some]
        rw [decide_eq_true c2]
        refine ev_pos rfl ?_
        rw [wr _ (by omega)]
        exact hf
      · obtain ⟨j, f, hj, hf⟩ := ih ((a + b) / 2 - a) (by omega) a ((a + b) / 2) rfl (by omega) (by omega) h1 (fun i hi hi2 => by
          rcases Nat.lt_or_ge ((a + b) / 2) i with q | q
          · have := hs ((a + b) / 2) i q hi2
            omega
          · have : i = (a + b) / 2 := by omega
            rw [this]
            omega)
        refine ⟨j, f, hj, Ev.step (fun k => by rw [slices_BinarySearch_int_int.l0]) (ev_pos (by omega) ?_)⟩
        rw [hh]
        refine ev_pos (by omega) (ev_pos (by omega) ?_)
        simp only [less_some, Option.bind_some]
        rw [decide_eq_false c2]
        exact ev_neg (by decide) hf
    · have : a = b := by omega
      subst this
      have hc : Cut l n a := ⟨hbl, h1, h2⟩
      by_cases c3 : a < l.length
      · by_cases c4 : rd l (a : Int) = n
        · exact ⟨a, true, hc, Ev.step (fun k => by rw [slices_BinarySearch_int_int.l0]) (ev_neg (by omega) (ev_pos (by omega) (ev_pos (by omega) (ev_pos (by omega) (ev_pos c4 (Ev.now _))))))⟩
        · refine ⟨a, false, hc, Ev.step (fun k => by rw [slices_BinarySearch_int_int.l0]) (ev_neg (by omega) (ev_pos (by omega) (ev_pos (by omega) (ev_pos (by omega) (ev_neg c4 ?_)))))⟩
          simp only [nan_some, Option.bind_some]
          exact ev_neg (by decide) (Ev.now _)
      · exact ⟨a, false, hc, Ev.step (fun k => by rw [slices_BinarySearch_int_int.l0]) (ev_neg (by omega) (ev_neg (by omega) (Ev.now _)))⟩
/-- A number, among sorted ones. -/
def ins (n : Int) : List Int → List Int
  | [] => [n]
  | x :: r => if x < n then x :: ins n r else n :: x :: r
theorem ins_len (n : Int) (l : List Int) : (ins n l).length = l.length + 1 := by
  induction l with
  | nil => rfl
  | cons x l ih =>
    unfold ins
    split
    · rw [List.length_cons, ih, List.length_cons]
    · rw [List.length_cons]
theorem ins_cut (l : List Int) (n : Int) (j : Nat) (h : Cut l n j) : l.take j ++ n :: l.drop j = ins n l := by
  induction l generalizing j with
  | nil =>
    have := h.1
    simp at this
    subst this
    rfl
  | cons x l ih =>
    rcases j with _ | j
    · have := h.2.2 0 (Nat.zero_le _) (by simp)
      have e : rd (x :: l) ((0 : Nat) : Int) = x := rfl
      rw [e] at this
      simp only [ins]
      rw [if_neg (by omega)]
      rfl
    · have := h.2.1 0 (by omega)
      have e : rd (x :: l) ((0 : Nat) : Int) = x := rfl
      rw [e] at this
      have sh : ∀ i : Nat, rd (x :: l) ((i + 1 : Nat) : Int) = rd l (i : Int) := fun i => by unfold rd; rw [Int.toNat_natCast, Int.toNat_natCast]; rfl
      simp only [ins]
      rw [if_pos this, ← ih j ⟨by have := h.1; simp at this; omega, fun i hi => by have := h.2.1 (i + 1) (by omega); rwa [sh] at this, fun i hi hi2 => by have := h.2.2 (i + 1) (by omega) (by simp; omega); rwa [sh] at this⟩]
      rfl
theorem chk_sorted {hi : Int} (l : List Int) : ∀ {a : Int}, chk hi a l = true → ∀ i j : Nat, i < j → j < l.length → rd l (i : Int) < rd l (j : Int) := by
  induction l with
  | nil => intro a _ i j _ hj; exact absurd hj (Nat.not_lt_zero j)
  | cons x l ih =>
    intro a h i j hij hj
    simp only [chk, Bool.and_eq_true, decide_eq_true_eq] at h
    have sh : ∀ i : Nat, rd (x :: l) ((i + 1 : Nat) : Int) = rd l (i : Int) := fun i => by unfold rd; rw [Int.toNat_natCast, Int.toNat_natCast]; rfl
    obtain ⟨j, rfl⟩ : ∃ m, j = m + 1 := ⟨j - 1, by omega⟩
    have hj' : j < l.length := by simp at hj; omega
    rw [sh]
    rcases i with _ | i
    · have e : rd (x :: l) ((0 : Nat) : Int) = x := rfl
      rw [e]
      have := chk_low l h.2 _ (rd_mem l j hj')
      omega
    · rw [sh]
      exact ih h.2 i j (by omega) hj'
/-- Low goes up as long as the next one is there. -/
def UP : Int → List Int → Int × List Int
  | lo, [] => (lo, [])
  | lo, n :: r => if n = lo + 1 then UP n r else (lo, n :: r)
theorem up_same (hi : Int) (hh : hi ≤ 2000000000) (l : List Int) : ∀ lo a : Int, 0 ≤ lo → lo ≤ 2000000000 → chk hi a l = true → window_put.up lo l = UP lo l := by
  induction l with
  | nil => intro lo a _ _ _; rfl
  | cons x l ih =>
    intro lo a h0 h1 h
    simp only [chk, Bool.and_eq_true, decide_eq_true_eq] at h
    unfold window_put.up UP
    rw [wr (lo + 1) (by omega)]
    by_cases c : x = lo + 1
    · rw [if_pos c, if_pos c]
      exact ih x _ (by omega) (by omega) h.2
    · rw [if_neg c, if_neg c]
theorem chk_ins {hi n : Int} (l : List Int) : ∀ {a : Int}, chk hi a l = true → a ≤ n → n ≤ hi → n ∉ l → chk hi a (ins n l) = true := by
  induction l with
  | nil => intro a _ h1 h2 _; simp [ins, chk, h1, h2]
  | cons x l ih =>
    intro a h h1 h2 h3
    have h' := h
    simp only [chk, Bool.and_eq_true, decide_eq_true_eq] at h
    have hx : x ≠ n := fun e => h3 (by rw [e]; exact List.mem_cons_self)
    simp only [ins]
    by_cases c : x < n
    · rw [if_pos c]
      simp only [chk, Bool.and_eq_true, decide_eq_true_eq]
      exact ⟨h.1, ih h.2 (by omega) h2 (fun hm => h3 (List.mem_cons_of_mem _ hm))⟩
    · rw [if_neg c]
      simp only [chk, Bool.and_eq_true, decide_eq_true_eq]
      exact ⟨⟨h1, h2⟩, ⟨by omega, by omega⟩, h.2⟩
theorem chk_mono {hi : Int} (l : List Int) : ∀ {a b : Int}, b ≤ a → chk hi a l = true → chk hi b l = true := by
  intro a b hab h
  cases l with
  | nil => rfl
  | cons x l =>
    simp only [chk, Bool.and_eq_true, decide_eq_true_eq] at h ⊢
    exact ⟨by omega, h.2⟩
theorem mem_ins (n m : Int) (l : List Int) : m ∈ ins n l ↔ m = n ∨ m ∈ l := by
  induction l with
  | nil => simp [ins]
  | cons x l ih =>
    simp only [ins]
    split
    · rw [List.mem_cons, ih, List.mem_cons]
      constructor
      · rintro (h | h | h)
        · exact .inr (.inl h)
        · exact .inl h
        · exact .inr (.inr h)
      · rintro (h | h | h)
        · exact .inr (.inl h)
        · exact .inl h
        · exact .inr (.inr h)
    · rw [List.mem_cons]
def TAKE (lo : Int) (l : List Int) (n : Int) : Int × List Int × Bool × Int :=
  if ¬ WIN lo l ∨ n < 1 ∨ n > 1000000000 then (0, [], false, 2) else if n > lo + 16 then (0, [], false, 180) else if n ≤ lo ∨ n ∈ l then (lo, l, false, 0) else ((UP lo (ins n l)).1, (UP lo (ins n l)).2, true, 0)
theorem put_ev (lo : Int) (l : List Int) (n : Int) (hw : WIN lo l) (h1 : lo < n) (h2 : n ≤ lo + 16) (h3 : n ∉ l) : Ev (fun k => window_put.f k lo l n) (UP lo (ins n l)) := by
  have hlen := win_len hw
  obtain ⟨j, f, hj, hf⟩ := search_loop l n (by omega) (chk_sorted l hw.2.2) l.length 0 l.length (by omega) (by omega) (by omega) (fun i hi => by omega) (fun i hi hi2 => by omega)
  unfold window_put.f
  refine Ev.bind (a := ((j : Int), f)) hf ?_
  have hc := hj.1
  refine ev_pos ⟨by omega, by omega, by omega⟩ ?_
  rw [show ((j : Int), f).1.toNat = j from Int.toNat_natCast j, ins_cut l n j hj]
  rw [up_same (lo + 16) (by have := hw.2.1; omega) (ins n l) lo (lo + 1) hw.1 (by have := hw.2.1; omega) (chk_ins l (chk_mono l (by omega) hw.2.2) (by omega) h2 h3)]
  exact Ev.now _
theorem clone_some (l : List Int) (h : (l.length : Int) ≤ 1000000) : slices_Clone_int_int.f l = some l := by
  unfold slices_Clone_int_int.f
  rw [if_pos (by omega)]
theorem take_ev (lo : Int) (l : List Int) (n : Int) : Ev (fun k => window_Take.f k lo l n) (TAKE lo l n) := by
  have bad : ¬ WIN lo l ∨ n < 1 ∨ n > 1000000000 → Ev (fun k => window_Take.j0 k n true lo l) (TAKE lo l n) := fun h => Ev.step (fun k => by rw [window_Take.j0]) (ev_pos rfl (ev_eq (Ev.now _) (by unfold TAKE; rw [if_pos h])))
  unfold window_Take.f
  refine Ev.bind (may_ev lo l) ?_
  by_cases hw : WIN lo l
  · rw [if_pos hw]
    refine ev_pos rfl (ev_ite (fun c => bad (.inr (.inl c))) (fun c => ?_))
    by_cases c2 : n > 1000000000
    · rw [decide_eq_true c2]
      exact bad (.inr (.inr c2))
    · rw [decide_eq_false c2]
      have h0 := hw.1
      have h1 := hw.2.1
      have hlen := win_len hw
      unfold TAKE
      rw [if_neg (by rintro (h | h | h); exact h hw; exact c h; exact c2 h)]
      refine Ev.step (fun k => by rw [window_Take.j0]) (ev_neg (by decide) ?_)
      rw [wr (lo + 16) (by omega)]
      have old : n ≤ lo ∨ n ∈ l → Ev (fun k => window_Take.j1 k n true lo l) (lo, l, false, 0) := fun h => by
        refine Ev.step (fun k => by rw [window_Take.j1]) (ev_pos rfl ?_)
        rw [clone_some l (by omega)]
        exact Ev.now _
      refine ev_ite (fun c3 => ?_) (fun c3 => ev_ite (fun c4 => ?_) (fun c4 => ?_))
      · rw [if_pos c3]
        exact Ev.now _
      · rw [if_neg c3, if_pos (.inl c4)]
        exact old (.inl c4)
      · rw [if_neg c3]
        refine Ev.bind (contains_ev l n (by omega)) ?_
        by_cases c5 : n ∈ l
        · rw [decide_eq_true c5, if_pos (.inr c5)]
          exact old (.inr c5)
        · rw [decide_eq_false c5, if_neg (by rintro (h | h); exact c4 h; exact c5 h)]
          refine Ev.step (fun k => by rw [window_Take.j1]) (ev_neg (by decide) ?_)
          refine Ev.bind (put_ev lo l n hw (by omega) (by omega) c5) ?_
          exact Ev.now _
  · rw [if_neg hw]
    exact ev_neg (by decide) (bad (.inl hw))
/-! ### what stays as numbers are taken -/
theorem up_win (hi : Int) (l : List Int) : ∀ lo : Int, chk hi (lo + 1) l = true → lo ≤ (UP lo l).1 ∧ (UP lo l).1 ≤ max lo hi ∧ chk hi ((UP lo l).1 + 2) (UP lo l).2 = true ∧ (UP lo l).1 + (UP lo l).2.length = lo + l.length ∧ ∀ x, (x ≤ (UP lo l).1 ∨ x ∈ (UP lo l).2) ↔ (x ≤ lo ∨ x ∈ l) := by
  induction l with
  | nil => intro lo _; exact ⟨Int.le_refl _, by show lo ≤ _; omega, rfl, rfl, fun x => Iff.rfl⟩
  | cons n l ih =>
    intro lo h
    simp only [chk, Bool.and_eq_true, decide_eq_true_eq] at h
    unfold UP
    by_cases c : n = lo + 1
    · rw [if_pos c]
      obtain ⟨i1, i2, i3, i4, i5⟩ := ih n h.2
      refine ⟨by omega, by omega, i3, by rw [i4, List.length_cons]; omega, fun x => ?_⟩
      rw [i5, List.mem_cons]
      constructor
      · rintro (h | h)
        · rcases Int.lt_or_le lo x with q | q
          · exact .inr (.inl (by omega))
          · exact .inl q
        · exact .inr (.inr h)
      · rintro (h | h | h)
        · exact .inl (by omega)
        · exact .inl (by omega)
        · exact .inr h
    · rw [if_neg c]
      refine ⟨Int.le_refl _, by show lo ≤ _; omega, ?_, rfl, fun x => Iff.rfl⟩
      simp only [chk, Bool.and_eq_true, decide_eq_true_eq]
      exact ⟨by show lo + 2 ≤ n ∧ _; omega, h.2⟩
theorem chk_hi {hi hi' : Int} (hh : hi ≤ hi') (l : List Int) : ∀ a : Int, chk hi a l = true → chk hi' a l = true := by
  induction l with
  | nil => intro a _; rfl
  | cons x l ih =>
    intro a h
    simp only [chk, Bool.and_eq_true, decide_eq_true_eq] at h ⊢
    exact ⟨by omega, ih _ h.2⟩
theorem up_max (hi : Int) (l : List Int) : ∀ lo, chk hi (lo + 1) l = true → (UP lo l).1 ≤ lo ∨ (UP lo l).1 ∈ l := by
  induction l with
  | nil => intro lo _; exact .inl (Int.le_refl _)
  | cons n l ih =>
    intro lo h
    simp only [chk, Bool.and_eq_true, decide_eq_true_eq] at h
    unfold UP
    split
    · rcases ih n h.2 with q | q
      · have := (up_win hi l n h.2).1
        have e : (UP n l).1 = n := by omega
        rw [e]
        exact .inr List.mem_cons_self
      · exact .inr (List.mem_cons_of_mem _ q)
    · exact .inl (Int.le_refl _)
/-- A number that is fresh: what it leaves. -/
theorem take_fresh {lo : Int} {l : List Int} {n : Int} (hw : WIN lo l) (h1 : lo < n) (h2 : n ≤ lo + 16) (h3 : n ∉ l) (h4 : n ≤ 1000000000) (hm : ∀ x ∈ l, x ≤ 1000000000) :
    WIN (UP lo (ins n l)).1 (UP lo (ins n l)).2 ∧ lo ≤ (UP lo (ins n l)).1 ∧ (UP lo (ins n l)).1 + (UP lo (ins n l)).2.length = lo + l.length + 1 ∧ (∀ x, (x ≤ (UP lo (ins n l)).1 ∨ x ∈ (UP lo (ins n l)).2) ↔ (x ≤ lo ∨ x ∈ l ∨ x = n)) ∧ (∀ x ∈ (UP lo (ins n l)).2, x ≤ 1000000000) := by
  have hc := chk_ins l (chk_mono l (by omega) hw.2.2) (show lo + 1 ≤ n by omega) h2 h3
  obtain ⟨i1, i2, i3, i4, i5⟩ := up_win (lo + 16) (ins n l) lo hc
  have hmem : ∀ x ∈ ins n l, x ≤ 1000000000 := fun x hx => by
    rcases (mem_ins n x l).1 hx with e | e
    · omega
    · exact hm x e
  refine ⟨⟨by have := hw.1; omega, ?_, chk_hi (by omega) _ _ i3⟩, i1, by rw [i4, ins_len]; omega, fun x => ?_, fun x hx => ?_⟩
  · rcases up_max (lo + 16) (ins n l) lo hc with q | q
    · have := hw.2.1
      omega
    · exact hmem _ q
  · rw [i5, mem_ins]
    constructor
    · rintro (h | h | h)
      · exact .inl h
      · exact .inr (.inr h)
      · exact .inr (.inl h)
    · rintro (h | h | h)
      · exact .inl h
      · exact .inr (.inr h)
      · exact .inr (.inl h)
  · rcases (i5 x).1 (.inr hx) with q | q
    · have := hw.2.1
      omega
    · exact hmem x q
theorem awake_ev : Ev (fun k => ententelaw18_awake.f k) true := Ev.of ententelaw18_awake.mono (k := 60) (by decide +kernel)
theorem awake_ends : Ev (fun k => (ententelaw18_awake.f k).bind fun t => some t) true := Ev.bind (f := fun _ t => some t) awake_ev (Ev.now _)
theorem met_loop (xs had : List Int) (i : Nat) (hi : i < xs.length) (fresh : Bool) (e : Int) (lo : Int) (l : List Int) (lo2 : Int) (l2 : List Int) (hh : had.length ≤ 1000000)
    (hend : Ev (fun k => ententelaw18_WindowOnce.l1 k xs had (i : Int) fresh e (decide (rd xs (i : Int) ∈ had)) (had.length : Int) lo l lo2 l2) true) (d : Nat) : ∀ (j : Nat) (met : Bool), j + d = had.length → (met = decide (rd xs (i : Int) ∈ had.take j)) →
    Ev (fun k => ententelaw18_WindowOnce.l1 k xs had (i : Int) fresh e met (j : Int) lo l lo2 l2) true := by
  induction d with
  | zero =>
    intro j met hj hm
    have : j = had.length := by omega
    subst this
    rw [List.take_length] at hm
    rw [hm]
    exact hend
  | succ d ih =>
    intro j met hj hm
    have hs : had.take (j + 1) = had.take j ++ [rd had (j : Int)] := by
      rw [rd_at had j (by omega)]
      exact List.take_succ_eq_append_getElem (by omega)
    refine Ev.step (fun k => by rw [ententelaw18_WindowOnce.l1]) (ev_pos (by omega) ?_)
    rw [wr ((j : Int) + 1) (by omega)]
    cases met with
    | true =>
      refine ev_pos rfl (ih (j + 1) true (by omega) ?_)
      rw [hs, eq_comm, decide_eq_true_eq, List.mem_append]
      exact .inl (of_decide_eq_true hm.symm)
    | false =>
      refine ev_neg (by decide) (ev_pos (by omega) (ev_pos (by omega) (ev_pos (by omega) (ih (j + 1) _ (by omega) ?_))))
      rw [hs, Bool.eq_iff_iff, beq_iff_eq, decide_eq_true_eq, List.mem_append, List.mem_singleton]
      exact ⟨fun h => .inr h.symm, fun h => (h.resolve_left (of_decide_eq_false hm.symm)).symm⟩
theorem once_loop (xs : List Int) (hx : xs.length ≤ 200) (d : Nat) : ∀ (i : Nat) (had : List Int) (lo : Int) (l : List Int), i + d = xs.length → WIN lo l → (∀ x ∈ l, x ≤ 1000000000) → (∀ x, x ∈ had ↔ (1 ≤ x ∧ x ≤ lo) ∨ x ∈ l) → had.length ≤ i →
    Ev (fun k => ententelaw18_WindowOnce.l0 k xs had (i : Int) lo l) true := by
  induction d with
  | zero =>
    intro i had lo l hi hw hm hh hl
    exact Ev.step (fun k => by rw [ententelaw18_WindowOnce.l0]) (ev_neg (by omega) awake_ends)
  | succ d ih =>
    intro i had lo l hi hw hm hh hl
    have h0 := hw.1
    have h1 := hw.2.1
    refine Ev.step (fun k => by rw [ententelaw18_WindowOnce.l0]) (ev_pos (by omega) (ev_pos (by omega) (Ev.bind (take_ev lo l _) ?_)))
    have stay : Ev (fun k => ententelaw18_WindowOnce.l0 k xs had ((i : Int) + 1) lo l) true := ih (i + 1) had lo l (by omega) hw hm hh (by omega)
    refine met_loop xs had i (by omega) _ _ lo l _ _ (by omega) ?_ had.length 0 false (by omega) (by simp)
    refine Ev.step (fun k => by rw [ententelaw18_WindowOnce.l1]) (ev_neg (by omega) ?_)
    rw [wr ((i : Int) + 1) (by omega)]
    have hn : ∀ P : Int → Prop, P (rd xs (i : Int)) → P (rd xs (i : Int)) := fun _ h => h
    obtain ⟨n, en⟩ : ∃ n, n = rd xs (i : Int) := ⟨_, rfl⟩
    rw [← en]
    have hmn := hh n
    have err : ∀ e : Int, e ≠ 0 → n ∉ had → Ev (fun k => if e = 0 then if (false == decide (n ∈ had)) = true then ententelaw18_WindowOnce.j2 k xs had (i : Int) false true 0 [] else (window_May.f k 0 []).bind fun t258 => if t258 = 0 then ententelaw18_WindowOnce.j2 k xs had (i : Int) false (decide (0 < lo)) 0 [] else ententelaw18_WindowOnce.j2 k xs had (i : Int) false true 0 [] else if false = true then some false else if decide (n ∈ had) = true then some false else ententelaw18_WindowOnce.l0 k xs had ((i : Int) + 1) lo l) true := fun e he hno => by
      refine ev_neg he (ev_neg Bool.false_ne_true ?_)
      rw [decide_eq_false hno]
      exact ev_neg Bool.false_ne_true stay
    unfold TAKE
    by_cases c1 : ¬ WIN lo l ∨ n < 1 ∨ n > 1000000000
    · rw [if_pos c1]
      refine err 2 (by decide) (fun h => ?_)
      rcases c1 with c | c
      · exact c hw
      · rcases hmn.1 h with q | q
        · omega
        · have := hm n q
          have := chk_low l hw.2.2 n q
          omega
    · rw [if_neg c1]
      by_cases c2 : n > lo + 16
      · rw [if_pos c2]
        refine err 180 (by decide) (fun h => ?_)
        rcases hmn.1 h with q | q
        · omega
        · have := chk_low l hw.2.2 n q
          omega
      · rw [if_neg c2]
        have c1' : 1 ≤ n ∧ n ≤ 1000000000 := by
          constructor
          · exact Int.not_lt.1 (fun h => c1 (.inr (.inl h)))
          · exact Int.not_lt.1 (fun h => c1 (.inr (.inr h)))
        by_cases c3 : n ≤ lo ∨ n ∈ l
        · rw [if_pos c3]
          have hin : n ∈ had := hmn.2 (by rcases c3 with h | h; exact .inl ⟨by omega, h⟩; exact .inr h)
          rw [decide_eq_true hin]
          refine ev_pos rfl (ev_neg Bool.false_ne_true (Ev.bind (may_ev lo l) ?_))
          rw [if_pos hw]
          refine ev_pos rfl ?_
          rw [decide_eq_false (by show ¬ lo < lo; omega)]
          refine Ev.step (fun k => by rw [ententelaw18_WindowOnce.j2]) (ev_neg Bool.false_ne_true (ev_neg Bool.false_ne_true ?_))
          rw [wr ((i : Int) + 1) (by omega)]
          exact stay
        · rw [if_neg c3]
          have g1 : ¬ n ≤ lo := fun h => c3 (.inl h)
          have g2 : n ∉ l := fun h => c3 (.inr h)
          have hout : n ∉ had := fun h => by
            rcases hmn.1 h with q | q
            · omega
            · exact g2 q
          rw [decide_eq_false hout]
          obtain ⟨f1, f2, f3, f4, f5⟩ := take_fresh hw (by omega) (by omega) g2 c1'.2 hm
          refine ev_pos rfl (ev_neg Bool.false_ne_true (Ev.bind (may_ev _ _) ?_))
          rw [if_pos f1]
          refine ev_pos rfl ?_
          rw [decide_eq_false (by show ¬ (UP lo (ins n l)).1 < lo; omega)]
          refine Ev.step (fun k => by rw [ententelaw18_WindowOnce.j2]) (ev_neg Bool.false_ne_true (ev_pos rfl (ev_pos (by omega) (ev_pos (by omega) (ev_pos (by omega) ?_)))))
          rw [wr ((i : Int) + 1) (by omega), ← en]
          refine ih (i + 1) (had ++ [n]) _ _ (by omega) f1 f5 (fun x => ?_) (by rw [List.length_append, List.length_singleton]; omega)
          rw [List.mem_append, List.mem_singleton, hh]
          have := f4 x
          constructor
          · rintro ((h | h) | h)
            · rcases this.2 (.inl h.2) with q | q
              · exact .inl ⟨h.1, q⟩
              · exact .inr q
            · rcases this.2 (.inr (.inl h)) with q | q
              · have := chk_low l hw.2.2 x h
                exact .inl ⟨by omega, q⟩
              · exact .inr q
            · rcases this.2 (.inr (.inr h)) with q | q
              · exact .inl ⟨by omega, q⟩
              · exact .inr q
          · rintro (h | h)
            · rcases this.1 (.inl h.2) with q | q | q
              · exact .inl (.inl ⟨h.1, q⟩)
              · exact .inl (.inr q)
              · exact .inr q
            · rcases this.1 (.inr h) with q | q | q
              · have := chk_low _ f1.2.2 x h
                exact .inl (.inl ⟨by omega, q⟩)
              · exact .inl (.inr q)
              · exact .inr q
theorem WindowOnce : ententelaw18_WindowOnce.Pure := by
  intro xs _
  refine Ev.rounds (g := fun k => ententelaw18_WindowOnce.f k xs) ?_
  unfold ententelaw18_WindowOnce.f
  refine ev_ite (fun _ => awake_ends) (fun c => ?_)
  exact once_loop xs (by omega) xs.length 0 [] 0 [] (by omega) ⟨by omega, by omega, rfl⟩ (fun x hx => by cases hx) (fun x => by simp; omega) (by simp)

end Go.Proofs.Ythlmcnhpjdflmaa.Pure
