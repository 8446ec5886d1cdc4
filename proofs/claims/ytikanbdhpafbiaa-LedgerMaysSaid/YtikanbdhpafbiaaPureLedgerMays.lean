/- LedgerMays: proved for all arguments; no condition. -/
import Derived.Test.YtikanbdhpafbiaaNum
import Derived.Test.YtikanbdhpafbiaaPZx24
namespace Go.Proofs.Ytikanbdhpafbiaa.Pure
open Go.RowKit Go.Proofs.Ytikanbdhpafbiaa.PZ Go.Proofs.YtikanbdhpafbiaaW.PrintWords Go.Proofs.YtikanbdhpafbiaaW.PrintLast Go.Proofs.YtikanbdhpafbiaaW.PrintMore Go.Proofs.Ytikanbdhpafbiaa.Num
set_option linter.unusedVariables false
set_option linter.unusedSimpArgs false

/-! tests and rounds -/
theorem ev_ite {α : Type} {c : Prop} [Decidable c] {f g : Nat → Option α} {r : α} (h1 : c → Ev f r) (h2 : ¬ c → Ev g r) : Ev (fun k => if c then f k else g k) r := by
  by_cases hc : c
  · exact Ev.congr (fun k => if_pos hc) (h1 hc)
  · exact Ev.congr (fun k => if_neg hc) (h2 hc)
theorem ev_pos {α : Type} {c : Prop} [Decidable c] {f g : Nat → Option α} {r : α} (hc : c) (h1 : Ev f r) : Ev (fun k => if c then f k else g k) r := Ev.congr (fun k => if_pos hc) h1
theorem ev_neg {α : Type} {c : Prop} [Decidable c] {f g : Nat → Option α} {r : α} (hc : ¬ c) (h2 : Ev g r) : Ev (fun k => if c then f k else g k) r := Ev.congr (fun k => if_neg hc) h2
theorem ev_eq {α : Type} {f : Nat → Option α} {r r' : α} (h : Ev f r) (e : r = r') : Ev f r' := e ▸ h
/-! the order of texts -/
theorem u8_tri (a b : UInt8) : a < b ∨ a = b ∨ b < a := by
  rcases Nat.lt_trichotomy a.toNat b.toNat with h | h | h
  · exact Or.inl (UInt8.lt_iff_toNat_lt.2 h)
  · exact Or.inr (Or.inl (UInt8.toNat.inj h))
  · exact Or.inr (Or.inr (UInt8.lt_iff_toNat_lt.2 h))
theorem u8_trans {a b c : UInt8} (h : a < b) (g : b < c) : a < c := UInt8.lt_iff_toNat_lt.2 (Nat.lt_trans (UInt8.lt_iff_toNat_lt.1 h) (UInt8.lt_iff_toNat_lt.1 g))
theorem u8_irr (a : UInt8) : ¬ a < a := fun h => Nat.lt_irrefl _ (UInt8.lt_iff_toNat_lt.1 h)
def ls : List UInt8 → List UInt8 → Prop
  | _, [] => False
  | [], _ :: _ => True
  | a :: x, b :: y => a < b ∨ a = b ∧ ls x y
theorem ls_bytes : ∀ x y : List UInt8, Op.bytesLess x y = true ↔ ls x y
  | [], [] => by simp [Op.bytesLess, ls]
  | _ :: _, [] => by simp [Op.bytesLess, ls]
  | [], _ :: _ => by simp [Op.bytesLess, ls]
  | a :: x, b :: y => by
    simp only [Op.bytesLess, ls, Bool.or_eq_true, Bool.and_eq_true, decide_eq_true_eq, beq_iff_eq, ls_bytes x y]
theorem ls_irr : ∀ x : List UInt8, ¬ ls x x
  | [] => id
  | a :: x => by
    rintro (h | ⟨_, h⟩)
    · exact u8_irr a h
    · exact ls_irr x h
theorem ls_trans : ∀ {x y z : List UInt8}, ls x y → ls y z → ls x z
  | _, _, [], _, g => by cases ‹List UInt8› <;> exact g.elim
  | [], _, _ :: _, _, _ => trivial
  | _ :: _, [], _ :: _, h, _ => h.elim
  | a :: x, b :: y, c :: z, h, g => by
    rcases h with h | ⟨rfl, h⟩
    · rcases g with g | ⟨rfl, g⟩
      · exact Or.inl (u8_trans h g)
      · exact Or.inl h
    · rcases g with g | ⟨rfl, g⟩
      · exact Or.inl g
      · exact Or.inr ⟨rfl, ls_trans h g⟩
theorem cmp_cases : ∀ x y : List UInt8, (ls x y ∧ Lib.compareBytes x y = -1) ∨ (x = y ∧ Lib.compareBytes x y = 0) ∨ (ls y x ∧ Lib.compareBytes x y = 1)
  | [], [] => Or.inr (Or.inl ⟨rfl, rfl⟩)
  | [], _ :: _ => Or.inl ⟨trivial, rfl⟩
  | _ :: _, [] => Or.inr (Or.inr ⟨trivial, rfl⟩)
  | a :: x, b :: y => by
    unfold Lib.compareBytes
    rcases u8_tri a b with h | rfl | h
    · rw [if_pos h]
      exact Or.inl ⟨Or.inl h, rfl⟩
    · rw [if_neg (u8_irr a), if_neg (u8_irr a)]
      rcases cmp_cases x y with ⟨g, e⟩ | ⟨rfl, e⟩ | ⟨g, e⟩
      · exact Or.inl ⟨Or.inr ⟨rfl, g⟩, e⟩
      · exact Or.inr (Or.inl ⟨rfl, e⟩)
      · exact Or.inr (Or.inr ⟨Or.inr ⟨rfl, g⟩, e⟩)
    · rw [if_neg (fun g => u8_irr a (u8_trans g h)), if_pos h]
      exact Or.inr (Or.inr ⟨Or.inl h, rfl⟩)
/-- The order of texts. -/
def lt (a b : ByteArray) : Prop := ls a.data.toList b.data.toList
theorem lt_trans {a b c : ByteArray} (h : lt a b) (g : lt b c) : lt a c := ls_trans h g
theorem lt_irr (a : ByteArray) : ¬ lt a a := ls_irr _
theorem lt_bytes (a b : ByteArray) : Op.bytesLess a.toList b.toList = true ↔ lt a b := by
  rw [ByteArray.toList_eq, ByteArray.toList_eq]
  exact ls_bytes _ _
theorem cmp3 (a b : ByteArray) : (lt a b ∧ strings_Compare.f a b = some (-1)) ∨ (a = b ∧ strings_Compare.f a b = some 0) ∨ (lt b a ∧ strings_Compare.f a b = some 1) := by
  unfold strings_Compare.f
  rcases cmp_cases a.data.toList b.data.toList with ⟨h, e⟩ | ⟨h, e⟩ | ⟨h, e⟩
  · exact Or.inl ⟨h, by rw [e]⟩
  · exact Or.inr (Or.inl ⟨ByteArray.ext (Array.toList_inj.1 h), by rw [e]⟩)
  · exact Or.inr (Or.inr ⟨h, by rw [e]⟩)
theorem tl_inj (a b : ByteArray) : a.toList = b.toList ↔ a = b := by
  constructor
  · intro h
    rw [ByteArray.toList_eq, ByteArray.toList_eq] at h
    exact ByteArray.ext (Array.toList_inj.1 h)
  · rintro rfl
    rfl
/-! searching -/
theorem half_sum (a b : Nat) (h : a + b ≤ 1000000000000) : wrap64 (IntKind.u64.wrap (wrap64 ((a : Int) + (b : Int))) / 2) = (((a + b) / 2 : Nat) : Int) := by
  rw [wr ((a : Int) + (b : Int)) (by omega)]
  have e : IntKind.u64.wrap ((a : Int) + (b : Int)) = (a : Int) + (b : Int) := by
    simp [IntKind.wrap, IntKind.bits, IntKind.signed]
    omega
  rw [e, wr _ (by omega)]
  omega
theorem cmp_A (y : S51) (n : ByteArray) : (lt y.f0 n ∧ ledger_book_account_1.f y.f0 y.f1.f0 y.f1.f1 y.f1.f2 y.f2.f0 y.f2.f1 y.f2.f2 n = some (-1)) ∨ (y.f0 = n ∧ ledger_book_account_1.f y.f0 y.f1.f0 y.f1.f1 y.f1.f2 y.f2.f0 y.f2.f1 y.f2.f2 n = some 0) ∨ (lt n y.f0 ∧ ledger_book_account_1.f y.f0 y.f1.f0 y.f1.f1 y.f1.f2 y.f2.f0 y.f2.f1 y.f2.f2 n = some 1) := by
  unfold ledger_book_account_1.f
  rcases cmp3 y.f0 n with ⟨h, e⟩ | ⟨h, e⟩ | ⟨h, e⟩
  · exact Or.inl ⟨h, by rw [e]; rfl⟩
  · exact Or.inr (Or.inl ⟨h, by rw [e]; rfl⟩)
  · exact Or.inr (Or.inr ⟨h, by rw [e]; rfl⟩)
def CutA (l : List S51) (n : ByteArray) (j : Nat) : Prop := j ≤ l.length ∧ (∀ i : Nat, i < j → lt (rd_T51 l (i : Int)).f0 n) ∧ (∀ i : Nat, j ≤ i → i < l.length → ¬ lt (rd_T51 l (i : Int)).f0 n)
def SortedA (l : List S51) : Prop := ∀ i j : Nat, i < j → j < l.length → lt (rd_T51 l (i : Int)).f0 (rd_T51 l (j : Int)).f0
theorem search_A (l : List S51) (n : ByteArray) (hl : l.length ≤ 100000000000) (hs : SortedA l) (d : Nat) : ∀ a b : Nat, b - a = d → a ≤ b → b ≤ l.length → (∀ i : Nat, i < a → lt (rd_T51 l (i : Int)).f0 n) → (∀ i : Nat, b ≤ i → i < l.length → ¬ lt (rd_T51 l (i : Int)).f0 n) →
    ∃ j f, CutA l n j ∧ (f = true ↔ j < l.length ∧ (rd_T51 l (j : Int)).f0 = n) ∧ Ev (fun k => api_Account_string.l0 k l n (l.length : Int) (a : Int) (b : Int)) ((j : Int), f) := by
  induction d using Nat.strongRecOn with
  | _ d ih =>
    intro a b hd hab hbl h1 h2
    by_cases c : a < b
    · have hh := half_sum a b (by omega)
      by_cases c2 : lt (rd_T51 l (((a + b) / 2 : Nat) : Int)).f0 n
      · obtain ⟨j, f, hj, hjf, hf⟩ := ih (b - ((a + b) / 2 + 1)) (by omega) ((a + b) / 2 + 1) b rfl (by omega) hbl (fun i hi => by
          rcases Nat.lt_or_ge i ((a + b) / 2) with q | q
          · exact lt_trans (hs i ((a + b) / 2) q (by omega)) c2
          · have : i = (a + b) / 2 := by omega
            rw [this]
            exact c2) h2
        refine ⟨j, f, hj, hjf, Ev.step (fun k => by rw [api_Account_string.l0]) (ev_pos (by omega) ?_)⟩
        rw [hh]
        refine ev_pos (by omega) (ev_pos (by omega) ?_)
        have hc := cmp_A (rd_T51 l (((a + b) / 2 : Nat) : Int)) n
        rcases hc with ⟨_, e⟩ | ⟨h, _⟩ | ⟨h, _⟩
        · rw [e]
          simp only [Option.bind_some]
          refine ev_pos (by decide) ?_
          rw [wr _ (by omega)]
          exact hf
        · exact absurd c2 (by rw [h]; exact lt_irr n)
        · exact absurd (lt_trans c2 h) (lt_irr _)
      · obtain ⟨j, f, hj, hjf, hf⟩ := ih ((a + b) / 2 - a) (by omega) a ((a + b) / 2) rfl (by omega) (by omega) h1 (fun i hi hi2 => by
          rcases Nat.lt_or_ge ((a + b) / 2) i with q | q
          · exact fun g => c2 (lt_trans (hs ((a + b) / 2) i q hi2) g)
          · have : i = (a + b) / 2 := by omega
            rw [this]
            exact c2)
        refine ⟨j, f, hj, hjf, Ev.step (fun k => by rw [api_Account_string.l0]) (ev_pos (by omega) ?_)⟩
        rw [hh]
        refine ev_pos (by omega) (ev_pos (by omega) ?_)
        have hc := cmp_A (rd_T51 l (((a + b) / 2 : Nat) : Int)) n
        rcases hc with ⟨h, _⟩ | ⟨_, e⟩ | ⟨_, e⟩
        · exact absurd h c2
        · rw [e]
          simp only [Option.bind_some]
          exact ev_neg (by decide) hf
        · rw [e]
          simp only [Option.bind_some]
          exact ev_neg (by decide) hf
    · have : a = b := by omega
      subst this
      have hc : CutA l n a := ⟨hbl, h1, h2⟩
      by_cases c3 : a < l.length
      · have hq := cmp_A (rd_T51 l (a : Int)) n
        rcases hq with ⟨h, _⟩ | ⟨h, e⟩ | ⟨h, e⟩
        · exact absurd h (h2 a (Nat.le_refl _) c3)
        · refine ⟨a, true, hc, ⟨fun _ => ⟨c3, h⟩, fun _ => rfl⟩, Ev.step (fun k => by rw [api_Account_string.l0]) (ev_neg (by omega) (ev_pos (by omega) (ev_pos (by omega) (ev_pos (by omega) ?_))))⟩
          rw [e]
          exact Ev.now _
        · refine ⟨a, false, hc, ⟨fun z => (by cases z), fun z => absurd h (by rw [z.2]; exact lt_irr n)⟩, Ev.step (fun k => by rw [api_Account_string.l0]) (ev_neg (by omega) (ev_pos (by omega) (ev_pos (by omega) (ev_pos (by omega) ?_))))⟩
          rw [e]
          exact Ev.now _
      · exact ⟨a, false, hc, ⟨fun z => (by cases z), fun z => absurd z.1 c3⟩, Ev.step (fun k => by rw [api_Account_string.l0]) (ev_neg (by omega) (ev_neg (by omega) (Ev.now _)))⟩
/-- Where a name belongs, and whether it is there. -/
theorem find_A (l0 : List S51) (l1 : List S64) (n : ByteArray) (hl : l0.length ≤ 100000000000) (hs : SortedA l0) : ∃ j f, CutA l0 n j ∧ (f = true ↔ j < l0.length ∧ (rd_T51 l0 (j : Int)).f0 = n) ∧ Ev (fun k => ledger_book_account.f k l0 l1 n) ((j : Int), f) := by
  obtain ⟨j, f, hj, hjf, hf⟩ := search_A l0 n hl hs l0.length 0 l0.length rfl (Nat.zero_le _) (Nat.le_refl _) (fun i hi => by omega) (fun i hi h2 => by omega)
  exact ⟨j, f, hj, hjf, Ev.congr (fun k => rfl) (Ev.bind (a := ((j : Int), f)) (f := fun _ (t : Int × Bool) => some (t.1, t.2)) hf (Ev.now _))⟩
theorem cmp_M (y : S64) (n : ByteArray) : (lt y.f0 n ∧ ledger_book_mark_1.f y.f0 y.f1.f0 y.f1.f1 y.f1.f2 y.f2 n = some (-1)) ∨ (y.f0 = n ∧ ledger_book_mark_1.f y.f0 y.f1.f0 y.f1.f1 y.f1.f2 y.f2 n = some 0) ∨ (lt n y.f0 ∧ ledger_book_mark_1.f y.f0 y.f1.f0 y.f1.f1 y.f1.f2 y.f2 n = some 1) := by
  unfold ledger_book_mark_1.f
  rcases cmp3 y.f0 n with ⟨h, e⟩ | ⟨h, e⟩ | ⟨h, e⟩
  · exact Or.inl ⟨h, by rw [e]; rfl⟩
  · exact Or.inr (Or.inl ⟨h, by rw [e]; rfl⟩)
  · exact Or.inr (Or.inr ⟨h, by rw [e]; rfl⟩)
def CutM (l : List S64) (n : ByteArray) (j : Nat) : Prop := j ≤ l.length ∧ (∀ i : Nat, i < j → lt (rd_T64 l (i : Int)).f0 n) ∧ (∀ i : Nat, j ≤ i → i < l.length → ¬ lt (rd_T64 l (i : Int)).f0 n)
def SortedM (l : List S64) : Prop := ∀ i j : Nat, i < j → j < l.length → lt (rd_T64 l (i : Int)).f0 (rd_T64 l (j : Int)).f0
theorem search_M (l : List S64) (n : ByteArray) (hl : l.length ≤ 100000000000) (hs : SortedM l) (d : Nat) : ∀ a b : Nat, b - a = d → a ≤ b → b ≤ l.length → (∀ i : Nat, i < a → lt (rd_T64 l (i : Int)).f0 n) → (∀ i : Nat, b ≤ i → i < l.length → ¬ lt (rd_T64 l (i : Int)).f0 n) →
    ∃ j f, CutM l n j ∧ (f = true ↔ j < l.length ∧ (rd_T64 l (j : Int)).f0 = n) ∧ Ev (fun k => api_Mark_string.l0 k l n (l.length : Int) (a : Int) (b : Int)) ((j : Int), f) := by
  induction d using Nat.strongRecOn with
  | _ d ih =>
    intro a b hd hab hbl h1 h2
    by_cases c : a < b
    · have hh := half_sum a b (by omega)
      by_cases c2 : lt (rd_T64 l (((a + b) / 2 : Nat) : Int)).f0 n
      · obtain ⟨j, f, hj, hjf, hf⟩ := ih (b - ((a + b) / 2 + 1)) (by omega) ((a + b) / 2 + 1) b rfl (by omega) hbl (fun i hi => by
          rcases Nat.lt_or_ge i ((a + b) / 2) with q | q
          · exact lt_trans (hs i ((a + b) / 2) q (by omega)) c2
          · have : i = (a + b) / 2 := by omega
            rw [this]
            exact c2) h2
        refine ⟨j, f, hj, hjf, Ev.step (fun k => by rw [api_Mark_string.l0]) (ev_pos (by omega) ?_)⟩
        rw [hh]
        refine ev_pos (by omega) (ev_pos (by omega) ?_)
        have hc := cmp_M (rd_T64 l (((a + b) / 2 : Nat) : Int)) n
        rcases hc with ⟨_, e⟩ | ⟨h, _⟩ | ⟨h, _⟩
        · rw [e]
          simp only [Option.bind_some]
          refine ev_pos (by decide) ?_
          rw [wr _ (by omega)]
          exact hf
        · exact absurd c2 (by rw [h]; exact lt_irr n)
        · exact absurd (lt_trans c2 h) (lt_irr _)
      · obtain ⟨j, f, hj, hjf, hf⟩ := ih ((a + b) / 2 - a) (by omega) a ((a + b) / 2) rfl (by omega) (by omega) h1 (fun i hi hi2 => by
          rcases Nat.lt_or_ge ((a + b) / 2) i with q | q
          · exact fun g => c2 (lt_trans (hs ((a + b) / 2) i q hi2) g)
          · have : i = (a + b) / 2 := by omega
            rw [this]
            exact c2)
        refine ⟨j, f, hj, hjf, Ev.step (fun k => by rw [api_Mark_string.l0]) (ev_pos (by omega) ?_)⟩
        rw [hh]
        refine ev_pos (by omega) (ev_pos (by omega) ?_)
        have hc := cmp_M (rd_T64 l (((a + b) / 2 : Nat) : Int)) n
        rcases hc with ⟨h, _⟩ | ⟨_, e⟩ | ⟨_, e⟩
        · exact absurd h c2
        · rw [e]
          simp only [Option.bind_some]
          exact ev_neg (by decide) hf
        · rw [e]
          simp only [Option.bind_some]
          exact ev_neg (by decide) hf
    · have : a = b := by omega
      subst this
      have hc : CutM l n a := ⟨hbl, h1, h2⟩
      by_cases c3 : a < l.length
      · have hq := cmp_M (rd_T64 l (a : Int)) n
        rcases hq with ⟨h, _⟩ | ⟨h, e⟩ | ⟨h, e⟩
        · exact absurd h (h2 a (Nat.le_refl _) c3)
        · refine ⟨a, true, hc, ⟨fun _ => ⟨c3, h⟩, fun _ => rfl⟩, Ev.step (fun k => by rw [api_Mark_string.l0]) (ev_neg (by omega) (ev_pos (by omega) (ev_pos (by omega) (ev_pos (by omega) ?_))))⟩
          rw [e]
          exact Ev.now _
        · refine ⟨a, false, hc, ⟨fun z => (by cases z), fun z => absurd h (by rw [z.2]; exact lt_irr n)⟩, Ev.step (fun k => by rw [api_Mark_string.l0]) (ev_neg (by omega) (ev_pos (by omega) (ev_pos (by omega) (ev_pos (by omega) ?_))))⟩
          rw [e]
          exact Ev.now _
      · exact ⟨a, false, hc, ⟨fun z => (by cases z), fun z => absurd z.1 c3⟩, Ev.step (fun k => by rw [api_Mark_string.l0]) (ev_neg (by omega) (ev_neg (by omega) (Ev.now _)))⟩
/-- Where a name belongs, and whether it is there. -/
theorem find_M (l0 : List S51) (l1 : List S64) (n : ByteArray) (hl : l1.length ≤ 100000000000) (hs : SortedM l1) : ∃ j f, CutM l1 n j ∧ (f = true ↔ j < l1.length ∧ (rd_T64 l1 (j : Int)).f0 = n) ∧ Ev (fun k => ledger_book_mark.f k l0 l1 n) ((j : Int), f) := by
  obtain ⟨j, f, hj, hjf, hf⟩ := search_M l1 n hl hs l1.length 0 l1.length rfl (Nat.zero_le _) (Nat.le_refl _) (fun i hi => by omega) (fun i hi h2 => by omega)
  exact ⟨j, f, hj, hjf, Ev.congr (fun k => rfl) (Ev.bind (a := ((j : Int), f)) (f := fun _ (t : Int × Bool) => some (t.1, t.2)) hf (Ev.now _))⟩
namespace C6
/-! The words of Num are used here (wr, toList_iff), nothing of numS. -/
theorem ev_pos {α : Type} {c : Prop} [Decidable c] {f g : Nat → Option α} {a b : α} (h : c) (hf : Ev f a) : Ev (fun k => if c then f k else g k) (if c then a else b) := by
  simp only [if_pos h]
  exact hf
theorem ev_neg {α : Type} {c : Prop} [Decidable c] {f g : Nat → Option α} {a b : α} (h : ¬ c) (hg : Ev g b) : Ev (fun k => if c then f k else g k) (if c then a else b) := by
  simp only [if_neg h]
  exact hg
theorem drop_bt (s : ByteArray) (i : Nat) (h : i < s.size) : (bytesOf s).drop i = bt s (i : Int) :: (bytesOf s).drop (i + 1) := by
  have hl : i < (bytesOf s).length := by rw [bytesOf_length]; exact h
  rw [List.drop_eq_getElem_cons hl, ← rd_bytesOf]
  congr 1
  simp [rd, List.getD_eq_getElem?_getD, hl]
/-- May a letter stand in a name? -/
def okc (c : Int) : Bool := (decide (97 ≤ c) && decide (c ≤ 122)) || (decide (48 ≤ c) && decide (c ≤ 57))
def low (c : Int) : Bool := decide (97 ≤ c) && decide (c ≤ 122)
def nameB (s : ByteArray) : Bool := decide (1 ≤ s.size ∧ s.size ≤ 16) && (low (bt s 0) && (bytesOf s).all okc)
theorem empty_iff (s : ByteArray) : s.toList = ([] : List UInt8) ↔ s.size = 0 := by
  have h1 : s.toList = ([] : List UInt8) ↔ s.toList = ByteArray.empty.toList := by rw [show ByteArray.empty.toList = ([] : List UInt8) from by decide +kernel]
  rw [h1, toList_iff]
  constructor
  · intro h; rw [h]; rfl
  · intro h
    apply bytesOf_inj
    rw [bytesOf_empty]
    exact List.eq_nil_of_length_eq_zero (by rw [bytesOf_length, h])
theorem name_step (c : Int) (n : Option Bool) : (if c < 97 then (if c < 48 then some false else (if c > 57 then some false else n)) else (if c > 122 then (if c < 48 then some false else (if c > 57 then some false else n)) else n)) = if okc c = true then n else some false := by
  by_cases h1 : c < 97 <;> by_cases h2 : c < 48 <;> by_cases h3 : c > 57 <;> by_cases h4 : c > 122 <;> simp [okc, h1, h2, h3, h4] <;> omega
theorem name_loop (s : ByteArray) (hs : s.size ≤ 1000) (d : Nat) : ∀ i : Nat, i + d = s.size → Ev (fun k => act_Name.l0 k s (s.size : Int) (i : Int)) (((bytesOf s).drop i).all okc) := by
  induction d with
  | zero =>
    intro i hi
    refine Ev.step (f := fun _ => some (((bytesOf s).drop i).all okc)) (fun k => ?_) (Ev.now _)
    rw [act_Name.l0, if_neg (by omega), List.drop_eq_nil_of_le (by rw [bytesOf_length]; omega)]
    rfl
  | succ d ih =>
    intro i hi
    rw [drop_bt s i (by omega), List.all_cons]
    by_cases c : okc (bt s (i : Int)) = true
    · rw [c, Bool.true_and]
      refine Ev.step (fun k => ?_) (ih (i + 1) (by omega))
      rw [act_Name.l0, if_pos (by omega), if_pos (by omega), if_pos (by omega), name_step, if_pos c, wr _ (by omega)]
      rfl
    · rw [show okc (bt s (i : Int)) = false by simpa using c, Bool.false_and]
      refine Ev.step (f := fun _ => some false) (fun k => ?_) (Ev.now _)
      rw [act_Name.l0, if_pos (by omega), if_pos (by omega), if_pos (by omega), name_step, if_neg c]
theorem name_ev (s : ByteArray) : Ev (fun k => act_Name.f k s) (nameB s) := by
  have bad : Ev (fun k => act_Name.j0 k s true) false := Ev.step (f := fun _ => some false) (fun k => by rw [act_Name.j0, if_pos rfl]) (Ev.now _)
  unfold act_Name.f
  by_cases c1 : s.toList = ([] : List UInt8)
  · have h0 := (empty_iff s).1 c1
    rw [show nameB s = false by unfold nameB; rw [decide_eq_false (by omega), Bool.false_and]]
    exact Ev.congr (fun k => if_pos c1) bad
  have h0 : s.size ≠ 0 := fun h => c1 ((empty_iff s).2 h)
  refine Ev.congr (fun k => if_neg c1) ?_
  by_cases c2 : (s.size : Int) > 16
  · rw [show nameB s = false by unfold nameB; rw [decide_eq_false (by omega), Bool.false_and]]
    exact Ev.congr (fun k => if_pos c2) bad
  have e : nameB s = (low (bt s 0) && (bytesOf s).all okc) := by unfold nameB; rw [decide_eq_true (by omega), Bool.true_and]
  rw [e]
  refine Ev.congr (fun k => by rw [if_neg c2, if_pos (by omega)]) ?_
  by_cases c3 : bt s 0 < 97
  · rw [show low (bt s 0) = false by unfold low; rw [decide_eq_false (by omega), Bool.false_and], Bool.false_and]
    exact Ev.congr (fun k => if_pos c3) bad
  refine Ev.congr (fun k => if_neg c3) ?_
  by_cases c4 : bt s 0 > 122
  · rw [show low (bt s 0) = false by unfold low; rw [decide_eq_false (show ¬ bt s 0 ≤ 122 by omega), Bool.and_false], Bool.false_and, decide_eq_true c4]
    exact bad
  rw [show low (bt s 0) = true by unfold low; rw [decide_eq_true (by omega), decide_eq_true (by omega)]; rfl, Bool.true_and, decide_eq_false c4]
  have := name_loop s (by omega) s.size 0 (by omega)
  rw [List.drop_zero] at this
  refine Ev.step (fun k => ?_) this
  rw [act_Name.j0, if_neg (by decide)]
  rfl
def checkI (kind : Int) (nm : ByteArray) (a : Int) : Int := if kind < 1 then 60 else if kind > 4 then 60 else if nameB nm = true then (if a < 1 then 60 else if a ≤ 1000000000000000 then 0 else 60) else 60
theorem check_ev (kind : Int) (nm : ByteArray) (a : Int) : Ev (fun k => act_Check.f k kind nm a) (checkI kind nm a) := by
  unfold act_Check.f checkI
  by_cases c1 : kind < 1
  · exact ev_pos c1 (Ev.now _)
  refine ev_neg c1 ?_
  by_cases c2 : kind > 4
  · exact ev_pos c2 (Ev.now _)
  refine ev_neg c2 ?_
  refine Ev.bind (name_ev nm) ?_
  by_cases c3 : nameB nm = true
  · refine ev_pos c3 ?_
    by_cases c4 : a < 1
    · exact ev_pos c4 (Ev.now _)
    refine ev_neg c4 ?_
    unfold cash_Fits.f
    rw [if_pos (by omega), Option.bind_some]
    by_cases c5 : a ≤ 1000000000000000
    · rw [if_pos c5, decide_eq_true c5]
      exact Ev.congr (fun k => if_pos rfl) (Ev.now _)
    · rw [if_neg c5, decide_eq_false c5]
      exact Ev.congr (fun k => if_neg (by decide)) (Ev.now _)
  · exact ev_neg c3 (Ev.now _)
theorem check_zero (kind : Int) (nm : ByteArray) (a : Int) (h : checkI kind nm a = 0) : 1 ≤ kind ∧ kind ≤ 4 ∧ 1 ≤ a ∧ a ≤ 1000000000000000 := by
  unfold checkI at h
  by_cases c1 : kind < 1
  · rw [if_pos c1] at h; omega
  by_cases c2 : kind > 4
  · rw [if_neg c1, if_pos c2] at h; omega
  rw [if_neg c1, if_neg c2] at h
  by_cases c3 : nameB nm = true
  · rw [if_pos c3] at h
    by_cases c4 : a < 1
    · rw [if_pos c4] at h; omega
    rw [if_neg c4] at h
    by_cases c5 : a ≤ 1000000000000000
    · omega
    · rw [if_neg c5] at h; omega
  · rw [if_neg c3] at h; omega
/-- May a pot be? -/
def Pot (h i o : Int) : Prop := 0 ≤ i ∧ i ≤ h ∧ 0 ≤ o ∧ h + o ≤ 1000000000000000
instance (h i o : Int) : Decidable (Pot h i o) := by unfold Pot; exact inferInstance
def potI (h i o : Int) : Int := if Pot h i o then 0 else 2
theorem pot_is (h i o : Int) (ho : -9223372036854775808 ≤ o ∧ o ≤ 9223372036854775807) : pot_Check.f h i o = some (potI h i o) := by
  unfold pot_Check.f potI
  by_cases c1 : i < 0
  · rw [if_pos c1, if_neg (by unfold Pot; omega)]
  by_cases c2 : i > h
  · rw [if_neg c1, if_pos c2, if_neg (by unfold Pot; omega)]
  by_cases c3 : o < 0
  · rw [if_neg c1, if_neg c2, if_pos c3, if_neg (by unfold Pot; omega)]
  by_cases c4 : h > 1000000000000000
  · rw [if_neg c1, if_neg c2, if_neg c3, if_pos c4, if_neg (by unfold Pot; omega)]
  rw [if_neg c1, if_neg c2, if_neg c3, if_neg c4, wr (1000000000000000 - h) (by omega)]
  by_cases c5 : o > 1000000000000000 - h
  · rw [if_pos c5, if_neg (by unfold Pot; omega)]
  · rw [if_neg c5, if_pos (by unfold Pot; omega)]
def mayI (n : ByteArray) (h i o h2 i2 o2 : Int) : Int := if nameB n = true ∧ Pot h i o ∧ Pot h2 i2 o2 then 0 else 2
theorem may_ev (n : ByteArray) (h i o h2 i2 o2 : Int) (b1 : -9223372036854775808 ≤ o ∧ o ≤ 9223372036854775807) (b2 : -9223372036854775808 ≤ o2 ∧ o2 ≤ 9223372036854775807) : Ev (fun k => act_May.f k n h i o h2 i2 o2) (mayI n h i o h2 i2 o2) := by
  unfold act_May.f
  refine Ev.bind (name_ev n) ?_
  by_cases c1 : nameB n = true
  · refine Ev.congr (fun k => if_pos c1) ?_
    rw [pot_is h i o b1, pot_is h2 i2 o2 b2]
    simp only [Option.bind_some]
    unfold potI
    by_cases c2 : Pot h i o
    · rw [if_pos c2]
      refine Ev.congr (fun k => if_pos rfl) ?_
      by_cases c3 : Pot h2 i2 o2
      · rw [if_pos c3, show mayI n h i o h2 i2 o2 = 0 from if_pos ⟨c1, c2, c3⟩]
        exact Ev.congr (fun k => if_pos rfl) (Ev.now _)
      · rw [if_neg c3, show mayI n h i o h2 i2 o2 = 2 from if_neg (fun h => c3 h.2.2)]
        exact Ev.congr (fun k => if_neg (by decide)) (Ev.now _)
    · rw [if_neg c2, show mayI n h i o h2 i2 o2 = 2 from if_neg (fun h => c2 h.2.1)]
      exact Ev.congr (fun k => if_neg (by decide)) (Ev.now _)
  · rw [show mayI n h i o h2 i2 o2 = 2 from if_neg (fun h => c1 h.1)]
    exact Ev.congr (fun k => if_neg c1) (Ev.now _)
def ways (kind : Int) : Int × Int := if kind = 3 then (-1, 1) else if kind = 1 then (-1, 0) else if kind = 4 then (1, -1) else if kind = 2 then (1, 0) else (0, 0)
theorem ways_is (kind : Int) : act_ways.f kind = some (ways kind) := by
  unfold act_ways.f ways
  by_cases c1 : kind = 3
  · rw [if_pos c1, if_pos c1]
  by_cases c2 : kind = 1
  · rw [if_neg c1, if_neg c1, if_pos c2, if_pos c2]
  by_cases c3 : kind = 4
  · rw [if_neg c1, if_neg c1, if_neg c2, if_neg c2, if_pos c3, if_pos c3]
  by_cases c4 : kind = 2
  · rw [if_neg c1, if_neg c1, if_neg c2, if_neg c2, if_neg c3, if_neg c3, if_pos c4, if_pos c4]
  · rw [if_neg c1, if_neg c1, if_neg c2, if_neg c2, if_neg c3, if_neg c3, if_neg c4, if_neg c4]
def DL (kind : Int) (nm : ByteArray) (a : Int) : Int × Int := if checkI kind nm a = 0 then ((ways kind).1 * a, (ways kind).2 * a) else (0, 0)
theorem ways_one (kind : Int) : -1 ≤ (ways kind).1 ∧ (ways kind).1 ≤ 1 ∧ -1 ≤ (ways kind).2 ∧ (ways kind).2 ≤ 1 := by
  unfold ways
  repeat' split
  all_goals simp
theorem times_wr (w a : Int) (h : -1 ≤ w ∧ w ≤ 1) (ha : 1 ≤ a ∧ a ≤ 1000000000000000) : wrap64 (w * a) = w * a := by
  rcases (show w = -1 ∨ w = 0 ∨ w = 1 by omega) with rfl | rfl | rfl
  · rw [wr _ (by omega)]
  · rw [wr _ (by omega)]
  · rw [wr _ (by omega)]
theorem delta_ev (kind : Int) (nm : ByteArray) (a : Int) : Ev (fun k => act_Delta.f k kind nm a) (DL kind nm a) := by
  unfold act_Delta.f DL
  refine Ev.bind (check_ev kind nm a) ?_
  by_cases c : checkI kind nm a = 0
  · refine ev_pos c ?_
    have hw := ways_one kind
    have hz := check_zero kind nm a c
    rw [ways_is]
    refine Ev.congr (f := fun _ => some ((ways kind).1 * a, (ways kind).2 * a)) (fun k => ?_) (Ev.now _)
    rw [Option.bind_some, times_wr _ a ⟨hw.1, hw.2.1⟩ ⟨hz.2.2.1, hz.2.2.2⟩, times_wr _ a ⟨hw.2.2.1, hw.2.2.2⟩ ⟨hz.2.2.1, hz.2.2.2⟩]
  · exact ev_neg c (Ev.now _)
end C6
namespace C6
theorem rname_loop (s : ByteArray) (hs : s.size ≤ 1000) (d : Nat) : ∀ i : Nat, 1 ≤ i → i + d = s.size → Ev (fun k => ententeref06_Name.l0 k s (i : Int)) (((bytesOf s).drop i).all okc) := by
  induction d with
  | zero =>
    intro i h1 hi
    refine Ev.step (f := fun _ => some (((bytesOf s).drop i).all okc)) (fun k => ?_) (Ev.now _)
    rw [ententeref06_Name.l0, if_neg (by omega), List.drop_eq_nil_of_le (by rw [bytesOf_length]; omega)]
    rfl
  | succ d ih =>
    intro i h1 hi
    rw [drop_bt s i (by omega), List.all_cons]
    have h0 : ¬ (i : Int) = 0 := by omega
    by_cases c : okc (bt s (i : Int)) = true
    · rw [c, Bool.true_and]
      refine Ev.step (fun k => ?_) (ih (i + 1) (by omega) (by omega))
      rw [ententeref06_Name.l0, if_pos (by omega), if_pos (by omega), wr _ (by omega)]
      generalize bt s (i : Int) = b at c
      simp only [if_neg h0]
      by_cases b1 : b ≥ 97 <;> by_cases b2 : b ≥ 48 <;> by_cases b3 : b ≤ 122 <;> by_cases b4 : b ≤ 57 <;> simp [okc, b1, b2, b3, b4] at c ⊢ <;> omega
    · rw [show okc (bt s (i : Int)) = false by simpa using c, Bool.false_and]
      refine Ev.step (f := fun _ => some false) (fun k => ?_) (Ev.now _)
      rw [ententeref06_Name.l0, if_pos (by omega), if_pos (by omega)]
      generalize bt s (i : Int) = b at c
      by_cases b1 : b ≥ 97 <;> by_cases b2 : b ≥ 48 <;> by_cases b3 : b ≤ 122 <;> by_cases b4 : b ≤ 57 <;> simp [okc, b1, b2, b3, b4] at c ⊢ <;> omega
theorem rname_ev (s : ByteArray) : Ev (fun k => ententeref06_Name.f k s) (nameB s) := by
  have bad : Ev (fun k => ententeref06_Name.j0 k s true) false := Ev.step (f := fun _ => some false) (fun k => by rw [ententeref06_Name.j0, if_pos rfl]) (Ev.now _)
  unfold ententeref06_Name.f
  by_cases c1 : (s.size : Int) < 1
  · rw [show nameB s = false by unfold nameB; rw [decide_eq_false (by omega), Bool.false_and]]
    exact Ev.congr (fun k => if_pos c1) bad
  refine Ev.congr (fun k => if_neg c1) ?_
  by_cases c2 : (s.size : Int) > 16
  · rw [show nameB s = false by unfold nameB; rw [decide_eq_false (by omega), Bool.false_and], decide_eq_true c2]
    exact bad
  have e : nameB s = (low (bt s 0) && (bytesOf s).all okc) := by unfold nameB; rw [decide_eq_true (by omega), Bool.true_and]
  rw [e, decide_eq_false c2]
  refine Ev.step (f := fun k => ententeref06_Name.l0 k s 0) (fun k => by rw [ententeref06_Name.j0, if_neg (by decide)]) ?_
  have hd := drop_bt s 0 (by omega)
  rw [List.drop_zero] at hd
  rw [hd, List.all_cons]
  have hn := rname_loop s (by omega) (s.size - 1) 1 (by omega) (by omega)
  have z : ((0 : Nat) : Int) = 0 := rfl
  rw [z]
  by_cases c : low (bt s 0) = true
  · have c' := c
    unfold low at c'
    have hok : okc (bt s 0) = true := by unfold okc; rw [c']; rfl
    rw [c, hok, Bool.true_and, Bool.true_and]
    refine Ev.step (fun k => ?_) hn
    rw [ententeref06_Name.l0, if_pos (by omega), if_pos (by omega), wr _ (by omega)]
    generalize bt s 0 = b at c'
    by_cases b1 : b ≥ 97 <;> by_cases b2 : b ≥ 48 <;> by_cases b3 : b ≤ 122 <;> by_cases b4 : b ≤ 57 <;> simp [b1, b2, b3, b4] at c' ⊢ <;> omega
  · rw [show low (bt s 0) = false by simpa using c, Bool.false_and]
    unfold low at c
    refine Ev.step (f := fun _ => some false) (fun k => ?_) (Ev.now _)
    rw [ententeref06_Name.l0, if_pos (by omega), if_pos (by omega)]
    generalize bt s 0 = b at c
    by_cases b1 : b ≥ 97 <;> by_cases b2 : b ≥ 48 <;> by_cases b3 : b ≤ 122 <;> by_cases b4 : b ≤ 57 <;> simp [b1, b2, b3, b4] at c ⊢ <;> omega
theorem rcheck_ev (kind : Int) (nm : ByteArray) (a : Int) : Ev (fun k => ententeref06_Check.f k kind nm a) (checkI kind nm a) := by
  unfold ententeref06_Check.f checkI
  by_cases c1 : kind < 1
  · exact ev_pos c1 (Ev.now _)
  refine ev_neg c1 ?_
  by_cases c2 : kind > 4
  · exact ev_pos c2 (Ev.now _)
  refine ev_neg c2 ?_
  refine Ev.bind (rname_ev nm) ?_
  by_cases c3 : nameB nm = true
  · refine ev_pos c3 ?_
    by_cases c4 : a < 1
    · exact ev_pos c4 (Ev.now _)
    refine ev_neg c4 ?_
    by_cases c5 : a ≤ 1000000000000000
    · rw [if_pos c5]
      exact Ev.congr (fun k => if_neg (by omega)) (Ev.now _)
    · rw [if_neg c5]
      exact Ev.congr (fun k => if_pos (by omega)) (Ev.now _)
  · exact ev_neg c3 (Ev.now _)
theorem rpot_is (h i o : Int) (ho : -9223372036854775808 ≤ o ∧ o ≤ 9223372036854775807) : ententeref05_Check.f h i o = some (potI h i o) := by
  unfold ententeref05_Check.f potI
  by_cases c1 : i < 0
  · rw [if_pos c1, if_neg (by unfold Pot; omega)]
  by_cases c2 : h < i
  · rw [if_neg c1, if_pos c2, if_neg (by unfold Pot; omega)]
  by_cases c3 : o < 0
  · rw [if_neg c1, if_neg c2, if_pos c3, if_neg (by unfold Pot; omega)]
  by_cases c4 : h > 1000000000000000
  · rw [if_neg c1, if_neg c2, if_neg c3, if_pos c4, if_neg (by unfold Pot; omega)]
  by_cases c5 : o > 1000000000000000
  · rw [if_neg c1, if_neg c2, if_neg c3, if_neg c4, if_pos c5, if_neg (by unfold Pot; omega)]
  rw [if_neg c1, if_neg c2, if_neg c3, if_neg c4, if_neg c5, wr (h + o) (by omega)]
  by_cases c6 : h + o > 1000000000000000
  · rw [if_pos c6, if_neg (by unfold Pot; omega)]
  · rw [if_neg c6, if_pos (by unfold Pot; omega)]
theorem rmay_ev (n : ByteArray) (h i o h2 i2 o2 : Int) (b1 : -9223372036854775808 ≤ o ∧ o ≤ 9223372036854775807) (b2 : -9223372036854775808 ≤ o2 ∧ o2 ≤ 9223372036854775807) : Ev (fun k => ententeref06_May.f k n h i o h2 i2 o2) (mayI n h i o h2 i2 o2) := by
  unfold ententeref06_May.f
  refine Ev.bind (rname_ev n) ?_
  by_cases c1 : nameB n = true
  · refine Ev.congr (fun k => if_pos c1) ?_
    rw [rpot_is h i o b1, rpot_is h2 i2 o2 b2]
    simp only [Option.bind_some]
    unfold potI
    by_cases c2 : Pot h i o
    · rw [if_pos c2]
      refine Ev.congr (fun k => if_pos rfl) ?_
      by_cases c3 : Pot h2 i2 o2
      · rw [if_pos c3, show mayI n h i o h2 i2 o2 = 0 from if_pos ⟨c1, c2, c3⟩]
        exact Ev.congr (fun k => if_pos rfl) (Ev.now _)
      · rw [if_neg c3, show mayI n h i o h2 i2 o2 = 2 from if_neg (fun h => c3 h.2.2)]
        exact Ev.congr (fun k => if_neg (by decide)) (Ev.now _)
    · rw [if_neg c2, show mayI n h i o h2 i2 o2 = 2 from if_neg (fun h => c2 h.2.1)]
      exact Ev.congr (fun k => if_neg (by decide)) (Ev.now _)
  · rw [show mayI n h i o h2 i2 o2 = 2 from if_neg (fun h => c1 h.1)]
    exact Ev.congr (fun k => if_neg c1) (Ev.now _)
theorem rdelta_ev (kind : Int) (nm : ByteArray) (a : Int) : Ev (fun k => ententeref06_Delta.f k kind nm a) (DL kind nm a) := by
  unfold ententeref06_Delta.f DL
  refine Ev.bind (rcheck_ev kind nm a) ?_
  by_cases c : checkI kind nm a = 0
  · refine ev_pos c ?_
    have hz := check_zero kind nm a c
    rw [wr (-a) (by omega)]
    refine Ev.congr (f := fun _ => some ((ways kind).1 * a, (ways kind).2 * a)) (fun k => ?_) (Ev.now _)
    rcases (show kind = 1 ∨ kind = 2 ∨ kind = 3 ∨ kind = 4 by omega) with rfl | rfl | rfl | rfl <;> simp [ways]
  · exact ev_neg c (Ev.now _)
end C6
/-! what a ledger must be -/
def rng (n : Int) : Prop := -9223372036854775808 ≤ n ∧ n ≤ 9223372036854775807
def RngA (x : S51) : Prop := rng x.f1.f0 ∧ rng x.f1.f1 ∧ rng x.f1.f2 ∧ rng x.f2.f0 ∧ rng x.f2.f1 ∧ rng x.f2.f2
def okA (x : S51) : Prop := C6.mayI x.f0 x.f1.f0 x.f1.f1 x.f1.f2 x.f2.f0 x.f2.f1 x.f2.f2 = 0
def GoodA (A : List S51) (i : Nat) : Prop := okA (rd_T51 A (i : Int)) ∧ (0 < i → lt (rd_T51 A ((i : Int) - 1)).f0 (rd_T51 A (i : Int)).f0)
def keyB (k : ByteArray) : Prop := 1 ≤ k.size ∧ k.size ≤ 100
def okM (m : S64) : Prop := keyB m.f0 ∧ C6.checkI m.f1.f0 m.f1.f1 m.f1.f2 = 0 ∧ 1 ≤ m.f2 ∧ m.f2 ≤ 3
def hasA (A : List S51) (n : ByteArray) : Prop := ∃ j : Nat, j < A.length ∧ (rd_T51 A (j : Int)).f0 = n
def GoodM (A : List S51) (M : List S64) (i : Nat) : Prop := okM (rd_T64 M (i : Int)) ∧ (0 < i → lt (rd_T64 M ((i : Int) - 1)).f0 (rd_T64 M (i : Int)).f0) ∧ hasA A (rd_T64 M (i : Int)).f1.f1
theorem key_is (k : ByteArray) : (keyB k ∧ ledger_key.f k = some true) ∨ (¬ keyB k ∧ ledger_key.f k = some false) := by
  unfold ledger_key.f keyB
  by_cases c : k.toList = ([] : List UInt8)
  · rw [if_pos c]
    rw [C6.empty_iff] at c
    exact Or.inr ⟨by omega, rfl⟩
  · rw [if_neg c]
    rw [C6.empty_iff] at c
    by_cases c2 : (k.size : Int) ≤ 100
    · exact Or.inl ⟨by omega, by rw [decide_eq_true c2]⟩
    · exact Or.inr ⟨by omega, by rw [decide_eq_false c2]⟩
theorem mayI_two (x : S51) (h : ¬ okA x) : C6.mayI x.f0 x.f1.f0 x.f1.f1 x.f1.f2 x.f2.f0 x.f2.f1 x.f2.f2 = 2 := by
  unfold okA at h
  unfold C6.mayI at h ⊢
  split
  · rename_i c
    rw [if_pos c] at h
    exact absurd rfl h
  · rfl
/-- The program's loop over accounts. -/
theorem loopA (A : List S51) (M : List S64) (hA : A.length ≤ 1000) (hR : ∀ i : Nat, i < A.length → RngA (rd_T51 A (i : Int))) (E : Int) (hE : (∀ i, i < A.length → GoodA A i) → Ev (fun k => ledger_May.l1 k M (M.length : Int) 0 A M) E) (d : Nat) : ∀ i : Nat, i + d = A.length → (∀ j, j < i → GoodA A j) →
    ((∀ j, j < A.length → GoodA A j) → Ev (fun k => ledger_May.l0 k A (A.length : Int) (i : Int) A M) E) ∧ ((∃ j, j < A.length ∧ ¬ GoodA A j) → Ev (fun k => ledger_May.l0 k A (A.length : Int) (i : Int) A M) 2) := by
  induction d with
  | zero =>
    intro i hi hp
    refine ⟨fun h => Ev.step (fun k => by rw [ledger_May.l0]) (ev_neg (by omega) (hE h)), ?_⟩
    rintro ⟨j, hj, hn⟩
    exact absurd (hp j (by omega)) hn
  | succ d ih =>
    intro i hi hp
    have hr := hR i (by omega)
    have he := C6.may_ev (rd_T51 A (i : Int)).f0 (rd_T51 A (i : Int)).f1.f0 (rd_T51 A (i : Int)).f1.f1 (rd_T51 A (i : Int)).f1.f2 (rd_T51 A (i : Int)).f2.f0 (rd_T51 A (i : Int)).f2.f1 (rd_T51 A (i : Int)).f2.f2 hr.2.2.1 hr.2.2.2.2.2
    by_cases c : GoodA A i
    · have h1 := ih (i + 1) (by omega) (fun j hj => by
        rcases Nat.lt_or_ge j i with q | q
        · exact hp j q
        · have : j = i := by omega
          rw [this]
          exact c)
      have hstep : ∀ r, Ev (fun k => ledger_May.l0 k A (A.length : Int) ((i + 1 : Nat) : Int) A M) r → Ev (fun k => ledger_May.l0 k A (A.length : Int) (i : Int) A M) r := by
        intro r hr2
        refine Ev.step (fun k => by rw [ledger_May.l0]) (ev_pos (by omega) ?_)
        refine ev_pos (by omega) ?_
        refine ev_pos (by omega) ?_
        refine Ev.bind he ?_
        refine ev_pos c.1 ?_
        have hw : wrap64 ((i : Int) + 1) = ((i + 1 : Nat) : Int) := by rw [wr _ (by omega)]; omega
        rw [hw]
        by_cases c0 : 0 < i
        · refine ev_pos (by omega) ?_
          rw [wr ((i : Int) - 1) (by omega)]
          refine ev_pos (by omega) ?_
          refine ev_pos (by omega) ?_
          exact ev_pos ((lt_bytes _ _).2 (c.2 c0)) hr2
        · exact ev_neg (by omega) hr2
      exact ⟨fun h => hstep _ (h1.1 h), fun h => hstep _ (h1.2 h)⟩
    · refine ⟨fun h => absurd (h i (by omega)) c, fun _ => ?_⟩
      refine Ev.step (fun k => by rw [ledger_May.l0]) (ev_pos (by omega) ?_)
      refine ev_pos (by omega) ?_
      refine ev_pos (by omega) ?_
      refine Ev.bind he ?_
      by_cases c1 : okA (rd_T51 A (i : Int))
      · refine ev_pos c1 ?_
        have c0 : 0 < i := by
          rcases Nat.eq_zero_or_pos i with q | q
          · exact absurd ⟨c1, fun h => absurd h (by omega)⟩ c
          · exact q
        refine ev_pos (by omega) ?_
        rw [wr ((i : Int) - 1) (by omega)]
        refine ev_pos (by omega) ?_
        refine ev_pos (by omega) ?_
        exact ev_neg (fun h => c ⟨c1, fun _ => (lt_bytes _ _).1 h⟩) (Ev.now _)
      · rw [mayI_two _ c1]
        exact ev_neg (by decide) (Ev.now _)
theorem sortedA_of (A : List S51) (h : ∀ j, j < A.length → GoodA A j) : SortedA A := by
  intro i j hij hj
  induction j with
  | zero => omega
  | succ j ih =>
    have h1 := (h (j + 1) hj).2 (by omega)
    rw [show (((j + 1 : Nat) : Int) - 1) = (j : Int) by omega] at h1
    rcases Nat.lt_or_ge i j with q | q
    · exact lt_trans (ih q (by omega)) h1
    · have : i = j := by omega
      rw [this]
      exact h1
theorem cut_has (A : List S51) (hs : SortedA A) (n : ByteArray) (j : Nat) (hc : CutA A n j) : (j < A.length ∧ (rd_T51 A (j : Int)).f0 = n) ↔ hasA A n := by
  constructor
  · exact fun h => ⟨j, h⟩
  · rintro ⟨i, hi, he⟩
    rcases Nat.lt_trichotomy i j with q | rfl | q
    · exact absurd (hc.2.1 i q) (by rw [he]; exact lt_irr n)
    · exact ⟨hi, he⟩
    · exact absurd (by rw [← he]; exact hs j i q hi) (hc.2.2 j (Nat.le_refl _) (by omega))
/-- The program's loop over marks. -/
theorem j3_true (A : List S51) (M : List S64) (i : Int) (a : ByteArray) (b : Int) (c : ByteArray) (d e : Int) : Ev (fun k => ledger_May.j3 k M (M.length : Int) i true A M a b c d e) 2 :=
  Ev.step (fun k => by rw [ledger_May.j3]) (ev_pos rfl (Ev.now _))
theorem loopM (A : List S51) (M : List S64) (hA : A.length ≤ 1000) (hM : M.length ≤ 1000) (hs : SortedA A) (E : Int) (hE : (∀ j, j < M.length → GoodM A M j) → Ev (fun k => ledger_May.e2 k A M) E) (d : Nat) : ∀ i : Nat, i + d = M.length → (∀ j, j < i → GoodM A M j) →
    ((∀ j, j < M.length → GoodM A M j) → Ev (fun k => ledger_May.l1 k M (M.length : Int) (i : Int) A M) E) ∧ ((∃ j, j < M.length ∧ ¬ GoodM A M j) → Ev (fun k => ledger_May.l1 k M (M.length : Int) (i : Int) A M) 2) := by
  induction d with
  | zero =>
    intro i hi hp
    refine ⟨fun h => Ev.step (fun k => by rw [ledger_May.l1]) (ev_neg (by omega) (hE h)), ?_⟩
    rintro ⟨j, hj, hn⟩
    exact absurd (hp j (by omega)) hn
  | succ d ih =>
    intro i hi hp
    have hck := C6.check_ev (rd_T64 M (i : Int)).f1.f0 (rd_T64 M (i : Int)).f1.f1 (rd_T64 M (i : Int)).f1.f2
    obtain ⟨j, f, hcut, hf, hfind⟩ := find_A A M (rd_T64 M (i : Int)).f1.f1 (by omega) hs
    have hfh : f = true ↔ hasA A (rd_T64 M (i : Int)).f1.f1 := hf.trans (cut_has A hs _ j hcut)
    have hw : wrap64 ((i : Int) + 1) = ((i + 1 : Nat) : Int) := by rw [wr _ (by omega)]; omega
    -- behind the order's test
    have htail : ∀ r, (okM (rd_T64 M (i : Int)) → hasA A (rd_T64 M (i : Int)).f1.f1 → Ev (fun k => ledger_May.l1 k M (M.length : Int) ((i + 1 : Nat) : Int) A M) r) → (¬ (okM (rd_T64 M (i : Int)) ∧ hasA A (rd_T64 M (i : Int)).f1.f1) → r = 2) → keyB (rd_T64 M (i : Int)).f0 →
        Ev (fun k => (act_Check.f k (rd_T64 M (i : Int)).f1.f0 (rd_T64 M (i : Int)).f1.f1 (rd_T64 M (i : Int)).f1.f2).bind fun t136 => (if t136 = 0 then (if ((rd_T64 M (i : Int)).f2) < 1 then (ledger_May.j3 k M (M.length : Int) (i : Int) true A M ((rd_T64 M (i : Int)).f0) ((rd_T64 M (i : Int)).f1.f0) ((rd_T64 M (i : Int)).f1.f1) ((rd_T64 M (i : Int)).f1.f2) ((rd_T64 M (i : Int)).f2)) else (ledger_May.j3 k M (M.length : Int) (i : Int) (decide (((rd_T64 M (i : Int)).f2) > 3)) A M ((rd_T64 M (i : Int)).f0) ((rd_T64 M (i : Int)).f1.f0) ((rd_T64 M (i : Int)).f1.f1) ((rd_T64 M (i : Int)).f1.f2) ((rd_T64 M (i : Int)).f2))) else (ledger_May.j3 k M (M.length : Int) (i : Int) true A M ((rd_T64 M (i : Int)).f0) ((rd_T64 M (i : Int)).f1.f0) ((rd_T64 M (i : Int)).f1.f1) ((rd_T64 M (i : Int)).f1.f2) ((rd_T64 M (i : Int)).f2)))) r := by
      intro r h1 h2 hk
      refine Ev.bind hck ?_
      by_cases c1 : C6.checkI (rd_T64 M (i : Int)).f1.f0 (rd_T64 M (i : Int)).f1.f1 (rd_T64 M (i : Int)).f1.f2 = 0
      · refine ev_pos c1 ?_
        by_cases c2 : (rd_T64 M (i : Int)).f2 < 1
        · rw [h2 (fun h => by have := h.1.2.2.1; omega)]
          exact ev_pos c2 (j3_true A M _ _ _ _ _ _)
        · refine ev_neg c2 ?_
          by_cases c3 : (rd_T64 M (i : Int)).f2 > 3
          · rw [h2 (fun h => by have := h.1.2.2.2; omega), decide_eq_true c3]
            exact j3_true A M _ _ _ _ _ _
          · rw [decide_eq_false c3]
            refine Ev.step (fun k => by rw [ledger_May.j3]) (ev_neg (by decide) ?_)
            refine Ev.bind hfind ?_
            rw [hw]
            by_cases c4 : f = true
            · exact ev_pos c4 (h1 ⟨hk, c1, by omega, by omega⟩ (hfh.1 c4))
            · rw [h2 (fun h => c4 (hfh.2 h.2))]
              exact ev_neg c4 (Ev.now _)
      · rw [h2 (fun h => c1 h.1.2.1)]
        exact ev_neg c1 (j3_true A M _ _ _ _ _ _)
    rcases key_is (rd_T64 M (i : Int)).f0 with ⟨hk, ek⟩ | ⟨hk, ek⟩
    · by_cases c : GoodM A M i
      · have h1 := ih (i + 1) (by omega) (fun j hj => by
          rcases Nat.lt_or_ge j i with q | q
          · exact hp j q
          · have : j = i := by omega
            rw [this]
            exact c)
        have hstep : ∀ r, Ev (fun k => ledger_May.l1 k M (M.length : Int) ((i + 1 : Nat) : Int) A M) r → Ev (fun k => ledger_May.l1 k M (M.length : Int) (i : Int) A M) r := by
          intro r hr2
          refine Ev.step (fun k => by rw [ledger_May.l1]) (ev_pos (by omega) ?_)
          refine ev_pos (by omega) ?_
          refine ev_pos (by omega) ?_
          rw [ek]
          simp only [Option.bind_some]
          refine ev_pos trivial ?_
          by_cases c0 : 0 < i
          · refine ev_pos (by omega) ?_
            rw [wr ((i : Int) - 1) (by omega)]
            refine ev_pos (by omega) ?_
            refine ev_pos (by omega) ?_
            exact ev_pos ((lt_bytes _ _).2 (c.2.1 c0)) (htail r (fun _ _ => hr2) (fun h => absurd ⟨c.1, c.2.2⟩ h) hk)
          · exact ev_neg (by omega) (htail r (fun _ _ => hr2) (fun h => absurd ⟨c.1, c.2.2⟩ h) hk)
        exact ⟨fun h => hstep _ (h1.1 h), fun h => hstep _ (h1.2 h)⟩
      · refine ⟨fun h => absurd (h i (by omega)) c, fun _ => ?_⟩
        refine Ev.step (fun k => by rw [ledger_May.l1]) (ev_pos (by omega) ?_)
        refine ev_pos (by omega) ?_
        refine ev_pos (by omega) ?_
        rw [ek]
        simp only [Option.bind_some]
        refine ev_pos trivial ?_
        by_cases c0 : 0 < i
        · refine ev_pos (by omega) ?_
          rw [wr ((i : Int) - 1) (by omega)]
          refine ev_pos (by omega) ?_
          refine ev_pos (by omega) ?_
          by_cases c5 : lt (rd_T64 M ((i : Int) - 1)).f0 (rd_T64 M (i : Int)).f0
          · exact ev_pos ((lt_bytes _ _).2 c5) (htail 2 (fun h1 h2 => absurd ⟨h1, fun _ => c5, h2⟩ c) (fun _ => rfl) hk)
          · exact ev_neg (fun h => c5 ((lt_bytes _ _).1 h)) (j3_true A M _ _ _ _ _ _)
        · exact ev_neg (by omega) (htail 2 (fun h1 h2 => absurd ⟨h1, fun h => absurd h c0, h2⟩ c) (fun _ => rfl) hk)
    · have hn : ¬ GoodM A M i := fun h => hk h.1.1
      refine ⟨fun h => absurd (h i (by omega)) hn, fun _ => ?_⟩
      refine Ev.step (fun k => by rw [ledger_May.l1]) (ev_pos (by omega) ?_)
      refine ev_pos (by omega) ?_
      refine ev_pos (by omega) ?_
      rw [ek]
      simp only [Option.bind_some]
      exact ev_neg (by decide) (j3_true A M _ _ _ _ _ _)
/-! what is pending -/
def addQ (q : My.Q4) (t : Int × Int) : My.Q4 := (wrap64 (q.1 + mx t.1 0), wrap64 (q.2.1 + mx (wrap64 (-t.1)) 0), wrap64 (q.2.2.1 + mx t.2 0), wrap64 (q.2.2.2 + mx (wrap64 (-t.2)) 0))
/-- What marks leave pending on an account. -/
def pendQ (n : ByteArray) : List S64 → My.Q4 → My.Q4
  | [], q => q
  | m :: r, q => pendQ n r (if m.f2 = 1 ∧ m.f1.f1 = n then addQ q (C6.DL m.f1.f0 m.f1.f1 m.f1.f2) else q)
theorem pend_ev : ∀ (M : List S64) (f : ByteArray → My.Q4), ∃ g : ByteArray → My.Q4, (∀ n, g n = pendQ n M (f n)) ∧ Ev (fun k => ledger_pending.fn k M f) g
  | [], f => ⟨f, fun _ => rfl, Ev.now _⟩
  | m :: r, f => by
    by_cases c : m.f2 = 1
    · obtain ⟨g, hg, he⟩ := pend_ev r (fun z => if z = m.f1.f1 then addQ (f m.f1.f1) (C6.DL m.f1.f0 m.f1.f1 m.f1.f2) else f z)
      refine ⟨g, fun n => ?_, ?_⟩
      · rw [hg n, pendQ]
        congr 1
        by_cases cn : n = m.f1.f1
        · rw [if_pos cn, if_pos ⟨c, cn.symm⟩, cn]
        · rw [if_neg cn, if_neg (fun h => cn h.2.symm)]
      · refine Ev.congr (fun k => by rw [ledger_pending.fn]) (ev_pos c ?_)
        exact Ev.bind (C6.delta_ev _ _ _) he
    · obtain ⟨g, hg, he⟩ := pend_ev r f
      refine ⟨g, fun n => ?_, ?_⟩
      · rw [hg n, pendQ, if_neg (fun h => c h.1)]
      · exact Ev.congr (fun k => by rw [ledger_pending.fn]) (ev_neg c he)
def potsOk (M : List S64) (x : S51) : Prop := pendQ x.f0 M (0, 0, 0, 0) = (x.f1.f1, x.f1.f2, x.f2.f1, x.f2.f2)
theorem l2_is (g : ByteArray → My.Q4) : ∀ (A : List S51), (∀ x ∈ A, x.f0.size ≤ maxLen) → ((∀ x ∈ A, g x.f0 = (x.f1.f1, x.f1.f2, x.f2.f1, x.f2.f2)) → ledger_May.l2 g A = some 0) ∧ ((∃ x ∈ A, ¬ g x.f0 = (x.f1.f1, x.f1.f2, x.f2.f1, x.f2.f2)) → ledger_May.l2 g A = some 2)
  | [], _ => ⟨fun _ => rfl, fun ⟨x, hx, _⟩ => by cases hx⟩
  | x :: r, hs => by
    have ih := l2_is g r (fun y hy => hs y (List.mem_cons_of_mem _ hy))
    rw [ledger_May.l2, if_pos (hs x List.mem_cons_self)]
    by_cases c : g x.f0 = (x.f1.f1, x.f1.f2, x.f2.f1, x.f2.f2)
    · rw [if_pos c]
      refine ⟨fun h => ih.1 (fun y hy => h y (List.mem_cons_of_mem _ hy)), ?_⟩
      rintro ⟨y, hy, hn⟩
      rcases List.mem_cons.1 hy with rfl | hy
      · exact absurd c hn
      · exact ih.2 ⟨y, hy, hn⟩
    · rw [if_neg c]
      exact ⟨fun h => absurd (h x List.mem_cons_self) c, fun _ => rfl⟩
open Classical in
theorem e2_ev (A : List S51) (M : List S64) (hA : A.length ≤ 1000000) (hM : M.length ≤ 1000000) (h1 : ∀ m ∈ M, m.f1.f1.size ≤ maxLen) (h2 : ∀ x ∈ A, x.f0.size ≤ maxLen) : Ev (fun k => ledger_May.e2 k A M) (if ∀ x ∈ A, potsOk M x then 0 else 2) := by
  obtain ⟨g, hg, he⟩ := pend_ev M (fun _ => (0, 0, 0, 0))
  unfold ledger_May.e2
  refine ev_pos ⟨hM, hA, h1⟩ ?_
  refine Ev.bind he ?_
  by_cases c : ∀ x ∈ A, potsOk M x
  · rw [if_pos c, (l2_is g A h2).1 (fun x hx => by rw [hg]; exact c x hx)]
    exact Ev.now _
  · rw [if_neg c, (l2_is g A h2).2 (by
      have ⟨x, hx⟩ := Classical.not_forall.1 c
      have ⟨hx1, hx2⟩ := Classical.not_imp.1 hx
      exact ⟨x, hx1, by rw [hg]; exact hx2⟩)]
    exact Ev.now _
theorem name_size (s : ByteArray) (h : C6.nameB s = true) : s.size ≤ maxLen := by
  unfold C6.nameB at h
  rw [Bool.and_eq_true, decide_eq_true_eq] at h
  unfold maxLen
  omega
theorem rdA_mem (A : List S51) (x : S51) (h : x ∈ A) : ∃ i : Nat, i < A.length ∧ rd_T51 A (i : Int) = x := by
  obtain ⟨i, hi, he⟩ := List.getElem_of_mem h
  exact ⟨i, hi, by rw [← ledger_May.rd A i hi]; exact he⟩
theorem rdM_get (M : List S64) (i : Nat) (h : i < M.length) : M[i] = rd_T64 M (i : Int) := by
  show _ = M.getD ((i : Int)).toNat _
  rw [Int.toNat_natCast, List.getD_eq_getElem?_getD, List.getElem?_eq_getElem h]
  rfl
theorem rdM_mem (M : List S64) (x : S64) (h : x ∈ M) : ∃ i : Nat, i < M.length ∧ rd_T64 M (i : Int) = x := by
  obtain ⟨i, hi, he⟩ := List.getElem_of_mem h
  exact ⟨i, hi, by rw [← rdM_get M i hi]; exact he⟩
theorem okA_name (x : S51) (h : okA x) : C6.nameB x.f0 = true := by
  unfold okA C6.mayI at h
  split at h
  · rename_i c
    exact c.1
  · cases h
theorem ok_checkname (kind : Int) (nm : ByteArray) (a : Int) (h : C6.checkI kind nm a = 0) : C6.nameB nm = true := by
  unfold C6.checkI at h
  split at h
  · cases h
  split at h
  · cases h
  split at h
  · assumption
  · cases h
/-- What a ledger must be. -/
def okL (A : List S51) (M : List S64) : Prop := A.length ≤ 12 ∧ M.length ≤ 500 ∧ (∀ i, i < A.length → GoodA A i) ∧ (∀ i, i < M.length → GoodM A M i) ∧ ∀ x ∈ A, potsOk M x
open Classical in
theorem pmay_ev (A : List S51) (M : List S64) (hR : ∀ i : Nat, i < A.length → RngA (rd_T51 A (i : Int))) : Ev (fun k => ledger_May.f k A M) (if okL A M then 0 else 2) := by
  unfold ledger_May.f
  have j0t : Ev (fun k => ledger_May.j0 k true A M) 2 := Ev.step (fun k => by rw [ledger_May.j0]) (ev_pos rfl (Ev.now _))
  by_cases c1 : (A.length : Int) > 12
  · rw [if_neg (fun h : okL A M => by have := h.1; omega)]
    exact ev_pos c1 j0t
  refine ev_neg c1 ?_
  by_cases c2 : (M.length : Int) > 500
  · rw [if_neg (fun h : okL A M => by have := h.2.1; omega), decide_eq_true c2]
    exact j0t
  rw [decide_eq_false c2]
  refine Ev.step (fun k => by rw [ledger_May.j0]) (ev_neg (by decide) ?_)
  by_cases cA : ∀ i, i < A.length → GoodA A i
  · have hs := sortedA_of A cA
    by_cases cM : ∀ i, i < M.length → GoodM A M i
    · have he := e2_ev A M (by omega) (by omega) (fun m hm => by
        obtain ⟨i, hi, rfl⟩ := rdM_mem M m hm
        exact name_size _ (ok_checkname _ _ _ (cM i hi).1.2.1)) (fun x hx => by
        obtain ⟨i, hi, rfl⟩ := rdA_mem A x hx
        exact name_size _ (okA_name _ (cA i hi).1))
      have hl := (loopM A M (by omega) (by omega) hs _ (fun _ => he) M.length 0 (by omega) (fun j hj => by omega)).1 cM
      have hr := (loopA A M (by omega) hR _ (fun _ => hl) A.length 0 (by omega) (fun j hj => by omega)).1 cA
      by_cases cp : ∀ x ∈ A, potsOk M x
      · rw [if_pos cp] at hr
        rw [if_pos ⟨by omega, by omega, cA, cM, cp⟩]
        exact hr
      · rw [if_neg cp] at hr
        rw [if_neg (fun h : okL A M => cp h.2.2.2.2)]
        exact hr
    · rw [if_neg (fun h : okL A M => cM h.2.2.2.1)]
      have hb : ∃ j, j < M.length ∧ ¬ GoodM A M j := by
        have ⟨x, hx⟩ := Classical.not_forall.1 cM
        have ⟨hx1, hx2⟩ := Classical.not_imp.1 hx
        exact ⟨x, hx1, hx2⟩
      refine (loopA A M (by omega) hR 2 (fun _ => ?_) A.length 0 (by omega) (fun j hj => by omega)).1 cA
      exact (loopM A M (by omega) (by omega) hs 2 (fun h => absurd h cM) M.length 0 (by omega) (fun j hj => by omega)).2 hb
  · rw [if_neg (fun h : okL A M => cA h.2.2.1)]
    have hb : ∃ j, j < A.length ∧ ¬ GoodA A j := by
      have ⟨x, hx⟩ := Classical.not_forall.1 cA
      have ⟨hx1, hx2⟩ := Classical.not_imp.1 hx
      exact ⟨x, hx1, hx2⟩
    exact (loopA A M (by omega) hR 2 (fun h => absurd h cA) A.length 0 (by omega) (fun j hj => by omega)).2 hb
/-! the reference's ledger -/
theorem rkey_is (k : ByteArray) : (keyB k ∧ ententeref07_key.f k = some true) ∨ (¬ keyB k ∧ ententeref07_key.f k = some false) := by
  unfold ententeref07_key.f keyB
  by_cases c : (k.size : Int) ≥ 1
  · rw [if_pos c]
    by_cases c2 : (k.size : Int) ≤ 100
    · exact Or.inl ⟨by omega, by rw [decide_eq_true c2]⟩
    · exact Or.inr ⟨by omega, by rw [decide_eq_false c2]⟩
  · rw [if_neg c]
    exact Or.inr ⟨by omega, rfl⟩
/-- The reference's search for an account, for a mark: the first one of that name, or none. -/
theorem racc_loop (A : List S51) (M : List S64) (n : ByteArray) (hA : A.length ≤ 1000) (d : Nat) : ∀ i : Nat, i + d = A.length → (∀ j : Nat, j < i → ¬ (rd_T51 A (j : Int)).f0 = n) →
    ∃ t : Int, Ev (fun k => ententeref07_Account.l0 k n (i : Int) A M) t ∧ ((t = -1 ∧ ¬ hasA A n) ∨ ∃ j : Nat, t = (j : Int) ∧ j < A.length ∧ (rd_T51 A (j : Int)).f0 = n ∧ ∀ q : Nat, q < j → ¬ (rd_T51 A (q : Int)).f0 = n) := by
  induction d with
  | zero =>
    intro i hi hp
    exact ⟨-1, Ev.step (fun k => by rw [ententeref07_Account.l0]) (ev_neg (by omega) (Ev.now _)), Or.inl ⟨rfl, fun ⟨j, hj, he⟩ => hp j (by omega) he⟩⟩
  | succ d ih =>
    intro i hi hp
    by_cases c : (rd_T51 A (i : Int)).f0 = n
    · refine ⟨(i : Int), Ev.step (fun k => by rw [ententeref07_Account.l0]) (ev_pos (by omega) ?_), Or.inr ⟨i, rfl, by omega, c, hp⟩⟩
      refine ev_pos (by omega) ?_
      exact ev_pos ((tl_inj _ _).2 c) (Ev.now _)
    · obtain ⟨t, ht, hr⟩ := ih (i + 1) (by omega) (fun j hj => by
        rcases Nat.lt_or_ge j i with q | q
        · exact hp j q
        · have : j = i := by omega
          rw [this]
          exact c)
      refine ⟨t, Ev.step (fun k => by rw [ententeref07_Account.l0]) (ev_pos (by omega) ?_), hr⟩
      refine ev_pos (by omega) ?_
      refine ev_neg (fun h => c ((tl_inj _ _).1 h)) ?_
      rw [wr _ (by omega), show (i : Int) + 1 = ((i + 1 : Nat) : Int) by omega]
      exact ht
theorem racc_ev (A : List S51) (M : List S64) (n : ByteArray) (hA : A.length ≤ 1000) : ∃ t : Int, Ev (fun k => ententeref07_Account.f k A M n) t ∧ ((t = -1 ∧ ¬ hasA A n) ∨ ∃ j : Nat, t = (j : Int) ∧ j < A.length ∧ (rd_T51 A (j : Int)).f0 = n ∧ ∀ q : Nat, q < j → ¬ (rd_T51 A (q : Int)).f0 = n) := by
  obtain ⟨t, h, hr⟩ := racc_loop A M n hA A.length 0 (by omega) (fun j hj => by omega)
  exact ⟨t, h, hr⟩
theorem racc_neg (A : List S51) (t : Int) (n : ByteArray) (h : (t = -1 ∧ ¬ hasA A n) ∨ ∃ j : Nat, t = (j : Int) ∧ j < A.length ∧ (rd_T51 A (j : Int)).f0 = n ∧ ∀ q : Nat, q < j → ¬ (rd_T51 A (q : Int)).f0 = n) : t < 0 ↔ ¬ hasA A n := by
  rcases h with ⟨rfl, h⟩ | ⟨j, rfl, h1, h2, _⟩
  · exact ⟨fun _ => h, fun _ => by decide⟩
  · exact ⟨fun h => by omega, fun h => absurd ⟨j, h1, h2⟩ h⟩
def hasM (M : List S64) (n : ByteArray) : Prop := ∃ j : Nat, j < M.length ∧ (rd_T64 M (j : Int)).f0 = n
theorem rmark_loop (A : List S51) (M : List S64) (n : ByteArray) (hM : M.length ≤ 1000) (d : Nat) : ∀ i : Nat, i + d = M.length → (∀ j : Nat, j < i → ¬ (rd_T64 M (j : Int)).f0 = n) →
    ∃ t : Int, Ev (fun k => ententeref07_Mark.l0 k n (i : Int) A M) t ∧ ((t = -1 ∧ ¬ hasM M n) ∨ ∃ j : Nat, t = (j : Int) ∧ j < M.length ∧ (rd_T64 M (j : Int)).f0 = n ∧ ∀ q : Nat, q < j → ¬ (rd_T64 M (q : Int)).f0 = n) := by
  induction d with
  | zero =>
    intro i hi hp
    exact ⟨-1, Ev.step (fun k => by rw [ententeref07_Mark.l0]) (ev_neg (by omega) (Ev.now _)), Or.inl ⟨rfl, fun ⟨j, hj, he⟩ => hp j (by omega) he⟩⟩
  | succ d ih =>
    intro i hi hp
    by_cases c : (rd_T64 M (i : Int)).f0 = n
    · refine ⟨(i : Int), Ev.step (fun k => by rw [ententeref07_Mark.l0]) (ev_pos (by omega) ?_), Or.inr ⟨i, rfl, by omega, c, hp⟩⟩
      refine ev_pos (by omega) ?_
      exact ev_pos ((tl_inj _ _).2 c) (Ev.now _)
    · obtain ⟨t, ht, hr⟩ := ih (i + 1) (by omega) (fun j hj => by
        rcases Nat.lt_or_ge j i with q | q
        · exact hp j q
        · have : j = i := by omega
          rw [this]
          exact c)
      refine ⟨t, Ev.step (fun k => by rw [ententeref07_Mark.l0]) (ev_pos (by omega) ?_), hr⟩
      refine ev_pos (by omega) ?_
      refine ev_neg (fun h => c ((tl_inj _ _).1 h)) ?_
      rw [wr _ (by omega), show (i : Int) + 1 = ((i + 1 : Nat) : Int) by omega]
      exact ht
theorem rmark_ev (A : List S51) (M : List S64) (n : ByteArray) (hM : M.length ≤ 1000) : ∃ t : Int, Ev (fun k => ententeref07_Mark.f k A M n) t ∧ ((t = -1 ∧ ¬ hasM M n) ∨ ∃ j : Nat, t = (j : Int) ∧ j < M.length ∧ (rd_T64 M (j : Int)).f0 = n ∧ ∀ q : Nat, q < j → ¬ (rd_T64 M (q : Int)).f0 = n) := by
  obtain ⟨t, h, hr⟩ := rmark_loop A M n hM M.length 0 (by omega) (fun j hj => by omega)
  exact ⟨t, h, hr⟩
/-! the reference's pots -/
instance (M : List S64) (x : S51) : Decidable (potsOk M x) := inferInstanceAs (Decidable (_ = _))
theorem wrap_rng (n : Int) : rng (wrap64 n) := by
  unfold rng wrap64
  omega
theorem wrap_id (n : Int) (h : rng n) : wrap64 n = n := wr n h
instance (n : Int) : Decidable (rng n) := inferInstanceAs (Decidable (_ ∧ _))
def RngQ (q : My.Q4) : Prop := rng q.1 ∧ rng q.2.1 ∧ rng q.2.2.1 ∧ rng q.2.2.2
theorem addQ_rng (q : My.Q4) (t : Int × Int) : RngQ (addQ q t) := ⟨wrap_rng _, wrap_rng _, wrap_rng _, wrap_rng _⟩
theorem mx_pos (a : Int) (h : 1 ≤ a) : mx a 0 = a := by unfold mx; rw [if_neg (by omega)]
theorem mx_neg (a : Int) (h : 1 ≤ a) : mx (-a) 0 = 0 := by unfold mx; rw [if_pos (by omega)]
theorem mx_z : mx 0 0 = 0 := by unfold mx; rw [if_neg (by omega)]
theorem addQ_kinds (q : My.Q4) (hq : RngQ q) (kind : Int) (nm : ByteArray) (a : Int) (hc : C6.checkI kind nm a = 0) :
    (kind = 1 ∧ addQ q (C6.DL kind nm a) = (q.1, wrap64 (q.2.1 + a), q.2.2.1, q.2.2.2)) ∨ (kind = 2 ∧ addQ q (C6.DL kind nm a) = (wrap64 (q.1 + a), q.2.1, q.2.2.1, q.2.2.2)) ∨
    (kind = 3 ∧ addQ q (C6.DL kind nm a) = (q.1, wrap64 (q.2.1 + a), wrap64 (q.2.2.1 + a), q.2.2.2)) ∨ (kind = 4 ∧ addQ q (C6.DL kind nm a) = (wrap64 (q.1 + a), q.2.1, q.2.2.1, wrap64 (q.2.2.2 + a))) := by
  obtain ⟨h1, h2, h3, h4⟩ := C6.check_zero kind nm a hc
  obtain ⟨r1, r2, r3, r4⟩ := hq
  have w0 : wrap64 (-0) = 0 := by rw [Int.neg_zero]; exact wr 0 (by omega)
  have wm : wrap64 (-a) = -a := wr _ (by omega)
  have wp : wrap64 (- -a) = a := by rw [Int.neg_neg]; exact wr _ (by omega)
  have z1 : wrap64 (q.1 + 0) = q.1 := by rw [Int.add_zero]; exact wrap_id _ r1
  have z2 : wrap64 (q.2.1 + 0) = q.2.1 := by rw [Int.add_zero]; exact wrap_id _ r2
  have z3 : wrap64 (q.2.2.1 + 0) = q.2.2.1 := by rw [Int.add_zero]; exact wrap_id _ r3
  have z4 : wrap64 (q.2.2.2 + 0) = q.2.2.2 := by rw [Int.add_zero]; exact wrap_id _ r4
  rcases (show kind = 1 ∨ kind = 2 ∨ kind = 3 ∨ kind = 4 by omega) with rfl | rfl | rfl | rfl
  · refine Or.inl ⟨rfl, ?_⟩
    have e : C6.DL 1 nm a = (-a, 0) := by unfold C6.DL; rw [if_pos hc]; simp [C6.ways]
    rw [e]
    unfold addQ
    simp only [wp, w0, mx_pos a h3, mx_neg a h3, mx_z, z1, z3, z4]
  · refine Or.inr (Or.inl ⟨rfl, ?_⟩)
    have e : C6.DL 2 nm a = (a, 0) := by unfold C6.DL; rw [if_pos hc]; simp [C6.ways]
    rw [e]
    unfold addQ
    simp only [wm, w0, mx_pos a h3, mx_neg a h3, mx_z, z2, z3, z4]
  · refine Or.inr (Or.inr (Or.inl ⟨rfl, ?_⟩))
    have e : C6.DL 3 nm a = (-a, a) := by unfold C6.DL; rw [if_pos hc]; simp [C6.ways]
    rw [e]
    unfold addQ
    simp only [wp, wm, mx_pos a h3, mx_neg a h3, mx_z, z1, z4]
  · refine Or.inr (Or.inr (Or.inr ⟨rfl, ?_⟩))
    have e : C6.DL 4 nm a = (a, -a) := by unfold C6.DL; rw [if_pos hc]; simp [C6.ways]
    rw [e]
    unfold addQ
    simp only [wp, wm, mx_pos a h3, mx_neg a h3, mx_z, z2, z3]
theorem drop_rdM (M : List S64) (i : Nat) (h : i < M.length) : M.drop i = rd_T64 M (i : Int) :: M.drop (i + 1) := by
  rw [List.drop_eq_getElem_cons h, rdM_get M i h]
theorem rpots_loop (A : List S51) (M : List S64) (x : S51) (hM : M.length ≤ 1000) (hc : ∀ i : Nat, i < M.length → C6.checkI (rd_T64 M (i : Int)).f1.f0 (rd_T64 M (i : Int)).f1.f1 (rd_T64 M (i : Int)).f1.f2 = 0) (d : Nat) : ∀ (i : Nat) (q : My.Q4), i + d = M.length → RngQ q →
    Ev (fun k => ententeref07_pots.l0 k q.1 q.2.1 q.2.2.1 q.2.2.2 (i : Int) A M x.f0 x.f1.f0 x.f1.f1 x.f1.f2 x.f2.f0 x.f2.f1 x.f2.f2) (decide (pendQ x.f0 (M.drop i) q = (x.f1.f1, x.f1.f2, x.f2.f1, x.f2.f2))) := by
  induction d with
  | zero =>
    intro i q hi hq
    rw [List.drop_eq_nil_of_le (by omega), pendQ]
    refine Ev.step (fun k => by rw [ententeref07_pots.l0]) (ev_neg (by omega) ?_)
    obtain ⟨q1, q2, q3, q4⟩ := q
    dsimp only
    refine ev_ite (fun c1 => ?_) (fun c1 => ?_)
    · refine ev_ite (fun c2 => ?_) (fun c2 => ?_)
      · refine ev_ite (fun c3 => ?_) (fun c3 => ?_)
        · refine ev_eq (Ev.now _) ?_
          rw [Bool.eq_iff_iff, beq_iff_eq, decide_eq_true_eq]
          simp only [Prod.mk.injEq]
          exact ⟨fun h => ⟨c1.symm, c2.symm, c3.symm, h.symm⟩, fun h => h.2.2.2.symm⟩
        · exact ev_eq (Ev.now _) (by rw [decide_eq_false]; simp only [Prod.mk.injEq]; exact fun h => c3 h.2.2.1.symm)
      · exact ev_eq (Ev.now _) (by rw [decide_eq_false]; simp only [Prod.mk.injEq]; exact fun h => c2 h.2.1.symm)
    · exact ev_eq (Ev.now _) (by rw [decide_eq_false]; simp only [Prod.mk.injEq]; exact fun h => c1 h.1.symm)
  | succ d ih =>
    intro i q hi hq
    have hw : wrap64 ((i : Int) + 1) = ((i + 1 : Nat) : Int) := by rw [wr _ (by omega)]; omega
    rw [drop_rdM M i (by omega), pendQ]
    refine Ev.step (fun k => by rw [ententeref07_pots.l0]) (ev_pos (by omega) ?_)
    refine ev_pos (by omega) ?_
    by_cases c1 : (rd_T64 M (i : Int)).f1.f1 = x.f0
    · refine ev_pos ((tl_inj _ _).2 c1) ?_
      by_cases c2 : (rd_T64 M (i : Int)).f2 = 1
      · rw [if_pos ⟨c2, c1⟩, bne_eq_false_iff_eq.2 c2]
        refine Ev.step (fun k => by rw [ententeref07_pots.j1]) (ev_neg (by decide) ?_)
        rw [hw]
        have h1 := ih (i + 1) (addQ q (C6.DL (rd_T64 M (i : Int)).f1.f0 (rd_T64 M (i : Int)).f1.f1 (rd_T64 M (i : Int)).f1.f2)) (by omega) (addQ_rng _ _)
        rcases addQ_kinds q hq _ _ _ (hc i (by omega)) with ⟨hk, e⟩ | ⟨hk, e⟩ | ⟨hk, e⟩ | ⟨hk, e⟩
        · rw [e] at h1 ⊢
          exact ev_pos hk h1
        · rw [e] at h1 ⊢
          refine ev_neg (by omega) ?_
          exact ev_pos hk h1
        · rw [e] at h1 ⊢
          refine ev_neg (by omega) ?_
          refine ev_neg (by omega) ?_
          exact ev_pos hk h1
        · rw [e] at h1 ⊢
          refine ev_neg (by omega) ?_
          refine ev_neg (by omega) ?_
          refine ev_neg (by omega) ?_
          exact ev_pos hk h1
      · rw [if_neg (fun h => c2 h.1), bne_iff_ne.2 c2]
        refine Ev.step (fun k => by rw [ententeref07_pots.j1]) (ev_pos rfl ?_)
        rw [hw]
        exact ih (i + 1) q (by omega) hq
    · refine ev_neg (fun h => c1 ((tl_inj _ _).1 h)) ?_
      rw [if_neg (fun h => c1 h.2)]
      refine Ev.step (fun k => by rw [ententeref07_pots.j1]) (ev_pos rfl ?_)
      rw [hw]
      exact ih (i + 1) q (by omega) hq
theorem rpots_ev (A : List S51) (M : List S64) (x : S51) (hM : M.length ≤ 1000) (hc : ∀ i : Nat, i < M.length → C6.checkI (rd_T64 M (i : Int)).f1.f0 (rd_T64 M (i : Int)).f1.f1 (rd_T64 M (i : Int)).f1.f2 = 0) : Ev (fun k => ententeref07_pots.f k A M x.f0 x.f1.f0 x.f1.f1 x.f1.f2 x.f2.f0 x.f2.f1 x.f2.f2) (decide (potsOk M x)) := by
  have h := rpots_loop A M x hM hc M.length 0 (0, 0, 0, 0) (by omega) ⟨by decide, by decide, by decide, by decide⟩
  rw [List.drop_zero] at h
  exact h
/-- The reference's loop over accounts. -/
theorem rloopA (A : List S51) (M : List S64) (hA : A.length ≤ 1000) (hM : M.length ≤ 1000) (hR : ∀ i : Nat, i < A.length → RngA (rd_T51 A (i : Int))) (hc : ∀ i : Nat, i < M.length → C6.checkI (rd_T64 M (i : Int)).f1.f0 (rd_T64 M (i : Int)).f1.f1 (rd_T64 M (i : Int)).f1.f2 = 0) (d : Nat) : ∀ i : Nat, i + d = A.length → (∀ j : Nat, j < i → GoodA A j ∧ potsOk M (rd_T51 A (j : Int))) →
    ((∀ j : Nat, j < A.length → GoodA A j ∧ potsOk M (rd_T51 A (j : Int))) → Ev (fun k => ententeref07_May.l1 k (i : Int) A M) 0) ∧ ((∃ j : Nat, j < A.length ∧ ¬ (GoodA A j ∧ potsOk M (rd_T51 A (j : Int)))) → Ev (fun k => ententeref07_May.l1 k (i : Int) A M) 2) := by
  induction d with
  | zero =>
    intro i hi hp
    refine ⟨fun h => Ev.step (fun k => by rw [ententeref07_May.l1]) (ev_neg (by omega) (Ev.now _)), ?_⟩
    rintro ⟨j, hj, hn⟩
    exact absurd (hp j (by omega)) hn
  | succ d ih =>
    intro i hi hp
    have hr := hR i (by omega)
    have he := C6.rmay_ev (rd_T51 A (i : Int)).f0 (rd_T51 A (i : Int)).f1.f0 (rd_T51 A (i : Int)).f1.f1 (rd_T51 A (i : Int)).f1.f2 (rd_T51 A (i : Int)).f2.f0 (rd_T51 A (i : Int)).f2.f1 (rd_T51 A (i : Int)).f2.f2 hr.2.2.1 hr.2.2.2.2.2
    have hpt := rpots_ev A M (rd_T51 A (i : Int)) hM hc
    have hw : wrap64 ((i : Int) + 1) = ((i + 1 : Nat) : Int) := by rw [wr _ (by omega)]; omega
    have htail : ∀ r, (potsOk M (rd_T51 A (i : Int)) → Ev (fun k => ententeref07_May.l1 k ((i + 1 : Nat) : Int) A M) r) → (¬ potsOk M (rd_T51 A (i : Int)) → r = 2) →
        Ev (fun k => (ententeref07_pots.f k A M ((rd_T51 A (i : Int)).f0) ((rd_T51 A (i : Int)).f1.f0) ((rd_T51 A (i : Int)).f1.f1) ((rd_T51 A (i : Int)).f1.f2) ((rd_T51 A (i : Int)).f2.f0) ((rd_T51 A (i : Int)).f2.f1) ((rd_T51 A (i : Int)).f2.f2)).bind fun t461 => (if t461 = true then (ententeref07_May.l1 k (wrap64 ((i : Int) + 1)) A M) else (some 2))) r := by
      intro r h1 h2
      refine Ev.bind hpt ?_
      by_cases c : potsOk M (rd_T51 A (i : Int))
      · rw [decide_eq_true c, hw]
        exact ev_pos rfl (h1 c)
      · rw [decide_eq_false c, h2 c]
        exact ev_neg (by decide) (Ev.now _)
    by_cases c : GoodA A i ∧ potsOk M (rd_T51 A (i : Int))
    · have h1 := ih (i + 1) (by omega) (fun j hj => by
        rcases Nat.lt_or_ge j i with q | q
        · exact hp j q
        · have : j = i := by omega
          rw [this]
          exact c)
      have hstep : ∀ r, Ev (fun k => ententeref07_May.l1 k ((i + 1 : Nat) : Int) A M) r → Ev (fun k => ententeref07_May.l1 k (i : Int) A M) r := by
        intro r hr2
        refine Ev.step (fun k => by rw [ententeref07_May.l1]) (ev_pos (by omega) ?_)
        refine ev_pos (by omega) ?_
        refine Ev.bind he ?_
        refine ev_pos c.1.1 ?_
        by_cases c0 : 0 < i
        · refine ev_pos (by omega) ?_
          rw [wr ((i : Int) - 1) (by omega)]
          refine ev_pos (by omega) ?_
          refine ev_pos (by omega) ?_
          exact ev_pos ((lt_bytes _ _).2 (c.1.2 c0)) (htail r (fun _ => hr2) (fun h => absurd c.2 h))
        · exact ev_neg (by omega) (htail r (fun _ => hr2) (fun h => absurd c.2 h))
      exact ⟨fun h => hstep _ (h1.1 h), fun h => hstep _ (h1.2 h)⟩
    · refine ⟨fun h => absurd (h i (by omega)) c, fun _ => ?_⟩
      refine Ev.step (fun k => by rw [ententeref07_May.l1]) (ev_pos (by omega) ?_)
      refine ev_pos (by omega) ?_
      refine Ev.bind he ?_
      by_cases c1 : okA (rd_T51 A (i : Int))
      · refine ev_pos c1 ?_
        by_cases c0 : 0 < i
        · refine ev_pos (by omega) ?_
          rw [wr ((i : Int) - 1) (by omega)]
          refine ev_pos (by omega) ?_
          refine ev_pos (by omega) ?_
          by_cases c5 : lt (rd_T51 A ((i : Int) - 1)).f0 (rd_T51 A (i : Int)).f0
          · exact ev_pos ((lt_bytes _ _).2 c5) (htail 2 (fun h => absurd ⟨⟨c1, fun _ => c5⟩, h⟩ c) (fun _ => rfl))
          · exact ev_neg (fun h => c5 ((lt_bytes _ _).1 h)) (Ev.now _)
        · exact ev_neg (by omega) (htail 2 (fun h => absurd ⟨⟨c1, fun h0 => absurd h0 c0⟩, h⟩ c) (fun _ => rfl))
      · rw [mayI_two _ c1]
        exact ev_neg (by decide) (Ev.now _)
theorem j2_true (A : List S51) (M : List S64) (i : Int) (a : ByteArray) (b : Int) (c : ByteArray) (d e : Int) : Ev (fun k => ententeref07_May.j2 k i true A M a b c d e) 2 :=
  Ev.step (fun k => by rw [ententeref07_May.j2]) (ev_pos rfl (Ev.now _))
/-- The reference's loop over marks. -/
theorem rloopM (A : List S51) (M : List S64) (hA : A.length ≤ 1000) (hM : M.length ≤ 1000) (E : Int) (hE : (∀ j, j < M.length → GoodM A M j) → Ev (fun k => ententeref07_May.l1 k 0 A M) E) (d : Nat) : ∀ i : Nat, i + d = M.length → (∀ j, j < i → GoodM A M j) →
    ((∀ j, j < M.length → GoodM A M j) → Ev (fun k => ententeref07_May.l0 k (i : Int) A M) E) ∧ ((∃ j, j < M.length ∧ ¬ GoodM A M j) → Ev (fun k => ententeref07_May.l0 k (i : Int) A M) 2) := by
  induction d with
  | zero =>
    intro i hi hp
    refine ⟨fun h => Ev.step (fun k => by rw [ententeref07_May.l0]) (ev_neg (by omega) (hE h)), ?_⟩
    rintro ⟨j, hj, hn⟩
    exact absurd (hp j (by omega)) hn
  | succ d ih =>
    intro i hi hp
    have hck := C6.rcheck_ev (rd_T64 M (i : Int)).f1.f0 (rd_T64 M (i : Int)).f1.f1 (rd_T64 M (i : Int)).f1.f2
    obtain ⟨t, hacc, htr⟩ := racc_ev A M (rd_T64 M (i : Int)).f1.f1 (by omega)
    have htn := racc_neg A t _ htr
    have hw : wrap64 ((i : Int) + 1) = ((i + 1 : Nat) : Int) := by rw [wr _ (by omega)]; omega
    -- behind the tests: the order
    have hj2 : ∀ r, ((0 < i → lt (rd_T64 M ((i : Int) - 1)).f0 (rd_T64 M (i : Int)).f0) → Ev (fun k => ententeref07_May.l0 k ((i + 1 : Nat) : Int) A M) r) → (¬ (0 < i → lt (rd_T64 M ((i : Int) - 1)).f0 (rd_T64 M (i : Int)).f0) → r = 2) →
        Ev (fun k => ententeref07_May.j2 k (i : Int) false A M (rd_T64 M (i : Int)).f0 (rd_T64 M (i : Int)).f1.f0 (rd_T64 M (i : Int)).f1.f1 (rd_T64 M (i : Int)).f1.f2 (rd_T64 M (i : Int)).f2) r := by
      intro r h1 h2
      refine Ev.step (fun k => by rw [ententeref07_May.j2]) (ev_neg (by decide) ?_)
      rw [hw]
      by_cases c0 : 0 < i
      · refine ev_pos (by omega) ?_
        rw [wr ((i : Int) - 1) (by omega)]
        refine ev_pos (by omega) ?_
        refine ev_pos (by omega) ?_
        by_cases c5 : lt (rd_T64 M ((i : Int) - 1)).f0 (rd_T64 M (i : Int)).f0
        · exact ev_pos ((lt_bytes _ _).2 c5) (h1 (fun _ => c5))
        · rw [h2 (fun h => c5 (h c0))]
          exact ev_neg (fun h => c5 ((lt_bytes _ _).1 h)) (Ev.now _)
      · exact ev_neg (by omega) (h1 (fun h => absurd h c0))
    have hall : ∀ r, (GoodM A M i → Ev (fun k => ententeref07_May.l0 k ((i + 1 : Nat) : Int) A M) r) → (¬ GoodM A M i → r = 2) → Ev (fun k => ententeref07_May.l0 k (i : Int) A M) r := by
      intro r h1 h2
      refine Ev.step (fun k => by rw [ententeref07_May.l0]) (ev_pos (by omega) ?_)
      refine ev_pos (by omega) ?_
      rcases rkey_is (rd_T64 M (i : Int)).f0 with ⟨hk, ek⟩ | ⟨hk, ek⟩
      · rw [ek]
        simp only [Option.bind_some]
        refine ev_pos trivial ?_
        refine Ev.bind hck ?_
        by_cases c1 : C6.checkI (rd_T64 M (i : Int)).f1.f0 (rd_T64 M (i : Int)).f1.f1 (rd_T64 M (i : Int)).f1.f2 = 0
        · refine ev_pos c1 ?_
          by_cases c2 : (rd_T64 M (i : Int)).f2 < 1
          · rw [h2 (fun h => by have := h.1.2.2.1; omega)]
            exact ev_pos c2 (j2_true A M _ _ _ _ _ _)
          · refine ev_neg c2 ?_
            by_cases c3 : (rd_T64 M (i : Int)).f2 > 3
            · rw [h2 (fun h => by have := h.1.2.2.2; omega)]
              exact ev_pos c3 (j2_true A M _ _ _ _ _ _)
            · refine ev_neg c3 ?_
              refine Ev.bind hacc ?_
              by_cases c4 : t < 0
              · rw [decide_eq_true c4, h2 (fun h => htn.1 c4 h.2.2)]
                exact j2_true A M _ _ _ _ _ _
              · rw [decide_eq_false c4]
                have hha : hasA A (rd_T64 M (i : Int)).f1.f1 := Classical.byContradiction (fun h => c4 (htn.2 h))
                exact hj2 r (fun h => h1 ⟨⟨hk, c1, by omega, by omega⟩, h, hha⟩) (fun h => h2 (fun g => h g.2.1))
        · rw [h2 (fun h => c1 h.1.2.1)]
          exact ev_neg c1 (j2_true A M _ _ _ _ _ _)
      · rw [ek, h2 (fun h => hk h.1.1)]
        simp only [Option.bind_some]
        exact ev_neg (by decide) (j2_true A M _ _ _ _ _ _)
    by_cases c : GoodM A M i
    · have h1 := ih (i + 1) (by omega) (fun j hj => by
        rcases Nat.lt_or_ge j i with q | q
        · exact hp j q
        · have : j = i := by omega
          rw [this]
          exact c)
      exact ⟨fun h => hall _ (fun _ => h1.1 h) (fun h => absurd c h), fun h => hall _ (fun _ => h1.2 h) (fun h => absurd c h)⟩
    · exact ⟨fun h => absurd (h i (by omega)) c, fun _ => hall 2 (fun h => absurd h c) (fun _ => rfl)⟩
open Classical in
theorem rmay_ev (A : List S51) (M : List S64) (hR : ∀ i : Nat, i < A.length → RngA (rd_T51 A (i : Int))) : Ev (fun k => ententeref07_May.f k A M) (if okL A M then 0 else 2) := by
  unfold ententeref07_May.f
  have j0t : Ev (fun k => ententeref07_May.j0 k true A M) 2 := Ev.step (fun k => by rw [ententeref07_May.j0]) (ev_pos rfl (Ev.now _))
  by_cases c1 : (A.length : Int) > 12
  · rw [if_neg (fun h : okL A M => by have := h.1; omega)]
    exact ev_pos c1 j0t
  refine ev_neg c1 ?_
  by_cases c2 : (M.length : Int) > 500
  · rw [if_neg (fun h : okL A M => by have := h.2.1; omega), decide_eq_true c2]
    exact j0t
  rw [decide_eq_false c2]
  refine Ev.step (fun k => by rw [ententeref07_May.j0]) (ev_neg (by decide) ?_)
  by_cases cM : ∀ i, i < M.length → GoodM A M i
  · by_cases cA : ∀ j : Nat, j < A.length → GoodA A j ∧ potsOk M (rd_T51 A (j : Int))
    · rw [if_pos ⟨by omega, by omega, fun i hi => (cA i hi).1, cM, fun x hx => by
        obtain ⟨i, hi, rfl⟩ := rdA_mem A x hx
        exact (cA i hi).2⟩]
      exact (rloopM A M (by omega) (by omega) 0 (fun h => (rloopA A M (by omega) (by omega) hR (fun i hi => (h i hi).1.2.1) A.length 0 (by omega) (fun j hj => by omega)).1 cA) M.length 0 (by omega) (fun j hj => by omega)).1 cM
    · have hb : ∃ j : Nat, j < A.length ∧ ¬ (GoodA A j ∧ potsOk M (rd_T51 A (j : Int))) := by
        have ⟨x, hx⟩ := Classical.not_forall.1 cA
        have ⟨hx1, hx2⟩ := Classical.not_imp.1 hx
        exact ⟨x, hx1, hx2⟩
      rw [if_neg (fun h : okL A M => by
        obtain ⟨j, hj, hn⟩ := hb
        refine hn ⟨h.2.2.1 j hj, h.2.2.2.2 _ ?_⟩
        rw [← ledger_May.rd A j hj]
        exact List.getElem_mem hj)]
      exact (rloopM A M (by omega) (by omega) 2 (fun h => (rloopA A M (by omega) (by omega) hR (fun i hi => (h i hi).1.2.1) A.length 0 (by omega) (fun j hj => by omega)).2 hb) M.length 0 (by omega) (fun j hj => by omega)).1 cM
  · have hb : ∃ j, j < M.length ∧ ¬ GoodM A M j := by
      have ⟨x, hx⟩ := Classical.not_forall.1 cM
      have ⟨hx1, hx2⟩ := Classical.not_imp.1 hx
      exact ⟨x, hx1, hx2⟩
    rw [if_neg (fun h : okL A M => cM h.2.2.2.1)]
    exact (rloopM A M (by omega) (by omega) 2 (fun h => absurd h cM) M.length 0 (by omega) (fun j hj => by omega)).2 hb
/-! amounts; the words of Num are used here (numS: none) -/
def dl (m : S64) : Int × Int := C6.DL m.f1.f0 m.f1.f1 m.f1.f2
def Amt1 (x : Int) : Prop := -1000000000000000 ≤ x ∧ x ≤ 1000000000000000
theorem DL_amt (kind : Int) (nm : ByteArray) (a : Int) : Amt1 (C6.DL kind nm a).1 ∧ Amt1 (C6.DL kind nm a).2 := by
  unfold C6.DL Amt1
  split
  · rename_i h
    obtain ⟨h1, h2, h3, h4⟩ := C6.check_zero kind nm a h
    rcases (show kind = 1 ∨ kind = 2 ∨ kind = 3 ∨ kind = 4 by omega) with rfl | rfl | rfl | rfl
    all_goals simp [C6.ways]
    all_goals omega
  · simp
/-! what is in effect; the words of Num are used here (numS: none) -/
def sumI : List Int → Int
  | [] => 0
  | x :: l => x + sumI l
def Amt (l : List Int) : Prop := ∀ x ∈ l, Amt1 x
theorem amt_rd (l : List Int) (h : Amt l) (i : Nat) (hi : i < l.length) : Amt1 (rd l (i : Int)) := by
  have e := drop_cons l i hi
  exact h _ (List.mem_of_mem_drop (by rw [e]; exact List.mem_cons_self ..))
theorem amt_snoc (l : List Int) (x : Int) (h : Amt l) (hx : Amt1 x) : Amt (l ++ [x]) := by
  intro y hy
  rcases List.mem_append.1 hy with hy | hy
  · exact h y hy
  · rw [List.mem_singleton.1 hy]
    exact hx
def Sm (p : Int) : Prop := -9000000000000000000 ≤ p ∧ p ≤ 9000000000000000000
theorem add_is (p a : Int) (h0 : Sm p) (h1 : Amt1 a) : cash_wide_add.f (p / 18446744073709551616) (p % 18446744073709551616) a = some ((p + a) / 18446744073709551616, (p + a) % 18446744073709551616) := by
  unfold Sm at h0
  unfold Amt1 at h1
  unfold cash_wide_add.f
  rw [if_pos (by omega), uw_eq]
  rw [wr (p / 18446744073709551616 + a / 9223372036854775808) (by omega), wr ((p % 18446744073709551616 + a % 18446744073709551616) / 18446744073709551616) (by omega), wr _ (by omega)]
  rw [show p / 18446744073709551616 + a / 9223372036854775808 + (p % 18446744073709551616 + a % 18446744073709551616) / 18446744073709551616 = (p + a) / 18446744073709551616 by omega, show (p % 18446744073709551616 + a % 18446744073709551616) % 18446744073709551616 = (p + a) % 18446744073709551616 by omega]
theorem wrap_mod (p : Int) (h0 : Sm p) : wrap64 (p % 18446744073709551616) = p := by
  unfold Sm at h0
  unfold wrap64
  omega
theorem narrow_is (p : Int) (h0 : Sm p) : cash_wide_narrow.f (p / 18446744073709551616) (p % 18446744073709551616) = some (p, 0) := by
  unfold cash_wide_narrow.f
  rw [wrap_mod p h0]
  unfold Sm at h0
  rw [if_pos (by omega)]
theorem sum_loop (l : List Int) (hl : l.length ≤ 5000) (hb : Amt l) (d : Nat) : ∀ (i : Nat) (p : Int), i + d = l.length → -(1000000000000000 * (i : Int)) ≤ p → p ≤ 1000000000000000 * (i : Int) →
    Ev (fun k => cash_Sum.l0 k l (l.length : Int) (i : Int) (p / 18446744073709551616) (p % 18446744073709551616)) (p + sumI (l.drop i), 0) := by
  induction d with
  | zero =>
    intro i p hi h0 h1
    have hn := narrow_is p ⟨by omega, by omega⟩
    refine Ev.step (fun k => by rw [cash_Sum.l0]) (ev_neg (by omega) ?_)
    rw [hn, List.drop_eq_nil_of_le (by omega)]
    exact ev_eq (Ev.now _) (by simp [sumI])
  | succ d ih =>
    intro i p hi h0 h1
    have hd := drop_cons l i (by omega)
    have ha := amt_rd l hb i (by omega)
    have e := add_is p (rd l (i : Int)) ⟨by omega, by omega⟩ ha
    have := ih (i + 1) (p + rd l (i : Int)) (by omega) (by have := ha.1; omega) (by have := ha.2; omega)
    rw [hd]
    simp only [sumI]
    rw [← Int.add_assoc]
    refine Ev.step (fun k => by rw [cash_Sum.l0]) (ev_pos (by omega) ?_)
    refine ev_pos (by omega) ?_
    refine ev_pos (by omega) ?_
    rw [e]
    simp only [Option.bind_some]
    rw [wr ((i : Int) + 1) (by omega), show (i : Int) + 1 = ((i + 1 : Nat) : Int) by omega]
    exact this
theorem sum_ev (l : List Int) (hl : l.length ≤ 5000) (hb : Amt l) : Ev (fun k => cash_Sum.f k l) (sumI l, 0) := by
  have := sum_loop l hl hb l.length 0 0 (by omega) (by omega) (by omega)
  rw [List.drop_zero, Int.zero_add] at this
  exact this
/-- A text that begins with another. -/
def pre (a s : ByteArray) : Prop := a.size ≤ s.size ∧ s.extract 0 a.size = a
instance (a s : ByteArray) : Decidable (pre a s) := inferInstanceAs (Decidable (_ ∧ _))
theorem hp_is (s a : ByteArray) : strings_HasPrefix.f s a = some (decide (pre a s)) := by
  unfold strings_HasPrefix.f stringslite_HasPrefix.f
  by_cases c : a.size ≤ s.size
  · rw [if_pos (by omega), if_pos (by omega), if_pos (by omega), Int.toNat_natCast]
    simp only [Option.bind_some]
    congr 1
    rw [Bool.eq_iff_iff, beq_iff_eq, decide_eq_true_eq]
    exact ⟨fun h => ⟨c, (tl_inj _ _).1 h⟩, fun h => (tl_inj _ _).2 h.2⟩
  · rw [if_neg (by omega)]
    simp only [Option.bind_some]
    rw [decide_eq_false (fun h => c h.1)]
def inM (n a : ByteArray) (m : S64) : Prop := m.f1.f1 = n ∧ m.f2 ≠ 2 ∧ pre a m.f0
instance (n a : ByteArray) (m : S64) : Decidable (inM n a m) := inferInstanceAs (Decidable (_ ∧ _ ∧ _))
def netL (n a : ByteArray) : List S64 → List Int → List Int → List Int × List Int
  | [], fs, ks => (fs, ks)
  | m :: r, fs, ks => if inM n a m then netL n a r (fs ++ [(dl m).1]) (ks ++ [(dl m).2]) else netL n a r fs ks
theorem netL_amt (n a : ByteArray) : ∀ (M : List S64) (fs ks : List Int), Amt fs → Amt ks → Amt (netL n a M fs ks).1 ∧ Amt (netL n a M fs ks).2 ∧ (netL n a M fs ks).1.length ≤ fs.length + M.length ∧ (netL n a M fs ks).2.length ≤ ks.length + M.length
  | [], fs, ks, h1, h2 => ⟨h1, h2, Nat.le_add_right _ _, Nat.le_add_right _ _⟩
  | m :: r, fs, ks, h1, h2 => by
    rw [netL]
    split
    · have := netL_amt n a r (fs ++ [(dl m).1]) (ks ++ [(dl m).2]) (amt_snoc _ _ h1 (DL_amt _ _ _).1) (amt_snoc _ _ h2 (DL_amt _ _ _).2)
      simp only [List.length_append, List.length_cons, List.length_nil] at this ⊢
      exact ⟨this.1, this.2.1, by omega, by omega⟩
    · have := netL_amt n a r fs ks h1 h2
      simp only [List.length_cons] at this ⊢
      exact ⟨this.1, this.2.1, by omega, by omega⟩
theorem g_ev (n a : ByteArray) : ∀ (M : List S64) (fs ks : List Int), Ev (fun k => ledger_Net.g k n a M fs ks) (netL n a M fs ks)
  | [], fs, ks => Ev.now _
  | m :: r, fs, ks => by
    refine Ev.congr (fun k => by rw [ledger_Net.g]) ?_
    by_cases c1 : m.f1.f1 = n
    · refine ev_pos (by rw [beq_iff_eq]; exact (tl_inj _ _).2 c1) ?_
      by_cases c2 : m.f2 = 2
      · rw [netL, if_neg (fun h => h.2.1 c2)]
        exact ev_pos c2 (g_ev n a r fs ks)
      · refine ev_neg c2 ?_
        rw [hp_is]
        simp only [Option.bind_some]
        by_cases c3 : pre a m.f0
        · rw [netL, if_pos ⟨c1, c2, c3⟩]
          refine ev_pos (decide_eq_true c3) ?_
          exact Ev.bind (C6.delta_ev _ _ _) (g_ev n a r _ _)
        · rw [netL, if_neg (fun h => c3 h.2.2)]
          exact ev_neg (by rw [decide_eq_false c3]; decide) (g_ev n a r fs ks)
    · rw [netL, if_neg (fun h => c1 h.1)]
      exact ev_neg (by rw [beq_iff_eq]; exact fun h => c1 ((tl_inj _ _).1 h)) (g_ev n a r fs ks)
def netI (n a : ByteArray) (M : List S64) : Int × Int × Int := (sumI (netL n a M [] []).1, sumI (netL n a M [] []).2, 0)
theorem amt_nil : Amt [] := fun x hx => by cases hx
theorem e_ev (n a : ByteArray) (M : List S64) (hM : M.length ≤ 1000) : Ev (fun k => ledger_Net.e k M n a) (netI n a M) := by
  have h := netL_amt n a M [] [] amt_nil amt_nil
  simp only [List.length_nil] at h
  unfold ledger_Net.e
  refine ev_pos (by omega) ?_
  refine Ev.bind (g_ev n a M [] []) ?_
  refine Ev.bind (sum_ev _ (by omega) h.1) ?_
  refine Ev.bind (sum_ev _ (by omega) h.2.1) ?_
  refine ev_pos rfl ?_
  exact ev_pos rfl (Ev.now _)
theorem low_is (a : Int) (h : Amt1 a) : Int.tmod (wrap64 ((Int.tmod a 4294967296) + 4294967296)) 4294967296 = a % 4294967296 := by
  unfold Amt1 at h
  by_cases c : 0 ≤ a
  · rw [Int.tmod_eq_emod_of_nonneg c, wr (a % 4294967296 + 4294967296) (by omega), Int.tmod_eq_emod_of_nonneg (by omega)]
    omega
  · have e : Int.tmod a 4294967296 = -((-a) % 4294967296) := by
      rw [← Int.tmod_eq_emod_of_nonneg (show 0 ≤ -a by omega), Int.neg_tmod, Int.neg_neg]
    rw [e, wr (-(-a % 4294967296) + 4294967296) (by omega), Int.tmod_eq_emod_of_nonneg (by omega)]
    omega
theorem high_step (p a : Int) (h0 : Sm p) (h1 : Amt1 a) :
    wrap64 ((wrap64 (p / 4294967296 + (wrap64 (Int.tdiv (wrap64 (a - a % 4294967296)) 4294967296)))) + (wrap64 (Int.tdiv (wrap64 (p % 4294967296 + a % 4294967296)) 4294967296))) = (p + a) / 4294967296 := by
  unfold Sm at h0
  unfold Amt1 at h1
  rw [wr (a - a % 4294967296) (by omega), wr (p % 4294967296 + a % 4294967296) (by omega), show a - a % 4294967296 = 4294967296 * (a / 4294967296) by omega, Int.mul_tdiv_cancel_left _ (by decide), Int.tdiv_eq_ediv_of_nonneg (by omega)]
  rw [wr (a / 4294967296) (by omega), wr ((p % 4294967296 + a % 4294967296) / 4294967296) (by omega), wr (p / 4294967296 + a / 4294967296) (by omega), wr _ (by omega)]
  omega
theorem low_step (p a : Int) (h0 : Sm p) (h1 : Amt1 a) : Int.tmod (wrap64 (p % 4294967296 + a % 4294967296)) 4294967296 = (p + a) % 4294967296 := by
  rw [wr (p % 4294967296 + a % 4294967296) (by omega), Int.tmod_eq_emod_of_nonneg (by omega)]
  omega
theorem rsum_loop (l : List Int) (hl : l.length ≤ 5000) (hb : Amt l) (d : Nat) : ∀ (i : Nat) (p : Int), i + d = l.length → -(1000000000000000 * (i : Int)) ≤ p → p ≤ 1000000000000000 * (i : Int) →
    Ev (fun k => ententeref04_Sum.l0 k l (p / 4294967296) (p % 4294967296) (i : Int)) (p + sumI (l.drop i), 0) := by
  induction d with
  | zero =>
    intro i p hi h0 h1
    have e : wrap64 ((wrap64 ((p / 4294967296) * 4294967296)) + p % 4294967296) = p := by
      rw [wr (p / 4294967296 * 4294967296) (by omega), wr _ (by omega)]; omega
    refine Ev.step (fun k => by rw [ententeref04_Sum.l0]) (ev_neg (by clear e; omega) ?_)
    refine ev_neg (by clear e; omega) ?_
    refine ev_neg (by clear e; omega) ?_
    rw [e, List.drop_eq_nil_of_le (by clear e; omega)]
    exact ev_eq (Ev.now _) (by simp [sumI])
  | succ d ih =>
    intro i p hi h0 h1
    have hd := drop_cons l i (by omega)
    have ha := amt_rd l hb i (by omega)
    have hp : Sm p := ⟨by omega, by omega⟩
    have := ih (i + 1) (p + rd l (i : Int)) (by omega) (by have := ha.1; omega) (by have := ha.2; omega)
    rw [hd]
    simp only [sumI]
    rw [← Int.add_assoc]
    refine Ev.step (fun k => by rw [ententeref04_Sum.l0]) (ev_pos (by omega) ?_)
    refine ev_pos (by omega) ?_
    rw [low_is _ ha, high_step p _ hp ha, low_step p _ hp ha, wr ((i : Int) + 1) (by omega), show (i : Int) + 1 = ((i + 1 : Nat) : Int) by omega]
    exact this
theorem rsum_ev (l : List Int) (hl : l.length ≤ 5000) (hb : Amt l) : Ev (fun k => ententeref04_Sum.f k l) (sumI l, 0) := by
  have := rsum_loop l hl hb l.length 0 0 (by omega) (by omega) (by omega)
  rw [List.drop_zero, Int.zero_add] at this
  exact this
theorem rnet_loop (n a : ByteArray) (A : List S51) (M : List S64) (hM : M.length ≤ 1000) (d : Nat) : ∀ (i : Nat) (fs ks : List Int), i + d = M.length → fs.length ≤ i → ks.length ≤ i → Amt fs → Amt ks →
    Ev (fun k => ententeref07_Net.l0 k n a fs ks (i : Int) A M) (sumI (netL n a (M.drop i) fs ks).1, sumI (netL n a (M.drop i) fs ks).2, 0) := by
  induction d with
  | zero =>
    intro i fs ks hi h1 h2 a1 a2
    rw [List.drop_eq_nil_of_le (by omega), netL]
    refine Ev.step (fun k => by rw [ententeref07_Net.l0]) (ev_neg (by omega) ?_)
    refine Ev.bind (rsum_ev _ (by omega) a1) ?_
    refine Ev.bind (rsum_ev _ (by omega) a2) ?_
    refine ev_pos rfl ?_
    exact ev_pos rfl (Ev.now _)
  | succ d ih =>
    intro i fs ks hi h1 h2 a1 a2
    have hw : wrap64 ((i : Int) + 1) = ((i + 1 : Nat) : Int) := by rw [wr _ (by omega)]; omega
    have hskip := ih (i + 1) fs ks (by omega) (by omega) (by omega) a1 a2
    rw [drop_rdM M i (by omega), netL]
    refine Ev.step (fun k => by rw [ententeref07_Net.l0]) (ev_pos (by omega) ?_)
    refine ev_pos (by omega) ?_
    rw [hw]
    by_cases c1 : (rd_T64 M (i : Int)).f1.f1 = n
    · refine ev_pos ((tl_inj _ _).2 c1) ?_
      by_cases c2 : (rd_T64 M (i : Int)).f2 = 2
      · rw [if_neg (fun h => h.2.1 c2)]
        exact ev_pos c2 hskip
      · refine ev_neg c2 ?_
        by_cases c3 : a.size ≤ (rd_T64 M (i : Int)).f0.size
        · refine ev_neg (by omega) ?_
          refine ev_pos (by omega) ?_
          refine ev_pos (by omega) ?_
          rw [Int.toNat_natCast]
          by_cases c4 : (rd_T64 M (i : Int)).f0.extract 0 a.size = a
          · rw [if_pos ⟨c1, c2, c3, c4⟩]
            refine ev_pos ((tl_inj _ _).2 c4) ?_
            refine Ev.bind (C6.rdelta_ev _ _ _) ?_
            refine ev_pos (by omega) ?_
            refine ev_pos (by omega) ?_
            exact ih (i + 1) _ _ (by omega) (by rw [List.length_append, List.length_singleton]; omega) (by rw [List.length_append, List.length_singleton]; omega) (amt_snoc _ _ a1 (DL_amt _ _ _).1) (amt_snoc _ _ a2 (DL_amt _ _ _).2)
          · rw [if_neg (fun h => c4 h.2.2.2)]
            exact ev_neg (fun h => c4 ((tl_inj _ _).1 h)) hskip
        · rw [if_neg (fun h => c3 h.2.2.1)]
          exact ev_pos (by omega) hskip
    · rw [if_neg (fun h => c1 h.1)]
      exact ev_neg (fun h => c1 ((tl_inj _ _).1 h)) hskip
theorem awake_ev : Ev (fun k => ententelaw07_awake.f k) true := Ev.of ententelaw07_awake.mono (k := 40) (by decide +kernel)
theorem small_loop (A : List S51) (M : List S64) (hM : M.length ≤ 1000) (d : Nat) : ∀ i : Nat, i + d = M.length → ∃ b, Ev (fun k => ententelaw07_small.l0 k (i : Int) A M) b := by
  induction d with
  | zero =>
    intro i hi
    exact ⟨true, Ev.step (fun k => by rw [ententelaw07_small.l0]) (ev_neg (by omega) (Ev.now _))⟩
  | succ d ih =>
    intro i hi
    by_cases c : ((rd_T64 M (i : Int)).f0.size : Int) > 1000
    · exact ⟨false, Ev.step (fun k => by rw [ententelaw07_small.l0]) (ev_pos (by omega) (ev_pos (by omega) (ev_pos c (Ev.now _))))⟩
    · obtain ⟨b, h⟩ := ih (i + 1) (by omega)
      refine ⟨b, Ev.step (fun k => by rw [ententelaw07_small.l0]) (ev_pos (by omega) (ev_pos (by omega) (ev_neg c ?_)))⟩
      rw [wr _ (by omega), show (i : Int) + 1 = ((i + 1 : Nat) : Int) by omega]
      exact h
theorem small_ev (A : List S51) (M : List S64) : ∃ b, Ev (fun k => ententelaw07_small.f k A M) b ∧ (b = true → A.length ≤ 100 ∧ M.length ≤ 1000) := by
  have j0t : Ev (fun k => ententelaw07_small.j0 k true A M) false := Ev.step (fun k => by rw [ententelaw07_small.j0]) (ev_pos rfl (Ev.now _))
  have nt : ∀ {P : Prop}, (false = true → P) := fun h => by cases h
  unfold ententelaw07_small.f
  by_cases c1 : (A.length : Int) > 100
  · exact ⟨false, ev_pos c1 j0t, nt⟩
  by_cases c3 : M.length ≤ 1000
  · obtain ⟨b, hb⟩ := small_loop A M c3 M.length 0 (by omega)
    have hj : Ev (fun k => ententelaw07_small.j0 k (decide ((M.length : Int) > 1000)) A M) b := by
      rw [decide_eq_false (by omega)]
      have hb' : Ev (fun k => ententelaw07_small.l0 k 0 A M) b := hb
      exact Ev.step (fun k => by rw [ententelaw07_small.j0]) (ev_neg (c := false = true) (by decide) hb')
    by_cases c2 : (M.length : Int) > 150
    · by_cases c4 : (M.length : Int) ≤ 500
      · exact ⟨false, ev_neg c1 (ev_pos c2 (ev_pos c4 j0t)), nt⟩
      · exact ⟨b, ev_neg c1 (ev_pos c2 (ev_neg c4 hj)), fun _ => ⟨by omega, c3⟩⟩
    · exact ⟨b, ev_neg c1 (ev_neg c2 hj), fun _ => ⟨by omega, c3⟩⟩
  · refine ⟨false, ev_neg c1 (ev_pos (by omega) (ev_neg (by omega) ?_)), nt⟩
    rw [decide_eq_true (by omega)]
    exact j0t
abbrev FR := ByteArray × Int × Int × Int × Int × Int × Int × Bool
def frOf (x : S51) : FR := (x.f0, x.f1.f0, x.f1.f1, x.f1.f2, x.f2.f0, x.f2.f1, x.f2.f2, true)
def frNo : FR := ((⟨#[]⟩ : ByteArray), 0, 0, 0, 0, 0, 0, false)
theorem w64 (x : Int) (hx : (Lit.int .i64 x).wf = true) : rng x := by
  simp [Lit.wf, IntKind.min, IntKind.max, IntKind.bits, IntKind.signed] at hx
  unfold rng
  omega
theorem rngA_of (A : List S51) (h : ∀ y ∈ A, Q51 y) : ∀ i : Nat, i < A.length → RngA (rd_T51 A (i : Int)) := by
  intro i hi
  have hm : rd_T51 A (i : Int) ∈ A := by
    rw [← ledger_May.rd A i hi]
    exact List.getElem_mem hi
  have hq := h _ hm
  simp only [Q51, Q49] at hq
  exact ⟨w64 _ hq.2.1.1, w64 _ hq.2.1.2.1, w64 _ hq.2.1.2.2, w64 _ hq.2.2.1, w64 _ hq.2.2.2.1, w64 _ hq.2.2.2.2⟩
/-- The account that is found, by the program and by the reference. -/
theorem find_both (A : List S51) (M : List S64) (n : ByteArray) (hA : A.length ≤ 1000) (hR : ∀ i : Nat, i < A.length → RngA (rd_T51 A (i : Int))) : ∃ r : FR, Ev (fun k => ledger_Find.f k A M n) r ∧ Ev (fun k => ententeref07_Find.f k A M n) r := by
  have hp := pmay_ev A M hR
  have hr := rmay_ev A M hR
  obtain ⟨t, ht, htr⟩ := racc_ev A M n hA
  have htn := racc_neg A t n htr
  unfold ledger_Find.f ententeref07_Find.f
  by_cases c : okL A M
  · rw [if_pos c] at hp hr
    have hs := sortedA_of A c.2.2.1
    obtain ⟨j, f, hj, hjf, hf⟩ := find_A A M n (by omega) hs
    have hh := cut_has A hs n j hj
    by_cases c2 : hasA A n
    · have hft : f = true := hjf.2 (hh.2 c2)
      have hjl := (hh.2 c2).1
      have hje := (hh.2 c2).2
      rcases htr with ⟨_, h⟩ | ⟨q, rfl, hq1, hq2, hq3⟩
      · exact absurd c2 h
      have hqj : q = j := by
        rcases Nat.lt_trichotomy q j with h | h | h
        · exact absurd (hj.2.1 q h) (by rw [hq2]; exact lt_irr n)
        · exact h
        · exact absurd hje (hq3 j h)
      subst hqj
      subst hft
      refine ⟨frOf (rd_T51 A (q : Int)), ?_, ?_⟩
      · refine Ev.bind hp (ev_pos rfl ?_)
        refine Ev.bind hf (ev_pos rfl ?_)
        refine ev_pos (by omega) ?_
        exact ev_pos (by omega) (Ev.now _)
      · refine Ev.bind ht ?_
        refine Ev.bind hr (ev_pos rfl ?_)
        refine ev_neg (by omega) ?_
        refine ev_pos (by omega) ?_
        exact ev_pos (by omega) (Ev.now _)
    · have hft : f = false := by
        rcases Bool.eq_false_or_eq_true f with h | h
        · exact absurd (hh.1 (hjf.1 h)) c2
        · exact h
      subst hft
      refine ⟨frNo, ?_, ?_⟩
      · refine Ev.bind hp (ev_pos rfl ?_)
        exact Ev.bind hf (ev_neg Bool.false_ne_true (Ev.now _))
      · refine Ev.bind ht ?_
        refine Ev.bind hr (ev_pos rfl ?_)
        exact ev_pos (htn.2 c2) (Ev.now _)
  · rw [if_neg c] at hp hr
    refine ⟨frNo, ?_, ?_⟩
    · exact Ev.bind hp (ev_neg (by decide) (Ev.now _))
    · refine Ev.bind ht ?_
      exact Ev.bind hr (ev_neg (by decide) (Ev.now _))
theorem sortedM_of (A : List S51) (M : List S64) (h : ∀ j, j < M.length → GoodM A M j) : SortedM M := by
  intro i j hij hj
  induction j with
  | zero => omega
  | succ j ih =>
    have h1 := (h (j + 1) hj).2.1 (by omega)
    rw [show (((j + 1 : Nat) : Int) - 1) = (j : Int) by omega] at h1
    rcases Nat.lt_or_ge i j with q | q
    · exact lt_trans (ih q (by omega)) h1
    · have : i = j := by omega
      rw [this]
      exact h1
theorem cut_hasM (M : List S64) (hs : SortedM M) (n : ByteArray) (j : Nat) (hc : CutM M n j) : (j < M.length ∧ (rd_T64 M (j : Int)).f0 = n) ↔ hasM M n := by
  constructor
  · exact fun h => ⟨j, h⟩
  · rintro ⟨i, hi, he⟩
    rcases Nat.lt_trichotomy i j with q | rfl | q
    · exact absurd (hc.2.1 i q) (by rw [he]; exact lt_irr n)
    · exact ⟨hi, he⟩
    · exact absurd (by rw [← he]; exact hs j i q hi) (hc.2.2 j (Nat.le_refl _) (by omega))
theorem rmark_neg (M : List S64) (t : Int) (n : ByteArray) (h : (t = -1 ∧ ¬ hasM M n) ∨ ∃ j : Nat, t = (j : Int) ∧ j < M.length ∧ (rd_T64 M (j : Int)).f0 = n ∧ ∀ q : Nat, q < j → ¬ (rd_T64 M (q : Int)).f0 = n) : t < 0 ↔ ¬ hasM M n := by
  rcases h with ⟨rfl, h⟩ | ⟨j, rfl, h1, h2, _⟩
  · exact ⟨fun _ => h, fun _ => by decide⟩
  · exact ⟨fun h => by omega, fun h => absurd ⟨j, h1, h2⟩ h⟩
theorem state_both (A : List S51) (M : List S64) (n : ByteArray) (hM : M.length ≤ 1000) (hR : ∀ i : Nat, i < A.length → RngA (rd_T51 A (i : Int))) : ∃ r : Int, Ev (fun k => ledger_State.f k A M n) r ∧ Ev (fun k => ententeref07_State.f k A M n) r := by
  have hp := pmay_ev A M hR
  have hr := rmay_ev A M hR
  obtain ⟨t, ht, htr⟩ := rmark_ev A M n hM
  have htn := rmark_neg M t n htr
  unfold ledger_State.f ententeref07_State.f
  by_cases c : okL A M
  · rw [if_pos c] at hp hr
    have hs := sortedM_of A M c.2.2.2.1
    obtain ⟨j, f, hj, hjf, hf⟩ := find_M A M n (by omega) hs
    have hh := cut_hasM M hs n j hj
    by_cases c2 : hasM M n
    · have hft : f = true := hjf.2 (hh.2 c2)
      have hjl := (hh.2 c2).1
      have hje := (hh.2 c2).2
      rcases htr with ⟨_, h⟩ | ⟨q, rfl, hq1, hq2, hq3⟩
      · exact absurd c2 h
      have hqj : q = j := by
        rcases Nat.lt_trichotomy q j with h | h | h
        · exact absurd (hj.2.1 q h) (by rw [hq2]; exact lt_irr n)
        · exact h
        · exact absurd hje (hq3 j h)
      subst hqj
      subst hft
      refine ⟨(rd_T64 M (q : Int)).f2, ?_, ?_⟩
      · refine Ev.bind hp (ev_pos rfl ?_)
        refine Ev.bind hf (ev_pos rfl ?_)
        refine ev_pos (by omega) ?_
        exact ev_pos (by omega) (Ev.now _)
      · refine Ev.bind ht ?_
        refine Ev.bind hr (ev_pos rfl ?_)
        refine ev_neg (by omega) ?_
        refine ev_pos (by omega) ?_
        exact ev_pos (by omega) (Ev.now _)
    · have hft : f = false := by
        rcases Bool.eq_false_or_eq_true f with h | h
        · exact absurd (hh.1 (hjf.1 h)) c2
        · exact h
      subst hft
      refine ⟨0, ?_, ?_⟩
      · refine Ev.bind hp (ev_pos rfl ?_)
        exact Ev.bind hf (ev_neg Bool.false_ne_true (Ev.now _))
      · refine Ev.bind ht ?_
        refine Ev.bind hr (ev_pos rfl ?_)
        exact ev_pos (htn.2 c2) (Ev.now _)
  · rw [if_neg c] at hp hr
    refine ⟨0, ?_, ?_⟩
    · exact Ev.bind hp (ev_neg (by decide) (Ev.now _))
    · refine Ev.bind ht ?_
      exact Ev.bind hr (ev_neg (by decide) (Ev.now _))
theorem net_both (A : List S51) (M : List S64) (n a : ByteArray) (hA : A.length ≤ 1000) (hM : M.length ≤ 1000) (hR : ∀ i : Nat, i < A.length → RngA (rd_T51 A (i : Int))) : ∃ r : Int × Int × Int, Ev (fun k => ledger_Net.f k A M n a) r ∧ Ev (fun k => ententeref07_Net.f k A M n a) r := by
  have hp := pmay_ev A M hR
  have hr := rmay_ev A M hR
  obtain ⟨t, ht, htr⟩ := racc_ev A M n hA
  have htn := racc_neg A t n htr
  unfold ledger_Net.f ententeref07_Net.f
  by_cases c : okL A M
  · rw [if_pos c] at hp hr
    have hs := sortedA_of A c.2.2.1
    obtain ⟨j, f, hj, hjf, hf⟩ := find_A A M n (by omega) hs
    have hh := cut_has A hs n j hj
    by_cases c2 : hasA A n
    · have hft : f = true := hjf.2 (hh.2 c2)
      subst hft
      refine ⟨netI n a M, ?_, ?_⟩
      · refine Ev.bind hp (ev_pos rfl ?_)
        exact Ev.bind hf (ev_pos rfl (e_ev n a M hM))
      · refine Ev.bind hr (ev_pos rfl ?_)
        refine Ev.bind ht (ev_neg (fun h => htn.1 h c2) ?_)
        have := rnet_loop n a A M hM M.length 0 [] [] (by omega) (by simp) (by simp) amt_nil amt_nil
        rw [List.drop_zero] at this
        exact this
    · have hft : f = false := by
        rcases Bool.eq_false_or_eq_true f with h | h
        · exact absurd (hh.1 (hjf.1 h)) c2
        · exact h
      subst hft
      refine ⟨(0, 0, 70), ?_, ?_⟩
      · refine Ev.bind hp (ev_pos rfl ?_)
        exact Ev.bind hf (ev_neg Bool.false_ne_true (Ev.now _))
      · refine Ev.bind hr (ev_pos rfl ?_)
        exact Ev.bind ht (ev_pos (htn.2 c2) (Ev.now _))
  · rw [if_neg c] at hp hr
    refine ⟨(0, 0, 2), ?_, ?_⟩
    · exact Ev.bind hp (ev_neg (by decide) (Ev.now _))
    · exact Ev.bind hr (ev_neg (by decide) (Ev.now _))
theorem LedgerMays : ententelaw07_LedgerMays.Pure := by
  intro A M n a hA hM hn ha
  apply Ev.rounds
  have hR := rngA_of A hA.2.2
  obtain ⟨b, hb, hbt⟩ := small_ev A M
  have j0t : Ev (fun k => ententelaw07_LedgerMays.j0 k n a true A M) true := Ev.step (fun k => by rw [ententelaw07_LedgerMays.j0]) (ev_pos rfl (Ev.bind awake_ev (Ev.now _)))
  unfold ententelaw07_LedgerMays.f
  refine Ev.bind hb ?_
  refine ev_ite (fun c => ?_) (fun c => j0t)
  obtain ⟨h1, h2⟩ := hbt c
  by_cases c2 : (a.size : Int) > 1000
  · rw [decide_eq_true c2]
    exact j0t
  rw [decide_eq_false c2]
  obtain ⟨r1, f1, f2⟩ := find_both A M n (by omega) hR
  obtain ⟨r2, n1, n2⟩ := net_both A M n a (by omega) h2 hR
  obtain ⟨r3, s1, s2⟩ := state_both A M a h2 hR
  refine Ev.step (fun k => by rw [ententelaw07_LedgerMays.j0]) (ev_neg (by decide) ?_)
  refine Ev.bind f1 ?_
  refine Ev.bind f2 ?_
  refine Ev.bind n1 ?_
  refine Ev.bind n2 ?_
  refine Ev.bind (pmay_ev A M hR) ?_
  refine Ev.bind (rmay_ev A M hR) ?_
  refine ev_pos rfl ?_
  refine ev_pos (by simp) ?_
  refine ev_pos (by simp) ?_
  refine Ev.bind s1 ?_
  refine Ev.bind s2 ?_
  refine ev_pos rfl ?_
  refine ev_pos rfl ?_
  refine ev_pos rfl ?_
  refine ev_pos rfl ?_
  exact Ev.bind awake_ev (Ev.now _)

end Go.Proofs.Ytikanbdhpafbiaa.Pure
