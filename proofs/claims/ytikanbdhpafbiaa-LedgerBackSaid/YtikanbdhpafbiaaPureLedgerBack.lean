/- LedgerBack: proved for all arguments; no condition. -/
import Derived.Test.YtikanbdhpafbiaaNum
import Derived.Test.YtikanbdhpafbiaaPOx26
namespace Go.Proofs.Ytikanbdhpafbiaa.Pure
open Go.RowKit Go.Proofs.Ytikanbdhpafbiaa.PO Go.Proofs.YtikanbdhpafbiaaW.PrintWords Go.Proofs.YtikanbdhpafbiaaW.PrintLast Go.Proofs.YtikanbdhpafbiaaW.PrintMore Go.Proofs.Ytikanbdhpafbiaa.Num
set_option linter.unusedVariables false
set_option linter.unusedSimpArgs false

/-! tests and rounds -/
theorem ev_ite {α : Type} {c : Prop} [Decidable c] {f g : Nat → Option α} {r : α} (h1 : c → Ev f r) (h2 : ¬ c → Ev g r) : Ev (fun k => if c then f k else g k) r := by
  by_cases hc : c
  · exact Ev.congr (fun k => if_pos hc) (h1 hc)
  · exact Ev.congr (fun k => if_neg hc) (h2 hc)
theorem ev_pos {α : Type} {c : Prop} [Decidable c] {f g : Nat → Option α} {r : α} (hc : c) (h1 : Ev f r) : Ev (fun k => if c then f k else g k) r := Ev.congr (fun k => if_pos hc) h1
theorem ev_neg {α : Type} {c : Prop} [Decidable c] {f g : Nat → Option α} {r : α} (hc : ¬ c) (h2 : Ev g r) : Ev (fun k => if c then f k else g k) r := Ev.congr (fun k => if_neg hc) h2
theorem ev_eq {α : Type} {f : Nat → Option α} {r r' : α} (h : Ev f r) (e : r = r') : Ev f r' := e ▸ h
/-! the order of texts -/
theorem u8_tri (a b : UInt8) : a < b ∨ a = b ∨ b < a := by
  rcases Nat.lt_trichotomy a.toNat b.toNat with h | h | h
  · exact Or.inl (UInt8.lt_iff_toNat_lt.2 h)
  · exact Or.inr (Or.inl (UInt8.toNat.inj h))
  · exact Or.inr (Or.inr (UInt8.lt_iff_toNat_lt.2 h))
theorem u8_trans {a b c : UInt8} (h : a < b) (g : b < c) : a < c := UInt8.lt_iff_toNat_lt.2 (Nat.lt_trans (UInt8.lt_iff_toNat_lt.1 h) (UInt8.lt_iff_toNat_lt.1 g))
theorem u8_irr (a : UInt8) : ¬ a < a := fun h => Nat.lt_irrefl _ (UInt8.lt_iff_toNat_lt.1 h)
def ls : List UInt8 → List UInt8 → Prop
  | _, [] => False
  | [], _ :: _ => True
  | a :: x, b :: y => a < b ∨ a = b ∧ ls x y
theorem ls_bytes : ∀ x y : List UInt8, Op.bytesLess x y = true ↔ ls x y
  | [], [] => by simp [Op.bytesLess, ls]
  | _ :: _, [] => by simp [Op.bytesLess, ls]
  | [], _ :: _ => by simp [Op.bytesLess, ls]
  | a :: x, b :: y => by
    simp only [Op.bytesLess, ls, Bool.or_eq_true, Bool.and_eq_true, decide_eq_true_eq, beq_iff_eq, ls_bytes x y]
theorem ls_irr : ∀ x : List UInt8, ¬ ls x x
  | [] => id
  | a :: x => by
    rintro (h | ⟨_, h⟩)
    · exact u8_irr a h
    · exact ls_irr x h
theorem ls_trans : ∀ {x y z : List UInt8}, ls x y → ls y z → ls x z
  | _, _, [], _, g => by cases ‹List UInt8› <;> exact g.elim
  | [], _, _ :: _, _, _ => trivial
  | _ :: _, [], _ :: _, h, _ => h.elim
  | a :: x, b :: y, c :: z, h, g => by
    rcases h with h | ⟨rfl, h⟩
    · rcases g with g | ⟨rfl, g⟩
      · exact Or.inl (u8_trans h g)
      · exact Or.inl h
    · rcases g with g | ⟨rfl, g⟩
      · exact Or.inl g
      · exact Or.inr ⟨rfl, ls_trans h g⟩
theorem cmp_cases : ∀ x y : List UInt8, (ls x y ∧ Lib.compareBytes x y = -1) ∨ (x = y ∧ Lib.compareBytes x y = 0) ∨ (ls y x ∧ Lib.compareBytes x y = 1)
  | [], [] => Or.inr (Or.inl ⟨rfl, rfl⟩)
  | [], _ :: _ => Or.inl ⟨trivial, rfl⟩
  | _ :: _, [] => Or.inr (Or.inr ⟨trivial, rfl⟩)
  | a :: x, b :: y => by
    unfold Lib.compareBytes
    rcases u8_tri a b with h | rfl | h
    · rw [if_pos h]
      exact Or.inl ⟨Or.inl h, rfl⟩
    · rw [if_neg (u8_irr a), if_neg (u8_irr a)]
      rcases cmp_cases x y with ⟨g, e⟩ | ⟨rfl, e⟩ | ⟨g, e⟩
      · exact Or.inl ⟨Or.inr ⟨rfl, g⟩, e⟩
      · exact Or.inr (Or.inl ⟨rfl, e⟩)
      · exact Or.inr (Or.inr ⟨Or.inr ⟨rfl, g⟩, e⟩)
    · rw [if_neg (fun g => u8_irr a (u8_trans g h)), if_pos h]
      exact Or.inr (Or.inr ⟨Or.inl h, rfl⟩)
/-- The order of texts. -/
def lt (a b : ByteArray) : Prop := ls a.data.toList b.data.toList
theorem lt_trans {a b c : ByteArray} (h : lt a b) (g : lt b c) : lt a c := ls_trans h g
theorem lt_irr (a : ByteArray) : ¬ lt a a := ls_irr _
theorem lt_bytes (a b : ByteArray) : Op.bytesLess a.toList b.toList = true ↔ lt a b := by
  rw [ByteArray.toList_eq, ByteArray.toList_eq]
  exact ls_bytes _ _
theorem cmp3 (a b : ByteArray) : (lt a b ∧ strings_Compare.f a b = some (-1)) ∨ (a = b ∧ strings_Compare.f a b = some 0) ∨ (lt b a ∧ strings_Compare.f a b = some 1) := by
  unfold strings_Compare.f
  rcases cmp_cases a.data.toList b.data.toList with ⟨h, e⟩ | ⟨h, e⟩ | ⟨h, e⟩
  · exact Or.inl ⟨h, by rw [e]⟩
  · exact Or.inr (Or.inl ⟨ByteArray.ext (Array.toList_inj.1 h), by rw [e]⟩)
  · exact Or.inr (Or.inr ⟨h, by rw [e]⟩)
theorem tl_inj (a b : ByteArray) : a.toList = b.toList ↔ a = b := by
  constructor
  · intro h
    rw [ByteArray.toList_eq, ByteArray.toList_eq] at h
    exact ByteArray.ext (Array.toList_inj.1 h)
  · rintro rfl
    rfl
/-! searching -/
theorem half_sum (a b : Nat) (h : a + b ≤ 1000000000000) : wrap64 (IntKind.u64.wrap (wrap64 ((a : Int) + (b : Int))) / 2) = (((a + b) / 2 : Nat) : Int) := by
  rw [wr ((a : Int) + (b : Int)) (by omega)]
  have e : IntKind.u64.wrap ((a : Int) + (b : Int)) = (a : Int) + (b : Int) := by
    simp [IntKind.wrap, IntKind.bits, IntKind.signed]
    omega
  rw [e, wr _ (by omega)]
  omega
theorem cmp_A (y : S51) (n : ByteArray) : (lt y.f0 n ∧ ledger_book_account_1.f y.f0 y.f1.f0 y.f1.f1 y.f1.f2 y.f2.f0 y.f2.f1 y.f2.f2 n = some (-1)) ∨ (y.f0 = n ∧ ledger_book_account_1.f y.f0 y.f1.f0 y.f1.f1 y.f1.f2 y.f2.f0 y.f2.f1 y.f2.f2 n = some 0) ∨ (lt n y.f0 ∧ ledger_book_account_1.f y.f0 y.f1.f0 y.f1.f1 y.f1.f2 y.f2.f0 y.f2.f1 y.f2.f2 n = some 1) := by
  unfold ledger_book_account_1.f
  rcases cmp3 y.f0 n with ⟨h, e⟩ | ⟨h, e⟩ | ⟨h, e⟩
  · exact Or.inl ⟨h, by rw [e]; rfl⟩
  · exact Or.inr (Or.inl ⟨h, by rw [e]; rfl⟩)
  · exact Or.inr (Or.inr ⟨h, by rw [e]; rfl⟩)
def CutA (l : List S51) (n : ByteArray) (j : Nat) : Prop := j ≤ l.length ∧ (∀ i : Nat, i < j → lt (rd_T51 l (i : Int)).f0 n) ∧ (∀ i : Nat, j ≤ i → i < l.length → ¬ lt (rd_T51 l (i : Int)).f0 n)
def SortedA (l : List S51) : Prop := ∀ i j : Nat, i < j → j < l.length → lt (rd_T51 l (i : Int)).f0 (rd_T51 l (j : Int)).f0
theorem search_A (l : List S51) (n : ByteArray) (hl : l.length ≤ 100000000000) (hs : SortedA l) (d : Nat) : ∀ a b : Nat, b - a = d → a ≤ b → b ≤ l.length → (∀ i : Nat, i < a → lt (rd_T51 l (i : Int)).f0 n) → (∀ i : Nat, b ≤ i → i < l.length → ¬ lt (rd_T51 l (i : Int)).f0 n) →
    ∃ j f, CutA l n j ∧ (f = true ↔ j < l.length ∧ (rd_T51 l (j : Int)).f0 = n) ∧ Ev (fun k => api_Account_string.l0 k l n (l.length : Int) (a : Int) (b : Int)) ((j : Int), f) := by
  induction d using Nat.strongRecOn with
  | _ d ih =>
    intro a b hd hab hbl h1 h2
    by_cases c : a < b
    · have hh := half_sum a b (by omega)
      by_cases c2 : lt (rd_T51 l (((a + b) / 2 : Nat) : Int)).f0 n
      · obtain ⟨j, f, hj, hjf, hf⟩ := ih (b - ((a + b) / 2 + 1)) (by omega) ((a + b) / 2 + 1) b rfl (by omega) hbl (fun i hi => by
          rcases Nat.lt_or_ge i ((a + b) / 2) with q | q
          · exact lt_trans (hs i ((a + b) / 2) q (by omega)) c2
          · have : i = (a + b) / 2 := by omega
            rw [this]
            exact c2) h2
        refine ⟨j, f, hj, hjf, Ev.step (fun k => by rw [api_Account_string.l0]) (ev_pos (by omega) ?_)⟩
        rw [hh]
        refine ev_pos (by omega) (ev_pos (by omega) ?_)
        have hc := cmp_A (rd_T51 l (((a + b) / 2 : Nat) : Int)) n
        rcases hc with ⟨_, e⟩ | ⟨h, _⟩ | ⟨h, _⟩
        · rw [e]
          simp only [Option.bind_some]
          refine ev_pos (by decide) ?_
          rw [wr _ (by omega)]
          exact hf
        · exact absurd c2 (by rw [h]; exact lt_irr n)
        · exact absurd (lt_trans c2 h) (lt_irr _)
      · obtain ⟨j, f, hj, hjf, hf⟩ := ih ((a + b) / 2 - a) (by omega) a ((a + b) / 2) rfl (by omega) (by omega) h1 (fun i hi hi2 => by
          rcases Nat.lt_or_ge ((a + b) / 2) i with q | q
          · exact fun g => c2 (lt_trans (hs ((a + b) / 2) i q hi2) g)
          · have : i = (a + b) / 2 := by omega
            rw [this]
            exact c2)
        refine ⟨j, f, hj, hjf, Ev.step (fun k => by rw [api_Account_string.l0]) (ev_pos (by omega) ?_)⟩
        rw [hh]
        refine ev_pos (by omega) (ev_pos (by omega) ?_)
        have hc := cmp_A (rd_T51 l (((a + b) / 2 : Nat) : Int)) n
        rcases hc with ⟨h, _⟩ | ⟨_, e⟩ | ⟨_, e⟩
        · exact absurd h c2
        · rw [e]
          simp only [Option.bind_some]
          exact ev_neg (by decide) hf
        · rw [e]
          simp only [Option.bind_some]
          exact ev_neg (by decide) hf
    · have : a = b := by omega
      subst this
      have hc : CutA l n a := ⟨hbl, h1, h2⟩
      by_cases c3 : a < l.length
      · have hq := cmp_A (rd_T51 l (a : Int)) n
        rcases hq with ⟨h, _⟩ | ⟨h, e⟩ | ⟨h, e⟩
        · exact absurd h (h2 a (Nat.le_refl _) c3)
        · refine ⟨a, true, hc, ⟨fun _ => ⟨c3, h⟩, fun _ => rfl⟩, Ev.step (fun k => by rw [api_Account_string.l0]) (ev_neg (by omega) (ev_pos (by omega) (ev_pos (by omega) (ev_pos (by omega) ?_))))⟩
          rw [e]
          exact Ev.now _
        · refine ⟨a, false, hc, ⟨fun z => (by cases z), fun z => absurd h (by rw [z.2]; exact lt_irr n)⟩, Ev.step (fun k => by rw [api_Account_string.l0]) (ev_neg (by omega) (ev_pos (by omega) (ev_pos (by omega) (ev_pos (by omega) ?_))))⟩
          rw [e]
          exact Ev.now _
      · exact ⟨a, false, hc, ⟨fun z => (by cases z), fun z => absurd z.1 c3⟩, Ev.step (fun k => by rw [api_Account_string.l0]) (ev_neg (by omega) (ev_neg (by omega) (Ev.now _)))⟩
/-- Where a name belongs, and whether it is there. -/
theorem find_A (l0 : List S51) (l1 : List S64) (n : ByteArray) (hl : l0.length ≤ 100000000000) (hs : SortedA l0) : ∃ j f, CutA l0 n j ∧ (f = true ↔ j < l0.length ∧ (rd_T51 l0 (j : Int)).f0 = n) ∧ Ev (fun k => ledger_book_account.f k l0 l1 n) ((j : Int), f) := by
  obtain ⟨j, f, hj, hjf, hf⟩ := search_A l0 n hl hs l0.length 0 l0.length rfl (Nat.zero_le _) (Nat.le_refl _) (fun i hi => by omega) (fun i hi h2 => by omega)
  exact ⟨j, f, hj, hjf, Ev.congr (fun k => rfl) (Ev.bind (a := ((j : Int), f)) (f := fun _ (t : Int × Bool) => some (t.1, t.2)) hf (Ev.now _))⟩
theorem cmp_M (y : S64) (n : ByteArray) : (lt y.f0 n ∧ ledger_book_mark_1.f y.f0 y.f1.f0 y.f1.f1 y.f1.f2 y.f2 n = some (-1)) ∨ (y.f0 = n ∧ ledger_book_mark_1.f y.f0 y.f1.f0 y.f1.f1 y.f1.f2 y.f2 n = some 0) ∨ (lt n y.f0 ∧ ledger_book_mark_1.f y.f0 y.f1.f0 y.f1.f1 y.f1.f2 y.f2 n = some 1) := by
  unfold ledger_book_mark_1.f
  rcases cmp3 y.f0 n with ⟨h, e⟩ | ⟨h, e⟩ | ⟨h, e⟩
  · exact Or.inl ⟨h, by rw [e]; rfl⟩
  · exact Or.inr (Or.inl ⟨h, by rw [e]; rfl⟩)
  · exact Or.inr (Or.inr ⟨h, by rw [e]; rfl⟩)
def CutM (l : List S64) (n : ByteArray) (j : Nat) : Prop := j ≤ l.length ∧ (∀ i : Nat, i < j → lt (rd_T64 l (i : Int)).f0 n) ∧ (∀ i : Nat, j ≤ i → i < l.length → ¬ lt (rd_T64 l (i : Int)).f0 n)
def SortedM (l : List S64) : Prop := ∀ i j : Nat, i < j → j < l.length → lt (rd_T64 l (i : Int)).f0 (rd_T64 l (j : Int)).f0
theorem search_M (l : List S64) (n : ByteArray) (hl : l.length ≤ 100000000000) (hs : SortedM l) (d : Nat) : ∀ a b : Nat, b - a = d → a ≤ b → b ≤ l.length → (∀ i : Nat, i < a → lt (rd_T64 l (i : Int)).f0 n) → (∀ i : Nat, b ≤ i → i < l.length → ¬ lt (rd_T64 l (i : Int)).f0 n) →
    ∃ j f, CutM l n j ∧ (f = true ↔ j < l.length ∧ (rd_T64 l (j : Int)).f0 = n) ∧ Ev (fun k => api_Mark_string.l0 k l n (l.length : Int) (a : Int) (b : Int)) ((j : Int), f) := by
  induction d using Nat.strongRecOn with
  | _ d ih =>
    intro a b hd hab hbl h1 h2
    by_cases c : a < b
    · have hh := half_sum a b (by omega)
      by_cases c2 : lt (rd_T64 l (((a + b) / 2 : Nat) : Int)).f0 n
      · obtain ⟨j, f, hj, hjf, hf⟩ := ih (b - ((a + b) / 2 + 1)) (by omega) ((a + b) / 2 + 1) b rfl (by omega) hbl (fun i hi => by
          rcases Nat.lt_or_ge i ((a + b) / 2) with q | q
          · exact lt_trans (hs i ((a + b) / 2) q (by omega)) c2
          · have : i = (a + b) / 2 := by omega
            rw [this]
            exact c2) h2
        refine ⟨j, f, hj, hjf, Ev.step (fun k => by rw [api_Mark_string.l0]) (ev_pos (by omega) ?_)⟩
        rw [hh]
        refine ev_pos (by omega) (ev_pos (by omega) ?_)
        have hc := cmp_M (rd_T64 l (((a + b) / 2 : Nat) : Int)) n
        rcases hc with ⟨_, e⟩ | ⟨h, _⟩ | ⟨h, _⟩
        · rw [e]
          simp only [Option.bind_some]
          refine ev_pos (by decide) ?_
          rw [wr _ (by omega)]
          exact hf
        · exact absurd c2 (by rw [h]; exact lt_irr n)
        · exact absurd (lt_trans c2 h) (lt_irr _)
      · obtain ⟨j, f, hj, hjf, hf⟩ := ih ((a + b) / 2 - a) (by omega) a ((a + b) / 2) rfl (by omega) (by omega) h1 (fun i hi hi2 => by
          rcases Nat.lt_or_ge ((a + b) / 2) i with q | q
          · exact fun g => c2 (lt_trans (hs ((a + b) / 2) i q hi2) g)
          · have : i = (a + b) / 2 := by omega
            rw [this]
            exact c2)
        refine ⟨j, f, hj, hjf, Ev.step (fun k => by rw [api_Mark_string.l0]) (ev_pos (by omega) ?_)⟩
        rw [hh]
        refine ev_pos (by omega) (ev_pos (by omega) ?_)
        have hc := cmp_M (rd_T64 l (((a + b) / 2 : Nat) : Int)) n
        rcases hc with ⟨h, _⟩ | ⟨_, e⟩ | ⟨_, e⟩
        · exact absurd h c2
        · rw [e]
          simp only [Option.bind_some]
          exact ev_neg (by decide) hf
        · rw [e]
          simp only [Option.bind_some]
          exact ev_neg (by decide) hf
    · have : a = b := by omega
      subst this
      have hc : CutM l n a := ⟨hbl, h1, h2⟩
      by_cases c3 : a < l.length
      · have hq := cmp_M (rd_T64 l (a : Int)) n
        rcases hq with ⟨h, _⟩ | ⟨h, e⟩ | ⟨h, e⟩
        · exact absurd h (h2 a (Nat.le_refl _) c3)
        · refine ⟨a, true, hc, ⟨fun _ => ⟨c3, h⟩, fun _ => rfl⟩, Ev.step (fun k => by rw [api_Mark_string.l0]) (ev_neg (by omega) (ev_pos (by omega) (ev_pos (by omega) (ev_pos (by omega) ?_))))⟩
          rw [e]
          exact Ev.now _
        · refine ⟨a, false, hc, ⟨fun z => (by cases z), fun z => absurd h (by rw [z.2]; exact lt_irr n)⟩, Ev.step (fun k => by rw [api_Mark_string.l0]) (ev_neg (by omega) (ev_pos (by omega) (ev_pos (by omega) (ev_pos (by omega) ?_))))⟩
          rw [e]
          exact Ev.now _
      · exact ⟨a, false, hc, ⟨fun z => (by cases z), fun z => absurd z.1 c3⟩, Ev.step (fun k => by rw [api_Mark_string.l0]) (ev_neg (by omega) (ev_neg (by omega) (Ev.now _)))⟩
/-- Where a name belongs, and whether it is there. -/
theorem find_M (l0 : List S51) (l1 : List S64) (n : ByteArray) (hl : l1.length ≤ 100000000000) (hs : SortedM l1) : ∃ j f, CutM l1 n j ∧ (f = true ↔ j < l1.length ∧ (rd_T64 l1 (j : Int)).f0 = n) ∧ Ev (fun k => ledger_book_mark.f k l0 l1 n) ((j : Int), f) := by
  obtain ⟨j, f, hj, hjf, hf⟩ := search_M l1 n hl hs l1.length 0 l1.length rfl (Nat.zero_le _) (Nat.le_refl _) (fun i hi => by omega) (fun i hi h2 => by omega)
  exact ⟨j, f, hj, hjf, Ev.congr (fun k => rfl) (Ev.bind (a := ((j : Int), f)) (f := fun _ (t : Int × Bool) => some (t.1, t.2)) hf (Ev.now _))⟩
namespace C6
/-! The words of Num are used here (wr, toList_iff), nothing of numS. -/
theorem ev_pos {α : Type} {c : Prop} [Decidable c] {f g : Nat → Option α} {a b : α} (h : c) (hf : Ev f a) : Ev (fun k => if c then f k else g k) (if c then a else b) := by
  simp only [if_pos h]
  exact hf
theorem ev_neg {α : Type} {c : Prop} [Decidable c] {f g : Nat → Option α} {a b : α} (h : ¬ c) (hg : Ev g b) : Ev (fun k => if c then f k else g k) (if c then a else b) := by
  simp only [if_neg h]
  exact hg
theorem drop_bt (s : ByteArray) (i : Nat) (h : i < s.size) : (bytesOf s).drop i = bt s (i : Int) :: (bytesOf s).drop (i + 1) := by
  have hl : i < (bytesOf s).length := by rw [bytesOf_length]; exact h
  rw [List.drop_eq_getElem_cons hl, ← rd_bytesOf]
  congr 1
  simp [rd, List.getD_eq_getElem?_getD, hl]
/-- May a letter stand in a name? -/
def okc (c : Int) : Bool := (decide (97 ≤ c) && decide (c ≤ 122)) || (decide (48 ≤ c) && decide (c ≤ 57))
def low (c : Int) : Bool := decide (97 ≤ c) && decide (c ≤ 122)
def nameB (s : ByteArray) : Bool := decide (1 ≤ s.size ∧ s.size ≤ 16) && (low (bt s 0) && (bytesOf s).all okc)
theorem empty_iff (s : ByteArray) : s.toList = ([] : List UInt8) ↔ s.size = 0 := by
  have h1 : s.toList = ([] : List UInt8) ↔ s.toList = ByteArray.empty.toList := by rw [show ByteArray.empty.toList = ([] : List UInt8) from by decide +kernel]
  rw [h1, toList_iff]
  constructor
  · intro h; rw [h]; rfl
  · intro h
    apply bytesOf_inj
    rw [bytesOf_empty]
    exact List.eq_nil_of_length_eq_zero (by rw [bytesOf_length, h])
theorem name_step (c : Int) (n : Option Bool) : (if c < 97 then (if c < 48 then some false else (if c > 57 then some false else n)) else (if c > 122 then (if c < 48 then some false else (if c > 57 then some false else n)) else n)) = if okc c = true then n else some false := by
  by_cases h1 : c < 97 <;> by_cases h2 : c < 48 <;> by_cases h3 : c > 57 <;> by_cases h4 : c > 122 <;> simp [okc, h1, h2, h3, h4] <;> omega
theorem name_loop (s : ByteArray) (hs : s.size ≤ 1000) (d : Nat) : ∀ i : Nat, i + d = s.size → Ev (fun k => act_Name.l0 k s (s.size : Int) (i : Int)) (((bytesOf s).drop i).all okc) := by
  induction d with
  | zero =>
    intro i hi
    refine Ev.step (f := fun _ => some (((bytesOf s).drop i).all okc)) (fun k => ?_) (Ev.now _)
    rw [act_Name.l0, if_neg (by omega), List.drop_eq_nil_of_le (by rw [bytesOf_length]; omega)]
    rfl
  | succ d ih =>
    intro i hi
    rw [drop_bt s i (by omega), List.all_cons]
    by_cases c : okc (bt s (i : Int)) = true
    · rw [c, Bool.true_and]
      refine Ev.step (fun k => ?_) (ih (i + 1) (by omega))
      rw [act_Name.l0, if_pos (by omega), if_pos (by omega), if_pos (by omega), name_step, if_pos c, wr _ (by omega)]
      rfl
    · rw [show okc (bt s (i : Int)) = false by simpa using c, Bool.false_and]
      refine Ev.step (f := fun _ => some false) (fun k => ?_) (Ev.now _)
      rw [act_Name.l0, if_pos (by omega), if_pos (by omega), if_pos (by omega), name_step, if_neg c]
theorem name_ev (s : ByteArray) : Ev (fun k => act_Name.f k s) (nameB s) := by
  have bad : Ev (fun k => act_Name.j0 k s true) false := Ev.step (f := fun _ => some false) (fun k => by rw [act_Name.j0, if_pos rfl]) (Ev.now _)
  unfold act_Name.f
  by_cases c1 : s.toList = ([] : List UInt8)
  · have h0 := (empty_iff s).1 c1
    rw [show nameB s = false by unfold nameB; rw [decide_eq_false (by omega), Bool.false_and]]
    exact Ev.congr (fun k => if_pos c1) bad
  have h0 : s.size ≠ 0 := fun h => c1 ((empty_iff s).2 h)
  refine Ev.congr (fun k => if_neg c1) ?_
  by_cases c2 : (s.size : Int) > 16
  · rw [show nameB s = false by unfold nameB; rw [decide_eq_false (by omega), Bool.false_and]]
    exact Ev.congr (fun k => if_pos c2) bad
  have e : nameB s = (low (bt s 0) && (bytesOf s).all okc) := by unfold nameB; rw [decide_eq_true (by omega), Bool.true_and]
  rw [e]
  refine Ev.congr (fun k => by rw [if_neg c2, if_pos (by omega)]) ?_
  by_cases c3 : bt s 0 < 97
  · rw [show low (bt s 0) = false by unfold low; rw [decide_eq_false (by omega), Bool.false_and], Bool.false_and]
    exact Ev.congr (fun k => if_pos c3) bad
  refine Ev.congr (fun k => if_neg c3) ?_
  by_cases c4 : bt s 0 > 122
  · rw [show low (bt s 0) = false by unfold low; rw [decide_eq_false (show ¬ bt s 0 ≤ 122 by omega), Bool.and_false], Bool.false_and, decide_eq_true c4]
    exact bad
  rw [show low (bt s 0) = true by unfold low; rw [decide_eq_true (by omega), decide_eq_true (by omega)]; rfl, Bool.true_and, decide_eq_false c4]
  have := name_loop s (by omega) s.size 0 (by omega)
  rw [List.drop_zero] at this
  refine Ev.step (fun k => ?_) this
  rw [act_Name.j0, if_neg (by decide)]
  rfl
def checkI (kind : Int) (nm : ByteArray) (a : Int) : Int := if kind < 1 then 60 else if kind > 4 then 60 else if nameB nm = true then (if a < 1 then 60 else if a ≤ 1000000000000000 then 0 else 60) else 60
theorem check_ev (kind : Int) (nm : ByteArray) (a : Int) : Ev (fun k => act_Check.f k kind nm a) (checkI kind nm a) := by
  unfold act_Check.f checkI
  by_cases c1 : kind < 1
  · exact ev_pos c1 (Ev.now _)
  refine ev_neg c1 ?_
  by_cases c2 : kind > 4
  · exact ev_pos c2 (Ev.now _)
  refine ev_neg c2 ?_
  refine Ev.bind (name_ev nm) ?_
  by_cases c3 : nameB nm = true
  · refine ev_pos c3 ?_
    by_cases c4 : a < 1
    · exact ev_pos c4 (Ev.now _)
    refine ev_neg c4 ?_
    unfold cash_Fits.f
    rw [if_pos (by omega), Option.bind_some]
    by_cases c5 : a ≤ 1000000000000000
    · rw [if_pos c5, decide_eq_true c5]
      exact Ev.congr (fun k => if_pos rfl) (Ev.now _)
    · rw [if_neg c5, decide_eq_false c5]
      exact Ev.congr (fun k => if_neg (by decide)) (Ev.now _)
  · exact ev_neg c3 (Ev.now _)
theorem check_zero (kind : Int) (nm : ByteArray) (a : Int) (h : checkI kind nm a = 0) : 1 ≤ kind ∧ kind ≤ 4 ∧ 1 ≤ a ∧ a ≤ 1000000000000000 := by
  unfold checkI at h
  by_cases c1 : kind < 1
  · rw [if_pos c1] at h; omega
  by_cases c2 : kind > 4
  · rw [if_neg c1, if_pos c2] at h; omega
  rw [if_neg c1, if_neg c2] at h
  by_cases c3 : nameB nm = true
  · rw [if_pos c3] at h
    by_cases c4 : a < 1
    · rw [if_pos c4] at h; omega
    rw [if_neg c4] at h
    by_cases c5 : a ≤ 1000000000000000
    · omega
    · rw [if_neg c5] at h; omega
  · rw [if_neg c3] at h; omega
/-- May a pot be? -/
def Pot (h i o : Int) : Prop := 0 ≤ i ∧ i ≤ h ∧ 0 ≤ o ∧ h + o ≤ 1000000000000000
instance (h i o : Int) : Decidable (Pot h i o) := by unfold Pot; exact inferInstance
def potI (h i o : Int) : Int := if Pot h i o then 0 else 2
theorem pot_is (h i o : Int) (ho : -9223372036854775808 ≤ o ∧ o ≤ 9223372036854775807) : pot_Check.f h i o = some (potI h i o) := by
  unfold pot_Check.f potI
  by_cases c1 : i < 0
  · rw [if_pos c1, if_neg (by unfold Pot; omega)]
  by_cases c2 : i > h
  · rw [if_neg c1, if_pos c2, if_neg (by unfold Pot; omega)]
  by_cases c3 : o < 0
  · rw [if_neg c1, if_neg c2, if_pos c3, if_neg (by unfold Pot; omega)]
  by_cases c4 : h > 1000000000000000
  · rw [if_neg c1, if_neg c2, if_neg c3, if_pos c4, if_neg (by unfold Pot; omega)]
  rw [if_neg c1, if_neg c2, if_neg c3, if_neg c4, wr (1000000000000000 - h) (by omega)]
  by_cases c5 : o > 1000000000000000 - h
  · rw [if_pos c5, if_neg (by unfold Pot; omega)]
  · rw [if_neg c5, if_pos (by unfold Pot; omega)]
def mayI (n : ByteArray) (h i o h2 i2 o2 : Int) : Int := if nameB n = true ∧ Pot h i o ∧ Pot h2 i2 o2 then 0 else 2
theorem may_ev (n : ByteArray) (h i o h2 i2 o2 : Int) (b1 : -9223372036854775808 ≤ o ∧ o ≤ 9223372036854775807) (b2 : -9223372036854775808 ≤ o2 ∧ o2 ≤ 9223372036854775807) : Ev (fun k => act_May.f k n h i o h2 i2 o2) (mayI n h i o h2 i2 o2) := by
  unfold act_May.f
  refine Ev.bind (name_ev n) ?_
  by_cases c1 : nameB n = true
  · refine Ev.congr (fun k => if_pos c1) ?_
    rw [pot_is h i o b1, pot_is h2 i2 o2 b2]
    simp only [Option.bind_some]
    unfold potI
    by_cases c2 : Pot h i o
    · rw [if_pos c2]
      refine Ev.congr (fun k => if_pos rfl) ?_
      by_cases c3 : Pot h2 i2 o2
      · rw [if_pos c3, show mayI n h i o h2 i2 o2 = 0 from if_pos ⟨c1, c2, c3⟩]
        exact Ev.congr (fun k => if_pos rfl) (Ev.now _)
      · rw [if_neg c3, show mayI n h i o h2 i2 o2 = 2 from if_neg (fun h => c3 h.2.2)]
        exact Ev.congr (fun k => if_neg (by decide)) (Ev.now _)
    · rw [if_neg c2, show mayI n h i o h2 i2 o2 = 2 from if_neg (fun h => c2 h.2.1)]
      exact Ev.congr (fun k => if_neg (by decide)) (Ev.now _)
  · rw [show mayI n h i o h2 i2 o2 = 2 from if_neg (fun h => c1 h.1)]
    exact Ev.congr (fun k => if_neg c1) (Ev.now _)
def ways (kind : Int) : Int × Int := if kind = 3 then (-1, 1) else if kind = 1 then (-1, 0) else if kind = 4 then (1, -1) else if kind = 2 then (1, 0) else (0, 0)
theorem ways_is (kind : Int) : act_ways.f kind = some (ways kind) := by
  unfold act_ways.f ways
  by_cases c1 : kind = 3
  · rw [if_pos c1, if_pos c1]
  by_cases c2 : kind = 1
  · rw [if_neg c1, if_neg c1, if_pos c2, if_pos c2]
  by_cases c3 : kind = 4
  · rw [if_neg c1, if_neg c1, if_neg c2, if_neg c2, if_pos c3, if_pos c3]
  by_cases c4 : kind = 2
  · rw [if_neg c1, if_neg c1, if_neg c2, if_neg c2, if_neg c3, if_neg c3, if_pos c4, if_pos c4]
  · rw [if_neg c1, if_neg c1, if_neg c2, if_neg c2, if_neg c3, if_neg c3, if_neg c4, if_neg c4]
def DL (kind : Int) (nm : ByteArray) (a : Int) : Int × Int := if checkI kind nm a = 0 then ((ways kind).1 * a, (ways kind).2 * a) else (0, 0)
theorem ways_one (kind : Int) : -1 ≤ (ways kind).1 ∧ (ways kind).1 ≤ 1 ∧ -1 ≤ (ways kind).2 ∧ (ways kind).2 ≤ 1 := by
  unfold ways
  repeat' split
  all_goals simp
theorem times_wr (w a : Int) (h : -1 ≤ w ∧ w ≤ 1) (ha : 1 ≤ a ∧ a ≤ 1000000000000000) : wrap64 (w * a) = w * a := by
  rcases (show w = -1 ∨ w = 0 ∨ w = 1 by omega) with rfl | rfl | rfl
  · rw [wr _ (by omega)]
  · rw [wr _ (by omega)]
  · rw [wr _ (by omega)]
theorem delta_ev (kind : Int) (nm : ByteArray) (a : Int) : Ev (fun k => act_Delta.f k kind nm a) (DL kind nm a) := by
  unfold act_Delta.f DL
  refine Ev.bind (check_ev kind nm a) ?_
  by_cases c : checkI kind nm a = 0
  · refine ev_pos c ?_
    have hw := ways_one kind
    have hz := check_zero kind nm a c
    rw [ways_is]
    refine Ev.congr (f := fun _ => some ((ways kind).1 * a, (ways kind).2 * a)) (fun k => ?_) (Ev.now _)
    rw [Option.bind_some, times_wr _ a ⟨hw.1, hw.2.1⟩ ⟨hz.2.2.1, hz.2.2.2⟩, times_wr _ a ⟨hw.2.2.1, hw.2.2.2⟩ ⟨hz.2.2.1, hz.2.2.2⟩]
  · exact ev_neg c (Ev.now _)
end C6
/-! what a ledger must be -/
def rng (n : Int) : Prop := -9223372036854775808 ≤ n ∧ n ≤ 9223372036854775807
def RngA (x : S51) : Prop := rng x.f1.f0 ∧ rng x.f1.f1 ∧ rng x.f1.f2 ∧ rng x.f2.f0 ∧ rng x.f2.f1 ∧ rng x.f2.f2
def okA (x : S51) : Prop := C6.mayI x.f0 x.f1.f0 x.f1.f1 x.f1.f2 x.f2.f0 x.f2.f1 x.f2.f2 = 0
def GoodA (A : List S51) (i : Nat) : Prop := okA (rd_T51 A (i : Int)) ∧ (0 < i → lt (rd_T51 A ((i : Int) - 1)).f0 (rd_T51 A (i : Int)).f0)
def keyB (k : ByteArray) : Prop := 1 ≤ k.size ∧ k.size ≤ 100
def okM (m : S64) : Prop := keyB m.f0 ∧ C6.checkI m.f1.f0 m.f1.f1 m.f1.f2 = 0 ∧ 1 ≤ m.f2 ∧ m.f2 ≤ 3
def hasA (A : List S51) (n : ByteArray) : Prop := ∃ j : Nat, j < A.length ∧ (rd_T51 A (j : Int)).f0 = n
def GoodM (A : List S51) (M : List S64) (i : Nat) : Prop := okM (rd_T64 M (i : Int)) ∧ (0 < i → lt (rd_T64 M ((i : Int) - 1)).f0 (rd_T64 M (i : Int)).f0) ∧ hasA A (rd_T64 M (i : Int)).f1.f1
theorem key_is (k : ByteArray) : (keyB k ∧ ledger_key.f k = some true) ∨ (¬ keyB k ∧ ledger_key.f k = some false) := by
  unfold ledger_key.f keyB
  by_cases c : k.toList = ([] : List UInt8)
  · rw [if_pos c]
    rw [C6.empty_iff] at c
    exact Or.inr ⟨by omega, rfl⟩
  · rw [if_neg c]
    rw [C6.empty_iff] at c
    by_cases c2 : (k.size : Int) ≤ 100
    · exact Or.inl ⟨by omega, by rw [decide_eq_true c2]⟩
    · exact Or.inr ⟨by omega, by rw [decide_eq_false c2]⟩
theorem mayI_two (x : S51) (h : ¬ okA x) : C6.mayI x.f0 x.f1.f0 x.f1.f1 x.f1.f2 x.f2.f0 x.f2.f1 x.f2.f2 = 2 := by
  unfold okA at h
  unfold C6.mayI at h ⊢
  split
  · rename_i c
    rw [if_pos c] at h
    exact absurd rfl h
  · rfl
/-- The program's loop over accounts. -/
theorem loopA (A : List S51) (M : List S64) (hA : A.length ≤ 1000) (hR : ∀ i : Nat, i < A.length → RngA (rd_T51 A (i : Int))) (E : Int) (hE : (∀ i, i < A.length → GoodA A i) → Ev (fun k => ledger_May.l1 k M (M.length : Int) 0 A M) E) (d : Nat) : ∀ i : Nat, i + d = A.length → (∀ j, j < i → GoodA A j) →
    ((∀ j, j < A.length → GoodA A j) → Ev (fun k => ledger_May.l0 k A (A.length : Int) (i : Int) A M) E) ∧ ((∃ j, j < A.length ∧ ¬ GoodA A j) → Ev (fun k => ledger_May.l0 k A (A.length : Int) (i : Int) A M) 2) := by
  induction d with
  | zero =>
    intro i hi hp
    refine ⟨fun h => Ev.step (fun k => by rw [ledger_May.l0]) (ev_neg (by omega) (hE h)), ?_⟩
    rintro ⟨j, hj, hn⟩
    exact absurd (hp j (by omega)) hn
  | succ d ih =>
    intro i hi hp
    have hr := hR i (by omega)
    have he := C6.may_ev (rd_T51 A (i : Int)).f0 (rd_T51 A (i : Int)).f1.f0 (rd_T51 A (i : Int)).f1.f1 (rd_T51 A (i : Int)).f1.f2 (rd_T51 A (i : Int)).f2.f0 (rd_T51 A (i : Int)).f2.f1 (rd_T51 A (i : Int)).f2.f2 hr.2.2.1 hr.2.2.2.2.2
    by_cases c : GoodA A i
    · have h1 := ih (i + 1) (by omega) (fun j hj => by
        rcases Nat.lt_or_ge j i with q | q
        · exact hp j q
        · have : j = i := by omega
          rw [this]
          exact c)
      have hstep : ∀ r, Ev (fun k => ledger_May.l0 k A (A.length : Int) ((i + 1 : Nat) : Int) A M) r → Ev (fun k => ledger_May.l0 k A (A.length : Int) (i : Int) A M) r := by
        intro r hr2
        refine Ev.step (fun k => by rw [ledger_May.l0]) (ev_pos (by omega) ?_)
        refine ev_pos (by omega) ?_
        refine ev_pos (by omega) ?_
        refine Ev.bind he ?_
        refine ev_pos c.1 ?_
        have hw : wrap64 ((i : Int) + 1) = ((i + 1 : Nat) : Int) := by rw [wr _ (by omega)]; omega
        rw [hw]
        by_cases c0 : 0 < i
        · refine ev_pos (by omega) ?_
          rw [wr ((i : Int) - 1) (by omega)]
          refine ev_pos (by omega) ?_
          refine ev_pos (by omega) ?_
          exact ev_pos ((lt_bytes _ _).2 (c.2 c0)) hr2
        · exact ev_neg (by omega) hr2
      exact ⟨fun h => hstep _ (h1.1 h), fun h => hstep _ (h1.2 h)⟩
    · refine ⟨fun h => absurd (h i (by omega)) c, fun _ => ?_⟩
      refine Ev.step (fun k => by rw [ledger_May.l0]) (ev_pos (by omega) ?_)
      refine ev_pos (by omega) ?_
      refine ev_pos (by omega) ?_
      refine Ev.bind he ?_
      by_cases c1 : okA (rd_T51 A (i : Int))
      · refine ev_pos c1 ?_
        have c0 : 0 < i := by
          rcases Nat.eq_zero_or_pos i with q | q
          · exact absurd ⟨c1, fun h => absurd h (by omega)⟩ c
          · exact q
        refine ev_pos (by omega) ?_
        rw [wr ((i : Int) - 1) (by omega)]
        refine ev_pos (by omega) ?_
        refine ev_pos (by omega) ?_
        exact ev_neg (fun h => c ⟨c1, fun _ => (lt_bytes _ _).1 h⟩) (Ev.now _)
      · rw [mayI_two _ c1]
        exact ev_neg (by decide) (Ev.now _)
theorem sortedA_of (A : List S51) (h : ∀ j, j < A.length → GoodA A j) : SortedA A := by
  intro i j hij hj
  induction j with
  | zero => omega
  | succ j ih =>
    have h1 := (h (j + 1) hj).2 (by omega)
    rw [show (((j + 1 : Nat) : Int) - 1) = (j : Int) by omega] at h1
    rcases Nat.lt_or_ge i j with q | q
    · exact lt_trans (ih q (by omega)) h1
    · have : i = j := by omega
      rw [this]
      exact h1
theorem cut_has (A : List S51) (hs : SortedA A) (n : ByteArray) (j : Nat) (hc : CutA A n j) : (j < A.length ∧ (rd_T51 A (j : Int)).f0 = n) ↔ hasA A n := by
  constructor
  · exact fun h => ⟨j, h⟩
  · rintro ⟨i, hi, he⟩
    rcases Nat.lt_trichotomy i j with q | rfl | q
    · exact absurd (hc.2.1 i q) (by rw [he]; exact lt_irr n)
    · exact ⟨hi, he⟩
    · exact absurd (by rw [← he]; exact hs j i q hi) (hc.2.2 j (Nat.le_refl _) (by omega))
/-- The program's loop over marks. -/
theorem j3_true (A : List S51) (M : List S64) (i : Int) (a : ByteArray) (b : Int) (c : ByteArray) (d e : Int) : Ev (fun k => ledger_May.j3 k M (M.length : Int) i true A M a b c d e) 2 :=
  Ev.step (fun k => by rw [ledger_May.j3]) (ev_pos rfl (Ev.now _))
theorem loopM (A : List S51) (M : List S64) (hA : A.length ≤ 1000) (hM : M.length ≤ 1000) (hs : SortedA A) (E : Int) (hE : (∀ j, j < M.length → GoodM A M j) → Ev (fun k => ledger_May.e2 k A M) E) (d : Nat) : ∀ i : Nat, i + d = M.length → (∀ j, j < i → GoodM A M j) →
    ((∀ j, j < M.length → GoodM A M j) → Ev (fun k => ledger_May.l1 k M (M.length : Int) (i : Int) A M) E) ∧ ((∃ j, j < M.length ∧ ¬ GoodM A M j) → Ev (fun k => ledger_May.l1 k M (M.length : Int) (i : Int) A M) 2) := by
  induction d with
  | zero =>
    intro i hi hp
    refine ⟨fun h => Ev.step (fun k => by rw [ledger_May.l1]) (ev_neg (by omega) (hE h)), ?_⟩
    rintro ⟨j, hj, hn⟩
    exact absurd (hp j (by omega)) hn
  | succ d ih =>
    intro i hi hp
    have hck := C6.check_ev (rd_T64 M (i : Int)).f1.f0 (rd_T64 M (i : Int)).f1.f1 (rd_T64 M (i : Int)).f1.f2
    obtain ⟨j, f, hcut, hf, hfind⟩ := find_A A M (rd_T64 M (i : Int)).f1.f1 (by omega) hs
    have hfh : f = true ↔ hasA A (rd_T64 M (i : Int)).f1.f1 := hf.trans (cut_has A hs _ j hcut)
    have hw : wrap64 ((i : Int) + 1) = ((i + 1 : Nat) : Int) := by rw [wr _ (by omega)]; omega
    -- behind the order's test
    have htail : ∀ r, (okM (rd_T64 M (i : Int)) → hasA A (rd_T64 M (i : Int)).f1.f1 → Ev (fun k => ledger_May.l1 k M (M.length : Int) ((i + 1 : Nat) : Int) A M) r) → (¬ (okM (rd_T64 M (i : Int)) ∧ hasA A (rd_T64 M (i : Int)).f1.f1) → r = 2) → keyB (rd_T64 M (i : Int)).f0 →
        Ev (fun k => (act_Check.f k (rd_T64 M (i : Int)).f1.f0 (rd_T64 M (i : Int)).f1.f1 (rd_T64 M (i : Int)).f1.f2).bind fun t136 => (if t136 = 0 then (if ((rd_T64 M (i : Int)).f2) < 1 then (ledger_May.j3 k M (M.length : Int) (i : Int) true A M ((rd_T64 M (i : Int)).f0) ((rd_T64 M (i : Int)).f1.f0) ((rd_T64 M (i : Int)).f1.f1) ((rd_T64 M (i : Int)).f1.f2) ((rd_T64 M (i : Int)).f2)) else (ledger_May.j3 k M (M.length : Int) (i : Int) (decide (((rd_T64 M (i : Int)).f2) > 3)) A M ((rd_T64 M (i : Int)).f0) ((rd_T64 M (i : Int)).f1.f0) ((rd_T64 M (i : Int)).f1.f1) ((rd_T64 M (i : Int)).f1.f2) ((rd_T64 M (i : Int)).f2))) else (ledger_May.j3 k M (M.length : Int) (i : Int) true A M ((rd_T64 M (i : Int)).f0) ((rd_T64 M (i : Int)).f1.f0) ((rd_T64 M (i : Int)).f1.f1) ((rd_T64 M (i : Int)).f1.f2) ((rd_T64 M (i : Int)).f2)))) r := by
      intro r h1 h2 hk
      refine Ev.bind hck ?_
      by_cases c1 : C6.checkI (rd_T64 M (i : Int)).f1.f0 (rd_T64 M (i : Int)).f1.f1 (rd_T64 M (i : Int)).f1.f2 = 0
      · refine ev_pos c1 ?_
        by_cases c2 : (rd_T64 M (i : Int)).f2 < 1
        · rw [h2 (fun h => by have := h.1.2.2.1; omega)]
          exact ev_pos c2 (j3_true A M _ _ _ _ _ _)
        · refine ev_neg c2 ?_
          by_cases c3 : (rd_T64 M (i : Int)).f2 > 3
          · rw [h2 (fun h => by have := h.1.2.2.2; omega), decide_eq_true c3]
            exact j3_true A M _ _ _ _ _ _
          · rw [decide_eq_false c3]
            refine Ev.step (fun k => by rw [ledger_May.j3]) (ev_neg (by decide) ?_)
            refine Ev.bind hfind ?_
            rw [hw]
            by_cases c4 : f = true
            · exact ev_pos c4 (h1 ⟨hk, c1, by omega, by omega⟩ (hfh.1 c4))
            · rw [h2 (fun h => c4 (hfh.2 h.2))]
              exact ev_neg c4 (Ev.now _)
      · rw [h2 (fun h => c1 h.1.2.1)]
        exact ev_neg c1 (j3_true A M _ _ _ _ _ _)
    rcases key_is (rd_T64 M (i : Int)).f0 with ⟨hk, ek⟩ | ⟨hk, ek⟩
    · by_cases c : GoodM A M i
      · have h1 := ih (i + 1) (by omega) (fun j hj => by
          rcases Nat.lt_or_ge j i with q | q
          · exact hp j q
          · have : j = i := by omega
            rw [this]
            exact c)
        have hstep : ∀ r, Ev (fun k => ledger_May.l1 k M (M.length : Int) ((i + 1 : Nat) : Int) A M) r → Ev (fun k => ledger_May.l1 k M (M.length : Int) (i : Int) A M) r := by
          intro r hr2
          refine Ev.step (fun k => by rw [ledger_May.l1]) (ev_pos (by omega) ?_)
          refine ev_pos (by omega) ?_
          refine ev_pos (by omega) ?_
          rw [ek]
          simp only [Option.bind_some]
          refine ev_pos trivial ?_
          by_cases c0 : 0 < i
          · refine ev_pos (by omega) ?_
            rw [wr ((i : Int) - 1) (by omega)]
            refine ev_pos (by omega) ?_
            refine ev_pos (by omega) ?_
            exact ev_pos ((lt_bytes _ _).2 (c.2.1 c0)) (htail r (fun _ _ => hr2) (fun h => absurd ⟨c.1, c.2.2⟩ h) hk)
          · exact ev_neg (by omega) (htail r (fun _ _ => hr2) (fun h => absurd ⟨c.1, c.2.2⟩ h) hk)
        exact ⟨fun h => hstep _ (h1.1 h), fun h => hstep _ (h1.2 h)⟩
      · refine ⟨fun h => absurd (h i (by omega)) c, fun _ => ?_⟩
        refine Ev.step (fun k => by rw [ledger_May.l1]) (ev_pos (by omega) ?_)
        refine ev_pos (by omega) ?_
        refine ev_pos (by omega) ?_
        rw [ek]
        simp only [Option.bind_some]
        refine ev_pos trivial ?_
        by_cases c0 : 0 < i
        · refine ev_pos (by omega) ?_
          rw [wr ((i : Int) - 1) (by omega)]
          refine ev_pos (by omega) ?_
          refine ev_pos (by omega) ?_
          by_cases c5 : lt (rd_T64 M ((i : Int) - 1)).f0 (rd_T64 M (i : Int)).f0
          · exact ev_pos ((lt_bytes _ _).2 c5) (htail 2 (fun h1 h2 => absurd ⟨h1, fun _ => c5, h2⟩ c) (fun _ => rfl) hk)
          · exact ev_neg (fun h => c5 ((lt_bytes _ _).1 h)) (j3_true A M _ _ _ _ _ _)
        · exact ev_neg (by omega) (htail 2 (fun h1 h2 => absurd ⟨h1, fun h => absurd h c0, h2⟩ c) (fun _ => rfl) hk)
    · have hn : ¬ GoodM A M i := fun h => hk h.1.1
      refine ⟨fun h => absurd (h i (by omega)) hn, fun _ => ?_⟩
      refine Ev.step (fun k => by rw [ledger_May.l1]) (ev_pos (by omega) ?_)
      refine ev_pos (by omega) ?_
      refine ev_pos (by omega) ?_
      rw [ek]
      simp only [Option.bind_some]
      exact ev_neg (by decide) (j3_true A M _ _ _ _ _ _)
/-! what is pending -/
def addQ (q : My.Q4) (t : Int × Int) : My.Q4 := (wrap64 (q.1 + mx t.1 0), wrap64 (q.2.1 + mx (wrap64 (-t.1)) 0), wrap64 (q.2.2.1 + mx t.2 0), wrap64 (q.2.2.2 + mx (wrap64 (-t.2)) 0))
/-- What marks leave pending on an account. -/
def pendQ (n : ByteArray) : List S64 → My.Q4 → My.Q4
  | [], q => q
  | m :: r, q => pendQ n r (if m.f2 = 1 ∧ m.f1.f1 = n then addQ q (C6.DL m.f1.f0 m.f1.f1 m.f1.f2) else q)
theorem pend_ev : ∀ (M : List S64) (f : ByteArray → My.Q4), ∃ g : ByteArray → My.Q4, (∀ n, g n = pendQ n M (f n)) ∧ Ev (fun k => ledger_pending.fn k M f) g
  | [], f => ⟨f, fun _ => rfl, Ev.now _⟩
  | m :: r, f => by
    by_cases c : m.f2 = 1
    · obtain ⟨g, hg, he⟩ := pend_ev r (fun z => if z = m.f1.f1 then addQ (f m.f1.f1) (C6.DL m.f1.f0 m.f1.f1 m.f1.f2) else f z)
      refine ⟨g, fun n => ?_, ?_⟩
      · rw [hg n, pendQ]
        congr 1
        by_cases cn : n = m.f1.f1
        · rw [if_pos cn, if_pos ⟨c, cn.symm⟩, cn]
        · rw [if_neg cn, if_neg (fun h => cn h.2.symm)]
      · refine Ev.congr (fun k => by rw [ledger_pending.fn]) (ev_pos c ?_)
        exact Ev.bind (C6.delta_ev _ _ _) he
    · obtain ⟨g, hg, he⟩ := pend_ev r f
      refine ⟨g, fun n => ?_, ?_⟩
      · rw [hg n, pendQ, if_neg (fun h => c h.1)]
      · exact Ev.congr (fun k => by rw [ledger_pending.fn]) (ev_neg c he)
def potsOk (M : List S64) (x : S51) : Prop := pendQ x.f0 M (0, 0, 0, 0) = (x.f1.f1, x.f1.f2, x.f2.f1, x.f2.f2)
theorem l2_is (g : ByteArray → My.Q4) : ∀ (A : List S51), (∀ x ∈ A, x.f0.size ≤ maxLen) → ((∀ x ∈ A, g x.f0 = (x.f1.f1, x.f1.f2, x.f2.f1, x.f2.f2)) → ledger_May.l2 g A = some 0) ∧ ((∃ x ∈ A, ¬ g x.f0 = (x.f1.f1, x.f1.f2, x.f2.f1, x.f2.f2)) → ledger_May.l2 g A = some 2)
  | [], _ => ⟨fun _ => rfl, fun ⟨x, hx, _⟩ => by cases hx⟩
  | x :: r, hs => by
    have ih := l2_is g r (fun y hy => hs y (List.mem_cons_of_mem _ hy))
    rw [ledger_May.l2, if_pos (hs x List.mem_cons_self)]
    by_cases c : g x.f0 = (x.f1.f1, x.f1.f2, x.f2.f1, x.f2.f2)
    · rw [if_pos c]
      refine ⟨fun h => ih.1 (fun y hy => h y (List.mem_cons_of_mem _ hy)), ?_⟩
      rintro ⟨y, hy, hn⟩
      rcases List.mem_cons.1 hy with rfl | hy
      · exact absurd c hn
      · exact ih.2 ⟨y, hy, hn⟩
    · rw [if_neg c]
      exact ⟨fun h => absurd (h x List.mem_cons_self) c, fun _ => rfl⟩
open Classical in
theorem e2_ev (A : List S51) (M : List S64) (hA : A.length ≤ 1000000) (hM : M.length ≤ 1000000) (h1 : ∀ m ∈ M, m.f1.f1.size ≤ maxLen) (h2 : ∀ x ∈ A, x.f0.size ≤ maxLen) : Ev (fun k => ledger_May.e2 k A M) (if ∀ x ∈ A, potsOk M x then 0 else 2) := by
  obtain ⟨g, hg, he⟩ := pend_ev M (fun _ => (0, 0, 0, 0))
  unfold ledger_May.e2
  refine ev_pos ⟨hM, hA, h1⟩ ?_
  refine Ev.bind he ?_
  by_cases c : ∀ x ∈ A, potsOk M x
  · rw [if_pos c, (l2_is g A h2).1 (fun x hx => by rw [hg]; exact c x hx)]
    exact Ev.now _
  · rw [if_neg c, (l2_is g A h2).2 (by
      have ⟨x, hx⟩ := Classical.not_forall.1 c
      have ⟨hx1, hx2⟩ := Classical.not_imp.1 hx
      exact ⟨x, hx1, by rw [hg]; exact hx2⟩)]
    exact Ev.now _
theorem name_size (s : ByteArray) (h : C6.nameB s = true) : s.size ≤ maxLen := by
  unfold C6.nameB at h
  rw [Bool.and_eq_true, decide_eq_true_eq] at h
  unfold maxLen
  omega
theorem rdA_mem (A : List S51) (x : S51) (h : x ∈ A) : ∃ i : Nat, i < A.length ∧ rd_T51 A (i : Int) = x := by
  obtain ⟨i, hi, he⟩ := List.getElem_of_mem h
  exact ⟨i, hi, by rw [← ledger_May.rd A i hi]; exact he⟩
theorem rdM_get (M : List S64) (i : Nat) (h : i < M.length) : M[i] = rd_T64 M (i : Int) := by
  show _ = M.getD ((i : Int)).toNat _
  rw [Int.toNat_natCast, List.getD_eq_getElem?_getD, List.getElem?_eq_getElem h]
  rfl
theorem rdM_mem (M : List S64) (x : S64) (h : x ∈ M) : ∃ i : Nat, i < M.length ∧ rd_T64 M (i : Int) = x := by
  obtain ⟨i, hi, he⟩ := List.getElem_of_mem h
  exact ⟨i, hi, by rw [← rdM_get M i hi]; exact he⟩
theorem okA_name (x : S51) (h : okA x) : C6.nameB x.f0 = true := by
  unfold okA C6.mayI at h
  split at h
  · rename_i c
    exact c.1
  · cases h
theorem ok_checkname (kind : Int) (nm : ByteArray) (a : Int) (h : C6.checkI kind nm a = 0) : C6.nameB nm = true := by
  unfold C6.checkI at h
  split at h
  · cases h
  split at h
  · cases h
  split at h
  · assumption
  · cases h
/-- What a ledger must be. -/
def okL (A : List S51) (M : List S64) : Prop := A.length ≤ 12 ∧ M.length ≤ 500 ∧ (∀ i, i < A.length → GoodA A i) ∧ (∀ i, i < M.length → GoodM A M i) ∧ ∀ x ∈ A, potsOk M x
open Classical in
theorem pmay_ev (A : List S51) (M : List S64) (hR : ∀ i : Nat, i < A.length → RngA (rd_T51 A (i : Int))) : Ev (fun k => ledger_May.f k A M) (if okL A M then 0 else 2) := by
  unfold ledger_May.f
  have j0t : Ev (fun k => ledger_May.j0 k true A M) 2 := Ev.step (fun k => by rw [ledger_May.j0]) (ev_pos rfl (Ev.now _))
  by_cases c1 : (A.length : Int) > 12
  · rw [if_neg (fun h : okL A M => by have := h.1; omega)]
    exact ev_pos c1 j0t
  refine ev_neg c1 ?_
  by_cases c2 : (M.length : Int) > 500
  · rw [if_neg (fun h : okL A M => by have := h.2.1; omega), decide_eq_true c2]
    exact j0t
  rw [decide_eq_false c2]
  refine Ev.step (fun k => by rw [ledger_May.j0]) (ev_neg (by decide) ?_)
  by_cases cA : ∀ i, i < A.length → GoodA A i
  · have hs := sortedA_of A cA
    by_cases cM : ∀ i, i < M.length → GoodM A M i
    · have he := e2_ev A M (by omega) (by omega) (fun m hm => by
        obtain ⟨i, hi, rfl⟩ := rdM_mem M m hm
        exact name_size _ (ok_checkname _ _ _ (cM i hi).1.2.1)) (fun x hx => by
        obtain ⟨i, hi, rfl⟩ := rdA_mem A x hx
        exact name_size _ (okA_name _ (cA i hi).1))
      have hl := (loopM A M (by omega) (by omega) hs _ (fun _ => he) M.length 0 (by omega) (fun j hj => by omega)).1 cM
      have hr := (loopA A M (by omega) hR _ (fun _ => hl) A.length 0 (by omega) (fun j hj => by omega)).1 cA
      by_cases cp : ∀ x ∈ A, potsOk M x
      · rw [if_pos cp] at hr
        rw [if_pos ⟨by omega, by omega, cA, cM, cp⟩]
        exact hr
      · rw [if_neg cp] at hr
        rw [if_neg (fun h : okL A M => cp h.2.2.2.2)]
        exact hr
    · rw [if_neg (fun h : okL A M => cM h.2.2.2.1)]
      have hb : ∃ j, j < M.length ∧ ¬ GoodM A M j := by
        have ⟨x, hx⟩ := Classical.not_forall.1 cM
        have ⟨hx1, hx2⟩ := Classical.not_imp.1 hx
        exact ⟨x, hx1, hx2⟩
      refine (loopA A M (by omega) hR 2 (fun _ => ?_) A.length 0 (by omega) (fun j hj => by omega)).1 cA
      exact (loopM A M (by omega) (by omega) hs 2 (fun h => absurd h cM) M.length 0 (by omega) (fun j hj => by omega)).2 hb
  · rw [if_neg (fun h : okL A M => cA h.2.2.1)]
    have hb : ∃ j, j < A.length ∧ ¬ GoodA A j := by
      have ⟨x, hx⟩ := Classical.not_forall.1 cA
      have ⟨hx1, hx2⟩ := Classical.not_imp.1 hx
      exact ⟨x, hx1, hx2⟩
    exact (loopA A M (by omega) hR 2 (fun h => absurd h cA) A.length 0 (by omega) (fun j hj => by omega)).2 hb
/-! amounts; the words of Num are used here (numS: none) -/
def dl (m : S64) : Int × Int := C6.DL m.f1.f0 m.f1.f1 m.f1.f2
def Amt1 (x : Int) : Prop := -1000000000000000 ≤ x ∧ x ≤ 1000000000000000
theorem DL_amt (kind : Int) (nm : ByteArray) (a : Int) : Amt1 (C6.DL kind nm a).1 ∧ Amt1 (C6.DL kind nm a).2 := by
  unfold C6.DL Amt1
  split
  · rename_i h
    obtain ⟨h1, h2, h3, h4⟩ := C6.check_zero kind nm a h
    rcases (show kind = 1 ∨ kind = 2 ∨ kind = 3 ∨ kind = 4 by omega) with rfl | rfl | rfl | rfl
    all_goals simp [C6.ways]
    all_goals omega
  · simp
/-! sums over marks -/
def wsum (w : S64 → Int) : List S64 → Int
  | [] => 0
  | m :: r => w m + wsum w r
theorem wsum_append (w : S64 → Int) : ∀ (a b : List S64), wsum w (a ++ b) = wsum w a + wsum w b
  | [], b => by simp [wsum]
  | m :: r, b => by
    rw [List.cons_append, wsum, wsum, wsum_append w r b]
    omega
theorem wsum_ins (w : S64 → Int) (M : List S64) (j : Nat) (m : S64) : wsum w (M.take j ++ m :: M.drop j) = wsum w M + w m := by
  have h := wsum_append w (M.take j) (M.drop j)
  rw [List.take_append_drop] at h
  rw [wsum_append, wsum]
  omega
theorem wsum_set (w : S64 → Int) (m : S64) : ∀ (M : List S64) (i : Nat) (h : i < M.length), wsum w (M.set i m) = wsum w M - w M[i] + w m
  | x :: r, 0, _ => by
    rw [List.set_cons_zero, wsum, wsum, List.getElem_cons_zero]
    omega
  | x :: r, i + 1, h => by
    have ih := wsum_set w m r i (by simpa using h)
    rw [List.set_cons_succ, wsum, wsum, List.getElem_cons_succ]
    omega
theorem wsum_congr (w v : S64 → Int) : ∀ (M : List S64), (∀ m ∈ M, w m = v m) → wsum w M = wsum v M
  | [], _ => rfl
  | m :: r, h => by
    rw [wsum, wsum, h m List.mem_cons_self, wsum_congr w v r (fun x hx => h x (List.mem_cons_of_mem _ hx))]
theorem wsum_zero (w : S64 → Int) : ∀ (M : List S64), (∀ m ∈ M, w m = 0) → wsum w M = 0
  | [], _ => rfl
  | m :: r, h => by
    rw [wsum, h m List.mem_cons_self, wsum_zero w r (fun x hx => h x (List.mem_cons_of_mem _ hx))]
    omega
theorem wsum_bound (w : S64 → Int) (c : Int) : ∀ (M : List S64), (∀ m ∈ M, -c ≤ w m ∧ w m ≤ c) → -(c * (M.length : Int)) ≤ wsum w M ∧ wsum w M ≤ c * (M.length : Int)
  | [], _ => by simp [wsum]
  | m :: r, h => by
    have h1 := h m List.mem_cons_self
    have ih := wsum_bound w c r (fun x hx => h x (List.mem_cons_of_mem _ hx))
    rw [wsum, List.length_cons]
    have e : c * ((r.length + 1 : Nat) : Int) = c * (r.length : Int) + c := by rw [Int.natCast_add, Int.mul_add]; simp
    omega
theorem wsum_ge (w : S64 → Int) : ∀ (M : List S64), (∀ m ∈ M, 0 ≤ w m) → ∀ m ∈ M, w m ≤ wsum w M
  | [], _, m, hm => by cases hm
  | x :: r, h, m, hm => by
    have h0 : 0 ≤ wsum w r := by
      clear hm
      induction r with
      | nil => simp [wsum]
      | cons y r ih =>
        have := ih (fun z hz => by rcases List.mem_cons.1 hz with rfl | hz; exact h _ List.mem_cons_self; exact h z (List.mem_cons_of_mem _ (List.mem_cons_of_mem _ hz)))
        have := h y (List.mem_cons_of_mem _ List.mem_cons_self)
        rw [wsum]
        omega
    rw [wsum]
    rcases List.mem_cons.1 hm with rfl | hm
    · omega
    · have := wsum_ge w r (fun z hz => h z (List.mem_cons_of_mem _ hz)) m hm
      have := h x List.mem_cons_self
      omega
/-! what a mark weighs -/
def q1 (m : S64) : Int := mx (dl m).1 0
def q2 (m : S64) : Int := mx (-(dl m).1) 0
def q3 (m : S64) : Int := mx (dl m).2 0
def q4 (m : S64) : Int := mx (-(dl m).2) 0
theorem mx_rng (x : Int) (h : Amt1 x) : 0 ≤ mx x 0 ∧ mx x 0 ≤ 1000000000000000 := by
  unfold Amt1 at h
  unfold mx
  split <;> omega
theorem amt_neg (x : Int) (h : Amt1 x) : Amt1 (-x) := by
  unfold Amt1 at h ⊢
  omega
theorem q1_rng (m : S64) : 0 ≤ q1 m ∧ q1 m ≤ 1000000000000000 := mx_rng _ (DL_amt _ _ _).1
theorem q2_rng (m : S64) : 0 ≤ q2 m ∧ q2 m ≤ 1000000000000000 := mx_rng _ (amt_neg _ (DL_amt _ _ _).1)
theorem q3_rng (m : S64) : 0 ≤ q3 m ∧ q3 m ≤ 1000000000000000 := mx_rng _ (DL_amt _ _ _).2
theorem q4_rng (m : S64) : 0 ≤ q4 m ∧ q4 m ≤ 1000000000000000 := mx_rng _ (amt_neg _ (DL_amt _ _ _).2)
/-- The weight of a mark that is pending on an account. -/
def pw (q : S64 → Int) (n : ByteArray) (m : S64) : Int := if m.f2 = 1 ∧ m.f1.f1 = n then q m else 0
/-- The weight of a mark that is in effect on an account. -/
def ew (d : S64 → Int) (n : ByteArray) (m : S64) : Int := if m.f1.f1 = n ∧ m.f2 ≠ 2 then d m else 0
def d1 (m : S64) : Int := (dl m).1
def d2 (m : S64) : Int := (dl m).2
theorem pw_rng (q : S64 → Int) (n : ByteArray) (h : ∀ m, 0 ≤ q m ∧ q m ≤ 1000000000000000) (m : S64) : 0 ≤ pw q n m ∧ pw q n m ≤ 1000000000000000 := by
  unfold pw
  split
  · exact h m
  · omega
theorem addQ_is (q : My.Q4) (m : S64) (hq : 0 ≤ q.1 ∧ q.1 ≤ 4000000000000000000 ∧ 0 ≤ q.2.1 ∧ q.2.1 ≤ 4000000000000000000 ∧ 0 ≤ q.2.2.1 ∧ q.2.2.1 ≤ 4000000000000000000 ∧ 0 ≤ q.2.2.2 ∧ q.2.2.2 ≤ 4000000000000000000) :
    addQ q (C6.DL m.f1.f0 m.f1.f1 m.f1.f2) = (q.1 + q1 m, q.2.1 + q2 m, q.2.2.1 + q3 m, q.2.2.2 + q4 m) := by
  have r1 := q1_rng m
  have r2 := q2_rng m
  have r3 := q3_rng m
  have r4 := q4_rng m
  have a1 := (DL_amt m.f1.f0 m.f1.f1 m.f1.f2).1
  have a2 := (DL_amt m.f1.f0 m.f1.f1 m.f1.f2).2
  unfold Amt1 at a1 a2
  unfold addQ
  rw [wr (-(C6.DL m.f1.f0 m.f1.f1 m.f1.f2).1) (by omega), wr (-(C6.DL m.f1.f0 m.f1.f1 m.f1.f2).2) (by omega)]
  show (wrap64 (q.1 + q1 m), wrap64 (q.2.1 + q2 m), wrap64 (q.2.2.1 + q3 m), wrap64 (q.2.2.2 + q4 m)) = _
  rw [wr (q.1 + q1 m) (by omega), wr (q.2.1 + q2 m) (by omega), wr (q.2.2.1 + q3 m) (by omega), wr (q.2.2.2 + q4 m) (by omega)]
theorem pendQ_is (n : ByteArray) : ∀ (M : List S64) (q : My.Q4) (b : Nat), b + M.length ≤ 1000 → (0 ≤ q.1 ∧ q.1 ≤ 1000000000000000 * (b : Int) ∧ 0 ≤ q.2.1 ∧ q.2.1 ≤ 1000000000000000 * (b : Int) ∧ 0 ≤ q.2.2.1 ∧ q.2.2.1 ≤ 1000000000000000 * (b : Int) ∧ 0 ≤ q.2.2.2 ∧ q.2.2.2 ≤ 1000000000000000 * (b : Int)) →
    pendQ n M q = (q.1 + wsum (pw q1 n) M, q.2.1 + wsum (pw q2 n) M, q.2.2.1 + wsum (pw q3 n) M, q.2.2.2 + wsum (pw q4 n) M)
  | [], q, b, _, _ => by simp [pendQ, wsum]
  | m :: r, q, b, hb, hq => by
    rw [List.length_cons] at hb
    rw [pendQ]
    simp only [wsum]
    by_cases c : m.f2 = 1 ∧ m.f1.f1 = n
    · rw [if_pos c, addQ_is q m (by omega)]
      have r1 := q1_rng m
      have r2 := q2_rng m
      have r3 := q3_rng m
      have r4 := q4_rng m
      rw [pendQ_is n r _ (b + 1) (by omega) (by dsimp only; omega)]
      have e : ∀ q, pw q n m = q m := fun q => if_pos c
      rw [e, e, e, e]
      simp only [Int.add_assoc]
    · rw [if_neg c, pendQ_is n r q b (by omega) hq]
      have e : ∀ q, pw q n m = 0 := fun q => if_neg c
      rw [e, e, e, e]
      simp only [Int.zero_add]
theorem potsOk_iff (M : List S64) (hM : M.length ≤ 1000) (x : S51) : potsOk M x ↔ wsum (pw q1 x.f0) M = x.f1.f1 ∧ wsum (pw q2 x.f0) M = x.f1.f2 ∧ wsum (pw q3 x.f0) M = x.f2.f1 ∧ wsum (pw q4 x.f0) M = x.f2.f2 := by
  unfold potsOk
  rw [pendQ_is x.f0 M (0, 0, 0, 0) 0 (by omega) (by simp)]
  simp only [Int.zero_add, Prod.mk.injEq]
/-! what a ledger must be, by lists -/
theorem tri (a b : ByteArray) : lt a b ∨ a = b ∨ lt b a := by
  rcases cmp3 a b with h | h | h
  · exact Or.inl h.1
  · exact Or.inr (Or.inl h.1)
  · exact Or.inr (Or.inr h.1)
theorem rdA_get (A : List S51) (i : Nat) (h : i < A.length) : rd_T51 A (i : Int) = A[i] := (ledger_May.rd A i h).symm
def okP (A : List S51) (M : List S64) : Prop := A.length ≤ 12 ∧ M.length ≤ 500 ∧ (∀ x ∈ A, okA x) ∧ (A.map (·.f0)).Pairwise lt ∧ (∀ m ∈ M, okM m ∧ ∃ x ∈ A, x.f0 = m.f1.f1) ∧ (M.map (·.f0)).Pairwise lt ∧ ∀ x ∈ A, potsOk M x
theorem okL_okP (A : List S51) (M : List S64) (h : okL A M) : okP A M := by
  obtain ⟨h1, h2, h3, h4, h5⟩ := h
  refine ⟨h1, h2, ?_, ?_, ?_, ?_, h5⟩
  · intro x hx
    obtain ⟨i, hi, rfl⟩ := rdA_mem A x hx
    exact (h3 i hi).1
  · have hs := sortedA_of A h3
    rw [List.pairwise_map, List.pairwise_iff_getElem]
    intro i j hi hj hij
    have := hs i j hij hj
    rw [rdA_get A i hi, rdA_get A j hj] at this
    exact this
  · intro m hm
    obtain ⟨i, hi, rfl⟩ := rdM_mem M m hm
    obtain ⟨j, hj, he⟩ := (h4 i hi).2.2
    exact ⟨(h4 i hi).1, rd_T51 A (j : Int), by rw [rdA_get A j hj]; exact List.getElem_mem hj, he⟩
  · rw [List.pairwise_map, List.pairwise_iff_getElem]
    have hs : ∀ i j : Nat, i < j → j < M.length → lt (rd_T64 M (i : Int)).f0 (rd_T64 M (j : Int)).f0 := by
      intro i j hij hj
      induction j with
      | zero => omega
      | succ j ih =>
        have h1 := (h4 (j + 1) hj).2.1 (by omega)
        rw [show (((j + 1 : Nat) : Int) - 1) = (j : Int) by omega] at h1
        rcases Nat.lt_or_ge i j with q | q
        · exact lt_trans (ih q (by omega)) h1
        · have : i = j := by omega
          rw [this]
          exact h1
    intro i j hi hj hij
    have := hs i j hij hj
    rw [← rdM_get M i hi, ← rdM_get M j hj] at this
    exact this
theorem okP_sortA {A : List S51} {M : List S64} (h : okP A M) : SortedA A := by
  have hs := h.2.2.2.1
  rw [List.pairwise_map, List.pairwise_iff_getElem] at hs
  intro i j hij hj
  have := hs i j (by omega) hj hij
  rw [rdA_get A i (by omega), rdA_get A j hj]
  exact this
theorem okP_sortM {A : List S51} {M : List S64} (h : okP A M) : SortedM M := by
  have hs := h.2.2.2.2.2.1
  rw [List.pairwise_map, List.pairwise_iff_getElem] at hs
  intro i j hij hj
  have := hs i j (by omega) hj hij
  rw [← rdM_get M i (by omega), ← rdM_get M j hj]
  exact this
theorem okP_okL {A : List S51} {M : List S64} (h : okP A M) : okL A M := by
  have hA := okP_sortA h
  have hM := okP_sortM h
  obtain ⟨h1, h2, h3, h4, h5, h6, h7⟩ := h
  refine ⟨h1, h2, ?_, ?_, h7⟩
  · intro i hi
    refine ⟨h3 _ (by rw [rdA_get A i hi]; exact List.getElem_mem hi), fun h0 => ?_⟩
    have := hA (i - 1) i (by omega) hi
    rw [show (((i - 1 : Nat) : Int)) = (i : Int) - 1 by omega] at this
    exact this
  · intro i hi
    have hm : rd_T64 M (i : Int) ∈ M := by
      rw [← rdM_get M i hi]
      exact List.getElem_mem hi
    refine ⟨(h5 _ hm).1, fun h0 => ?_, ?_⟩
    · have := hM (i - 1) i (by omega) hi
      rw [show (((i - 1 : Nat) : Int)) = (i : Int) - 1 by omega] at this
      exact this
    · obtain ⟨x, hx, he⟩ := (h5 _ hm).2
      obtain ⟨j, hj, rfl⟩ := rdA_mem A x hx
      exact ⟨j, hj, he⟩
theorem okA_rng (x : S51) (h : okA x) : RngA x := by
  unfold okA C6.mayI at h
  split at h
  · rename_i c
    obtain ⟨_, c1, c2⟩ := c
    unfold C6.Pot at c1 c2
    unfold RngA rng
    omega
  · cases h
theorem may_ok {A : List S51} {M : List S64} (h : okP A M) : Ev (fun k => ledger_May.f k A M) 0 := by
  have := pmay_ev A M (fun i hi => okA_rng _ (h.2.2.1 _ (by rw [rdA_get A i hi]; exact List.getElem_mem hi)))
  rw [if_pos (okP_okL h)] at this
  exact this
theorem sort_ins (L : List ByteArray) (n : ByteArray) (j : Nat) (hs : L.Pairwise lt) (h1 : ∀ x ∈ L.take j, lt x n) (h2 : ∀ x ∈ L.drop j, lt n x) : (L.take j ++ n :: L.drop j).Pairwise lt := by
  rw [← List.take_append_drop j L, List.pairwise_append] at hs
  rw [List.pairwise_append, List.pairwise_cons]
  refine ⟨hs.1, ⟨h2, hs.2.1⟩, ?_⟩
  intro a ha b hb
  rcases List.mem_cons.1 hb with rfl | hb
  · exact h1 a ha
  · exact hs.2.2 a ha b hb
theorem mem_take {α : Type} (L : List α) (j : Nat) (x : α) (h : x ∈ L.take j) : ∃ (i : Nat) (hi : i < L.length), i < j ∧ L[i] = x := by
  obtain ⟨i, hi, he⟩ := List.getElem_of_mem h
  rw [List.length_take] at hi
  exact ⟨i, by omega, by omega, by rw [← he, List.getElem_take]⟩
theorem mem_drop {α : Type} (L : List α) (j : Nat) (x : α) (h : x ∈ L.drop j) : ∃ (i : Nat) (hi : i < L.length), j ≤ i ∧ L[i] = x := by
  obtain ⟨i, hi, he⟩ := List.getElem_of_mem h
  rw [List.length_drop] at hi
  exact ⟨j + i, by omega, by omega, by rw [← he, List.getElem_drop]⟩
theorem insA_sorted {A : List S51} {M : List S64} (h : okP A M) (x : S51) (j : Nat) (hc : CutA A x.f0 j) (hn : ¬ hasA A x.f0) : ((A.take j ++ x :: A.drop j).map (·.f0)).Pairwise lt := by
  rw [List.map_append, List.map_cons, List.map_take, List.map_drop]
  refine sort_ins _ _ _ h.2.2.2.1 ?_ ?_
  · intro y hy
    obtain ⟨i, hi, hij, rfl⟩ := mem_take _ _ _ hy
    rw [List.getElem_map]
    rw [List.length_map] at hi
    have := hc.2.1 i hij
    rw [rdA_get A i hi] at this
    exact this
  · intro y hy
    obtain ⟨i, hi, hij, rfl⟩ := mem_drop _ _ _ hy
    rw [List.getElem_map]
    rw [List.length_map] at hi
    have := hc.2.2 i hij hi
    rw [rdA_get A i hi] at this
    rcases tri A[i].f0 x.f0 with g | g | g
    · exact absurd g this
    · exact absurd ⟨i, hi, by rw [rdA_get A i hi]; exact g⟩ hn
    · exact g
def hasM' (M : List S64) (n : ByteArray) : Prop := ∃ j : Nat, j < M.length ∧ (rd_T64 M (j : Int)).f0 = n
theorem insM_sorted {A : List S51} {M : List S64} (h : okP A M) (x : S64) (j : Nat) (hc : CutM M x.f0 j) (hn : ¬ hasM' M x.f0) : ((M.take j ++ x :: M.drop j).map (·.f0)).Pairwise lt := by
  rw [List.map_append, List.map_cons, List.map_take, List.map_drop]
  refine sort_ins _ _ _ h.2.2.2.2.2.1 ?_ ?_
  · intro y hy
    obtain ⟨i, hi, hij, rfl⟩ := mem_take _ _ _ hy
    rw [List.getElem_map]
    rw [List.length_map] at hi
    have := hc.2.1 i hij
    rw [← rdM_get M i hi] at this
    exact this
  · intro y hy
    obtain ⟨i, hi, hij, rfl⟩ := mem_drop _ _ _ hy
    rw [List.getElem_map]
    rw [List.length_map] at hi
    have := hc.2.2 i hij hi
    rw [← rdM_get M i hi] at this
    rcases tri M[i].f0 x.f0 with g | g | g
    · exact absurd g this
    · exact absurd ⟨i, hi, by rw [← rdM_get M i hi]; exact g⟩ hn
    · exact g
theorem map_set_same {α β : Type} (f : α → β) (x : α) : ∀ (L : List α) (i : Nat) (h : i < L.length), f x = f L[i] → (L.set i x).map f = L.map f
  | y :: r, 0, _, e => by
    rw [List.set_cons_zero, List.map_cons, List.map_cons, e, List.getElem_cons_zero]
  | y :: r, i + 1, h, e => by
    rw [List.set_cons_succ, List.map_cons, List.map_cons, map_set_same f x r i (by simpa using h) (by rw [e, List.getElem_cons_succ])]
theorem mem_set {α : Type} (x : α) (L : List α) (i : Nat) (y : α) (h : y ∈ L.set i x) : y = x ∨ ∃ (k : Nat) (hk : k < L.length), k ≠ i ∧ y = L[k] := by
  obtain ⟨k, hk, he⟩ := List.getElem_of_mem h
  rw [List.length_set] at hk
  rw [List.getElem_set] at he
  split at he
  · exact Or.inl he.symm
  · rename_i c
    exact Or.inr ⟨k, hk, fun g => c g.symm, he.symm⟩
theorem nameA_inj {A : List S51} {M : List S64} (h : okP A M) (i j : Nat) (hi : i < A.length) (hj : j < A.length) (e : A[i].f0 = A[j].f0) : i = j := by
  have hs := h.2.2.2.1
  rw [List.pairwise_map, List.pairwise_iff_getElem] at hs
  rcases Nat.lt_trichotomy i j with q | q | q
  · exact absurd (hs i j hi hj q) (by rw [e]; exact lt_irr _)
  · exact q
  · exact absurd (hs j i hj hi q) (by rw [e]; exact lt_irr _)
theorem nameM_inj {A : List S51} {M : List S64} (h : okP A M) (i j : Nat) (hi : i < M.length) (hj : j < M.length) (e : M[i].f0 = M[j].f0) : i = j := by
  have hs := h.2.2.2.2.2.1
  rw [List.pairwise_map, List.pairwise_iff_getElem] at hs
  rcases Nat.lt_trichotomy i j with q | q | q
  · exact absurd (hs i j hi hj q) (by rw [e]; exact lt_irr _)
  · exact q
  · exact absurd (hs j i hj hi q) (by rw [e]; exact lt_irr _)
/-- Where an account stands, or would; a mark. -/
theorem lookA {A : List S51} {M : List S64} (h : okP A M) (n : ByteArray) : (∃ (i : Nat) (hi : i < A.length), A[i].f0 = n ∧ Ev (fun k => ledger_book_account.f k A M n) ((i : Int), true)) ∨ (¬ hasA A n ∧ ∃ j : Nat, CutA A n j ∧ Ev (fun k => ledger_book_account.f k A M n) ((j : Int), false)) := by
  have hs := okP_sortA h
  obtain ⟨j, f, hj, hjf, hf⟩ := find_A A M n (by have := h.1; omega) hs
  cases f with
  | true =>
    obtain ⟨h1, h2⟩ := hjf.1 rfl
    exact Or.inl ⟨j, h1, by rw [← rdA_get A j h1]; exact h2, hf⟩
  | false =>
    refine Or.inr ⟨fun g => ?_, j, hj, hf⟩
    have := hjf.2 ((cut_has A hs n j hj).2 g)
    cases this
theorem cut_hasM' (M : List S64) (hs : SortedM M) (n : ByteArray) (j : Nat) (hc : CutM M n j) : (j < M.length ∧ (rd_T64 M (j : Int)).f0 = n) ↔ hasM' M n := by
  constructor
  · exact fun h => ⟨j, h⟩
  · rintro ⟨i, hi, he⟩
    rcases Nat.lt_trichotomy i j with q | rfl | q
    · exact absurd (hc.2.1 i q) (by rw [he]; exact lt_irr n)
    · exact ⟨hi, he⟩
    · exact absurd (by rw [← he]; exact hs j i q hi) (hc.2.2 j (Nat.le_refl _) (by omega))
theorem lookM {A : List S51} {M : List S64} (h : okP A M) (n : ByteArray) : (∃ (i : Nat) (hi : i < M.length), M[i].f0 = n ∧ Ev (fun k => ledger_book_mark.f k A M n) ((i : Int), true)) ∨ (¬ hasM' M n ∧ ∃ j : Nat, CutM M n j ∧ Ev (fun k => ledger_book_mark.f k A M n) ((j : Int), false)) := by
  have hs := okP_sortM h
  obtain ⟨j, f, hj, hjf, hf⟩ := find_M A M n (by have := h.2.1; omega) hs
  cases f with
  | true =>
    obtain ⟨h1, h2⟩ := hjf.1 rfl
    exact Or.inl ⟨j, h1, by rw [rdM_get M j h1]; exact h2, hf⟩
  | false =>
    refine Or.inr ⟨fun g => ?_, j, hj, hf⟩
    have := hjf.2 ((cut_hasM' M hs n j hj).2 g)
    cases this
namespace C6
/-- What Do does with a pot. -/
def DOP (h i o : Int) (out : Bool) (a : Int) : Int × Int × Int × Int :=
  if ¬ Pot h i o ∨ a < 1 ∨ a > 1000000000000000 then (0, 0, 0, 2)
  else if out = true then (if a > h - i then (0, 0, 0, 50) else (h - a, i, o + a, 0))
  else (if a > 1000000000000000 - h - o then (0, 0, 0, 50) else (h + a, i + a, o, 0))
theorem moved_ev (h i o a lim x y z : Int) (bo : -9223372036854775808 ≤ o ∧ o ≤ 9223372036854775807) (hx : -1 ≤ x ∧ x ≤ 1) (hy : -1 ≤ y ∧ y ≤ 1) (hz : -1 ≤ z ∧ z ≤ 1) :
    Ev (fun k => pot_moved.f k h i o a lim x y z) (if ¬ Pot h i o ∨ a < 1 ∨ a > 1000000000000000 then (0, 0, 0, 2) else if a > lim then (0, 0, 0, 50) else (h + x * a, i + y * a, o + z * a, 0)) := by
  have bad : Ev (fun k => pot_moved.j0 k a lim x y z true h i o) (0, 0, 0, 2) := Ev.step (f := fun _ => some (0, 0, 0, 2)) (fun k => by rw [pot_moved.j0, if_pos rfl]) (Ev.now _)
  unfold pot_moved.f
  refine Ev.congr (fun k => by rw [pot_is h i o bo, Option.bind_some]) ?_
  by_cases c1 : Pot h i o
  · refine Ev.congr (fun k => if_pos (show potI h i o = 0 from if_pos c1)) ?_
    by_cases c2 : a < 1
    · rw [if_pos (.inr (.inl c2))]
      exact Ev.congr (fun k => if_pos c2) bad
    refine Ev.congr (fun k => if_neg c2) ?_
    have hf : cash_Fits.f a = some (decide (a ≤ 1000000000000000)) := by unfold cash_Fits.f; rw [if_pos (by omega)]
    refine Ev.congr (fun k => by rw [hf, Option.bind_some]) ?_
    by_cases c3 : a ≤ 1000000000000000
    · rw [if_neg (fun h => by rcases h with h | h | h; exact h c1; omega; omega), decide_eq_true c3]
      have c1' := c1
      unfold Pot at c1'
      have t : ∀ w : Int, -1 ≤ w ∧ w ≤ 1 → wrap64 (w * a) = w * a ∧ -1000000000000000 ≤ w * a ∧ w * a ≤ 1000000000000000 := by
        intro w hw
        refine ⟨times_wr w a hw ⟨by omega, c3⟩, ?_⟩
        rcases (show w = -1 ∨ w = 0 ∨ w = 1 by omega) with rfl | rfl | rfl <;> omega
      obtain ⟨tx, ux, vx⟩ := t x hx
      obtain ⟨ty, uy, vy⟩ := t y hy
      obtain ⟨tz, uz, vz⟩ := t z hz
      by_cases c4 : a > lim
      · rw [if_pos c4]
        exact Ev.step (f := fun _ => some (0, 0, 0, 50)) (fun k => by rw [pot_moved.j0, if_neg (by decide), if_pos c4]) (Ev.now _)
      · rw [if_neg c4]
        refine Ev.step (f := fun _ => some (h + x * a, i + y * a, o + z * a, 0)) (fun k => ?_) (Ev.now _)
        rw [pot_moved.j0, if_neg (by decide), if_neg c4, tx, ty, tz]
        generalize x * a = X at *
        generalize y * a = Y at *
        generalize z * a = Z at *
        rw [wr (h + X) (by omega), wr (i + Y) (by omega), wr (o + Z) (by omega)]
    · rw [if_pos (.inr (.inr (by omega))), decide_eq_false c3]
      exact bad
  · rw [if_pos (.inl c1)]
    exact Ev.congr (fun k => if_neg (by rw [show potI h i o = 2 from if_neg c1]; decide)) bad
theorem free_is (h i o : Int) (bo : -9223372036854775808 ≤ o ∧ o ≤ 9223372036854775807) : pot_Free.f h i o = some (if Pot h i o then h - i else 0) := by
  unfold pot_Free.f
  rw [pot_is h i o bo, Option.bind_some]
  by_cases c1 : Pot h i o
  · have c1' := c1
    unfold Pot at c1'
    rw [show potI h i o = 0 from if_pos c1, if_pos rfl, if_pos c1, wr (h - i) (by omega)]
  · rw [show potI h i o = 2 from if_neg c1, if_neg (by decide), if_neg c1]
theorem room_is (h i o : Int) (bo : -9223372036854775808 ≤ o ∧ o ≤ 9223372036854775807) : pot_Room.f h i o = some (if Pot h i o then 1000000000000000 - h - o else 0) := by
  unfold pot_Room.f
  rw [pot_is h i o bo, Option.bind_some]
  by_cases c1 : Pot h i o
  · have c1' := c1
    unfold Pot at c1'
    rw [show potI h i o = 0 from if_pos c1, if_pos rfl, if_pos c1, wr (1000000000000000 - h) (by omega), wr _ (by omega)]
  · rw [show potI h i o = 2 from if_neg c1, if_neg (by decide), if_neg c1]
theorem do_pot_ev (h i o : Int) (out : Bool) (a : Int) (bo : -9223372036854775808 ≤ o ∧ o ≤ 9223372036854775807) : Ev (fun k => pot_Do.f k h i o out a) (DOP h i o out a) := by
  unfold pot_Do.f
  have yes : ¬ (¬ Pot h i o ∨ a < 1 ∨ a > 1000000000000000) → Pot h i o := fun g => Decidable.byContradiction fun q => g (.inl q)
  cases out with
  | true =>
    have e : (if ¬ Pot h i o ∨ a < 1 ∨ a > 1000000000000000 then (0, 0, 0, 2) else if a > (if Pot h i o then h - i else 0) then (0, 0, 0, 50) else (h + -1 * a, i + 0 * a, o + 1 * a, 0)) = DOP h i o true a := by
      unfold DOP
      by_cases c2 : ¬ Pot h i o ∨ a < 1 ∨ a > 1000000000000000
      · rw [if_pos c2, if_pos c2]
      · rw [if_neg c2, if_neg c2, if_pos (yes c2), if_pos rfl, show h + -1 * a = h - a by omega, show i + 0 * a = i by omega, show o + 1 * a = o + a by omega]
    have := moved_ev h i o a (if Pot h i o then h - i else 0) (-1) 0 1 bo (by omega) (by omega) (by omega)
    rw [e] at this
    exact Ev.congr (fun k => by rw [if_pos rfl, free_is h i o bo, Option.bind_some]) (Ev.bind this (Ev.now _))
  | false =>
    have e : (if ¬ Pot h i o ∨ a < 1 ∨ a > 1000000000000000 then (0, 0, 0, 2) else if a > (if Pot h i o then 1000000000000000 - h - o else 0) then (0, 0, 0, 50) else (h + 1 * a, i + 1 * a, o + 0 * a, 0)) = DOP h i o false a := by
      unfold DOP
      by_cases c2 : ¬ Pot h i o ∨ a < 1 ∨ a > 1000000000000000
      · rw [if_pos c2, if_pos c2]
      · rw [if_neg c2, if_neg c2, if_pos (yes c2), if_neg Bool.false_ne_true, show h + 1 * a = h + a by omega, show i + 1 * a = i + a by omega, show o + 0 * a = o by omega]
    have := moved_ev h i o a (if Pot h i o then 1000000000000000 - h - o else 0) 1 1 0 bo (by omega) (by omega) (by omega)
    rw [e] at this
    exact Ev.congr (fun k => by rw [if_neg Bool.false_ne_true, room_is h i o bo, Option.bind_some]) (Ev.bind this (Ev.now _))
/-- What is done with both pots, the same with each. -/
def EACH (D : Int → Int → Int → Bool → Int → Int × Int × Int × Int) (n : ByteArray) (h i o h2 i2 o2 kind : Int) (nm : ByteArray) (a : Int) : ByteArray × Int × Int × Int × Int × Int × Int × Int :=
  if mayI n h i o h2 i2 o2 = 0 then
    if checkI kind nm a = 0 ∧ nm = n then
      if (D h i o (decide ((ways kind).1 < 0)) a).2.2.2 = 0 then
        if (ways kind).2 = 0 then (n, (D h i o (decide ((ways kind).1 < 0)) a).1, (D h i o (decide ((ways kind).1 < 0)) a).2.1, (D h i o (decide ((ways kind).1 < 0)) a).2.2.1, h2, i2, o2, 0)
        else if (D h2 i2 o2 (decide ((ways kind).2 < 0)) a).2.2.2 = 0 then
          (n, (D h i o (decide ((ways kind).1 < 0)) a).1, (D h i o (decide ((ways kind).1 < 0)) a).2.1, (D h i o (decide ((ways kind).1 < 0)) a).2.2.1, (D h2 i2 o2 (decide ((ways kind).2 < 0)) a).1, (D h2 i2 o2 (decide ((ways kind).2 < 0)) a).2.1, (D h2 i2 o2 (decide ((ways kind).2 < 0)) a).2.2.1, 0)
        else (⟨#[]⟩, 0, 0, 0, 0, 0, 0, (D h2 i2 o2 (decide ((ways kind).2 < 0)) a).2.2.2)
      else (⟨#[]⟩, 0, 0, 0, 0, 0, 0, (D h i o (decide ((ways kind).1 < 0)) a).2.2.2)
    else (⟨#[]⟩, 0, 0, 0, 0, 0, 0, 60)
  else (⟨#[]⟩, 0, 0, 0, 0, 0, 0, 2)
theorem ways_some (kind : Int) (h : 1 ≤ kind ∧ kind ≤ 4) : ¬ (ways kind).1 = 0 := by
  rcases (show kind = 1 ∨ kind = 2 ∨ kind = 3 ∨ kind = 4 by omega) with rfl | rfl | rfl | rfl <;> simp [ways]
theorem toList_ne (s t : ByteArray) : (s.toList != t.toList) = decide (¬ s = t) := by
  by_cases h : s = t
  · subst h
    simp
  · have g : ¬ s.toList = t.toList := fun g => h (toList_iff.1 g)
    rw [decide_eq_true h]
    exact bne_iff_ne.2 g
def UNP (h i o : Int) (out : Bool) (a : Int) : Int × Int × Int × Int :=
  if ¬ Pot h i o ∨ a < 1 ∨ a > 1000000000000000 then (0, 0, 0, 2)
  else if out = true then (if a > o then (0, 0, 0, 50) else (h + a, i, o - a, 0))
  else (if a > i then (0, 0, 0, 50) else (h - a, i - a, o, 0))
def KPP (h i o : Int) (out : Bool) (a : Int) : Int × Int × Int × Int :=
  if ¬ Pot h i o ∨ a < 1 ∨ a > 1000000000000000 then (0, 0, 0, 2)
  else if out = true then (if a > o then (0, 0, 0, 50) else (h, i, o - a, 0))
  else (if a > i then (0, 0, 0, 50) else (h, i - a, o, 0))
theorem undo_pot_ev (h i o : Int) (out : Bool) (a : Int) (bo : -9223372036854775808 ≤ o ∧ o ≤ 9223372036854775807) : Ev (fun k => pot_Undo.f k h i o out a) (UNP h i o out a) := by
  unfold pot_Undo.f
  cases out with
  | true =>
    have e : (if ¬ Pot h i o ∨ a < 1 ∨ a > 1000000000000000 then (0, 0, 0, 2) else if a > o then (0, 0, 0, 50) else (h + 1 * a, i + 0 * a, o + -1 * a, 0)) = UNP h i o true a := by
      unfold UNP
      by_cases c2 : ¬ Pot h i o ∨ a < 1 ∨ a > 1000000000000000
      · rw [if_pos c2, if_pos c2]
      · rw [if_neg c2, if_neg c2, if_pos rfl, show h + 1 * a = h + a by omega, show i + 0 * a = i by omega, show o + -1 * a = o - a by omega]
    have := moved_ev h i o a o 1 0 (-1) bo (by omega) (by omega) (by omega)
    rw [e] at this
    exact Ev.congr (fun k => if_pos rfl) (Ev.bind this (Ev.now _))
  | false =>
    have e : (if ¬ Pot h i o ∨ a < 1 ∨ a > 1000000000000000 then (0, 0, 0, 2) else if a > i then (0, 0, 0, 50) else (h + -1 * a, i + -1 * a, o + 0 * a, 0)) = UNP h i o false a := by
      unfold UNP
      by_cases c2 : ¬ Pot h i o ∨ a < 1 ∨ a > 1000000000000000
      · rw [if_pos c2, if_pos c2]
      · rw [if_neg c2, if_neg c2, if_neg Bool.false_ne_true, show h + -1 * a = h - a by omega, show i + -1 * a = i - a by omega, show o + 0 * a = o by omega]
    have := moved_ev h i o a i (-1) (-1) 0 bo (by omega) (by omega) (by omega)
    rw [e] at this
    exact Ev.congr (fun k => if_neg Bool.false_ne_true) (Ev.bind this (Ev.now _))
theorem keep_pot_ev (h i o : Int) (out : Bool) (a : Int) (bo : -9223372036854775808 ≤ o ∧ o ≤ 9223372036854775807) : Ev (fun k => pot_Keep.f k h i o out a) (KPP h i o out a) := by
  unfold pot_Keep.f
  have he : ∀ (b : Bool) (x y : Int), pot_either_int64.f b x y = some (if b = true then x else y) := by
    intro b x y
    unfold pot_either_int64.f
    cases b <;> rfl
  simp only [he, Option.bind_some]
  cases out with
  | true =>
    have e : (if ¬ Pot h i o ∨ a < 1 ∨ a > 1000000000000000 then (0, 0, 0, 2) else if a > o then (0, 0, 0, 50) else (h + 0 * a, i + 0 * a, o + -1 * a, 0)) = KPP h i o true a := by
      unfold KPP
      by_cases c2 : ¬ Pot h i o ∨ a < 1 ∨ a > 1000000000000000
      · rw [if_pos c2, if_pos c2]
      · rw [if_neg c2, if_neg c2, if_pos rfl, show h + 0 * a = h by omega, show i + 0 * a = i by omega, show o + -1 * a = o - a by omega]
    have := moved_ev h i o a o 0 0 (-1) bo (by omega) (by omega) (by omega)
    rw [e] at this
    exact Ev.bind this (Ev.now _)
  | false =>
    have e : (if ¬ Pot h i o ∨ a < 1 ∨ a > 1000000000000000 then (0, 0, 0, 2) else if a > i then (0, 0, 0, 50) else (h + 0 * a, i + -1 * a, o + 0 * a, 0)) = KPP h i o false a := by
      unfold KPP
      by_cases c2 : ¬ Pot h i o ∨ a < 1 ∨ a > 1000000000000000
      · rw [if_pos c2, if_pos c2]
      · rw [if_neg c2, if_neg c2, if_neg Bool.false_ne_true, show h + 0 * a = h by omega, show i + -1 * a = i - a by omega, show o + 0 * a = o by omega]
    have := moved_ev h i o a i 0 (-1) 0 bo (by omega) (by omega) (by omega)
    rw [e] at this
    exact Ev.bind this (Ev.now _)
theorem each_any_ev (D : Nat → Int → Int → Int → Bool → Int → Option (Int × Int × Int × Int)) (DD : Int → Int → Int → Bool → Int → Int × Int × Int × Int) (hD : ∀ h i o out a, -9223372036854775808 ≤ o ∧ o ≤ 9223372036854775807 → Ev (fun k => D k h i o out a) (DD h i o out a)) (n : ByteArray) (h i o h2 i2 o2 kind : Int) (nm : ByteArray) (a z : Int) (b1 : -9223372036854775808 ≤ o ∧ o ≤ 9223372036854775807) (b2 : -9223372036854775808 ≤ o2 ∧ o2 ≤ 9223372036854775807) :
    Ev (fun k => act_each_any.f D k n h i o h2 i2 o2 kind nm a z) (EACH DD n h i o h2 i2 o2 kind nm a) := by
  have bad : Ev (fun k => act_each_any.j0 D k true n h i o h2 i2 o2 kind nm a) (⟨#[]⟩, 0, 0, 0, 0, 0, 0, 60) := Ev.step (f := fun _ => some (⟨#[]⟩, 0, 0, 0, 0, 0, 0, 60)) (fun k => by rw [act_each_any.j0, if_pos rfl]) (Ev.now _)
  unfold act_each_any.f EACH
  refine Ev.bind (may_ev n h i o h2 i2 o2 b1 b2) ?_
  by_cases c1 : mayI n h i o h2 i2 o2 = 0
  · refine ev_pos c1 ?_
    refine Ev.bind (check_ev kind nm a) ?_
    by_cases c2 : checkI kind nm a = 0
    · refine Ev.congr (fun k => if_pos c2) ?_
      rw [toList_ne]
      by_cases c3 : nm = n
      · rw [if_pos ⟨c2, c3⟩, decide_eq_false (fun g => g c3)]
        have hz := check_zero kind nm a c2
        have hw := ways_some kind ⟨hz.1, hz.2.1⟩
        refine Ev.step (fun k => by rw [act_each_any.j0, if_neg (by decide), ways_is, Option.bind_some, if_neg hw]) ?_
        refine Ev.bind (hD h i o _ a b1) ?_
        by_cases c4 : (DD h i o (decide ((ways kind).1 < 0)) a).2.2.2 = 0
        · refine ev_pos c4 ?_
          by_cases c5 : (ways kind).2 = 0
          · rw [if_pos c5]
            exact Ev.step (f := fun _ => some _) (fun k => by rw [act_each_any.j1, if_pos c5]) (Ev.now _)
          · rw [if_neg c5]
            refine Ev.step (fun k => by rw [act_each_any.j1, if_neg c5]) ?_
            refine Ev.bind (hD h2 i2 o2 _ a b2) ?_
            by_cases c6 : (DD h2 i2 o2 (decide ((ways kind).2 < 0)) a).2.2.2 = 0
            · exact ev_pos c6 (Ev.now _)
            · exact ev_neg c6 (Ev.now _)
        · exact ev_neg c4 (Ev.now _)
      · rw [if_neg (fun g => c3 g.2), decide_eq_true c3]
        exact bad
    · rw [if_neg (fun g => c2 g.1)]
      exact Ev.congr (fun k => if_neg c2) bad
  · rw [if_neg c1]
    have e2 : mayI n h i o h2 i2 o2 = 2 := by
      unfold mayI at c1 ⊢
      by_cases g : nameB n = true ∧ Pot h i o ∧ Pot h2 i2 o2
      · rw [if_pos g] at c1
        exact absurd rfl c1
      · rw [if_neg g]
    refine Ev.congr (fun k => if_neg c1) ?_
    rw [e2]
    exact Ev.now _
theorem act_do_ev (n : ByteArray) (h i o h2 i2 o2 kind : Int) (nm : ByteArray) (a : Int) (b1 : -9223372036854775808 ≤ o ∧ o ≤ 9223372036854775807) (b2 : -9223372036854775808 ≤ o2 ∧ o2 ≤ 9223372036854775807) :
    Ev (fun k => act_Do.f k n h i o h2 i2 o2 kind nm a) (EACH DOP n h i o h2 i2 o2 kind nm a) := by
  unfold act_Do.f act_each_pot_Do.f
  exact Ev.bind (each_any_ev _ DOP do_pot_ev n h i o h2 i2 o2 kind nm a 0 b1 b2) (Ev.now _)
theorem act_undo_ev (n : ByteArray) (h i o h2 i2 o2 kind : Int) (nm : ByteArray) (a : Int) (b1 : -9223372036854775808 ≤ o ∧ o ≤ 9223372036854775807) (b2 : -9223372036854775808 ≤ o2 ∧ o2 ≤ 9223372036854775807) :
    Ev (fun k => act_Undo.f k n h i o h2 i2 o2 kind nm a) (EACH UNP n h i o h2 i2 o2 kind nm a) := by
  unfold act_Undo.f act_each_pot_Undo.f
  exact Ev.bind (each_any_ev _ UNP undo_pot_ev n h i o h2 i2 o2 kind nm a 0 b1 b2) (Ev.now _)
theorem act_keep_ev (n : ByteArray) (h i o h2 i2 o2 kind : Int) (nm : ByteArray) (a : Int) (b1 : -9223372036854775808 ≤ o ∧ o ≤ 9223372036854775807) (b2 : -9223372036854775808 ≤ o2 ∧ o2 ≤ 9223372036854775807) :
    Ev (fun k => act_Keep.f k n h i o h2 i2 o2 kind nm a) (EACH KPP n h i o h2 i2 o2 kind nm a) := by
  unfold act_Keep.f act_each_pot_Keep.f
  exact Ev.bind (each_any_ev _ KPP keep_pot_ev n h i o h2 i2 o2 kind nm a 0 b1 b2) (Ev.now _)
end C6
/-! what an activity does with an account -/
/-- An account after an activity: s times its change of what is had, t times its change of what is pending. -/
def mvA (s t : Int) (x : S51) (m : S64) : S51 := ⟨x.f0, ⟨x.f1.f0 + s * d1 m, x.f1.f1 + t * q1 m, x.f1.f2 + t * q2 m⟩, ⟨x.f2.f0 + s * d2 m, x.f2.f1 + t * q3 m, x.f2.f2 + t * q4 m⟩⟩
abbrev AT := ByteArray × Int × Int × Int × Int × Int × Int × Int
def accT (x : S51) (e : Int) : AT := (x.f0, x.f1.f0, x.f1.f1, x.f1.f2, x.f2.f0, x.f2.f1, x.f2.f2, e)
abbrev PD := Int → Int → Int → Bool → Int → Int × Int × Int × Int
structure Moves (DD : PD) (s t : Int) : Prop where
  get : ∀ h i o b a, C6.Pot h i o → 1 ≤ a → a ≤ 1000000000000000 → (DD h i o b a).2.2.2 = 0 → ∃ h' i' o', DD h i o b a = (h', i', o', 0) ∧ C6.Pot h' i' o' ∧ h' = h + s * (if b = true then -a else a) ∧ i' = i + t * (if b = true then 0 else a) ∧ o' = o + t * (if b = true then a else 0)
  can : t = -1 → ∀ h i o b a, C6.Pot h i o → 1 ≤ a → a ≤ 1000000000000000 → (if b = true then a ≤ o else a ≤ i) → (DD h i o b a).2.2.2 = 0
theorem not_bad {h i o a : Int} (hp : C6.Pot h i o) (h1 : 1 ≤ a) (h2 : a ≤ 1000000000000000) : ¬ (¬ C6.Pot h i o ∨ a < 1 ∨ a > 1000000000000000) := by
  rintro (g | g | g)
  · exact g hp
  · omega
  · omega
theorem moves_do : Moves C6.DOP 1 1 := by
  refine ⟨?_, fun h => by omega⟩
  intro h i o b a hp h1 h2 hk
  have hp' := hp
  unfold C6.Pot at hp'
  unfold C6.DOP at hk ⊢
  rw [if_neg (not_bad hp h1 h2)] at hk ⊢
  cases b with
  | true =>
    simp only [if_true] at hk ⊢
    by_cases c : a > h - i
    · rw [if_pos c] at hk
      exact absurd hk (by decide)
    · rw [if_neg c]
      exact ⟨_, _, _, rfl, by unfold C6.Pot; omega, by omega, by omega, by omega⟩
  | false =>
    simp only [Bool.false_eq_true, if_false] at hk ⊢
    by_cases c : a > 1000000000000000 - h - o
    · rw [if_pos c] at hk
      exact absurd hk (by decide)
    · rw [if_neg c]
      exact ⟨_, _, _, rfl, by unfold C6.Pot; omega, by omega, by omega, by omega⟩
theorem moves_undo : Moves C6.UNP (-1) (-1) := by
  constructor
  · intro h i o b a hp h1 h2 hk
    have hp' := hp
    unfold C6.Pot at hp'
    unfold C6.UNP at hk ⊢
    rw [if_neg (not_bad hp h1 h2)] at hk ⊢
    cases b with
    | true =>
      simp only [if_true] at hk ⊢
      by_cases c : a > o
      · rw [if_pos c] at hk
        exact absurd hk (by decide)
      · rw [if_neg c]
        exact ⟨_, _, _, rfl, by unfold C6.Pot; omega, by omega, by omega, by omega⟩
    | false =>
      simp only [Bool.false_eq_true, if_false] at hk ⊢
      by_cases c : a > i
      · rw [if_pos c] at hk
        exact absurd hk (by decide)
      · rw [if_neg c]
        exact ⟨_, _, _, rfl, by unfold C6.Pot; omega, by omega, by omega, by omega⟩
  · intro _ h i o b a hp h1 h2 hc
    unfold C6.UNP
    rw [if_neg (not_bad hp h1 h2)]
    cases b with
    | true =>
      simp only [if_true] at hc ⊢
      rw [if_neg (by omega)]
    | false =>
      simp only [Bool.false_eq_true, if_false] at hc ⊢
      rw [if_neg (by omega)]
theorem moves_keep : Moves C6.KPP 0 (-1) := by
  constructor
  · intro h i o b a hp h1 h2 hk
    have hp' := hp
    unfold C6.Pot at hp'
    unfold C6.KPP at hk ⊢
    rw [if_neg (not_bad hp h1 h2)] at hk ⊢
    cases b with
    | true =>
      simp only [if_true] at hk ⊢
      by_cases c : a > o
      · rw [if_pos c] at hk
        exact absurd hk (by decide)
      · rw [if_neg c]
        exact ⟨_, _, _, rfl, by unfold C6.Pot; omega, by omega, by omega, by omega⟩
    | false =>
      simp only [Bool.false_eq_true, if_false] at hk ⊢
      by_cases c : a > i
      · rw [if_pos c] at hk
        exact absurd hk (by decide)
      · rw [if_neg c]
        exact ⟨_, _, _, rfl, by unfold C6.Pot; omega, by omega, by omega, by omega⟩
  · intro _ h i o b a hp h1 h2 hc
    unfold C6.KPP
    rw [if_neg (not_bad hp h1 h2)]
    cases b with
    | true =>
      simp only [if_true] at hc ⊢
      rw [if_neg (by omega)]
    | false =>
      simp only [Bool.false_eq_true, if_false] at hc ⊢
      rw [if_neg (by omega)]
theorem okA_parts {x : S51} (h : okA x) : C6.nameB x.f0 = true ∧ C6.Pot x.f1.f0 x.f1.f1 x.f1.f2 ∧ C6.Pot x.f2.f0 x.f2.f1 x.f2.f2 := by
  unfold okA C6.mayI at h
  split at h
  · assumption
  · cases h
theorem okA_mk {x : S51} (h1 : C6.nameB x.f0 = true) (h2 : C6.Pot x.f1.f0 x.f1.f1 x.f1.f2) (h3 : C6.Pot x.f2.f0 x.f2.f1 x.f2.f2) : okA x := if_pos ⟨h1, h2, h3⟩
theorem mx_p (a : Int) (h : 1 ≤ a) : mx a 0 = a := by unfold mx; rw [if_neg (by omega)]
theorem mx_n (a : Int) (h : 1 ≤ a) : mx (-a) 0 = 0 := by unfold mx; rw [if_pos (by omega)]
theorem mx_0 : mx 0 0 = 0 := by unfold mx; rw [if_neg (by omega)]
def actT (DD : PD) (x : S51) (m : S64) : AT := C6.EACH DD x.f0 x.f1.f0 x.f1.f1 x.f1.f2 x.f2.f0 x.f2.f1 x.f2.f2 m.f1.f0 m.f1.f1 m.f1.f2
theorem actT_mv (DD : PD) (s t : Int) (hM : Moves DD s t) (x : S51) (m : S64) (hx : okA x) (hc : C6.checkI m.f1.f0 m.f1.f1 m.f1.f2 = 0) (hn : m.f1.f1 = x.f0) :
    ((actT DD x m).2.2.2.2.2.2.2 = 0 → actT DD x m = accT (mvA s t x m) 0 ∧ okA (mvA s t x m)) ∧ (t = -1 → q1 m ≤ x.f1.f1 → q2 m ≤ x.f1.f2 → q3 m ≤ x.f2.f1 → q4 m ≤ x.f2.f2 → (actT DD x m).2.2.2.2.2.2.2 = 0) := by
  obtain ⟨k0, ⟨kind, nm, a⟩, st⟩ := m
  obtain ⟨n, ⟨h, i, o⟩, ⟨h2, i2, o2⟩⟩ := x
  dsimp only at hc hn
  obtain ⟨z1, z2, z3, z4⟩ := C6.check_zero kind nm a hc
  obtain ⟨pn, p1, p2⟩ := okA_parts hx
  dsimp only at pn p1 p2
  have hm : C6.mayI n h i o h2 i2 o2 = 0 := hx
  unfold actT C6.EACH
  dsimp only
  rw [if_pos hm, if_pos ⟨hc, hn⟩]
  rcases (show kind = 1 ∨ kind = 2 ∨ kind = 3 ∨ kind = 4 by omega) with rfl | rfl | rfl | rfl
  · have hd : dl ⟨k0, ⟨1, nm, a⟩, st⟩ = (-a, 0) := by show C6.DL 1 nm a = _; unfold C6.DL; rw [if_pos hc]; simp [C6.ways]
    have w1 : decide ((C6.ways 1).1 < 0) = true := by decide
    have w2 : (C6.ways 1).2 = 0 := by decide
    rw [w1, if_pos w2]
    constructor
    · intro hk
      by_cases c : (DD h i o true a).2.2.2 = 0
      · rw [if_pos c]
        obtain ⟨h', i', o', e, pp, e1, e2, e3⟩ := hM.get h i o true a p1 z3 z4 c
        simp only [if_true] at e1 e2 e3
        rw [e]
        have ha : mvA s t ⟨n, ⟨h, i, o⟩, ⟨h2, i2, o2⟩⟩ ⟨k0, ⟨1, nm, a⟩, st⟩ = ⟨n, ⟨h', i', o'⟩, ⟨h2, i2, o2⟩⟩ := by
          simp [mvA, d1, d2, q1, q2, q3, q4, hd, mx_n a z3, mx_p a z3, mx_0, e1, e2, e3]
        rw [ha]
        exact ⟨rfl, okA_mk pn pp p2⟩
      · rw [if_neg c] at hk
        exact absurd hk c
    · intro ht g1 g2 g3 g4
      have : (DD h i o true a).2.2.2 = 0 := hM.can ht h i o true a p1 z3 z4 (by
        simp only [if_true]
        simpa [q2, hd, mx_p a z3] using g2)
      rw [if_pos this]
  · have hd : dl ⟨k0, ⟨2, nm, a⟩, st⟩ = (a, 0) := by show C6.DL 2 nm a = _; unfold C6.DL; rw [if_pos hc]; simp [C6.ways]
    have w1 : decide ((C6.ways 2).1 < 0) = false := by decide
    have w2 : (C6.ways 2).2 = 0 := by decide
    rw [w1, if_pos w2]
    constructor
    · intro hk
      by_cases c : (DD h i o false a).2.2.2 = 0
      · rw [if_pos c]
        obtain ⟨h', i', o', e, pp, e1, e2, e3⟩ := hM.get h i o false a p1 z3 z4 c
        simp only [Bool.false_eq_true, if_false] at e1 e2 e3
        rw [e]
        have ha : mvA s t ⟨n, ⟨h, i, o⟩, ⟨h2, i2, o2⟩⟩ ⟨k0, ⟨2, nm, a⟩, st⟩ = ⟨n, ⟨h', i', o'⟩, ⟨h2, i2, o2⟩⟩ := by
          simp [mvA, d1, d2, q1, q2, q3, q4, hd, mx_n a z3, mx_p a z3, mx_0, e1, e2, e3]
        rw [ha]
        exact ⟨rfl, okA_mk pn pp p2⟩
      · rw [if_neg c] at hk
        exact absurd hk c
    · intro ht g1 g2 g3 g4
      have : (DD h i o false a).2.2.2 = 0 := hM.can ht h i o false a p1 z3 z4 (by
        simp only [Bool.false_eq_true, if_false]
        simpa [q1, hd, mx_p a z3] using g1)
      rw [if_pos this]
  · have hd : dl ⟨k0, ⟨3, nm, a⟩, st⟩ = (-a, a) := by show C6.DL 3 nm a = _; unfold C6.DL; rw [if_pos hc]; simp [C6.ways]
    have w1 : decide ((C6.ways 3).1 < 0) = true := by decide
    have w2 : ¬ (C6.ways 3).2 = 0 := by decide
    have w3 : decide ((C6.ways 3).2 < 0) = false := by decide
    rw [w1, if_neg w2, w3]
    constructor
    · intro hk
      by_cases c : (DD h i o true a).2.2.2 = 0
      · rw [if_pos c] at hk ⊢
        by_cases c2 : (DD h2 i2 o2 false a).2.2.2 = 0
        · rw [if_pos c2]
          obtain ⟨h', i', o', e, pp, e1, e2, e3⟩ := hM.get h i o true a p1 z3 z4 c
          obtain ⟨h2', i2', o2', f, qq, f1, f2, f3⟩ := hM.get h2 i2 o2 false a p2 z3 z4 c2
          simp only [if_true] at e1 e2 e3
          simp only [Bool.false_eq_true, if_false] at f1 f2 f3
          rw [e, f]
          have ha : mvA s t ⟨n, ⟨h, i, o⟩, ⟨h2, i2, o2⟩⟩ ⟨k0, ⟨3, nm, a⟩, st⟩ = ⟨n, ⟨h', i', o'⟩, ⟨h2', i2', o2'⟩⟩ := by
            simp [mvA, d1, d2, q1, q2, q3, q4, hd, mx_n a z3, mx_p a z3, mx_0, e1, e2, e3, f1, f2, f3]
          rw [ha]
          exact ⟨rfl, okA_mk pn pp qq⟩
        · rw [if_neg c2] at hk
          exact absurd hk c2
      · rw [if_neg c] at hk
        exact absurd hk c
    · intro ht g1 g2 g3 g4
      have h1 : (DD h i o true a).2.2.2 = 0 := hM.can ht h i o true a p1 z3 z4 (by
        simp only [if_true]
        simpa [q2, hd, mx_p a z3] using g2)
      have h2 : (DD h2 i2 o2 false a).2.2.2 = 0 := hM.can ht h2 i2 o2 false a p2 z3 z4 (by
        simp only [Bool.false_eq_true, if_false]
        simpa [q3, hd, mx_p a z3] using g3)
      rw [if_pos h1, if_pos h2]
  · have hd : dl ⟨k0, ⟨4, nm, a⟩, st⟩ = (a, -a) := by show C6.DL 4 nm a = _; unfold C6.DL; rw [if_pos hc]; simp [C6.ways]
    have w1 : decide ((C6.ways 4).1 < 0) = false := by decide
    have w2 : ¬ (C6.ways 4).2 = 0 := by decide
    have w3 : decide ((C6.ways 4).2 < 0) = true := by decide
    rw [w1, if_neg w2, w3]
    constructor
    · intro hk
      by_cases c : (DD h i o false a).2.2.2 = 0
      · rw [if_pos c] at hk ⊢
        by_cases c2 : (DD h2 i2 o2 true a).2.2.2 = 0
        · rw [if_pos c2]
          obtain ⟨h', i', o', e, pp, e1, e2, e3⟩ := hM.get h i o false a p1 z3 z4 c
          obtain ⟨h2', i2', o2', f, qq, f1, f2, f3⟩ := hM.get h2 i2 o2 true a p2 z3 z4 c2
          simp only [Bool.false_eq_true, if_false] at e1 e2 e3
          simp only [if_true] at f1 f2 f3
          rw [e, f]
          have ha : mvA s t ⟨n, ⟨h, i, o⟩, ⟨h2, i2, o2⟩⟩ ⟨k0, ⟨4, nm, a⟩, st⟩ = ⟨n, ⟨h', i', o'⟩, ⟨h2', i2', o2'⟩⟩ := by
            simp [mvA, d1, d2, q1, q2, q3, q4, hd, mx_n a z3, mx_p a z3, mx_0, e1, e2, e3, f1, f2, f3]
          rw [ha]
          exact ⟨rfl, okA_mk pn pp qq⟩
        · rw [if_neg c2] at hk
          exact absurd hk c2
      · rw [if_neg c] at hk
        exact absurd hk c
    · intro ht g1 g2 g3 g4
      have h1 : (DD h i o false a).2.2.2 = 0 := hM.can ht h i o false a p1 z3 z4 (by
        simp only [Bool.false_eq_true, if_false]
        simpa [q1, hd, mx_p a z3] using g1)
      have h2 : (DD h2 i2 o2 true a).2.2.2 = 0 := hM.can ht h2 i2 o2 true a p2 z3 z4 (by
        simp only [if_true]
        simpa [q4, hd, mx_p a z3] using g4)
      rw [if_pos h1, if_pos h2]
/-! a ledger that an activity changes -/
/-- What each account had ahead of all that is in effect on it. -/
def Bal (A : List S51) (M : List S64) : List (ByteArray × Int × Int) := A.map fun x => (x.f0, x.f1.f0 - wsum (ew d1 x.f0) M, x.f2.f0 - wsum (ew d2 x.f0) M)
theorem names_of {A A' : List S51} (e : A'.map (·.f0) = A.map (·.f0)) (n : ByteArray) (h : ∃ x ∈ A, x.f0 = n) : ∃ x ∈ A', x.f0 = n := by
  obtain ⟨x, hx, he⟩ := h
  have : n ∈ A'.map (·.f0) := by
    rw [e]
    exact List.mem_map.2 ⟨x, hx, he⟩
  obtain ⟨y, hy, g⟩ := List.mem_map.1 this
  exact ⟨y, hy, g⟩
theorem upd {A : List S51} {M : List S64} (h : okP A M) (p : Nat) (hp : p < A.length) (s t : Int) (m : S64) (hx : okA (mvA s t A[p] m)) (M' : List S64) (hl : M'.length ≤ 500) (hs : (M'.map (·.f0)).Pairwise lt)
    (hm : ∀ y ∈ M', okM y ∧ ∃ x ∈ A, x.f0 = y.f1.f1) (hpw : ∀ q n, (∀ y z : S64, y.f1 = z.f1 → q y = q z) → wsum (pw q n) M' = wsum (pw q n) M + t * (if n = A[p].f0 then q m else 0))
    (hew : ∀ d n, (∀ y z : S64, y.f1 = z.f1 → d y = d z) → wsum (ew d n) M' = wsum (ew d n) M + s * (if n = A[p].f0 then d m else 0)) :
    okP (A.set p (mvA s t A[p] m)) M' ∧ Bal (A.set p (mvA s t A[p] m)) M' = Bal A M := by
  have hn : (A.set p (mvA s t A[p] m)).map (·.f0) = A.map (·.f0) := map_set_same _ _ A p hp rfl
  have e1 : ∀ y z : S64, y.f1 = z.f1 → q1 y = q1 z := fun y z e => by unfold q1 dl; rw [e]
  have e2 : ∀ y z : S64, y.f1 = z.f1 → q2 y = q2 z := fun y z e => by unfold q2 dl; rw [e]
  have e3 : ∀ y z : S64, y.f1 = z.f1 → q3 y = q3 z := fun y z e => by unfold q3 dl; rw [e]
  have e4 : ∀ y z : S64, y.f1 = z.f1 → q4 y = q4 z := fun y z e => by unfold q4 dl; rw [e]
  have g1 : ∀ y z : S64, y.f1 = z.f1 → d1 y = d1 z := fun y z e => by unfold d1 dl; rw [e]
  have g2 : ∀ y z : S64, y.f1 = z.f1 → d2 y = d2 z := fun y z e => by unfold d2 dl; rw [e]
  have hother : ∀ k (hk : k < A.length), k ≠ p → ¬ A[k].f0 = A[p].f0 := fun k hk hkp e => hkp (nameA_inj h k p hk hp e)
  refine ⟨⟨by rw [List.length_set]; exact h.1, hl, ?_, by rw [hn]; exact h.2.2.2.1, fun y hy => ⟨(hm y hy).1, names_of hn _ (hm y hy).2⟩, hs, ?_⟩, ?_⟩
  · intro y hy
    rcases mem_set _ _ _ _ hy with rfl | ⟨k, hk, _, rfl⟩
    · exact hx
    · exact h.2.2.1 _ (List.getElem_mem hk)
  · intro y hy
    rw [potsOk_iff M' (by omega)]
    rcases mem_set _ _ _ _ hy with rfl | ⟨k, hk, hkp, rfl⟩
    · have hb := (potsOk_iff M (by have := h.2.1; omega) A[p]).1 (h.2.2.2.2.2.2 _ (List.getElem_mem hp))
      show wsum (pw q1 A[p].f0) M' = A[p].f1.f1 + t * q1 m ∧ wsum (pw q2 A[p].f0) M' = A[p].f1.f2 + t * q2 m ∧ wsum (pw q3 A[p].f0) M' = A[p].f2.f1 + t * q3 m ∧ wsum (pw q4 A[p].f0) M' = A[p].f2.f2 + t * q4 m
      rw [hpw q1 _ e1, hpw q2 _ e2, hpw q3 _ e3, hpw q4 _ e4, if_pos rfl, if_pos rfl, if_pos rfl, if_pos rfl, hb.1, hb.2.1, hb.2.2.1, hb.2.2.2]
      exact ⟨rfl, rfl, rfl, rfl⟩
    · have hb := (potsOk_iff M (by have := h.2.1; omega) A[k]).1 (h.2.2.2.2.2.2 _ (List.getElem_mem hk))
      have ho := hother k hk hkp
      rw [hpw q1 _ e1, hpw q2 _ e2, hpw q3 _ e3, hpw q4 _ e4, if_neg ho, if_neg ho, if_neg ho, if_neg ho, hb.1, hb.2.1, hb.2.2.1, hb.2.2.2]
      simp only [Int.mul_zero, Int.add_zero]
      exact ⟨trivial, trivial, trivial, trivial⟩
  · unfold Bal
    refine List.ext_getElem (by rw [List.length_map, List.length_map, List.length_set]) ?_
    intro k hk1 hk2
    rw [List.length_map] at hk2
    rw [List.getElem_map, List.getElem_map, List.getElem_set]
    by_cases c : p = k
    · subst c
      rw [if_pos rfl]
      show (A[p].f0, A[p].f1.f0 + s * d1 m - wsum (ew d1 A[p].f0) M', A[p].f2.f0 + s * d2 m - wsum (ew d2 A[p].f0) M') = _
      rw [hew d1 _ g1, hew d2 _ g2, if_pos rfl, if_pos rfl]
      simp only [Prod.mk.injEq]
      exact ⟨trivial, by omega, by omega⟩
    · rw [if_neg c]
      have ho := hother k hk2 (fun e => c e.symm)
      rw [hew d1 _ g1, hew d2 _ g2, if_neg ho, if_neg ho]
      simp only [Int.mul_zero, Int.add_zero]
theorem ins_pw (q : S64 → Int) (n acc : ByteArray) (M : List S64) (j : Nat) (m : S64) (hf : m.f2 = 1) (ha : m.f1.f1 = acc) : wsum (pw q n) (M.take j ++ m :: M.drop j) = wsum (pw q n) M + 1 * (if n = acc then q m else 0) := by
  rw [wsum_ins]
  unfold pw
  by_cases c : n = acc
  · rw [if_pos ⟨hf, by rw [ha, c]⟩, if_pos c]
    omega
  · rw [if_neg (fun g => c (by rw [← ha, g.2])), if_neg c]
    omega
theorem ins_ew (d : S64 → Int) (n acc : ByteArray) (M : List S64) (j : Nat) (m : S64) (hf : m.f2 = 1) (ha : m.f1.f1 = acc) : wsum (ew d n) (M.take j ++ m :: M.drop j) = wsum (ew d n) M + 1 * (if n = acc then d m else 0) := by
  rw [wsum_ins]
  unfold ew
  by_cases c : n = acc
  · rw [if_pos ⟨by rw [ha, c], by omega⟩, if_pos c]
    omega
  · rw [if_neg (fun g => c (by rw [← ha, g.1])), if_neg c]
    omega
theorem set_pw (q : S64 → Int) (hq : ∀ y z : S64, y.f1 = z.f1 → q y = q z) (n acc : ByteArray) (M : List S64) (i : Nat) (hi : i < M.length) (m : S64) (h1 : M[i].f2 = 1) (h2 : M[i].f1 = m.f1) (hf : ¬ m.f2 = 1) (ha : m.f1.f1 = acc) : wsum (pw q n) (M.set i m) = wsum (pw q n) M + (-1) * (if n = acc then q m else 0) := by
  rw [wsum_set _ _ _ _ hi]
  unfold pw
  rw [if_neg (fun g : m.f2 = 1 ∧ m.f1.f1 = n => hf g.1)]
  by_cases c : n = acc
  · rw [if_pos ⟨h1, by rw [h2, ha, c]⟩, if_pos c, hq _ _ h2]
    omega
  · rw [if_neg (fun g => c (by rw [← ha, ← h2, g.2])), if_neg c]
    omega
theorem set_ew (d : S64 → Int) (hq : ∀ y z : S64, y.f1 = z.f1 → d y = d z) (s : Int) (n acc : ByteArray) (M : List S64) (i : Nat) (hi : i < M.length) (m : S64) (h1 : M[i].f2 = 1) (h2 : M[i].f1 = m.f1) (hf : (s = -1 ∧ m.f2 = 2) ∨ (s = 0 ∧ m.f2 = 3)) (ha : m.f1.f1 = acc) : wsum (ew d n) (M.set i m) = wsum (ew d n) M + s * (if n = acc then d m else 0) := by
  rw [wsum_set _ _ _ _ hi]
  unfold ew
  by_cases c : n = acc
  · rw [if_pos ⟨by rw [h2, ha, c], by omega⟩, if_pos c, hq _ _ h2]
    rcases hf with ⟨rfl, hf⟩ | ⟨rfl, hf⟩
    · rw [if_neg (fun g : m.f1.f1 = n ∧ m.f2 ≠ 2 => g.2 hf)]
      omega
    · rw [if_pos ⟨by rw [ha, c], by omega⟩]
      omega
  · rw [if_neg (fun g => c (by rw [← ha, ← h2, g.1])), if_neg (fun g : m.f1.f1 = n ∧ m.f2 ≠ 2 => c (by rw [← ha, g.1])), if_neg c]
    omega
theorem copied_is (A : List S51) (M : List S64) (hA : A.length ≤ 1000) (hM : M.length ≤ 1000) : ledger_copied.f A M = some (A, M) := by
  unfold ledger_copied.f api_Account_64.f api_Mark_65.f
  rw [if_pos (by omega), if_pos (by omega)]
  rfl
abbrev PF := Nat → ByteArray → Int → Int → Int → Int → Int → Int → Int → ByteArray → Int → Option AT
def Does (D : PF) (DD : PD) : Prop := ∀ (x : S51) (m : S64), okA x → Ev (fun k => D k x.f0 x.f1.f0 x.f1.f1 x.f1.f2 x.f2.f0 x.f2.f1 x.f2.f2 m.f1.f0 m.f1.f1 m.f1.f2) (actT DD x m)
theorem does_do : Does act_Do.f C6.DOP := fun x m hx => by
  have hr := okA_rng x hx
  exact C6.act_do_ev _ _ _ _ _ _ _ _ _ _ hr.2.2.1 hr.2.2.2.2.2
theorem does_undo : Does act_Undo.f C6.UNP := fun x m hx => by
  have hr := okA_rng x hx
  exact C6.act_undo_ev _ _ _ _ _ _ _ _ _ _ hr.2.2.1 hr.2.2.2.2.2
theorem does_keep : Does act_Keep.f C6.KPP := fun x m hx => by
  have hr := okA_rng x hx
  exact C6.act_keep_ev _ _ _ _ _ _ _ _ _ _ hr.2.2.1 hr.2.2.2.2.2
abbrev LR := List S51 × List S64 × Int
theorem ins_mem {M : List S64} {j : Nat} {m y : S64} (h : y ∈ M.take j ++ m :: M.drop j) : y = m ∨ y ∈ M := by
  rcases List.mem_append.1 h with h | h
  · exact Or.inr (List.mem_of_mem_take h)
  · rcases List.mem_cons.1 h with h | h
    · exact Or.inl h
    · exact Or.inr (List.mem_of_mem_drop h)
/-- A mark that is not there yet. -/
theorem changed_ins (D : PF) (DD : PD) (hM : Moves DD 1 1) (hD : Does D DD) {A : List S51} {M : List S64} (h : okP A M) (m : S64) (z : Int) (hm : okM m) (h1 : m.f2 = 1) (hno : ¬ hasM' M m.f0) :
    ∃ A' M' e, Ev (fun k => ledger_changed_any.f D k A M m.f0 m.f1.f0 m.f1.f1 m.f1.f2 m.f2 z) (A', M', e) ∧ (e = 0 → okP A' M' ∧ Bal A' M' = Bal A M ∧ m ∈ M') := by
  have hA := h.1
  have hMl := h.2.1
  have hcp := copied_is A M (by omega) (by omega)
  unfold ledger_changed_any.f
  rcases lookA h m.f1.f1 with ⟨p, hp, hpn, hpe⟩ | ⟨_, j, _, hpe⟩
  · rcases lookM h m.f0 with ⟨i, hi, hin, _⟩ | ⟨_, j, hj, hje⟩
    · exact absurd ⟨i, hi, by rw [← rdM_get M i hi]; exact hin⟩ hno
    have hxo := h.2.2.1 _ (List.getElem_mem hp)
    by_cases c5 : M.length = 500
    · refine ⟨[], [], 3, ?_, fun e => by omega⟩
      refine Ev.bind hpe (ev_pos rfl ?_)
      refine Ev.bind hje (ev_neg Bool.false_ne_true ?_)
      dsimp only
      rw [show ((M.length : Int) == 500) = true from beq_iff_eq.2 (by omega)]
      exact Ev.step (fun k => by rw [ledger_changed_any.j0]) (ev_pos rfl (Ev.now _))
    · have hd := hD A[p] m hxo
      have hmv := (actT_mv DD 1 1 hM A[p] m hxo hm.2.1 hpn.symm).1
      by_cases c6 : (actT DD A[p] m).2.2.2.2.2.2.2 = 0
      · obtain ⟨he, hok⟩ := hmv c6
        refine ⟨A.set p (mvA 1 1 A[p] m), M.take j ++ m :: M.drop j, 0, ?_, fun _ => ?_⟩
        · refine Ev.bind hpe (ev_pos rfl ?_)
          refine Ev.bind hje (ev_neg Bool.false_ne_true ?_)
          dsimp only
          rw [show ((M.length : Int) == 500) = false from beq_eq_false_iff_ne.2 (by omega)]
          refine Ev.step (fun k => by rw [ledger_changed_any.j0]) (ev_neg Bool.false_ne_true ?_)
          refine ev_pos (by omega) ?_
          refine ev_pos (by omega) ?_
          rw [rdA_get A p hp]
          refine Ev.bind hd ?_
          refine ev_pos c6 ?_
          rw [hcp, he]
          simp only [Option.bind_some]
          refine ev_pos (by omega) ?_
          refine ev_neg Bool.false_ne_true ?_
          unfold ledger_changed_e
          rw [if_pos ⟨by omega, by have := hj.1; omega, by omega⟩, Int.toNat_natCast, Int.toNat_natCast]
          exact Ev.now _
        · have hu := upd h p hp 1 1 m hok (M.take j ++ m :: M.drop j) (by rw [List.length_append, List.length_take, List.length_cons, List.length_drop]; omega) (insM_sorted h m j hj hno)
            (fun y hy => by
              rcases ins_mem hy with rfl | hy
              · exact ⟨hm, A[p], List.getElem_mem hp, hpn⟩
              · exact h.2.2.2.2.1 y hy)
            (fun q n _ => ins_pw q n A[p].f0 M j m h1 hpn.symm) (fun d n _ => ins_ew d n A[p].f0 M j m h1 hpn.symm)
          exact ⟨hu.1, hu.2, List.mem_append_right _ List.mem_cons_self⟩
      · refine ⟨[], [], (actT DD A[p] m).2.2.2.2.2.2.2, ?_, fun e => absurd e c6⟩
        refine Ev.bind hpe (ev_pos rfl ?_)
        refine Ev.bind hje (ev_neg Bool.false_ne_true ?_)
        dsimp only
        rw [show ((M.length : Int) == 500) = false from beq_eq_false_iff_ne.2 (by omega)]
        refine Ev.step (fun k => by rw [ledger_changed_any.j0]) (ev_neg Bool.false_ne_true ?_)
        refine ev_pos (by omega) ?_
        refine ev_pos (by omega) ?_
        rw [rdA_get A p hp]
        refine Ev.bind hd ?_
        exact ev_neg c6 (Ev.now _)
  · exact ⟨[], [], 70, Ev.bind hpe (ev_neg Bool.false_ne_true (Ev.now _)), fun e => by omega⟩
/-- A mark that is done, ended. -/
theorem changed_set (D : PF) (DD : PD) (s : Int) (hM : Moves DD s (-1)) (hD : Does D DD) {A : List S51} {M : List S64} (h : okP A M) (m : S64) (z : Int) (hs : (s = -1 ∧ m.f2 = 2) ∨ (s = 0 ∧ m.f2 = 3)) (i : Nat) (hi : i < M.length) (h0 : M[i].f0 = m.f0) (h1 : M[i].f1 = m.f1) (h2 : M[i].f2 = 1) :
    ∃ A', Ev (fun k => ledger_changed_any.f D k A M m.f0 m.f1.f0 m.f1.f1 m.f1.f2 m.f2 z) (A', M.set i m, 0) ∧ okP A' (M.set i m) ∧ Bal A' (M.set i m) = Bal A M := by
  have hA := h.1
  have hMl := h.2.1
  have hcp := copied_is A M (by omega) (by omega)
  have hmi := h.2.2.2.2.1 _ (List.getElem_mem hi)
  have hc : C6.checkI m.f1.f0 m.f1.f1 m.f1.f2 = 0 := by rw [← h1]; exact hmi.1.2.1
  unfold ledger_changed_any.f
  rcases lookA h m.f1.f1 with ⟨p, hp, hpn, hpe⟩ | ⟨hno, _⟩
  · rcases lookM h m.f0 with ⟨i', hi', hin, hie⟩ | ⟨hno, _⟩
    · have hii : i' = i := nameM_inj h i' i hi' hi (by rw [hin, h0])
      subst hii
      have hxo := h.2.2.1 _ (List.getElem_mem hp)
      have hd := hD A[p] m hxo
      have hb := (potsOk_iff M (by omega) A[p]).1 (h.2.2.2.2.2.2 _ (List.getElem_mem hp))
      have hge : ∀ q : S64 → Int, (∀ y, 0 ≤ q y ∧ q y ≤ 1000000000000000) → (∀ y z : S64, y.f1 = z.f1 → q y = q z) → q m ≤ wsum (pw q A[p].f0) M := by
        intro q hq he
        have := wsum_ge (pw q A[p].f0) M (fun y _ => (pw_rng q A[p].f0 hq y).1) M[i'] (List.getElem_mem hi')
        have e : pw q A[p].f0 M[i'] = q m := by
          unfold pw
          rw [if_pos ⟨h2, by rw [h1]; exact hpn.symm⟩]
          exact he _ _ h1
        omega
      have c6 : (actT DD A[p] m).2.2.2.2.2.2.2 = 0 := by
        refine (actT_mv DD s (-1) hM A[p] m hxo hc hpn.symm).2 rfl ?_ ?_ ?_ ?_
        · rw [← hb.1]
          exact hge q1 q1_rng (fun y z e => by unfold q1 dl; rw [e])
        · rw [← hb.2.1]
          exact hge q2 q2_rng (fun y z e => by unfold q2 dl; rw [e])
        · rw [← hb.2.2.1]
          exact hge q3 q3_rng (fun y z e => by unfold q3 dl; rw [e])
        · rw [← hb.2.2.2]
          exact hge q4 q4_rng (fun y z e => by unfold q4 dl; rw [e])
      obtain ⟨he, hok⟩ := (actT_mv DD s (-1) hM A[p] m hxo hc hpn.symm).1 c6
      refine ⟨A.set p (mvA s (-1) A[p] m), ?_, ?_⟩
      · refine Ev.bind hpe (ev_pos rfl ?_)
        refine Ev.bind hie (ev_pos rfl ?_)
        dsimp only
        refine Ev.step (fun k => by rw [ledger_changed_any.j0]) (ev_neg Bool.false_ne_true ?_)
        refine ev_pos (by omega) ?_
        refine ev_pos (by omega) ?_
        rw [rdA_get A p hp]
        refine Ev.bind hd ?_
        refine ev_pos c6 ?_
        rw [hcp, he]
        simp only [Option.bind_some]
        refine ev_pos (by omega) ?_
        refine ev_pos trivial ?_
        refine ev_pos (by omega) ?_
        refine ev_pos (by omega) ?_
        rw [Int.toNat_natCast, Int.toNat_natCast]
        exact Ev.now _
      · refine upd h p hp s (-1) m hok (M.set i' m) (by rw [List.length_set]; omega) (by rw [map_set_same _ _ M i' hi' h0.symm]; exact h.2.2.2.2.2.1) ?_ ?_ ?_
        · intro y hy
          rcases mem_set _ _ _ _ hy with rfl | ⟨k, hk, _, rfl⟩
          · refine ⟨⟨by rw [← h0]; exact hmi.1.1, hc, by omega, by omega⟩, A[p], List.getElem_mem hp, hpn⟩
          · exact h.2.2.2.2.1 _ (List.getElem_mem hk)
        · exact fun q n hq => set_pw q hq n A[p].f0 M i' hi' m h2 h1 (by omega) hpn.symm
        · exact fun d n hq => set_ew d hq s n A[p].f0 M i' hi' m h2 h1 hs hpn.symm
    · exact absurd ⟨i, hi, by rw [← rdM_get M i hi]; exact h0⟩ hno
  · obtain ⟨x, hx, he⟩ := hmi.2
    obtain ⟨j, hj, rfl⟩ := rdA_mem A x hx
    exact absurd ⟨j, hj, by rw [he, h1]⟩ hno
/-! the calls -/
theorem key_t {k : ByteArray} (h : keyB k) : ledger_key.f k = some true := by
  rcases key_is k with ⟨_, e⟩ | ⟨g, _⟩
  · exact e
  · exact absurd h g
theorem key_f {k : ByteArray} (h : ¬ keyB k) : ledger_key.f k = some false := by
  rcases key_is k with ⟨g, _⟩ | ⟨_, e⟩
  · exact absurd g h
  · exact e
theorem fits_is (a : Int) : cash_Fits.f a = some (decide (0 ≤ a ∧ a ≤ 1000000000000000)) := by
  unfold cash_Fits.f
  by_cases c : 0 ≤ a
  · rw [if_pos (by omega)]
    by_cases c2 : a ≤ 1000000000000000
    · rw [decide_eq_true c2, decide_eq_true ⟨c, c2⟩]
    · rw [decide_eq_false c2, decide_eq_false (fun h => c2 h.2)]
  · rw [if_neg (by omega), decide_eq_false (fun h => c h.1)]
def newA (n : ByteArray) (a : Int) : S51 := ⟨n, ⟨a, 0, 0⟩, ⟨0, 0, 0⟩⟩
theorem no_marks {A : List S51} {M : List S64} (h : okP A M) (n : ByteArray) (hn : ¬ hasA A n) (w : S64 → Int) (hw : ∀ m : S64, m.f1.f1 ≠ n → w m = 0) : wsum w M = 0 := by
  refine wsum_zero w M (fun m hm => hw m (fun e => ?_))
  obtain ⟨x, hx, he⟩ := (h.2.2.2.2.1 m hm).2
  obtain ⟨j, hj, rfl⟩ := rdA_mem A x hx
  exact hn ⟨j, hj, by rw [he, e]⟩
theorem insA_mem {A : List S51} {j : Nat} {x y : S51} : y ∈ A.take j ++ x :: A.drop j ↔ y = x ∨ y ∈ A := by
  constructor
  · intro h
    rcases List.mem_append.1 h with h | h
    · exact Or.inr (List.mem_of_mem_take h)
    · rcases List.mem_cons.1 h with h | h
      · exact Or.inl h
      · exact Or.inr (List.mem_of_mem_drop h)
  · rintro (rfl | h)
    · exact List.mem_append_right _ List.mem_cons_self
    · rw [← List.take_append_drop j A] at h
      rcases List.mem_append.1 h with h | h
      · exact List.mem_append_left _ h
      · exact List.mem_append_right _ (List.mem_cons_of_mem _ h)
theorem open_ev {A : List S51} {M : List S64} (h : okP A M) (n : ByteArray) (a : Int) :
    ∃ A' M' e, Ev (fun k => ledger_Open.f k A M n a) (A', M', e) ∧ (e = 0 → okP A' M' ∧ (∃ j, A' = A.take j ++ newA n a :: A.drop j) ∧ M' = M ∧ ¬ hasA A n) := by
  have hA := h.1
  have hMl := h.2.1
  have bad : ∃ A' M' e, Ev (fun k => ledger_Open.j0 k n a true A M) (A', M', e) ∧ e = 2 := ⟨[], [], 2, Ev.step (fun k => by rw [ledger_Open.j0]) (ev_pos rfl (Ev.now _)), rfl⟩
  obtain ⟨Ab, Mb, eb, hb, he⟩ := bad
  unfold ledger_Open.f
  by_cases c1 : C6.nameB n = true
  · by_cases c2 : 0 ≤ a ∧ a ≤ 1000000000000000
    · have hf := fits_is a
      rw [decide_eq_true c2] at hf
      have pre : ∀ r, Ev (fun k => ledger_Open.j0 k n a false A M) r → Ev (fun k => (ledger_May.f k A M).bind fun t148 => (if t148 = 0 then ((act_Name.f k n).bind fun t149 => (if t149 = true then ((cash_Fits.f a).bind fun t150 => (ledger_Open.j0 k n a (!t150) A M)) else (ledger_Open.j0 k n a true A M))) else (ledger_Open.j0 k n a true A M))) r := by
        intro r hr
        refine Ev.bind (may_ok h) (ev_pos rfl ?_)
        refine Ev.bind (C6.name_ev n) (ev_pos c1 ?_)
        rw [hf]
        exact hr
      rcases lookA h n with ⟨p, hp, hpn, hpe⟩ | ⟨hno, j, hj, hpe⟩
      · exact ⟨[], [], 71, pre _ (Ev.step (fun k => by rw [ledger_Open.j0]) (ev_neg Bool.false_ne_true (Ev.bind hpe (ev_pos rfl (Ev.now _))))), fun e => by omega⟩
      · by_cases c3 : (A.length : Int) = 12
        · exact ⟨[], [], 3, pre _ (Ev.step (fun k => by rw [ledger_Open.j0]) (ev_neg Bool.false_ne_true (Ev.bind hpe (ev_neg Bool.false_ne_true (ev_pos c3 (Ev.now _)))))), fun e => by omega⟩
        · refine ⟨A.take j ++ newA n a :: A.drop j, M, 0, pre _ (Ev.step (fun k => by rw [ledger_Open.j0]) (ev_neg Bool.false_ne_true (Ev.bind hpe (ev_neg Bool.false_ne_true (ev_neg c3 ?_))))), fun _ => ?_⟩
          · rw [copied_is A M (by omega) (by omega)]
            simp only [Option.bind_some]
            unfold ledger_Open.e
            dsimp only
            rw [if_pos ⟨by omega, by have := hj.1; omega, by omega⟩, Int.toNat_natCast]
            exact Ev.now _
          · refine ⟨⟨by rw [List.length_append, List.length_take, List.length_cons, List.length_drop]; omega, hMl, ?_, insA_sorted h (newA n a) j hj hno, ?_, h.2.2.2.2.2.1, ?_⟩, ⟨j, rfl⟩, rfl, hno⟩
            · intro x hx
              rcases insA_mem.1 hx with rfl | hx
              · exact okA_mk c1 (by unfold C6.Pot newA; dsimp only; omega) (by unfold C6.Pot newA; dsimp only; omega)
              · exact h.2.2.1 x hx
            · intro m hm
              obtain ⟨h1, x, hx, he⟩ := h.2.2.2.2.1 m hm
              exact ⟨h1, x, insA_mem.2 (Or.inr hx), he⟩
            · intro x hx
              rcases insA_mem.1 hx with rfl | hx
              · rw [potsOk_iff M (by omega)]
                have hz : ∀ q, wsum (pw q n) M = 0 := fun q => no_marks h n hno _ (fun m hm => by unfold pw; rw [if_neg (fun g => hm g.2)])
                exact ⟨hz q1, hz q2, hz q3, hz q4⟩
              · exact h.2.2.2.2.2.2 x hx
    · have hf := fits_is a
      rw [decide_eq_false c2] at hf
      refine ⟨Ab, Mb, eb, ?_, fun e => by omega⟩
      refine Ev.bind (may_ok h) (ev_pos rfl ?_)
      refine Ev.bind (C6.name_ev n) (ev_pos c1 ?_)
      rw [hf]
      exact hb
  · refine ⟨Ab, Mb, eb, ?_, fun e => by omega⟩
    refine Ev.bind (may_ok h) (ev_pos rfl ?_)
    exact Ev.bind (C6.name_ev n) (ev_neg c1 hb)
theorem rdM_at {M : List S64} {i : Nat} (h : i < M.length) : rd_T64 M (i : Int) = M[i] := (rdM_get M i h).symm
theorem mark_at {A : List S51} {M : List S64} (h : okP A M) (m : S64) (hm : m ∈ M) : ∃ (i : Nat) (hi : i < M.length), M[i] = m ∧ Ev (fun k => ledger_book_mark.f k A M m.f0) ((i : Int), true) := by
  obtain ⟨i, hi, he⟩ := List.getElem_of_mem hm
  rcases lookM h m.f0 with ⟨i', hi', hin, hie⟩ | ⟨hno, _⟩
  · have hii : i' = i := nameM_inj h i' i hi' hi (by rw [hin, he])
    subst hii
    exact ⟨i', hi', he, hie⟩
  · exact absurd ⟨i, hi, by rw [rdM_at hi, he]⟩ hno
theorem same_bool (m : S64) (k : ByteArray) (kind : Int) (n : ByteArray) (a : Int) : (!((m.f0.toList) == k.toList) || ((!((m.f1.f0) == kind) || (!((m.f1.f1.toList) == n.toList) || (!((m.f1.f2) == a)))) || (!((m.f2) == 1)))) = true ↔ ¬ m = ⟨k, ⟨kind, n, a⟩, 1⟩ := by
  obtain ⟨f0, ⟨g0, g1, g2⟩, f2⟩ := m
  simp only [Bool.or_eq_true, Bool.not_eq_true', beq_eq_false_iff_ne, ne_eq, S64.mk.injEq, S27.mk.injEq, tl_inj]
  constructor
  · rintro (h | (h | h | h) | h) ⟨e1, ⟨e2, e3, e4⟩, e5⟩
    · exact h e1
    · exact h e2
    · exact h e3
    · exact h e4
    · exact h e5
  · intro h
    by_cases e1 : f0 = k
    · by_cases e2 : g0 = kind
      · by_cases e3 : g1 = n
        · by_cases e4 : g2 = a
          · by_cases e5 : f2 = 1
            · exact absurd ⟨e1, ⟨e2, e3, e4⟩, e5⟩ h
            · exact Or.inr (Or.inr e5)
          · exact Or.inr (Or.inl (Or.inr (Or.inr e4)))
        · exact Or.inr (Or.inl (Or.inr (Or.inl e3)))
      · exact Or.inr (Or.inl (Or.inl e2))
    · exact Or.inl e1
theorem do_again {A : List S51} {M : List S64} (h : okP A M) (key : ByteArray) (kind : Int) (n : ByteArray) (a : Int) (hm : (⟨key, ⟨kind, n, a⟩, 1⟩ : S64) ∈ M) : Ev (fun k => ledger_Do.f k A M key kind n a) (A, M, 0) := by
  have hA := h.1
  have hMl := h.2.1
  have ho := (h.2.2.2.2.1 _ hm).1
  obtain ⟨i, hi, he, hie⟩ := mark_at h _ hm
  unfold ledger_Do.f
  refine Ev.bind (may_ok h) (ev_pos rfl ?_)
  rw [key_t ho.1]
  simp only [Option.bind_some]
  refine Ev.step (fun k => by rw [ledger_Do.j0]) (ev_neg (by decide) ?_)
  refine Ev.bind (C6.check_ev kind n a) (ev_pos ho.2.1 ?_)
  refine Ev.bind hie (ev_pos rfl ?_)
  refine ev_pos (by omega) ?_
  refine ev_pos (by omega) ?_
  refine ev_neg (fun g => (same_bool _ _ _ _ _).1 g (by rw [rdM_at hi]; exact he)) ?_
  rw [copied_is A M (by omega) (by omega)]
  exact Ev.now _
theorem do_ev {A : List S51} {M : List S64} (h : okP A M) (key : ByteArray) (kind : Int) (n : ByteArray) (a : Int) :
    ∃ A' M' e, Ev (fun k => ledger_Do.f k A M key kind n a) (A', M', e) ∧ (e = 0 → okP A' M' ∧ Bal A' M' = Bal A M ∧ (⟨key, ⟨kind, n, a⟩, 1⟩ : S64) ∈ M') := by
  have hA := h.1
  have hMl := h.2.1
  by_cases c1 : keyB key
  · by_cases c2 : C6.checkI kind n a = 0
    · rcases lookM h key with ⟨i, hi, hin, hie⟩ | ⟨hno, j, hj, hje⟩
      · by_cases c3 : M[i] = ⟨key, ⟨kind, n, a⟩, 1⟩
        · have hm : (⟨key, ⟨kind, n, a⟩, 1⟩ : S64) ∈ M := by
            rw [← c3]
            exact List.getElem_mem hi
          exact ⟨A, M, 0, do_again h key kind n a hm, fun _ => ⟨h, rfl, hm⟩⟩
        · refine ⟨[], [], 72, ?_, fun e => by omega⟩
          unfold ledger_Do.f
          refine Ev.bind (may_ok h) (ev_pos rfl ?_)
          rw [key_t c1]
          simp only [Option.bind_some]
          refine Ev.step (fun k => by rw [ledger_Do.j0]) (ev_neg (by decide) ?_)
          refine Ev.bind (C6.check_ev kind n a) (ev_pos c2 ?_)
          refine Ev.bind hie (ev_pos rfl ?_)
          refine ev_pos (by omega) ?_
          refine ev_pos (by omega) ?_
          exact ev_pos ((same_bool _ _ _ _ _).2 (by rw [rdM_at hi]; exact c3)) (Ev.now _)
      · obtain ⟨A', M', e, hch, hr⟩ := changed_ins act_Do.f C6.DOP moves_do does_do h ⟨key, ⟨kind, n, a⟩, 1⟩ 0 ⟨c1, c2, Int.le_refl 1, by show (1 : Int) ≤ 3; decide⟩ rfl hno
        refine ⟨A', M', e, ?_, hr⟩
        unfold ledger_Do.f
        refine Ev.bind (may_ok h) (ev_pos rfl ?_)
        rw [key_t c1]
        simp only [Option.bind_some]
        refine Ev.step (fun k => by rw [ledger_Do.j0]) (ev_neg (by decide) ?_)
        refine Ev.bind (C6.check_ev kind n a) (ev_pos c2 ?_)
        refine Ev.bind hje (ev_neg Bool.false_ne_true ?_)
        exact Ev.bind hch (Ev.now _)
    · refine ⟨[], [], C6.checkI kind n a, ?_, fun e => absurd e c2⟩
      unfold ledger_Do.f
      refine Ev.bind (may_ok h) (ev_pos rfl ?_)
      rw [key_t c1]
      simp only [Option.bind_some]
      refine Ev.step (fun k => by rw [ledger_Do.j0]) (ev_neg (by decide) ?_)
      exact Ev.bind (C6.check_ev kind n a) (ev_neg c2 (Ev.now _))
  · refine ⟨[], [], 2, ?_, fun e => by omega⟩
    unfold ledger_Do.f
    refine Ev.bind (may_ok h) (ev_pos rfl ?_)
    rw [key_f c1]
    simp only [Option.bind_some]
    exact Ev.step (fun k => by rw [ledger_Do.j0]) (ev_pos (by decide) (Ev.now _))
def done (m : S64) (st : Int) : S64 := ⟨m.f0, m.f1, st⟩
/-- A mark that stands so already. -/
theorem ended_again (D : PF) {A : List S51} {M : List S64} (h : okP A M) (m : S64) (hm : m ∈ M) (z : Int) : Ev (fun k => ledger_ended_any.f D k A M m.f0 m.f2 z) (A, M, 0) := by
  have hA := h.1
  have hMl := h.2.1
  have ho := (h.2.2.2.2.1 _ hm).1
  obtain ⟨i, hi, he, hie⟩ := mark_at h _ hm
  unfold ledger_ended_any.f
  refine Ev.bind (may_ok h) (ev_pos rfl ?_)
  rw [key_t ho.1]
  simp only [Option.bind_some]
  refine Ev.step (fun k => by rw [ledger_ended_any.j0]) (ev_neg (by decide) ?_)
  refine Ev.bind hie (ev_pos rfl ?_)
  refine ev_pos (by omega) ?_
  refine ev_pos (by omega) ?_
  refine ev_pos (by rw [rdM_at hi, he]) ?_
  rw [copied_is A M (by omega) (by omega)]
  exact Ev.now _
/-- A mark that is done. -/
theorem ended_done (D : PF) (DD : PD) (s st : Int) (hs : (s = -1 ∧ st = 2) ∨ (s = 0 ∧ st = 3)) (hM : Moves DD s (-1)) (hD : Does D DD) {A : List S51} {M : List S64} (h : okP A M) (i : Nat) (hi : i < M.length) (h1 : M[i].f2 = 1) (z : Int) :
    ∃ A', Ev (fun k => ledger_ended_any.f D k A M M[i].f0 st z) (A', M.set i (done M[i] st), 0) ∧ okP A' (M.set i (done M[i] st)) ∧ Bal A' (M.set i (done M[i] st)) = Bal A M := by
  have ho := (h.2.2.2.2.1 _ (List.getElem_mem hi)).1
  obtain ⟨i', hi', he, hie⟩ := mark_at h _ (List.getElem_mem hi)
  have hii : i' = i := nameM_inj h i' i hi' hi (by rw [he])
  subst hii
  obtain ⟨A', hch, hr⟩ := changed_set D DD s hM hD h (done M[i'] st) z hs i' hi' rfl rfl h1
  refine ⟨A', ?_, hr⟩
  unfold ledger_ended_any.f
  refine Ev.bind (may_ok h) (ev_pos rfl ?_)
  rw [key_t ho.1]
  simp only [Option.bind_some]
  refine Ev.step (fun k => by rw [ledger_ended_any.j0]) (ev_neg (by decide) ?_)
  refine Ev.bind hie (ev_pos rfl ?_)
  refine ev_pos (by omega) ?_
  refine ev_pos (by omega) ?_
  dsimp only
  rw [rdM_at hi']
  refine ev_neg (by omega) ?_
  refine ev_pos h1 ?_
  exact Ev.bind hch (Ev.now _)
theorem ended_ev (D : PF) (DD : PD) (s st : Int) (hs : (s = -1 ∧ st = 2) ∨ (s = 0 ∧ st = 3)) (hM : Moves DD s (-1)) (hD : Does D DD) {A : List S51} {M : List S64} (h : okP A M) (key : ByteArray) (z : Int) :
    ∃ A' M' e, Ev (fun k => ledger_ended_any.f D k A M key st z) (A', M', e) ∧ (e = 0 → okP A' M' ∧ Bal A' M' = Bal A M ∧ ∃ y ∈ M', y.f0 = key ∧ y.f2 = st) := by
  by_cases c1 : keyB key
  · rcases lookM h key with ⟨i, hi, hin, hie⟩ | ⟨hno, j, hj, hje⟩
    · by_cases c2 : M[i].f2 = st
      · have := ended_again D h M[i] (List.getElem_mem hi) z
        rw [hin, c2] at this
        exact ⟨A, M, 0, this, fun _ => ⟨h, rfl, M[i], List.getElem_mem hi, hin, c2⟩⟩
      · by_cases c3 : M[i].f2 = 1
        · obtain ⟨A', he, h1, h2⟩ := ended_done D DD s st hs hM hD h i hi c3 z
          rw [hin] at he
          exact ⟨A', _, 0, he, fun _ => ⟨h1, h2, done M[i] st, by
            have hl : i < (M.set i (done M[i] st)).length := by rw [List.length_set]; exact hi
            have := List.getElem_mem hl
            rw [List.getElem_set_self] at this
            exact this, hin, rfl⟩⟩
        · refine ⟨[], [], 72, ?_, fun e => by omega⟩
          unfold ledger_ended_any.f
          refine Ev.bind (may_ok h) (ev_pos rfl ?_)
          rw [key_t c1]
          simp only [Option.bind_some]
          refine Ev.step (fun k => by rw [ledger_ended_any.j0]) (ev_neg (by decide) ?_)
          refine Ev.bind hie (ev_pos rfl ?_)
          refine ev_pos (by omega) ?_
          refine ev_pos (by omega) ?_
          dsimp only
          rw [rdM_at hi]
          exact ev_neg c2 (ev_neg c3 (Ev.now _))
    · refine ⟨[], [], 70, ?_, fun e => by omega⟩
      unfold ledger_ended_any.f
      refine Ev.bind (may_ok h) (ev_pos rfl ?_)
      rw [key_t c1]
      simp only [Option.bind_some]
      refine Ev.step (fun k => by rw [ledger_ended_any.j0]) (ev_neg (by decide) ?_)
      exact Ev.bind hje (ev_neg Bool.false_ne_true (Ev.now _))
  · refine ⟨[], [], 2, ?_, fun e => by omega⟩
    unfold ledger_ended_any.f
    refine Ev.bind (may_ok h) (ev_pos rfl ?_)
    rw [key_f c1]
    simp only [Option.bind_some]
    exact Ev.step (fun k => by rw [ledger_ended_any.j0]) (ev_pos (by decide) (Ev.now _))
theorem undo_wrap {A : List S51} {M : List S64} {key : ByteArray} {r : LR} (h : Ev (fun k => ledger_ended_any.f act_Undo.f k A M key 2 0) r) : Ev (fun k => ledger_Undo.f k A M key) r := by
  unfold ledger_Undo.f ledger_ended_act_Undo.f
  exact Ev.bind h (Ev.now _)
theorem keep_wrap {A : List S51} {M : List S64} {key : ByteArray} {r : LR} (h : Ev (fun k => ledger_ended_any.f act_Keep.f k A M key 3 0) r) : Ev (fun k => ledger_Keep.f k A M key) r := by
  unfold ledger_Keep.f ledger_ended_act_Keep.f
  exact Ev.bind h (Ev.now _)
/-- What a call leaves: a ledger; said again it changes nothing; what each account had stays. -/
structure Step (kind : Int) (key : ByteArray) (k1 : Int) (n : ByteArray) (a : Int) (A : List S51) (M : List S64) (A' : List S51) (M' : List S64) (b : Bool) : Prop where
  ok : okP A' M'
  same : b = false → A' = A ∧ M' = M
  again : b = true → kind ≠ 0 → Ev (fun k => ententelaw07_does.f k A' M' kind key k1 n a) (A', M', true)
  bal : kind ≠ 0 → Bal A' M' = Bal A M
  opn : b = true → kind = 0 → (∃ j, A' = A.take j ++ newA n a :: A.drop j) ∧ M' = M ∧ ¬ hasA A n
theorem does_step {A : List S51} {M : List S64} (h : okP A M) (kind : Int) (key : ByteArray) (k1 : Int) (n : ByteArray) (a : Int) :
    ∃ A' M' b, Ev (fun k => ententelaw07_does.f k A M kind key k1 n a) (A', M', b) ∧ Step kind key k1 n a A M A' M' b := by
  have no : Step kind key k1 n a A M A M false := ⟨h, fun _ => ⟨rfl, rfl⟩, fun e => (by cases e), fun _ => rfl, fun e => (by cases e)⟩
  by_cases k0 : kind = 0
  · obtain ⟨A', M', e, he, hr⟩ := open_ev h n a
    by_cases c : e = 0
    · obtain ⟨g1, g2, g3, g4⟩ := hr c
      refine ⟨A', M', true, ?_, ⟨g1, fun e => (by cases e), fun _ g => absurd k0 g, fun g => absurd k0 g, fun _ _ => ⟨g2, g3, g4⟩⟩⟩
      unfold ententelaw07_does.f
      exact ev_pos k0 (Ev.bind he (ev_pos c (Ev.now _)))
    · refine ⟨A, M, false, ?_, no⟩
      unfold ententelaw07_does.f
      exact ev_pos k0 (Ev.bind he (ev_neg c (Ev.now _)))
  by_cases k1' : kind = 1
  · obtain ⟨A', M', e, he, hr⟩ := do_ev h key k1 n a
    by_cases c : e = 0
    · obtain ⟨g1, g2, g3⟩ := hr c
      refine ⟨A', M', true, ?_, ⟨g1, fun e => (by cases e), fun _ _ => ?_, fun _ => g2, fun _ g => absurd g k0⟩⟩
      · unfold ententelaw07_does.f
        exact ev_neg k0 (ev_pos k1' (Ev.bind he (ev_pos c (Ev.now _))))
      · unfold ententelaw07_does.f
        exact ev_neg k0 (ev_pos k1' (Ev.bind (do_again g1 key k1 n a g3) (ev_pos rfl (Ev.now _))))
    · refine ⟨A, M, false, ?_, no⟩
      unfold ententelaw07_does.f
      exact ev_neg k0 (ev_pos k1' (Ev.bind he (ev_neg c (Ev.now _))))
  by_cases k2 : kind = 2
  · obtain ⟨A', M', e, he, hr⟩ := ended_ev act_Undo.f C6.UNP (-1) 2 (Or.inl ⟨rfl, rfl⟩) moves_undo does_undo h key 0
    have he' := undo_wrap he
    by_cases c : e = 0
    · obtain ⟨g1, g2, y, hy, e1, e2⟩ := hr c
      refine ⟨A', M', true, ?_, ⟨g1, fun e => (by cases e), fun _ _ => ?_, fun _ => g2, fun _ g => absurd g k0⟩⟩
      · unfold ententelaw07_does.f
        exact ev_neg k0 (ev_neg k1' (ev_pos k2 (Ev.bind he' (ev_pos c (Ev.now _)))))
      · have := ended_again act_Undo.f g1 y hy 0
        rw [e1, e2] at this
        unfold ententelaw07_does.f
        exact ev_neg k0 (ev_neg k1' (ev_pos k2 (Ev.bind (undo_wrap this) (ev_pos rfl (Ev.now _)))))
    · refine ⟨A, M, false, ?_, no⟩
      unfold ententelaw07_does.f
      exact ev_neg k0 (ev_neg k1' (ev_pos k2 (Ev.bind he' (ev_neg c (Ev.now _)))))
  by_cases k3 : kind = 3
  · obtain ⟨A', M', e, he, hr⟩ := ended_ev act_Keep.f C6.KPP 0 3 (Or.inr ⟨rfl, rfl⟩) moves_keep does_keep h key 0
    have he' := keep_wrap he
    by_cases c : e = 0
    · obtain ⟨g1, g2, y, hy, e1, e2⟩ := hr c
      refine ⟨A', M', true, ?_, ⟨g1, fun e => (by cases e), fun _ _ => ?_, fun _ => g2, fun _ g => absurd g k0⟩⟩
      · unfold ententelaw07_does.f
        exact ev_neg k0 (ev_neg k1' (ev_neg k2 (ev_pos k3 (Ev.bind he' (ev_pos c (Ev.now _))))))
      · have := ended_again act_Keep.f g1 y hy 0
        rw [e1, e2] at this
        unfold ententelaw07_does.f
        exact ev_neg k0 (ev_neg k1' (ev_neg k2 (ev_pos k3 (Ev.bind (keep_wrap this) (ev_pos rfl (Ev.now _))))))
    · refine ⟨A, M, false, ?_, no⟩
      unfold ententelaw07_does.f
      exact ev_neg k0 (ev_neg k1' (ev_neg k2 (ev_pos k3 (Ev.bind he' (ev_neg c (Ev.now _))))))
  · refine ⟨A, M, false, ?_, no⟩
    unfold ententelaw07_does.f
    exact ev_neg k0 (ev_neg k1' (ev_neg k2 (ev_neg k3 (Ev.now _))))
theorem okP_nil : okP [] [] := ⟨by decide, by decide, fun x hx => (by cases hx), List.Pairwise.nil, fun x hx => (by cases hx), List.Pairwise.nil, fun x hx => (by cases hx)⟩
theorem awake_ev : Ev (fun k => ententelaw07_awake.f k) true := Ev.of ententelaw07_awake.mono (k := 40) (by decide +kernel)
theorem few_loop (L : List S29) (hL : L.length ≤ 1000) (d : Nat) : ∀ i : Nat, i + d = L.length → ∃ b, Ev (fun k => ententelaw07_few.l0 k L (i : Int)) b := by
  induction d with
  | zero =>
    intro i hi
    exact ⟨true, Ev.step (fun k => by rw [ententelaw07_few.l0]) (ev_neg (by omega) (Ev.now _))⟩
  | succ d ih =>
    intro i hi
    by_cases c : ((rd_T29 L (i : Int)).f1.size : Int) > 1000
    · exact ⟨false, Ev.step (fun k => by rw [ententelaw07_few.l0]) (ev_pos (by omega) (ev_pos (by omega) (ev_pos c (Ev.now _))))⟩
    · obtain ⟨b, h⟩ := ih (i + 1) (by omega)
      refine ⟨b, Ev.step (fun k => by rw [ententelaw07_few.l0]) (ev_pos (by omega) (ev_pos (by omega) (ev_neg c ?_)))⟩
      rw [wr _ (by omega), show (i : Int) + 1 = ((i + 1 : Nat) : Int) by omega]
      exact h
theorem few_ev (L : List S29) : ∃ b, Ev (fun k => ententelaw07_few.f k L) b ∧ (b = true → L.length ≤ 120) := by
  unfold ententelaw07_few.f
  by_cases c : (L.length : Int) > 120
  · exact ⟨false, ev_pos c (Ev.now _), fun e => by cases e⟩
  · obtain ⟨b, hb⟩ := few_loop L (by omega) L.length 0 (by omega)
    exact ⟨b, ev_neg c hb, fun _ => by omega⟩
theorem sameM_loop (A : List S51) (M : List S64) (hM : M.length ≤ 1000) (d : Nat) : ∀ i : Nat, i + d = M.length → Ev (fun k => ententeref07_Same.l1 k (i : Int) A M A M) true := by
  induction d with
  | zero =>
    intro i hi
    exact Ev.step (fun k => by rw [ententeref07_Same.l1]) (ev_neg (by omega) (Ev.now _))
  | succ d ih =>
    intro i hi
    refine Ev.step (fun k => by rw [ententeref07_Same.l1]) (ev_pos (by omega) ?_)
    refine ev_pos (by omega) ?_
    refine ev_pos (by omega) ?_
    refine ev_neg (by simp) ?_
    rw [wr _ (by omega), show (i : Int) + 1 = ((i + 1 : Nat) : Int) by omega]
    exact ih (i + 1) (by omega)
theorem sameA_loop (A : List S51) (M : List S64) (hA : A.length ≤ 1000) (hM : M.length ≤ 1000) (d : Nat) : ∀ i : Nat, i + d = A.length → Ev (fun k => ententeref07_Same.l0 k (i : Int) A M A M) true := by
  induction d with
  | zero =>
    intro i hi
    have h0 : Ev (fun k => ententeref07_Same.l1 k 0 A M A M) true := sameM_loop A M hM M.length 0 (by omega)
    exact Ev.step (fun k => by rw [ententeref07_Same.l0]) (ev_neg (by omega) h0)
  | succ d ih =>
    intro i hi
    refine Ev.step (fun k => by rw [ententeref07_Same.l0]) (ev_pos (by omega) ?_)
    refine ev_pos (by omega) ?_
    refine ev_pos (by omega) ?_
    refine ev_neg (by simp) ?_
    rw [wr _ (by omega), show (i : Int) + 1 = ((i + 1 : Nat) : Int) by omega]
    exact ih (i + 1) (by omega)
theorem same_self {A : List S51} {M : List S64} (h : okP A M) : Ev (fun k => ententeref07_Same.f k A M A M) true := by
  unfold ententeref07_Same.f
  refine ev_pos rfl ?_
  rw [show ((M.length : Int) != (M.length : Int)) = false by simp]
  have h0 : Ev (fun k => ententeref07_Same.l0 k 0 A M A M) true := sameA_loop A M (by have := h.1; omega) (by have := h.2.1; omega) A.length 0 (by omega)
  exact Ev.step (fun k => by rw [ententeref07_Same.j0]) (ev_neg Bool.false_ne_true h0)
/-! what is in effect; the words of Num are used here (numS: none) -/
def sumI : List Int → Int
  | [] => 0
  | x :: l => x + sumI l
def Amt (l : List Int) : Prop := ∀ x ∈ l, Amt1 x
theorem amt_rd (l : List Int) (h : Amt l) (i : Nat) (hi : i < l.length) : Amt1 (rd l (i : Int)) := by
  have e := drop_cons l i hi
  exact h _ (List.mem_of_mem_drop (by rw [e]; exact List.mem_cons_self ..))
theorem amt_snoc (l : List Int) (x : Int) (h : Amt l) (hx : Amt1 x) : Amt (l ++ [x]) := by
  intro y hy
  rcases List.mem_append.1 hy with hy | hy
  · exact h y hy
  · rw [List.mem_singleton.1 hy]
    exact hx
def Sm (p : Int) : Prop := -9000000000000000000 ≤ p ∧ p ≤ 9000000000000000000
theorem add_is (p a : Int) (h0 : Sm p) (h1 : Amt1 a) : cash_wide_add.f (p / 18446744073709551616) (p % 18446744073709551616) a = some ((p + a) / 18446744073709551616, (p + a) % 18446744073709551616) := by
  unfold Sm at h0
  unfold Amt1 at h1
  unfold cash_wide_add.f
  rw [if_pos (by omega), uw_eq]
  rw [wr (p / 18446744073709551616 + a / 9223372036854775808) (by omega), wr ((p % 18446744073709551616 + a % 18446744073709551616) / 18446744073709551616) (by omega), wr _ (by omega)]
  rw [show p / 18446744073709551616 + a / 9223372036854775808 + (p % 18446744073709551616 + a % 18446744073709551616) / 18446744073709551616 = (p + a) / 18446744073709551616 by omega, show (p % 18446744073709551616 + a % 18446744073709551616) % 18446744073709551616 = (p + a) % 18446744073709551616 by omega]
theorem wrap_mod (p : Int) (h0 : Sm p) : wrap64 (p % 18446744073709551616) = p := by
  unfold Sm at h0
  unfold wrap64
  omega
theorem narrow_is (p : Int) (h0 : Sm p) : cash_wide_narrow.f (p / 18446744073709551616) (p % 18446744073709551616) = some (p, 0) := by
  unfold cash_wide_narrow.f
  rw [wrap_mod p h0]
  unfold Sm at h0
  rw [if_pos (by omega)]
theorem sum_loop (l : List Int) (hl : l.length ≤ 5000) (hb : Amt l) (d : Nat) : ∀ (i : Nat) (p : Int), i + d = l.length → -(1000000000000000 * (i : Int)) ≤ p → p ≤ 1000000000000000 * (i : Int) →
    Ev (fun k => cash_Sum.l0 k l (l.length : Int) (i : Int) (p / 18446744073709551616) (p % 18446744073709551616)) (p + sumI (l.drop i), 0) := by
  induction d with
  | zero =>
    intro i p hi h0 h1
    have hn := narrow_is p ⟨by omega, by omega⟩
    refine Ev.step (fun k => by rw [cash_Sum.l0]) (ev_neg (by omega) ?_)
    rw [hn, List.drop_eq_nil_of_le (by omega)]
    exact ev_eq (Ev.now _) (by simp [sumI])
  | succ d ih =>
    intro i p hi h0 h1
    have hd := drop_cons l i (by omega)
    have ha := amt_rd l hb i (by omega)
    have e := add_is p (rd l (i : Int)) ⟨by omega, by omega⟩ ha
    have := ih (i + 1) (p + rd l (i : Int)) (by omega) (by have := ha.1; omega) (by have := ha.2; omega)
    rw [hd]
    simp only [sumI]
    rw [← Int.add_assoc]
    refine Ev.step (fun k => by rw [cash_Sum.l0]) (ev_pos (by omega) ?_)
    refine ev_pos (by omega) ?_
    refine ev_pos (by omega) ?_
    rw [e]
    simp only [Option.bind_some]
    rw [wr ((i : Int) + 1) (by omega), show (i : Int) + 1 = ((i + 1 : Nat) : Int) by omega]
    exact this
theorem sum_ev (l : List Int) (hl : l.length ≤ 5000) (hb : Amt l) : Ev (fun k => cash_Sum.f k l) (sumI l, 0) := by
  have := sum_loop l hl hb l.length 0 0 (by omega) (by omega) (by omega)
  rw [List.drop_zero, Int.zero_add] at this
  exact this
/-- A text that begins with another. -/
def pre (a s : ByteArray) : Prop := a.size ≤ s.size ∧ s.extract 0 a.size = a
instance (a s : ByteArray) : Decidable (pre a s) := inferInstanceAs (Decidable (_ ∧ _))
theorem hp_is (s a : ByteArray) : strings_HasPrefix.f s a = some (decide (pre a s)) := by
  unfold strings_HasPrefix.f stringslite_HasPrefix.f
  by_cases c : a.size ≤ s.size
  · rw [if_pos (by omega), if_pos (by omega), if_pos (by omega), Int.toNat_natCast]
    simp only [Option.bind_some]
    congr 1
    rw [Bool.eq_iff_iff, beq_iff_eq, decide_eq_true_eq]
    exact ⟨fun h => ⟨c, (tl_inj _ _).1 h⟩, fun h => (tl_inj _ _).2 h.2⟩
  · rw [if_neg (by omega)]
    simp only [Option.bind_some]
    rw [decide_eq_false (fun h => c h.1)]
def inM (n a : ByteArray) (m : S64) : Prop := m.f1.f1 = n ∧ m.f2 ≠ 2 ∧ pre a m.f0
instance (n a : ByteArray) (m : S64) : Decidable (inM n a m) := inferInstanceAs (Decidable (_ ∧ _ ∧ _))
def netL (n a : ByteArray) : List S64 → List Int → List Int → List Int × List Int
  | [], fs, ks => (fs, ks)
  | m :: r, fs, ks => if inM n a m then netL n a r (fs ++ [(dl m).1]) (ks ++ [(dl m).2]) else netL n a r fs ks
theorem netL_amt (n a : ByteArray) : ∀ (M : List S64) (fs ks : List Int), Amt fs → Amt ks → Amt (netL n a M fs ks).1 ∧ Amt (netL n a M fs ks).2 ∧ (netL n a M fs ks).1.length ≤ fs.length + M.length ∧ (netL n a M fs ks).2.length ≤ ks.length + M.length
  | [], fs, ks, h1, h2 => ⟨h1, h2, Nat.le_add_right _ _, Nat.le_add_right _ _⟩
  | m :: r, fs, ks, h1, h2 => by
    rw [netL]
    split
    · have := netL_amt n a r (fs ++ [(dl m).1]) (ks ++ [(dl m).2]) (amt_snoc _ _ h1 (DL_amt _ _ _).1) (amt_snoc _ _ h2 (DL_amt _ _ _).2)
      simp only [List.length_append, List.length_cons, List.length_nil] at this ⊢
      exact ⟨this.1, this.2.1, by omega, by omega⟩
    · have := netL_amt n a r fs ks h1 h2
      simp only [List.length_cons] at this ⊢
      exact ⟨this.1, this.2.1, by omega, by omega⟩
theorem g_ev (n a : ByteArray) : ∀ (M : List S64) (fs ks : List Int), Ev (fun k => ledger_Net.g k n a M fs ks) (netL n a M fs ks)
  | [], fs, ks => Ev.now _
  | m :: r, fs, ks => by
    refine Ev.congr (fun k => by rw [ledger_Net.g]) ?_
    by_cases c1 : m.f1.f1 = n
    · refine ev_pos (by rw [beq_iff_eq]; exact (tl_inj _ _).2 c1) ?_
      by_cases c2 : m.f2 = 2
      · rw [netL, if_neg (fun h => h.2.1 c2)]
        exact ev_pos c2 (g_ev n a r fs ks)
      · refine ev_neg c2 ?_
        rw [hp_is]
        simp only [Option.bind_some]
        by_cases c3 : pre a m.f0
        · rw [netL, if_pos ⟨c1, c2, c3⟩]
          refine ev_pos (decide_eq_true c3) ?_
          exact Ev.bind (C6.delta_ev _ _ _) (g_ev n a r _ _)
        · rw [netL, if_neg (fun h => c3 h.2.2)]
          exact ev_neg (by rw [decide_eq_false c3]; decide) (g_ev n a r fs ks)
    · rw [netL, if_neg (fun h => c1 h.1)]
      exact ev_neg (by rw [beq_iff_eq]; exact fun h => c1 ((tl_inj _ _).1 h)) (g_ev n a r fs ks)
def netI (n a : ByteArray) (M : List S64) : Int × Int × Int := (sumI (netL n a M [] []).1, sumI (netL n a M [] []).2, 0)
theorem amt_nil : Amt [] := fun x hx => by cases hx
theorem e_ev (n a : ByteArray) (M : List S64) (hM : M.length ≤ 1000) : Ev (fun k => ledger_Net.e k M n a) (netI n a M) := by
  have h := netL_amt n a M [] [] amt_nil amt_nil
  simp only [List.length_nil] at h
  unfold ledger_Net.e
  refine ev_pos (by omega) ?_
  refine Ev.bind (g_ev n a M [] []) ?_
  refine Ev.bind (sum_ev _ (by omega) h.1) ?_
  refine Ev.bind (sum_ev _ (by omega) h.2.1) ?_
  refine ev_pos rfl ?_
  exact ev_pos rfl (Ev.now _)
/-! what is in effect, and what each account has -/
theorem sum_snoc : ∀ (l : List Int) (x : Int), sumI (l ++ [x]) = sumI l + x
  | [], x => by simp [sumI]
  | y :: r, x => by
    rw [List.cons_append, sumI, sumI, sum_snoc r x]
    omega
theorem pre_nil (s : ByteArray) : pre (⟨#[]⟩ : ByteArray) s := by
  refine ⟨Nat.zero_le _, ?_⟩
  show s.extract 0 0 = _
  refine ByteArray.ext ?_
  simp
theorem netL_sum (n : ByteArray) : ∀ (M : List S64) (fs ks : List Int), sumI (netL n ⟨#[]⟩ M fs ks).1 = sumI fs + wsum (ew d1 n) M ∧ sumI (netL n ⟨#[]⟩ M fs ks).2 = sumI ks + wsum (ew d2 n) M
  | [], fs, ks => by simp [netL, wsum]
  | m :: r, fs, ks => by
    rw [netL, wsum, wsum]
    by_cases c : m.f1.f1 = n ∧ m.f2 ≠ 2
    · rw [if_pos ⟨c.1, c.2, pre_nil _⟩]
      obtain ⟨h1, h2⟩ := netL_sum n r (fs ++ [(dl m).1]) (ks ++ [(dl m).2])
      have e1 : ew d1 n m = (dl m).1 := if_pos c
      have e2 : ew d2 n m = (dl m).2 := if_pos c
      rw [h1, h2, sum_snoc, sum_snoc, e1, e2]
      omega
    · rw [if_neg (fun h => c ⟨h.1, h.2.1⟩)]
      obtain ⟨h1, h2⟩ := netL_sum n r fs ks
      have e1 : ew d1 n m = 0 := if_neg c
      have e2 : ew d2 n m = 0 := if_neg c
      rw [h1, h2, e1, e2]
      omega
abbrev FR := ByteArray × Int × Int × Int × Int × Int × Int × Bool
def frOf (x : S51) : FR := (x.f0, x.f1.f0, x.f1.f1, x.f1.f2, x.f2.f0, x.f2.f1, x.f2.f2, true)
theorem net_at {A : List S51} {M : List S64} (h : okP A M) (x : S51) (hx : x ∈ A) : Ev (fun k => ledger_Find.f k A M x.f0) (frOf x) ∧ Ev (fun k => ledger_Net.f k A M x.f0 ⟨#[]⟩) (wsum (ew d1 x.f0) M, wsum (ew d2 x.f0) M, 0) := by
  obtain ⟨i, hi, he⟩ := List.getElem_of_mem hx
  have hMl := h.2.1
  rcases lookA h x.f0 with ⟨p, hp, hpn, hpe⟩ | ⟨hno, _⟩
  · have hip : p = i := nameA_inj h p i hp hi (by rw [hpn, he])
    subst hip
    constructor
    · unfold ledger_Find.f
      refine Ev.bind (may_ok h) (ev_pos rfl ?_)
      refine Ev.bind hpe (ev_pos rfl ?_)
      refine ev_pos (by omega) ?_
      refine ev_pos (by omega) ?_
      dsimp only
      rw [rdA_get A p hp, he]
      exact Ev.now _
    · unfold ledger_Net.f
      refine Ev.bind (may_ok h) (ev_pos rfl ?_)
      refine Ev.bind hpe (ev_pos rfl ?_)
      have h1 := e_ev x.f0 ⟨#[]⟩ M (by omega)
      unfold netI at h1
      obtain ⟨g1, g2⟩ := netL_sum x.f0 M [] []
      rw [g1, g2] at h1
      simp only [sumI, Int.zero_add] at h1
      exact h1
  · exact absurd ⟨i, hi, by rw [rdA_get A i hi, he]⟩ hno
theorem bal_mem {A : List S51} {M : List S64} {n : ByteArray} {a b : Int} (h : (n, a, b) ∈ Bal A M) : ∃ x ∈ A, x.f0 = n ∧ x.f1.f0 = a + wsum (ew d1 n) M ∧ x.f2.f0 = b + wsum (ew d2 n) M := by
  obtain ⟨x, hx, he⟩ := List.mem_map.1 h
  simp only [Prod.mk.injEq] at he
  obtain ⟨rfl, e1, e2⟩ := he
  exact ⟨x, hx, rfl, by omega, by omega⟩
def Opened (A : List S51) (M : List S64) (F : List S51) : Prop := okP A M ∧ F.length = A.length ∧ ∀ y ∈ F, (y.f0, y.f1.f0, (0 : Int)) ∈ Bal A M
theorem opened_loop (L : List S29) (hL : L.length ≤ 120) (d : Nat) : ∀ (i : Nat) (A : List S51) (M : List S64) (F : List S51), i + d = L.length → F.length ≤ i → Opened A M F → ∃ A' M' F', Ev (fun k => ententelaw07_opened.l0 k L F (i : Int) A M) (A', M', F') ∧ Opened A' M' F' := by
  induction d with
  | zero =>
    intro i A M F hi hF h
    exact ⟨A, M, F, Ev.step (fun k => by rw [ententelaw07_opened.l0]) (ev_neg (by omega) (Ev.now _)), h⟩
  | succ d ih =>
    intro i A M F hi hF h
    obtain ⟨A', M', b, he, hs⟩ := does_step h.1 (rd_T29 L (i : Int)).f0 (rd_T29 L (i : Int)).f1 (rd_T29 L (i : Int)).f2.f0 (rd_T29 L (i : Int)).f2.f1 (rd_T29 L (i : Int)).f2.f2
    have hw : wrap64 ((i : Int) + 1) = ((i + 1 : Nat) : Int) := by rw [wr _ (by omega)]; omega
    have pre_ : ∀ r, Ev (fun k => if b = true then (if ((rd_T29 L (i : Int)).f0) = 0 then (if F.length < 2199023255552 then (ententelaw07_opened.l0 k L (F ++ [(⟨(rd_T29 L (i : Int)).f2.f1, (⟨(rd_T29 L (i : Int)).f2.f2, 0, 0⟩ : S49), (⟨0, 0, 0⟩ : S49)⟩ : S51)]) (wrap64 ((i : Int) + 1)) A' M') else (none)) else (ententelaw07_opened.l0 k L F (wrap64 ((i : Int) + 1)) A' M')) else (ententelaw07_opened.l0 k L F (wrap64 ((i : Int) + 1)) A' M')) r → Ev (fun k => ententelaw07_opened.l0 k L F (i : Int) A M) r := by
      intro r hr
      refine Ev.step (fun k => by rw [ententelaw07_opened.l0]) (ev_pos (by omega) ?_)
      refine ev_pos (by omega) ?_
      exact Ev.bind he hr
    rw [hw] at pre_
    cases b with
    | false =>
      obtain ⟨rfl, rfl⟩ := hs.same rfl
      obtain ⟨A2, M2, F2, h2, h3⟩ := ih (i + 1) A' M' F (by omega) (by omega) h
      exact ⟨A2, M2, F2, pre_ _ (ev_neg Bool.false_ne_true h2), h3⟩
    | true =>
      by_cases c : (rd_T29 L (i : Int)).f0 = 0
      · obtain ⟨⟨j, ej⟩, em, hno⟩ := hs.opn rfl c
        have hO : Opened A' M' (F ++ [(⟨(rd_T29 L (i : Int)).f2.f1, (⟨(rd_T29 L (i : Int)).f2.f2, 0, 0⟩ : S49), (⟨0, 0, 0⟩ : S49)⟩ : S51)]) := by
          refine ⟨hs.ok, ?_, ?_⟩
          · have e : A'.length = A.length + 1 := by
              rw [ej, List.length_append, List.length_cons]
              have := congrArg List.length (List.take_append_drop j A)
              rw [List.length_append] at this
              omega
            rw [List.length_append, List.length_singleton, e, h.2.1]
          · intro y hy
            subst em
            rcases List.mem_append.1 hy with hy | hy
            · obtain ⟨x, hx, hxe⟩ := List.mem_map.1 (h.2.2 y hy)
              exact List.mem_map.2 ⟨x, by rw [ej]; exact insA_mem.2 (Or.inr hx), hxe⟩
            · rw [List.mem_singleton.1 hy]
              refine List.mem_map.2 ⟨newA (rd_T29 L (i : Int)).f2.f1 (rd_T29 L (i : Int)).f2.f2, by rw [ej]; exact insA_mem.2 (Or.inl rfl), ?_⟩
              have hz : ∀ d, wsum (ew d (rd_T29 L (i : Int)).f2.f1) M' = 0 := fun d => no_marks h.1 _ hno _ (fun m hm => by unfold ew; rw [if_neg (fun g => hm g.1)])
              unfold newA
              dsimp only
              rw [hz, hz]
              simp
        obtain ⟨A2, M2, F2, h2, h3⟩ := ih (i + 1) A' M' _ (by omega) (by rw [List.length_append, List.length_singleton]; omega) hO
        exact ⟨A2, M2, F2, pre_ _ (ev_pos rfl (ev_pos c (ev_pos (by omega) h2))), h3⟩
      · have hb := hs.bal c
        have hl : A'.length = A.length := by
          have := congrArg List.length hb
          unfold Bal at this
          rw [List.length_map, List.length_map] at this
          exact this
        have hO : Opened A' M' F := ⟨hs.ok, by rw [hl]; exact h.2.1, by rw [hb]; exact h.2.2⟩
        obtain ⟨A2, M2, F2, h2, h3⟩ := ih (i + 1) A' M' F (by omega) (by omega) hO
        exact ⟨A2, M2, F2, pre_ _ (ev_pos rfl (ev_neg c h2)), h3⟩
theorem opened_ev (L : List S29) (hL : L.length ≤ 120) : ∃ A M F, Ev (fun k => ententelaw07_opened.f k L) (A, M, F) ∧ Opened A M F := by
  obtain ⟨A, M, F, h1, h2⟩ := opened_loop L hL L.length 0 [] [] [] (by omega) (by simp) ⟨okP_nil, rfl, fun y hy => by cases hy⟩
  exact ⟨A, M, F, h1, h2⟩
theorem ew_rng (d : S64 → Int) (hd : ∀ m, Amt1 (d m)) (n : ByteArray) (m : S64) : -1000000000000000 ≤ ew d n m ∧ ew d n m ≤ 1000000000000000 := by
  unfold ew
  split
  · exact hd m
  · omega
theorem d1_amt (m : S64) : Amt1 (d1 m) := (DL_amt _ _ _).1
theorem d2_amt (m : S64) : Amt1 (d2 m) := (DL_amt _ _ _).2
theorem rdA_mem' (F : List S51) (i : Nat) (h : i < F.length) : rd_T51 F (i : Int) ∈ F := by
  rw [rdA_get F i h]
  exact List.getElem_mem h
/-! all that is done, undone -/
def und (p : Nat → Bool) (M : List S64) : List S64 := M.mapIdx fun k m => if m.f2 = 1 ∧ p k = true then done m 2 else m
theorem und_len (p : Nat → Bool) (M : List S64) : (und p M).length = M.length := List.length_mapIdx
theorem und_at (p : Nat → Bool) (M : List S64) (i : Nat) (h : i < (und p M).length) (h' : i < M.length) : (und p M)[i] = if M[i].f2 = 1 ∧ p i = true then done M[i] 2 else M[i] := List.getElem_mapIdx
theorem und_congr {p q : Nat → Bool} {M : List S64} (h : ∀ k, k < M.length → p k = q k) : und p M = und q M := by
  refine List.ext_getElem (by rw [und_len, und_len]) (fun k h1 h2 => ?_)
  have hk : k < M.length := by rw [und_len] at h1; exact h1
  rw [und_at p M k h1 hk, und_at q M k h2 hk, h k hk]
theorem und_none (M : List S64) : und (fun k => decide (k < 0)) M = M := by
  refine List.ext_getElem (by rw [und_len]) (fun k h1 h2 => ?_)
  rw [und_at _ M k h1 h2, if_neg (fun g => by simpa using g.2)]
theorem und_set (p q : Nat → Bool) (M : List S64) (i : Nat) (hi : i < M.length) (h1 : M[i].f2 = 1) (hq : ∀ k, k < M.length → q k = (p k || k == i)) : (und p M).set i (done M[i] 2) = und q M := by
  refine List.ext_getElem (by rw [List.length_set, und_len, und_len]) (fun k g1 g2 => ?_)
  have hk : k < M.length := by rw [und_len] at g2; exact g2
  rw [List.getElem_set, und_at q M k g2 hk, hq k hk]
  by_cases c : i = k
  · subst c
    rw [if_pos rfl, if_pos ⟨h1, by simp⟩]
  · rw [if_neg c, und_at p M k (by rw [und_len]; exact hk) hk]
    have : (k == i) = false := by simp; omega
    rw [this, Bool.or_false]
theorem und_same (p q : Nat → Bool) (M : List S64) (i : Nat) (hi : i < M.length) (h1 : ¬ M[i].f2 = 1) (hq : ∀ k, k < M.length → q k = (p k || k == i)) : und p M = und q M := by
  refine List.ext_getElem (by rw [und_len, und_len]) (fun k g1 g2 => ?_)
  have hk : k < M.length := by rw [und_len] at g2; exact g2
  rw [und_at p M k g1 hk, und_at q M k g2 hk, hq k hk]
  by_cases c : k = i
  · subst c
    rw [if_neg (fun g => h1 g.1), if_neg (fun g => h1 g.1)]
  · have : (k == i) = false := by simp; exact c
    rw [this, Bool.or_false]
def Back (A0 : List S51) (M0 : List S64) (A : List S51) (M : List S64) : Prop := okP A M ∧ Bal A M = Bal A0 M0
theorem back_step {A0 : List S51} {M : List S64} {A : List S51} (p q : Nat → Bool) (i : Nat) (hi : i < M.length) (hp : p i = false) (hq : ∀ k, k < M.length → q k = (p k || k == i)) (h : Back A0 M A (und p M)) :
    (M[i].f2 = 1 → ∃ A', Ev (fun k => ledger_Undo.f k A (und p M) M[i].f0) (A', und q M, 0) ∧ Back A0 M A' (und q M)) ∧ (¬ M[i].f2 = 1 → Back A0 M A (und q M) ∧ und p M = und q M) := by
  constructor
  · intro h1
    have hi' : i < (und p M).length := by rw [und_len]; exact hi
    have he : (und p M)[i] = M[i] := by rw [und_at p M i hi' hi, if_neg (fun g => by rw [hp] at g; cases g.2)]
    obtain ⟨A', hA, h2, h3⟩ := ended_done act_Undo.f C6.UNP (-1) 2 (Or.inl ⟨rfl, rfl⟩) moves_undo does_undo h.1 i hi' (by rw [he]; exact h1) 0
    rw [he, und_set p q M i hi h1 hq] at hA h2 h3
    rw [h.2] at h3
    exact ⟨A', undo_wrap hA, h2, h3⟩
  · intro h1
    have e := und_same p q M i hi h1 hq
    rw [← e]
    exact ⟨h, rfl⟩
theorem eq_of_bal {A A' : List S51} {M : List S64} (h : okP A M) (h' : okP A' M) (e : Bal A M = Bal A' M) : A = A' := by
  have hl : A.length = A'.length := by
    have := congrArg List.length e
    unfold Bal at this
    rw [List.length_map, List.length_map] at this
    exact this
  refine List.ext_getElem hl (fun k g1 g2 => ?_)
  have hk : (Bal A M)[k]? = (Bal A' M)[k]? := by rw [e]
  unfold Bal at hk
  rw [List.getElem?_map, List.getElem?_map, List.getElem?_eq_getElem g1, List.getElem?_eq_getElem g2] at hk
  have p1 := (potsOk_iff M (by have := h.2.1; omega) _).1 (h.2.2.2.2.2.2 _ (List.getElem_mem g1))
  have p2 := (potsOk_iff M (by have := h.2.1; omega) _).1 (h'.2.2.2.2.2.2 _ (List.getElem_mem g2))
  generalize A[k] = x at hk p1
  generalize A'[k] = y at hk p2
  obtain ⟨n, ⟨a, b, c⟩, ⟨a2, b2, c2⟩⟩ := x
  obtain ⟨n', ⟨a', b', c'⟩, ⟨a2', b2', c2'⟩⟩ := y
  dsimp only [Option.map_some] at hk p1 p2
  simp only [Option.some.injEq, Prod.mk.injEq] at hk
  obtain ⟨rfl, e1, e2⟩ := hk
  obtain ⟨u1, u2, u3, u4⟩ := p1
  obtain ⟨v1, v2, v3, v4⟩ := p2
  have w1 : b = b' := u1.symm.trans v1
  have w2 : c = c' := u2.symm.trans v2
  have w3 : b2 = b2' := u3.symm.trans v3
  have w4 : c2 = c2' := u4.symm.trans v4
  have x1 : a = a' := by clear u1 u2 u3 u4 v1 v2 v3 v4; omega
  have x2 : a2 = a2' := by clear u1 u2 u3 u4 v1 v2 v3 v4; omega
  subst w1 w2 w3 w4 x1 x2
  rfl
theorem und_all (M : List S64) (m : S64) (h : m ∈ und (fun _ => true) M) : m.f2 ≠ 1 := by
  obtain ⟨k, hk, rfl⟩ := List.getElem_of_mem h
  rw [und_at _ M k hk (by rw [und_len] at hk; exact hk)]
  split
  · show (2 : Int) ≠ 1
    omega
  · rename_i c
    exact fun g => c ⟨g, rfl⟩
theorem back_l1 {A : List S51} {M : List S64} (h : okP A M) (h1 : ∀ m ∈ M, m.f2 ≠ 1) (F : List S51) (hF : F.length ≤ 1000) (hb : ∀ y ∈ F, (y.f0, y.f1.f0, (0 : Int)) ∈ Bal A M) (d : Nat) : ∀ i : Nat, i + d = F.length → Ev (fun k => ententelaw07_LedgerBack.l1 k F (i : Int) A M) true := by
  have hMl := h.2.1
  induction d with
  | zero =>
    intro i hi
    exact Ev.step (fun k => by rw [ententelaw07_LedgerBack.l1]) (ev_neg (by omega) (Ev.bind awake_ev (Ev.now _)))
  | succ d ih =>
    intro i hi
    obtain ⟨x, hx, hn, e1, e2⟩ := bal_mem (hb _ (rdA_mem' F i (by omega)))
    rw [← hn] at e1 e2
    rw [Int.zero_add] at e2
    obtain ⟨hfind, hnet⟩ := net_at h x hx
    have hok := (okA_parts (h.2.2.1 x hx)).2.1
    have hwx : wrap64 x.f1.f0 = x.f1.f0 := by
      unfold C6.Pot at hok
      exact wr _ (by omega)
    have z : ∀ (q : S64 → Int) (n : ByteArray), wsum (pw q n) M = 0 := fun q n => wsum_zero _ M (fun m hm => if_neg (fun g => h1 m hm g.1))
    obtain ⟨u1, u2, u3, u4⟩ := (potsOk_iff M (by omega) x).1 (h.2.2.2.2.2.2 x hx)
    rw [z] at u1 u2 u3 u4
    have hw : wrap64 ((i : Int) + 1) = ((i + 1 : Nat) : Int) := by clear ih e1 e2 hwx; rw [wr _ (by omega)]; omega
    refine Ev.step (fun k => by rw [ententelaw07_LedgerBack.l1]) (ev_pos (by clear ih e1 e2 hwx; omega) ?_)
    refine ev_pos (Int.natCast_nonneg i) ?_
    rw [← hn]
    refine Ev.bind hfind ?_
    refine Ev.bind hnet ?_
    refine ev_pos rfl ?_
    refine ev_pos rfl ?_
    refine ev_neg ?_ ?_
    · rw [← e1, hwx]
      dsimp only [frOf]
      rw [← u1, ← u2]
      simp
    · refine ev_neg ?_ ?_
      · dsimp only [frOf]
        rw [← u3, ← u4, e2]
        simp
      · rw [hw]
        exact ih (i + 1) (by clear ih e1 e2 hwx; omega)
theorem back_l0 {A0 : List S51} {M : List S64} (h0 : okP A0 M) (F : List S51) (hF : F.length ≤ 1000) (hb : ∀ y ∈ F, (y.f0, y.f1.f0, (0 : Int)) ∈ Bal A0 M) (d : Nat) : ∀ (i : Nat) (A1 A2 : List S51), i + d = M.length →
      Back A0 M A1 (und (fun k => decide (k < i)) M) → Back A0 M A2 (und (fun k => decide (M.length ≤ k + i)) M) →
      Ev (fun k => ententelaw07_LedgerBack.l0 k F M (i : Int) A1 (und (fun k => decide (k < i)) M) A2 (und (fun k => decide (M.length ≤ k + i)) M)) true := by
  have hMl := h0.2.1
  induction d with
  | zero =>
    intro i A1 A2 hi b1 b2
    have s1 : und (fun k => decide (k < i)) M = und (fun _ => true) M := und_congr (fun k hk => by simp; omega)
    have s2 : und (fun k => decide (M.length ≤ k + i)) M = und (fun _ => true) M := und_congr (fun k hk => by simp; omega)
    rw [s1] at b1 ⊢
    rw [s2] at b2 ⊢
    have he : A1 = A2 := eq_of_bal b1.1 b2.1 (b1.2.trans b2.2.symm)
    subst he
    have hl := back_l1 b1.1 (und_all M) F hF (by rw [b1.2]; exact hb) F.length 0 (by omega)
    exact Ev.step (fun k => by rw [ententelaw07_LedgerBack.l0]) (ev_neg (by omega) (Ev.bind (same_self b1.1) (ev_pos rfl hl)))
  | succ d ih =>
    intro i A1 A2 hi b1 b2
    have k1 : i < M.length := by omega
    have k2 : M.length - 1 - i < M.length := by omega
    have hw : wrap64 ((i : Int) + 1) = ((i + 1 : Nat) : Int) := by clear ih; rw [wr _ (by omega)]; omega
    have hw2 : wrap64 ((wrap64 ((M.length : Int) - 1)) - (i : Int)) = ((M.length - 1 - i : Nat) : Int) := by
      clear ih hw
      rw [wr ((M.length : Int) - 1) (by omega), wr _ (by omega)]
      omega
    obtain ⟨t1, n1⟩ := back_step (fun k => decide (k < i)) (fun k => decide (k < i + 1)) i k1 (by simp) (fun k hk => by
      rw [Bool.eq_iff_iff]
      simp
      omega) b1
    obtain ⟨t2, n2⟩ := back_step (fun k => decide (M.length ≤ k + i)) (fun k => decide (M.length ≤ k + (i + 1))) (M.length - 1 - i) k2 (by simp; omega) (fun k hk => by
      rw [Bool.eq_iff_iff]
      simp
      omega) b2
    have hj : ∀ A1', Back A0 M A1' (und (fun k => decide (k < i + 1)) M) → Ev (fun k => ententelaw07_LedgerBack.j1 k F M (i : Int) A1' (und (fun k => decide (k < i + 1)) M) A2 (und (fun k => decide (M.length ≤ k + i)) M) M[M.length - 1 - i].f0 M[M.length - 1 - i].f1.f0 M[M.length - 1 - i].f1.f1 M[M.length - 1 - i].f1.f2 M[M.length - 1 - i].f2) true := by
      intro A1' b1'
      refine Ev.step (fun k => by rw [ententelaw07_LedgerBack.j1]) ?_
      rw [hw]
      refine ev_ite (fun c => ?_) (fun c => ?_)
      · obtain ⟨A2', e2, b2'⟩ := t2 c
        refine Ev.bind e2 (ev_pos rfl ?_)
        exact ih (i + 1) A1' A2' (by omega) b1' b2'
      · obtain ⟨b2', e2⟩ := n2 c
        rw [e2]
        exact ih (i + 1) A1' A2 (by omega) b1' b2'
    refine Ev.step (fun k => by rw [ententelaw07_LedgerBack.l0]) (ev_pos (Int.ofNat_lt.2 k1) ?_)
    rw [hw2]
    refine ev_pos (Int.natCast_nonneg i) ?_
    refine ev_pos (Int.natCast_nonneg _) ?_
    refine ev_pos (Int.ofNat_lt.2 k2) ?_
    rw [rdM_at k1, rdM_at k2]
    refine ev_ite (fun c => ?_) (fun c => ?_)
    · obtain ⟨A1', e1, b1'⟩ := t1 c
      exact Ev.bind e1 (ev_pos rfl (hj A1' b1'))
    · obtain ⟨b1', e1⟩ := n1 c
      rw [e1]
      exact hj A1 b1'
theorem LedgerBack : ententelaw07_LedgerBack.Pure := by
  intro L hL
  apply Ev.rounds
  obtain ⟨b, hb, hbt⟩ := few_ev L
  unfold ententelaw07_LedgerBack.f
  refine Ev.bind hb ?_
  refine ev_ite (fun c => ?_) (fun c => Ev.bind awake_ev (Ev.now _))
  obtain ⟨A, M, F, ho, h⟩ := opened_ev L (hbt c)
  refine Ev.bind ho ?_
  simp only [Option.bind_some, List.nil_append, List.length_nil]
  have hA := h.1.1
  have hM := h.1.2.1
  have hl := h.2.1
  refine ev_pos (by omega) ?_
  have e1 := und_none M
  have e2 : und (fun k => decide (M.length ≤ k + 0)) M = M := (und_congr (fun k hk => by simp; exact hk)).trans e1
  have := back_l0 h.1 F (by omega) h.2.2 M.length 0 A A (by omega) (by rw [e1]; exact ⟨h.1, rfl⟩) (by rw [e2]; exact ⟨h.1, rfl⟩)
  rw [e1, e2] at this
  exact this

end Go.Proofs.Ytikanbdhpafbiaa.Pure
