/- OutboxAnswered: proved for all arguments; no condition. -/
import Derived.Test.YtcgmoeiknkdljaaNum
import Derived.Test.YtcgmoeiknkdljaaPAx21
namespace Go.Proofs.Ytcgmoeiknkdljaa.Pure
open Go.RowKit Go.Proofs.Ytcgmoeiknkdljaa.PA Go.Proofs.YtcgmoeiknkdljaaW.PrintWords Go.Proofs.YtcgmoeiknkdljaaW.PrintLast Go.Proofs.YtcgmoeiknkdljaaW.PrintMore Go.Proofs.Ytcgmoeiknkdljaa.Num
set_option linter.unusedVariables false
set_option linter.unusedSimpArgs false

/-! tests and rounds -/
theorem ev_ite {α : Type} {c : Prop} [Decidable c] {f g : Nat → Option α} {r : α} (h1 : c → Ev f r) (h2 : ¬ c → Ev g r) : Ev (fun k => if c then f k else g k) r := by
  by_cases hc : c
  · exact Ev.congr (fun k => if_pos hc) (h1 hc)
  · exact Ev.congr (fun k => if_neg hc) (h2 hc)
theorem ev_pos {α : Type} {c : Prop} [Decidable c] {f g : Nat → Option α} {r : α} (hc : c) (h1 : Ev f r) : Ev (fun k => if c then f k else g k) r := Ev.congr (fun k => if_pos hc) h1
theorem ev_neg {α : Type} {c : Prop} [Decidable c] {f g : Nat → Option α} {r : α} (hc : ¬ c) (h2 : Ev g r) : Ev (fun k => if c then f k else g k) r := Ev.congr (fun k => if_neg hc) h2
theorem ev_eq {α : Type} {f : Nat → Option α} {r r' : α} (h : Ev f r) (e : r = r') : Ev f r' := e ▸ h

namespace C6

/-! The words of Num are used here (wr, toList_iff), nothing of numS. -/
theorem ev_pos {α : Type} {c : Prop} [Decidable c] {f g : Nat → Option α} {a b : α} (h : c) (hf : Ev f a) : Ev (fun k => if c then f k else g k) (if c then a else b) := by
  simp only [if_pos h]
  exact hf
theorem ev_neg {α : Type} {c : Prop} [Decidable c] {f g : Nat → Option α} {a b : α} (h : ¬ c) (hg : Ev g b) : Ev (fun k => if c then f k else g k) (if c then a else b) := by
  simp only [if_neg h]
  exact hg
theorem drop_bt (s : ByteArray) (i : Nat) (h : i < s.size) : (bytesOf s).drop i = bt s (i : Int) :: (bytesOf s).drop (i + 1) := by
  have hl : i < (bytesOf s).length := by rw [bytesOf_length]; exact h
  rw [List.drop_eq_getElem_cons hl, ← rd_bytesOf]
  congr 1
  simp [rd, List.getD_eq_getElem?_getD, hl]
/-- May a letter stand in a name? -/
def okc (c : Int) : Bool := (decide (97 ≤ c) && decide (c ≤ 122)) || (decide (48 ≤ c) && decide (c ≤ 57))
def low (c : Int) : Bool := decide (97 ≤ c) && decide (c ≤ 122)
def nameB (s : ByteArray) : Bool := decide (1 ≤ s.size ∧ s.size ≤ 16) && (low (bt s 0) && (bytesOf s).all okc)
theorem empty_iff (s : ByteArray) : s.toList = ([] : List UInt8) ↔ s.size = 0 := by
  have h1 : s.toList = ([] : List UInt8) ↔ s.toList = ByteArray.empty.toList := by rw [show ByteArray.empty.toList = ([] : List UInt8) from by decide +kernel]
  rw [h1, toList_iff]
  constructor
  · intro h; rw [h]; rfl
  · intro h
    apply bytesOf_inj
    rw [bytesOf_empty]
    exact List.eq_nil_of_length_eq_zero (by rw [bytesOf_length, h])
theorem name_step (c : Int) (n : Option Bool) : (if c < 97 then (if c < 48 then some false else (if c > 57 then some false else n)) else (if c > 122 then (if c < 48 then some false else (if c > 57 then some false else n)) else n)) = if okc c = true then n else some false := by
  by_cases h1 : c < 97 <;> by_cases h2 : c < 48 <;> by_cases h3 : c > 57 <;> by_cases h4 : c > 122 <;> simp [okc, h1, h2, h3, h4] <;> omega
theorem name_loop (s : ByteArray) (hs : s.size ≤ 1000) (d : Nat) : ∀ i : Nat, i + d = s.size → Ev (fun k => act_Name.l0 k s (s.size : Int) (i : Int)) (((bytesOf s).drop i).all okc) := by
  induction d with
  | zero =>
    intro i hi
    refine Ev.step (f := fun _ => some (((bytesOf s).drop i).all okc)) (fun k => ?_) (Ev.now _)
    rw [act_Name.l0, if_neg (by omega), List.drop_eq_nil_of_le (by rw [bytesOf_length]; omega)]
    rfl
  | succ d ih =>
    intro i hi
    rw [drop_bt s i (by omega), List.all_cons]
    by_cases c : okc (bt s (i : Int)) = true
    · rw [c, Bool.true_and]
      refine Ev.step (fun k => ?_) (ih (i + 1) (by omega))
      rw [act_Name.l0, if_pos (by omega), if_pos (by omega), if_pos (by omega), name_step, if_pos c, wr _ (by omega)]
      rfl
    · rw [show okc (bt s (i : Int)) = false by simpa using c, Bool.false_and]
      refine Ev.step (f := fun _ => some false) (fun k => ?_) (Ev.now _)
      rw [act_Name.l0, if_pos (by omega), if_pos (by omega), if_pos (by omega), name_step, if_neg c]
theorem name_ev (s : ByteArray) : Ev (fun k => act_Name.f k s) (nameB s) := by
  have bad : Ev (fun k => act_Name.j0 k s true) false := Ev.step (f := fun _ => some false) (fun k => by rw [act_Name.j0, if_pos rfl]) (Ev.now _)
  unfold act_Name.f
  by_cases c1 : s.toList = ([] : List UInt8)
  · have h0 := (empty_iff s).1 c1
    rw [show nameB s = false by unfold nameB; rw [decide_eq_false (by omega), Bool.false_and]]
    exact Ev.congr (fun k => if_pos c1) bad
  have h0 : s.size ≠ 0 := fun h => c1 ((empty_iff s).2 h)
  refine Ev.congr (fun k => if_neg c1) ?_
  by_cases c2 : (s.size : Int) > 16
  · rw [show nameB s = false by unfold nameB; rw [decide_eq_false (by omega), Bool.false_and]]
    exact Ev.congr (fun k => if_pos c2) bad
  have e : nameB s = (low (bt s 0) && (bytesOf s).all okc) := by unfold nameB; rw [decide_eq_true (by omega), Bool.true_and]
  rw [e]
  refine Ev.congr (fun k => by rw [if_neg c2, if_pos (by omega)]) ?_
  by_cases c3 : bt s 0 < 97
  · rw [show low (bt s 0) = false by unfold low; rw [decide_eq_false (by omega), Bool.false_and], Bool.false_and]
    exact Ev.congr (fun k => if_pos c3) bad
  refine Ev.congr (fun k => if_neg c3) ?_
  by_cases c4 : bt s 0 > 122
  · rw [show low (bt s 0) = false by unfold low; rw [decide_eq_false (show ¬ bt s 0 ≤ 122 by omega), Bool.and_false], Bool.false_and, decide_eq_true c4]
    exact bad
  rw [show low (bt s 0) = true by unfold low; rw [decide_eq_true (by omega), decide_eq_true (by omega)]; rfl, Bool.true_and, decide_eq_false c4]
  have := name_loop s (by omega) s.size 0 (by omega)
  rw [List.drop_zero] at this
  refine Ev.step (fun k => ?_) this
  rw [act_Name.j0, if_neg (by decide)]
  rfl
end C6


/-! ids -/
theorem drop62 (l : List S62) (i : Nat) (h : i < l.length) : l.drop i = rd_T62 l (i : Int) :: l.drop (i + 1) := by
  rw [List.drop_eq_getElem_cons h]
  congr 1
  unfold rd_T62
  rw [Int.toNat_natCast, List.getD_eq_getElem?_getD, List.getElem?_eq_getElem h]
  rfl
theorem nx_ (i n : Nat) (h : i < n) (hn : n ≤ 1000000) : wrap64 ((i : Int) + 1) = ((i + 1 : Nat) : Int) := by rw [wr _ (by omega)]; omega
theorem path_loop (l : List S62) (hl : l.length ≤ 100) (d : Nat) : ∀ (i : Nat) (x : List Int), i + d = l.length → x.length ≤ 1 + i → Ev (fun k => ident_path.l0 k x l (l.length : Int) (i : Int)) (x ++ (l.drop i).map (·.f1)) := by
  induction d with
  | zero =>
    intro i x hi hx
    rw [List.drop_eq_nil_of_le (by omega), List.map_nil, List.append_nil]
    exact Ev.step (fun k => by rw [ident_path.l0]) (ev_neg (by omega) (Ev.now _))
  | succ d ih =>
    intro i x hi hx
    rw [drop62 l i (by omega), List.map_cons]
    have h := ih (i + 1) (x ++ [(rd_T62 l (i : Int)).f1]) (by omega) (by rw [List.length_append, List.length_singleton]; omega)
    rw [List.append_assoc, ← nx_ i l.length (by omega) (by omega)] at h
    exact Ev.step (fun k => by rw [ident_path.l0]) (ev_pos (by omega) (ev_pos (by omega) (ev_pos (by omega) (ev_pos (by omega) h))))
theorem path_ev (r n : Int) (l : List S62) (hl : l.length ≤ 100) : Ev (fun k => ident_path.f k r n l) (r :: l.map (·.f1)) := by
  have h := path_loop l hl l.length 0 [r] (by omega) (by simp)
  rw [List.drop_zero] at h
  exact h
def badH (h : S62) : Bool := decide (h.f0 < 0 ∨ h.f0 ≥ 8)
theorem bad_loop (l : List S62) (hl : l.length ≤ 100) (d : Nat) : ∀ i : Nat, i + d = l.length → ∃ r, Ev (fun k => api_Hop_57.l0 k l (l.length : Int) (i : Int)) r ∧ decide (r ≥ 0) = (l.drop i).any badH := by
  induction d with
  | zero =>
    intro i hi
    rw [List.drop_eq_nil_of_le (by omega)]
    exact ⟨-1, Ev.step (fun k => by rw [api_Hop_57.l0]) (ev_neg (by omega) (Ev.now _)), rfl⟩
  | succ d ih =>
    intro i hi
    rw [drop62 l i (by omega), List.any_cons]
    obtain ⟨r, h1, h2⟩ := ih (i + 1) (by omega)
    rw [← nx_ i l.length (by omega) (by omega)] at h1
    have hc : ident_Check_1.f (rd_T62 l (i : Int)).f0 (rd_T62 l (i : Int)).f1 = some (badH (rd_T62 l (i : Int))) := by
      unfold ident_Check_1.f badH
      by_cases c : (rd_T62 l (i : Int)).f0 < 0
      · rw [if_pos c, decide_eq_true (Or.inl c)]
      · rw [if_neg c]
        congr 1
        exact decide_eq_decide.2 ⟨fun h => Or.inr h, fun h => h.resolve_left c⟩
    cases hb : badH (rd_T62 l (i : Int)) with
    | true =>
      refine ⟨(i : Int), Ev.step (fun k => by rw [api_Hop_57.l0]) (ev_pos (by omega) (ev_pos (by omega) (ev_pos (by omega) ?_))), by rw [Bool.true_or]; exact decide_eq_true (by omega)⟩
      simp only [hc, hb, Option.bind_some, if_true]
      exact Ev.now _
    | false =>
      refine ⟨r, Ev.step (fun k => by rw [api_Hop_57.l0]) (ev_pos (by omega) (ev_pos (by omega) (ev_pos (by omega) ?_))), by rw [Bool.false_or]; exact h2⟩
      simp only [hc, hb, Option.bind_some, Bool.false_eq_true, if_false]
      exact h1
theorem bad_ev (l : List S62) (hl : l.length ≤ 100) (a : Int) : Ev (fun k => api_Hop_50.f k l a) (l.any badH) := by
  obtain ⟨r, h1, h2⟩ := bad_loop l hl l.length 0 (by omega)
  rw [List.drop_zero] at h2
  unfold api_Hop_50.f api_Hop_57.f
  rw [← h2]
  exact Ev.bind h1 (Ev.now _)
/-- May an id be? -/
def idB (r n : Int) (l : List S62) : Bool := decide (¬ n < 1 ∧ ¬ n > 999999 ∧ ¬ (l.length : Int) > 4) && (ident_Check.go (r :: l.map (·.f1)) [] && !l.any badH)
theorem check_ev (r n : Int) (l : List S62) (hl : l.length ≤ 100) : Ev (fun k => ident_Check.f k r n l) (if idB r n l = true then 0 else 30) := by
  unfold ident_Check.f
  by_cases c : n < 1 ∨ n > 999999 ∨ (l.length : Int) > 4
  · have : idB r n l = false := by
      unfold idB
      rw [decide_eq_false (by omega), Bool.false_and]
    rw [this]
    exact ev_pos c (Ev.now _)
  · refine ev_neg c (Ev.bind (path_ev r n l hl) ?_)
    have : idB r n l = (ident_Check.go (r :: l.map (·.f1)) [] && !l.any badH) := by
      unfold idB
      rw [decide_eq_true (by omega), Bool.true_and]
    rw [this]
    cases hg : ident_Check.go (r :: l.map (·.f1)) [] with
    | false => exact ev_neg Bool.false_ne_true (Ev.now _)
    | true =>
      refine ev_pos rfl (Ev.bind (bad_ev l hl _) ?_)
      cases hb : l.any badH with
      | true => exact ev_pos rfl (Ev.now _)
      | false => exact ev_neg Bool.false_ne_true (Ev.now _)
/-! the reference's -/
/-! which ids and notes are the same -/
def cI (a b : Int) : Int := if a < b then -1 else if a > b then 1 else 0
theorem cI_zero (a b : Int) : cI a b = 0 ↔ a = b := by unfold cI; split <;> (try split) <;> omega
theorem compare_is (a b : Int) : cmp_Compare_int.f a b = some (cI a b) := by
  unfold cmp_Compare_int.f cmp_isNaN_int.f cI
  have h1 : (a != a) = false := by simp
  have h2 : (b != b) = false := by simp
  rw [h1, h2]
  simp only [Option.bind_some, Bool.false_eq_true, if_false]
  by_cases c : a < b
  · rw [if_pos c, if_pos c]
  · rw [if_neg c, if_neg c]
    by_cases c2 : a > b
    · rw [if_pos c2, if_pos c2]
    · rw [if_neg c2, if_neg c2]
def orL : List Int → Int
  | [] => 0
  | x :: r => if x = 0 then orL r else x
theorem or_loop (l : List Int) (hl : l.length ≤ 100) (d : Nat) : ∀ i, i + d = l.length → Ev (fun k => cmp_Or_int.l0 k 0 l (l.length : Int) (i : Int)) (orL (l.drop i)) := by
  induction d with
  | zero =>
    intro i hi
    rw [List.drop_eq_nil_of_le (by omega), orL]
    exact Ev.step (fun k => by rw [cmp_Or_int.l0]) (ev_neg (by omega) (Ev.now _))
  | succ d ih =>
    intro i hi
    rw [drop_cons l i (by omega), orL]
    have h := ih (i + 1) (by omega)
    rw [← nx_ i l.length (by omega) (by omega)] at h
    refine Ev.step (fun k => by rw [cmp_Or_int.l0]) (ev_pos (by omega) (ev_pos (by omega) (ev_pos (by omega) ?_)))
    by_cases c : rd l (i : Int) = 0
    · rw [if_pos c]
      exact ev_pos c h
    · rw [if_neg c]
      exact ev_neg c (Ev.now _)
theorem or_ev (l : List Int) (hl : l.length ≤ 100) : Ev (fun k => cmp_Or_int.f k l) (orL l) := by
  have h := or_loop l hl l.length 0 (by omega)
  rw [List.drop_zero] at h
  exact h
theorem hop_ext {a b : S62} (h0 : a.f0 = b.f0) (h1 : a.f1 = b.f1) : a = b := by
  cases a; cases b
  simp only at h0 h1
  rw [h0, h1]
theorem cmp1_ev (a0 a1 b0 b1 : Int) : ∃ c, Ev (fun k => ident_Cmp_1.f k a0 a1 b0 b1) c ∧ (c = 0 ↔ a0 = b0 ∧ a1 = b1) := by
  refine ⟨orL [cI a0 b0, cI a1 b1], ?_, ?_⟩
  · unfold ident_Cmp_1.f
    simp only [compare_is, Option.bind_some]
    exact Ev.bind (or_ev _ (by simp)) (Ev.now _)
  · rw [← cI_zero a0, ← cI_zero a1]
    unfold orL orL orL
    by_cases c : cI a0 b0 = 0
    · rw [if_pos c]
      by_cases c2 : cI a1 b1 = 0
      · rw [if_pos c2]; exact ⟨fun _ => ⟨c, c2⟩, fun _ => rfl⟩
      · rw [if_neg c2]; exact ⟨fun h => absurd h c2, fun h => absurd h.2 c2⟩
    · rw [if_neg c]
      exact ⟨fun h => absurd h c, fun h => absurd h.1 c⟩
theorem hops_loop (a b : List S62) (ha : a.length ≤ 100) (d : Nat) : ∀ i, i + d = a.length → i ≤ b.length → ∃ c, Ev (fun k => api_Hop_54.l0 k a b a (a.length : Int) (i : Int)) c ∧ (c = 0 ↔ a.drop i = b.drop i) := by
  induction d with
  | zero =>
    intro i hi hb
    rw [List.drop_eq_nil_of_le (by omega)]
    by_cases c : (a.length : Int) < (b.length : Int)
    · refine ⟨-1, Ev.step (fun k => by rw [api_Hop_54.l0]) (ev_neg (by omega) (ev_pos c (Ev.now _))), ⟨fun h => by omega, fun h => ?_⟩⟩
      have := congrArg List.length h
      rw [List.length_drop, List.length_nil] at this
      omega
    · refine ⟨0, Ev.step (fun k => by rw [api_Hop_54.l0]) (ev_neg (by omega) (ev_neg c (Ev.now _))), ⟨fun _ => ?_, fun _ => rfl⟩⟩
      rw [List.drop_eq_nil_of_le (by omega)]
  | succ d ih =>
    intro i hi hb
    by_cases c : (i : Int) ≥ (b.length : Int)
    · refine ⟨1, Ev.step (fun k => by rw [api_Hop_54.l0]) (ev_pos (by omega) (ev_pos (by omega) (ev_pos (by omega) (ev_pos c (Ev.now _))))), ⟨fun h => by omega, fun h => ?_⟩⟩
      have := congrArg List.length h
      rw [List.length_drop, List.length_drop] at this
      omega
    · obtain ⟨c1, h1, h2⟩ := cmp1_ev (rd_T62 a (i : Int)).f0 (rd_T62 a (i : Int)).f1 (rd_T62 b (i : Int)).f0 (rd_T62 b (i : Int)).f1
      rw [drop62 a i (by omega), drop62 b i (by omega)]
      by_cases c0 : c1 = 0
      · obtain ⟨c2, h3, h4⟩ := ih (i + 1) (by omega) (by omega)
        rw [← nx_ i a.length (by omega) (by omega)] at h3
        refine ⟨c2, Ev.step (fun k => by rw [api_Hop_54.l0]) (ev_pos (by omega) (ev_pos (by omega) (ev_pos (by omega) (ev_neg c (ev_pos (by omega) (Ev.bind h1 (ev_pos c0 h3))))))), ?_⟩
        rw [h4, hop_ext (h2.1 c0).1 (h2.1 c0).2]
        exact ⟨fun h => by rw [h], fun h => (List.cons.inj h).2⟩
      · refine ⟨c1, Ev.step (fun k => by rw [api_Hop_54.l0]) (ev_pos (by omega) (ev_pos (by omega) (ev_pos (by omega) (ev_neg c (ev_pos (by omega) (Ev.bind h1 (ev_neg c0 (Ev.now _)))))))), ⟨fun h => absurd h c0, fun h => ?_⟩⟩
        have := (List.cons.inj h).1
        exact absurd (h2.2 ⟨by rw [this], by rw [this]⟩) c0
theorem idcmp_ev (r n : Int) (l : List S62) (r' n' : Int) (l' : List S62) (hl : l.length ≤ 100) : ∃ c, Ev (fun k => ident_Cmp.f k r n l r' n' l') c ∧ (c = 0 ↔ r = r' ∧ n = n' ∧ l = l') := by
  obtain ⟨c, h1, h2⟩ := hops_loop l l' hl l.length 0 (by omega) (by omega)
  rw [List.drop_zero, List.drop_zero] at h2
  refine ⟨orL [cI r r', cI n n', c], ?_, ?_⟩
  · unfold ident_Cmp.f api_Hop_54.f
    simp only [compare_is, Option.bind_some]
    exact Ev.bind h1 (Ev.bind (or_ev _ (by simp)) (Ev.now _))
  · rw [← cI_zero r, ← cI_zero n, ← h2]
    unfold orL orL orL orL
    by_cases c1 : cI r r' = 0
    · rw [if_pos c1]
      by_cases c2 : cI n n' = 0
      · rw [if_pos c2]
        by_cases c3 : c = 0
        · rw [if_pos c3]; exact ⟨fun _ => ⟨c1, c2, c3⟩, fun _ => rfl⟩
        · rw [if_neg c3]; exact ⟨fun h => absurd h c3, fun h => absurd h.2.2 c3⟩
      · rw [if_neg c2]; exact ⟨fun h => absurd h c2, fun h => absurd h.2.1 c2⟩
    · rw [if_neg c1]
      exact ⟨fun h => absurd h c1, fun h => absurd h.1 c1⟩
noncomputable def eqN (x y : S37) : Bool := @decide (x = y) (Classical.propDecidable _)
theorem eqN_iff (x y : S37) : eqN x y = true ↔ x = y := @decide_eq_true_iff _ (Classical.propDecidable _)
theorem note_ext {x y : S37} : x = y ↔ x.f0 = y.f0 ∧ (x.f1.f0 = y.f1.f0 ∧ x.f1.f1 = y.f1.f1 ∧ x.f1.f2 = y.f1.f2) ∧ x.f2 = y.f2 ∧ x.f3 = y.f3 := by
  obtain ⟨a, ⟨b, c, d⟩, e, f⟩ := x
  obtain ⟨a', ⟨b', c', d'⟩, e', f'⟩ := y
  simp only [S37.mk.injEq, S35.mk.injEq]
theorem eqN_of {x y : S37} {p : Bool} (h : p = true ↔ x = y) : p = eqN x y := by
  rw [Bool.eq_iff_iff, eqN_iff]
  exact h
theorem same_ev (x y : S37) (hl : x.f1.f2.length ≤ 100) : Ev (fun k => outbox_same.f k x.f0 x.f1.f0 x.f1.f1 x.f1.f2 x.f2 x.f3 y.f0 y.f1.f0 y.f1.f1 y.f1.f2 y.f2 y.f3) (eqN x y) := by
  unfold outbox_same.f
  by_cases c1 : x.f0 = y.f0
  · refine ev_pos c1 ?_
    by_cases c2 : x.f2.toList = y.f2.toList
    · refine ev_pos c2 ?_
      by_cases c3 : x.f3 = y.f3
      · refine ev_pos c3 ?_
        obtain ⟨c, h1, h2⟩ := idcmp_ev x.f1.f0 x.f1.f1 x.f1.f2 y.f1.f0 y.f1.f1 y.f1.f2 hl
        refine ev_eq (Ev.bind h1 (Ev.now _)) (eqN_of ?_)
        rw [beq_iff_eq, h2, note_ext]
        exact ⟨fun h => ⟨c1, h, toList_iff.1 c2, c3⟩, fun h => h.2.1⟩
      · refine ev_eq (ev_neg c3 (Ev.now _)) (eqN_of ?_)
        rw [note_ext]
        exact ⟨fun h => (by cases h), fun h => absurd h.2.2.2 c3⟩
    · refine ev_eq (ev_neg c2 (Ev.now _)) (eqN_of ?_)
      rw [note_ext]
      exact ⟨fun h => (by cases h), fun h => absurd (toList_iff.2 h.2.2.1) c2⟩
  · refine ev_eq (ev_neg c1 (Ev.now _)) (eqN_of ?_)
    rw [note_ext]
    exact ⟨fun h => (by cases h), fun h => absurd h.1 c1⟩

theorem number_zero (a b : Int) : ∃ c, ententeref03_number.f a b = some c ∧ (c = 0 ↔ a = b) := by
  refine ⟨cI a b, ?_, cI_zero a b⟩
  unfold ententeref03_number.f cI
  by_cases c : a < b
  · rw [if_pos c, if_pos c]
  · rw [if_neg c, if_neg c]
    by_cases c2 : a > b
    · rw [if_pos c2, if_pos c2]
    · rw [if_neg c2, if_neg c2]
theorem rnum (a b : Int) : ∃ c, Ev (fun _ : Nat => (ententeref03_number.f a b).bind fun t => some t) c ∧ (c = 0 ↔ a = b) := by
  obtain ⟨c, h, h2⟩ := number_zero a b
  exact ⟨c, ⟨0, fun _ _ => by rw [h]; rfl⟩, h2⟩
theorem rhops_loop (a b : List S62) (ha : a.length ≤ 100) (r n r' n' : Int) (d : Nat) : ∀ i, i + d = a.length → i ≤ b.length → ∃ c, Ev (fun k => ententeref03_Cmp.l0 k (i : Int) r n a r' n' b) c ∧ (c = 0 ↔ a.drop i = b.drop i) := by
  have out : ∀ i, (i = a.length ∨ i = b.length) → i ≤ a.length → i ≤ b.length → ∃ c, Ev (fun k => ententeref03_Cmp.j1 k (i : Int) false r n a r' n' b) c ∧ (c = 0 ↔ a.drop i = b.drop i) := by
    intro i h h1 h2
    obtain ⟨c, hc, h3⟩ := rnum (a.length : Int) (b.length : Int)
    refine ⟨c, Ev.step (fun k => by rw [ententeref03_Cmp.j1]) (ev_neg Bool.false_ne_true hc), ?_⟩
    rw [h3]
    constructor
    · intro e
      rw [List.drop_eq_nil_of_le (by omega), List.drop_eq_nil_of_le (by omega)]
    · intro e
      have := congrArg List.length e
      rw [List.length_drop, List.length_drop] at this
      omega
  induction d with
  | zero =>
    intro i hi hb
    obtain ⟨c, h1, h2⟩ := out i (Or.inl (by omega)) (by omega) hb
    exact ⟨c, Ev.step (fun k => by rw [ententeref03_Cmp.l0]) (ev_neg (by omega) h1), h2⟩
  | succ d ih =>
    intro i hi hb
    by_cases c : i < b.length
    · rw [drop62 a i (by omega), drop62 b i c]
      have go : ∀ v, Ev (fun k => if 0 ≤ (i : Int) then (if (i : Int) < (a.length : Int) then (if (i : Int) < (b.length : Int) then (if ((rd_T62 a (i : Int)).f0) = ((rd_T62 b (i : Int)).f0) then (if ((rd_T62 a (i : Int)).f1) = ((rd_T62 b (i : Int)).f1) then (ententeref03_Cmp.l0 k (wrap64 ((i : Int) + 1)) r n a r' n' b) else ((ententeref03_number.f ((rd_T62 a (i : Int)).f1) ((rd_T62 b (i : Int)).f1)).bind fun t269 => (some t269))) else ((ententeref03_number.f ((rd_T62 a (i : Int)).f0) ((rd_T62 b (i : Int)).f0)).bind fun t270 => (some t270))) else (none)) else (none)) else (none)) v → Ev (fun k => ententeref03_Cmp.l0 k (i : Int) r n a r' n' b) v := by
        intro v hv
        refine Ev.step (fun k => by rw [ententeref03_Cmp.l0]) (ev_pos (by omega) ?_)
        rw [decide_eq_true (show (i : Int) < (b.length : Int) by omega)]
        exact Ev.step (fun k => by rw [ententeref03_Cmp.j1]) (ev_pos rfl hv)
      by_cases c0 : (rd_T62 a (i : Int)).f0 = (rd_T62 b (i : Int)).f0
      · by_cases c1 : (rd_T62 a (i : Int)).f1 = (rd_T62 b (i : Int)).f1
        · obtain ⟨v, h1, h2⟩ := ih (i + 1) (by omega) (by omega)
          rw [← nx_ i a.length (by omega) (by omega)] at h1
          refine ⟨v, go v (ev_pos (by omega) (ev_pos (by omega) (ev_pos (by omega) (ev_pos c0 (ev_pos c1 h1))))), ?_⟩
          rw [h2, hop_ext c0 c1]
          exact ⟨fun h => by rw [h], fun h => (List.cons.inj h).2⟩
        · obtain ⟨v, h1, h2⟩ := rnum (rd_T62 a (i : Int)).f1 (rd_T62 b (i : Int)).f1
          refine ⟨v, go v (ev_pos (by omega) (ev_pos (by omega) (ev_pos (by omega) (ev_pos c0 (ev_neg c1 h1))))), ⟨fun h => absurd (h2.1 h) c1, fun h => ?_⟩⟩
          exact absurd (by rw [(List.cons.inj h).1]) c1
      · obtain ⟨v, h1, h2⟩ := rnum (rd_T62 a (i : Int)).f0 (rd_T62 b (i : Int)).f0
        refine ⟨v, go v (ev_pos (by omega) (ev_pos (by omega) (ev_pos (by omega) (ev_neg c0 h1)))), ⟨fun h => absurd (h2.1 h) c0, fun h => ?_⟩⟩
        exact absurd (by rw [(List.cons.inj h).1]) c0
    · obtain ⟨v, h1, h2⟩ := out i (Or.inr (by omega)) (by omega) hb
      refine ⟨v, Ev.step (fun k => by rw [ententeref03_Cmp.l0]) (ev_pos (by omega) ?_), h2⟩
      rw [decide_eq_false (show ¬ (i : Int) < (b.length : Int) by omega)]
      exact h1
theorem ridsame_ev (r n : Int) (l : List S62) (r' n' : Int) (l' : List S62) (hl : l.length ≤ 100) : ∃ b, Ev (fun k => ententeref03_Same.f k r n l r' n' l') b ∧ (b = true ↔ r = r' ∧ n = n' ∧ l = l') := by
  have : ∃ c, Ev (fun k => ententeref03_Cmp.f k r n l r' n' l') c ∧ (c = 0 ↔ r = r' ∧ n = n' ∧ l = l') := by
    unfold ententeref03_Cmp.f
    by_cases c1 : r = r'
    · by_cases c2 : n = n'
      · obtain ⟨v, h1, h2⟩ := rhops_loop l l' hl r n r' n' l.length 0 (by omega) (by omega)
        rw [List.drop_zero, List.drop_zero] at h2
        have h0 : Ev (fun k => ententeref03_Cmp.l0 k 0 r n l r' n' l') v := h1
        exact ⟨v, ev_pos c1 (ev_pos c2 h0), by rw [h2]; exact ⟨fun h => ⟨c1, c2, h⟩, fun h => h.2.2⟩⟩
      · obtain ⟨v, h1, h2⟩ := rnum n n'
        exact ⟨v, ev_pos c1 (ev_neg c2 h1), by rw [h2]; exact ⟨fun h => absurd h c2, fun h => h.2.1⟩⟩
    · obtain ⟨v, h1, h2⟩ := rnum r r'
      exact ⟨v, ev_neg c1 h1, by rw [h2]; exact ⟨fun h => absurd h c1, fun h => h.1⟩⟩
  obtain ⟨c, h1, h2⟩ := this
  unfold ententeref03_Same.f
  exact ⟨c == 0, Ev.bind h1 (Ev.now _), by rw [beq_iff_eq]; exact h2⟩
theorem rsame_ev (x y : S37) (hl : x.f1.f2.length ≤ 100) : Ev (fun k => ententeref13_SameNote.f k x.f0 x.f1.f0 x.f1.f1 x.f1.f2 x.f2 x.f3 y.f0 y.f1.f0 y.f1.f1 y.f1.f2 y.f2 y.f3) (eqN x y) := by
  unfold ententeref13_SameNote.f
  by_cases c1 : x.f0 = y.f0
  · refine ev_pos c1 ?_
    obtain ⟨b, h1, h2⟩ := ridsame_ev x.f1.f0 x.f1.f1 x.f1.f2 y.f1.f0 y.f1.f1 y.f1.f2 hl
    cases b with
    | false =>
      refine ev_eq (Ev.bind h1 (ev_neg Bool.false_ne_true (Ev.now _))) (eqN_of ?_)
      rw [note_ext]
      exact ⟨fun h => (by cases h), fun h => h2.2 h.2.1⟩
    | true =>
      by_cases c2 : x.f2.toList = y.f2.toList
      · refine ev_eq (Ev.bind h1 (ev_pos rfl (ev_pos c2 (Ev.now _)))) (eqN_of ?_)
        rw [beq_iff_eq, note_ext]
        exact ⟨fun h => ⟨c1, h2.1 rfl, toList_iff.1 c2, h⟩, fun h => h.2.2.2⟩
      · refine ev_eq (Ev.bind h1 (ev_pos rfl (ev_neg c2 (Ev.now _)))) (eqN_of ?_)
        rw [note_ext]
        exact ⟨fun h => (by cases h), fun h => absurd (toList_iff.2 h.2.2.1) c2⟩
  · refine ev_eq (ev_neg c1 (Ev.now _)) (eqN_of ?_)
    rw [note_ext]
    exact ⟨fun h => (by cases h), fun h => absurd h.1 c1⟩
/-! which notes are among items -/
noncomputable def hasB (l : List S46) (n : S37) : Bool := l.any fun x => eqN x.f3 n
theorem all_ev {α : Type} (l : List α) (f : Nat → α → Option Bool) (p : α → Bool) (h : ∀ x ∈ l, Ev (fun k => f k x) (p x)) : Ev (fun k => if (l.all fun x => (f k x).isSome) = true then some (l.any fun x => f k x == some true) else none) (l.any p) := by
  have : ∃ K, ∀ k, K ≤ k → ∀ x ∈ l, f k x = some (p x) := by
    induction l with
    | nil => exact ⟨0, fun k _ x hx => by cases hx⟩
    | cons y r ih =>
      obtain ⟨K1, h1⟩ := ih (fun x hx => h x (List.mem_cons_of_mem _ hx))
      obtain ⟨K2, h2⟩ := h y List.mem_cons_self
      refine ⟨max K1 K2, fun k hk x hx => ?_⟩
      rcases List.mem_cons.1 hx with rfl | hx
      · exact h2 k (by omega)
      · exact h1 k (by omega) x hx
  obtain ⟨K, hK⟩ := this
  refine ⟨K, fun k hk => ?_⟩
  have e1 : (l.all fun x => (f k x).isSome) = true := List.all_eq_true.2 fun x hx => by rw [hK k hk x hx]; rfl
  have e2 : (l.any fun x => f k x == some true) = l.any p := by
    rw [Bool.eq_iff_iff, List.any_eq_true, List.any_eq_true]
    constructor
    · rintro ⟨x, hx, g⟩
      refine ⟨x, hx, ?_⟩
      rw [hK k hk x hx] at g
      simpa using g
    · rintro ⟨x, hx, g⟩
      refine ⟨x, hx, ?_⟩
      rw [hK k hk x hx, g]
      rfl
  dsimp only
  rw [if_pos e1, e2]
def ShortI (l : List S46) : Prop := ∀ x ∈ l, x.f3.f1.f2.length ≤ 100
theorem has_ev (l : List S46) (n : S37) (hl : ShortI l) : Ev (fun k => outbox_has.f k l n.f0 n.f1.f0 n.f1.f1 n.f1.f2 n.f2 n.f3) (hasB l n) := by
  unfold outbox_has.f hasB
  exact all_ev l (fun k x => outbox_same.f k x.f3.f0 x.f3.f1.f0 x.f3.f1.f1 x.f3.f1.f2 x.f3.f2 x.f3.f3 n.f0 n.f1.f0 n.f1.f1 n.f1.f2 n.f2 n.f3) (fun x => eqN x.f3 n) (fun x hx => same_ev x.f3 n (hl x hx))
/-! which notes may be -/
theorem parent_ev (r n : Int) (l : List S62) (hl : l.length ≤ 100) : ∃ t, Ev (fun k => ident_Parent.f k r n l) t ∧ t.2.2.2.2 = (idB r n l && decide (0 < l.length)) := by
  unfold ident_Parent.f
  have hc := check_ev r n l hl
  cases hb : idB r n l with
  | false =>
    rw [hb, if_neg Bool.false_ne_true] at hc
    exact ⟨_, Ev.bind hc (ev_neg (by omega) (Ev.now _)), rfl⟩
  | true =>
    rw [hb, if_pos rfl] at hc
    have hw : wrap64 ((l.length : Int) - 1) = (l.length : Int) - 1 := wr _ (by omega)
    rw [hw]
    by_cases c : 0 < l.length
    · have h36 : api_Hop_36.f (l.take ((l.length : Int) - 1).toNat) = some (l.take ((l.length : Int) - 1).toNat) := by
        unfold api_Hop_36.f
        rw [if_pos (by rw [List.length_take]; omega)]
      rw [h36]
      simp only [Option.bind_some]
      exact ⟨_, Ev.bind hc (ev_pos rfl (ev_neg (by omega) (ev_pos (by omega) (ev_pos (by omega) (ev_pos (by omega) (Ev.now _)))))), by rw [decide_eq_true c]; rfl⟩
    · exact ⟨_, Ev.bind hc (ev_pos rfl (ev_pos (by omega) (Ev.now _))), by rw [decide_eq_false c]; rfl⟩
def whyB (g : Bool) (w : Int) : Bool := if g = true then decide (1 ≤ w ∧ w ≤ 9) else decide (w = 0)
def defB (o : Bool) (s : ByteArray) : Bool := if o = true then C6.nameB s else decide (s.size = 0)
def noteB (x : S37) : Bool := decide (¬ x.f0 < 1 ∧ ¬ x.f0 > 7) && ((idB x.f1.f0 x.f1.f1 x.f1.f2 && decide (0 < x.f1.f2.length)) && (defB (x.f0 == 1) x.f2 && whyB (x.f0 == 6) x.f3))
theorem name_empty (s : ByteArray) (h : s.size = 0) : C6.nameB s = false := by
  unfold C6.nameB
  rw [decide_eq_false (by omega), Bool.false_and]
theorem ne_empty (s : ByteArray) : (s.toList != ([] : List UInt8)) = !decide (s.size = 0) := by
  by_cases c : s.size = 0
  · rw [decide_eq_true c, (C6.empty_iff s).2 c]
    rfl
  · rw [decide_eq_false c, bne_iff_ne.2 (fun h => c ((C6.empty_iff s).1 h))]
    rfl
theorem why_ev (g : Bool) (a b c : Int) (l : List S62) (s : ByteArray) (w : Int) : Ev (fun k => note_Check.j1 k g false a b c l s w) (if whyB g w = true then 0 else 130) := by
  refine Ev.step (fun k => by rw [note_Check.j1]) (ev_neg Bool.false_ne_true ?_)
  cases g with
  | true =>
    rw [show whyB true w = decide (1 ≤ w ∧ w ≤ 9) from rfl]
    by_cases c1 : w ≥ 1
    · by_cases c2 : w ≤ 9
      · rw [decide_eq_true c2, decide_eq_true (show 1 ≤ w ∧ w ≤ 9 from ⟨c1, c2⟩)]
        exact ev_pos c1 (ev_neg (by decide) (ev_pos rfl (Ev.now _)))
      · rw [decide_eq_false c2, decide_eq_false (show ¬ (1 ≤ w ∧ w ≤ 9) from fun h => c2 h.2)]
        exact ev_pos c1 (ev_pos (by decide) (Ev.now _))
    · rw [decide_eq_false (show ¬ (1 ≤ w ∧ w ≤ 9) from fun h => c1 h.1)]
      exact ev_neg c1 (ev_pos (by decide) (Ev.now _))
  | false =>
    rw [show whyB false w = decide (w = 0) from rfl]
    by_cases c1 : w ≥ 1
    · rw [decide_eq_false (show ¬ w = 0 by omega)]
      by_cases c2 : w ≤ 9
      · rw [decide_eq_true c2]
        exact ev_pos c1 (ev_pos (by decide) (Ev.now _))
      · rw [decide_eq_false c2]
        exact ev_pos c1 (ev_neg (by decide) (ev_neg Bool.false_ne_true (ev_neg (by omega) (Ev.now _))))
    · by_cases c2 : w = 0
      · rw [decide_eq_true c2]
        exact ev_neg c1 (ev_neg (by decide) (ev_neg Bool.false_ne_true (ev_pos c2 (Ev.now _))))
      · rw [decide_eq_false c2]
        exact ev_neg c1 (ev_neg (by decide) (ev_neg Bool.false_ne_true (ev_neg c2 (Ev.now _))))
theorem nobad (g : Bool) (a b c : Int) (l : List S62) (s : ByteArray) (w : Int) : Ev (fun k => note_Check.j1 k g true a b c l s w) 130 := Ev.step (fun k => by rw [note_Check.j1]) (ev_pos rfl (Ev.now _))
theorem def_ev (o g : Bool) (a b c : Int) (l : List S62) (s : ByteArray) (w : Int) : Ev (fun k => note_Check.j0 k o g false a b c l s w) (if (defB o s && whyB g w) = true then 0 else 130) := by
  refine Ev.step (fun k => by rw [note_Check.j0]) (ev_neg Bool.false_ne_true (Ev.bind (C6.name_ev s) ?_))
  cases o with
  | true =>
    rw [show defB true s = C6.nameB s from rfl]
    cases hn : C6.nameB s with
    | true => rw [Bool.true_and]; exact ev_neg (by decide) (ev_pos rfl (why_ev g a b c l s w))
    | false => rw [Bool.false_and]; exact ev_pos (by decide) (nobad g a b c l s w)
  | false =>
    rw [show defB false s = decide (s.size = 0) from rfl]
    by_cases c0 : s.size = 0
    · rw [name_empty s c0, ne_empty, decide_eq_true c0, Bool.true_and]
      exact ev_neg (by decide) (ev_neg Bool.false_ne_true (why_ev g a b c l s w))
    · rw [ne_empty, decide_eq_false c0, Bool.false_and]
      cases hn : C6.nameB s with
      | true => exact ev_pos (by decide) (nobad g a b c l s w)
      | false => exact ev_neg (by decide) (ev_neg Bool.false_ne_true (nobad g a b c l s w))
theorem ncheck_ev (x : S37) (hl : x.f1.f2.length ≤ 100) : Ev (fun k => note_Check.f k x.f0 x.f1.f0 x.f1.f1 x.f1.f2 x.f2 x.f3) (if noteB x = true then 0 else 130) := by
  have bad : Ev (fun k => note_Check.j0 k (x.f0 == 1) (x.f0 == 6) true x.f0 x.f1.f0 x.f1.f1 x.f1.f2 x.f2 x.f3) 130 := Ev.step (fun k => by rw [note_Check.j0]) (ev_pos rfl (Ev.now _))
  obtain ⟨t, h1, h2⟩ := parent_ev x.f1.f0 x.f1.f1 x.f1.f2 hl
  unfold note_Check.f noteB
  refine Ev.bind h1 ?_
  by_cases c1 : x.f0 < 1
  · rw [decide_eq_false (fun h => h.1 c1), Bool.false_and, if_neg Bool.false_ne_true]
    exact ev_pos c1 bad
  refine ev_neg c1 ?_
  by_cases c2 : x.f0 > 7
  · rw [decide_eq_false (fun h => h.2 c2), Bool.false_and, if_neg Bool.false_ne_true]
    exact ev_pos c2 bad
  refine ev_neg c2 ?_
  rw [decide_eq_true ⟨c1, c2⟩, Bool.true_and, ← h2]
  cases t.2.2.2.2 with
  | false => rw [Bool.false_and, if_neg Bool.false_ne_true]; exact bad
  | true => rw [Bool.true_and]; exact def_ev _ _ _ _ _ _ _ _
/-! which items are an outbox -/
noncomputable def itemB (least : Int) (pre : List S46) (x : S46) : Bool := decide (¬ x.f0 < least ∧ ¬ x.f0 > 1000000000 ∧ ¬ x.f1 < 0 ∧ ¬ x.f1 > 1000000016 ∧ ¬ x.f2 < 0 ∧ ¬ x.f2 > 1000000) && (noteB x.f3 && !hasB pre x.f3)
noncomputable def itemsB : Int → List S46 → List S46 → Bool
  | _, _, [] => true
  | least, pre, x :: r => itemB least pre x && itemsB (x.f0 + 1) (pre ++ [x]) r
noncomputable def mayB (l : List S46) : Bool := decide (¬ (l.length : Int) > 12) && itemsB 1 [] l
theorem take_snoc46 (l : List S46) (i : Nat) (h : i < l.length) : l.take (i + 1) = l.take i ++ [rd_T46 l (i : Int)] := by
  rw [List.take_add_one, List.getElem?_eq_getElem h]
  have := drop46 l i h
  rw [List.drop_eq_getElem_cons h] at this
  injection this with h1 _
  rw [h1]
  rfl
theorem shortI_take {l : List S46} (h : ShortI l) (i : Nat) : ShortI (l.take i) := fun x hx => h x (List.mem_of_mem_take hx)
theorem may_loop (l : List S46) (hl : ShortI l) (hn : l.length ≤ 1000) (d : Nat) : ∀ (i : Nat) (least : Int), i + d = l.length → (0 ≤ least ∧ least ≤ 1000000001) → Ev (fun k => outbox_May.l0 k l least l (l.length : Int) (i : Int)) (if itemsB least (l.take i) (l.drop i) = true then 0 else 2) := by
  induction d with
  | zero =>
    intro i least hi _
    rw [List.drop_eq_nil_of_le (by omega), itemsB, if_pos rfl]
    exact Ev.step (fun k => by rw [outbox_May.l0]) (ev_neg (by omega) (Ev.now _))
  | succ d ih =>
    intro i least hi hle
    have hl' : i < l.length := by omega
    have hm := hl _ (mem46 l i hl')
    rw [drop46 l i hl', itemsB]
    generalize hx : rd_T46 l (i : Int) = x at hm
    have no : itemB least (l.take i) x = false → (if (itemB least (l.take i) x && itemsB (x.f0 + 1) (l.take i ++ [x]) (l.drop (i + 1))) = true then (0 : Int) else 2) = 2 := fun e => by rw [e, Bool.false_and, if_neg Bool.false_ne_true]
    refine Ev.step (fun k => by rw [outbox_May.l0]) (ev_pos (by omega) (ev_pos (by omega) (ev_pos (by omega) ?_)))
    rw [hx]
    have nd : ¬ (¬ x.f0 < least ∧ ¬ x.f0 > 1000000000 ∧ ¬ x.f1 < 0 ∧ ¬ x.f1 > 1000000016 ∧ ¬ x.f2 < 0 ∧ ¬ x.f2 > 1000000) → itemB least (l.take i) x = false := fun g => by unfold itemB; rw [decide_eq_false g, Bool.false_and]
    by_cases c1 : x.f0 < least
    · rw [no (nd (fun g => g.1 c1))]; exact ev_pos c1 (Ev.now _)
    refine ev_neg c1 ?_
    by_cases c2 : x.f0 > 1000000000
    · rw [no (nd (fun g => g.2.1 c2))]; exact ev_pos c2 (Ev.now _)
    refine ev_neg c2 ?_
    by_cases c3 : x.f1 < 0
    · rw [no (nd (fun g => g.2.2.1 c3))]; exact ev_pos c3 (Ev.now _)
    refine ev_neg c3 ?_
    by_cases c4 : x.f1 > 1000000016
    · rw [no (nd (fun g => g.2.2.2.1 c4))]; exact ev_pos c4 (Ev.now _)
    refine ev_neg c4 ?_
    by_cases c5 : x.f2 < 0
    · rw [no (nd (fun g => g.2.2.2.2.1 c5))]; exact ev_pos c5 (Ev.now _)
    refine ev_neg c5 ?_
    by_cases c6 : x.f2 > 1000000
    · rw [no (nd (fun g => g.2.2.2.2.2 c6))]; exact ev_pos c6 (Ev.now _)
    refine ev_neg c6 ?_
    have hd : itemB least (l.take i) x = (noteB x.f3 && !hasB (l.take i) x.f3) := by unfold itemB; rw [decide_eq_true ⟨c1, c2, c3, c4, c5, c6⟩, Bool.true_and]
    refine Ev.bind (ncheck_ev x.f3 hm) ?_
    cases hb : noteB x.f3 with
    | false =>
      rw [no (by rw [hd, hb, Bool.false_and])]
      exact ev_neg (by decide) (Ev.now _)
    | true =>
      refine ev_pos rfl (ev_pos (by omega) (Ev.bind (has_ev _ x.f3 (shortI_take hl i)) ?_))
      rw [Int.toNat_natCast]
      cases hh : hasB (l.take i) x.f3 with
      | true =>
        rw [no (by rw [hd, hh, Bool.not_true, Bool.and_false])]
        exact ev_pos rfl (Ev.now _)
      | false =>
        rw [hd, hb, hh, Bool.not_false, Bool.true_and, Bool.true_and]
        have h := ih (i + 1) (x.f0 + 1) (by omega) (by omega)
        rw [take_snoc46 l i hl', hx, ← nx_ i l.length hl' (by omega)] at h
        have hw : wrap64 (x.f0 + 1) = x.f0 + 1 := wr _ (by omega)
        rw [hw]
        exact ev_neg Bool.false_ne_true h
theorem may_ev (l : List S46) (hl : ShortI l) : Ev (fun k => outbox_May.f k l) (if mayB l = true then 0 else 2) := by
  unfold outbox_May.f mayB
  by_cases c : (l.length : Int) > 12
  · rw [decide_eq_false (fun g => g c), Bool.false_and, if_neg Bool.false_ne_true]
    exact ev_pos c (Ev.now _)
  · rw [decide_eq_true c, Bool.true_and]
    have h := may_loop l hl (by omega) l.length 0 1 (by omega) (by omega)
    rw [List.take_zero, List.drop_zero] at h
    exact ev_neg c h

/-! the reference's -/
/-! Push -/
theorem copied_loop (l : List S46) (hl : ShortI l) (hn : l.length ≤ 1000) (d : Nat) : ∀ (i : Nat), i + d = l.length → Ev (fun k => outbox_copied.l0 k (l.take i) l (l.length : Int) (i : Int)) l := by
  induction d with
  | zero =>
    intro i hi
    rw [List.take_of_length_le (by omega)]
    exact Ev.step (fun k => by rw [outbox_copied.l0]) (ev_neg (by omega) (Ev.now _))
  | succ d ih =>
    intro i hi
    have hl' : i < l.length := by omega
    have hm := hl _ (mem46 l i hl')
    have h := ih (i + 1) (by omega)
    rw [take_snoc46 l i hl', ← nx_ i l.length hl' (by omega)] at h
    have h36 : api_Hop_36.f (rd_T46 l (i : Int)).f3.f1.f2 = some (rd_T46 l (i : Int)).f3.f1.f2 := by
      unfold api_Hop_36.f
      rw [if_pos (by omega)]
    refine Ev.step (fun k => by rw [outbox_copied.l0]) (ev_pos (by omega) (ev_pos (by omega) (ev_pos (by omega) ?_)))
    rw [h36]
    simp only [Option.bind_some]
    exact ev_pos (by rw [List.length_take]; omega) h
theorem copied_ev (l : List S46) (hl : ShortI l) (hn : l.length ≤ 1000) : Ev (fun k => outbox_copied.f k l) l := by
  have h := copied_loop l hl hn l.length 0 (by omega)
  rw [List.take_zero] at h
  exact h
def timeB (t : Int) : Bool := decide (0 ≤ t ∧ t ≤ 1000000000)
theorem time_is (t : Int) : outbox_time.f t = some (timeB t) := by
  unfold outbox_time.f timeB
  by_cases c : t ≥ 0
  · rw [if_pos c]
    congr 1
    exact decide_eq_decide.2 ⟨fun h => ⟨c, h⟩, fun h => h.2⟩
  · rw [if_neg c, decide_eq_false (fun h => c h.1)]
def ShortN (l : List S37) : Prop := ∀ x ∈ l, x.f1.f2.length ≤ 100
theorem mayB_len {l : List S46} (h : mayB l = true) : l.length ≤ 12 := by
  unfold mayB at h
  rw [Bool.and_eq_true, decide_eq_true_eq] at h
  omega
/-! Due, Answered, Anew -/
theorem answered_ev (l : List S46) (low : Int) (hl : ShortI l) : Ev (fun k => outbox_Answered.f k l low) (if mayB l = true then l.filter (fun x => !decide (x.f0 ≤ low)) else []) := by
  unfold outbox_Answered.f
  refine Ev.bind (may_ev l hl) ?_
  cases hm : mayB l with
  | false => exact ev_neg (by decide) (Ev.now _)
  | true =>
    have h12 := mayB_len hm
    exact ev_pos rfl (Ev.bind (copied_ev l hl (by omega)) (Ev.now _))

/-! Answered of the reference's; Anew -/
/-- Items, numbered anew from i + 1 on. -/
def anewL (now : Int) : Nat → List S46 → List S46
  | _, [] => []
  | i, x :: r => ⟨((i + 1 : Nat) : Int), now, 0, x.f3⟩ :: anewL now (i + 1) r
noncomputable def anewR (l : List S46) (now : Int) : List S46 := if mayB l = true ∧ timeB now = true then anewL now 0 l else []
theorem rd_set46 (l : List S46) (i : Nat) (h : i < l.length) (x : S46) : rd_T46 (l.set i x) (i : Int) = x := by
  unfold rd_T46
  rw [Int.toNat_natCast, List.getD_eq_getElem?_getD, List.getElem?_set_self h]
  rfl
theorem anew_loop (now : Int) (l : List S46) (hn : l.length ≤ 1000) (d : Nat) : ∀ (i : Nat) (a : List S46), i + d = l.length → a.length = i → Ev (fun k => outbox_Anew.l0 k now (a ++ l.drop i) (l.length : Int) (i : Int)) (a ++ anewL now i (l.drop i)) := by
  induction d with
  | zero =>
    intro i a hi _
    rw [List.drop_eq_nil_of_le (by omega), anewL, List.append_nil]
    exact Ev.step (fun k => by rw [outbox_Anew.l0]) (ev_neg (by omega) (Ev.now _))
  | succ d ih =>
    intro i a hi ha
    have hl' : i < l.length := by omega
    have hlen : (a ++ l.drop i).length = l.length := by rw [List.length_append, List.length_drop]; omega
    have hrd : rd_T46 (a ++ l.drop i) (i : Int) = rd_T46 l (i : Int) := by
      unfold rd_T46
      rw [Int.toNat_natCast, List.getD_eq_getElem?_getD, List.getD_eq_getElem?_getD, List.getElem?_append_right (by omega), List.getElem?_drop, ha, show i + (i - i) = i by omega]
    have h := ih (i + 1) (a ++ [⟨((i + 1 : Nat) : Int), now, 0, (rd_T46 l (i : Int)).f3⟩]) (by omega) (by rw [List.length_append, List.length_singleton]; omega)
    have hset : ∀ x, (a ++ l.drop i).set i x = (a ++ [x]) ++ l.drop (i + 1) := by
      intro x
      rw [List.set_append_right _ _ (by omega), ha, Nat.sub_self, drop46 l i hl', List.append_assoc]
      rfl
    have e : a ++ anewL now i (l.drop i) = (a ++ [⟨((i + 1 : Nat) : Int), now, 0, (rd_T46 l (i : Int)).f3⟩]) ++ anewL now (i + 1) (l.drop (i + 1)) := by
      rw [drop46 l i hl', anewL, List.append_assoc]
      rfl
    rw [e]
    refine Ev.step (fun k => by rw [outbox_Anew.l0]) (ev_pos (by omega) (ev_pos (by omega) (ev_pos (by omega) ?_)))
    simp only [Option.bind_some, Int.toNat_natCast]
    rw [hrd, nx_ i l.length hl' (by omega)]
    simp only [rd_set46 (a ++ l.drop i) i (by omega), List.set_set]
    rw [hset]
    exact h
theorem anew_ev (l : List S46) (now : Int) (hl : ShortI l) : Ev (fun k => outbox_Anew.f k l now) (anewR l now) := by
  have bad : Ev (fun k => outbox_Anew.j0 k l now true) [] := Ev.step (fun k => by rw [outbox_Anew.j0]) (ev_pos rfl (Ev.now _))
  unfold outbox_Anew.f
  refine Ev.bind (may_ev l hl) ?_
  cases hm : mayB l with
  | false =>
    have hv : anewR l now = [] := by unfold anewR; rw [if_neg (fun g => by rw [hm] at g; exact Bool.false_ne_true g.1)]
    rw [hv]
    exact ev_neg (by decide) bad
  | true =>
    refine ev_pos rfl ?_
    rw [time_is]
    simp only [Option.bind_some]
    cases ht : timeB now with
    | false =>
      have hv : anewR l now = [] := by unfold anewR; rw [if_neg (fun g => by rw [ht] at g; exact Bool.false_ne_true g.2)]
      rw [hv]
      exact bad
    | true =>
      have hv : anewR l now = anewL now 0 l := by unfold anewR; rw [if_pos ⟨hm, ht⟩]
      have h12 := mayB_len hm
      have h := anew_loop now l (by omega) l.length 0 [] (by omega) rfl
      rw [List.drop_zero, List.nil_append, List.nil_append] at h
      have h0 : Ev (fun k => outbox_Anew.l0 k now l (l.length : Int) 0) (anewL now 0 l) := h
      rw [hv]
      exact Ev.step (fun k => by rw [outbox_Anew.j0]) (ev_neg (by decide) (Ev.bind (copied_ev l hl (by omega)) h0))

/-! the same twice; few; awake -/
theorem rsame_loop (l : List S46) (hl : ShortI l) (hn : l.length ≤ 1000) (d : Nat) : ∀ (i : Nat), i + d = l.length → Ev (fun k => ententeref19_Same.l0 k l l (i : Int)) true := by
  induction d with
  | zero =>
    intro i hi
    exact Ev.step (fun k => by rw [ententeref19_Same.l0]) (ev_neg (by omega) (Ev.now _))
  | succ d ih =>
    intro i hi
    have hl' : i < l.length := by omega
    have hm := hl _ (mem46 l i hl')
    have h := ih (i + 1) (by omega)
    rw [← nx_ i l.length hl' (by omega)] at h
    have hs := rsame_ev (rd_T46 l (i : Int)).f3 (rd_T46 l (i : Int)).f3 hm
    rw [(eqN_iff _ _).2 rfl] at hs
    exact Ev.step (fun k => by rw [ententeref19_Same.l0]) (ev_pos (by omega) (ev_pos (by omega) (ev_pos (by omega) (ev_pos rfl (ev_pos rfl (ev_pos rfl (Ev.bind hs (ev_pos rfl h))))))))
theorem same_self (l : List S46) (hl : ShortI l) (hn : l.length ≤ 1000) : Ev (fun k => ententeref19_Same.f k l l) true := by
  have h : Ev (fun k => ententeref19_Same.l0 k l l 0) true := rsame_loop l hl hn l.length 0 (by omega)
  unfold ententeref19_Same.f
  exact ev_pos rfl h
theorem few_n (l : List S37) (hn : l.length ≤ 1000) (d : Nat) : ∀ (i : Nat), i + d = l.length → (∀ j, j < i → (rd_T37 l (j : Int)).f1.f2.length ≤ 100) → ∃ b, Ev (fun k => ententelaw19_few.l1 k l (i : Int)) b ∧ (b = true → ∀ j, j < l.length → (rd_T37 l (j : Int)).f1.f2.length ≤ 100) := by
  induction d with
  | zero =>
    intro i hi h
    exact ⟨true, Ev.step (fun k => by rw [ententelaw19_few.l1]) (ev_neg (by omega) (Ev.now _)), fun _ j hj => h j (by omega)⟩
  | succ d ih =>
    intro i hi h
    by_cases c : (((rd_T37 l (i : Int)).f1.f2).length : Int) > 100
    · exact ⟨false, Ev.step (fun k => by rw [ententelaw19_few.l1]) (ev_pos (by omega) (ev_pos (by omega) (ev_pos c (Ev.now _)))), fun e => by cases e⟩
    · obtain ⟨b, h1, h2⟩ := ih (i + 1) (by omega) (fun j hj => by
        by_cases e : j = i
        · subst e; omega
        · exact h j (by omega))
      rw [← nx_ i l.length (by omega) (by omega)] at h1
      exact ⟨b, Ev.step (fun k => by rw [ententelaw19_few.l1]) (ev_pos (by omega) (ev_pos (by omega) (ev_neg c h1))), h2⟩
theorem few_i (l : List S46) (notes : List S37) (hn : l.length ≤ 1000) (hN : notes.length ≤ 1000) (d : Nat) : ∀ (i : Nat), i + d = l.length → (∀ j, j < i → (rd_T46 l (j : Int)).f3.f1.f2.length ≤ 100) → ∃ b, Ev (fun k => ententelaw19_few.l0 k l notes (i : Int)) b ∧ (b = true → (∀ j, j < l.length → (rd_T46 l (j : Int)).f3.f1.f2.length ≤ 100) ∧ ∀ j, j < notes.length → (rd_T37 notes (j : Int)).f1.f2.length ≤ 100) := by
  induction d with
  | zero =>
    intro i hi h
    obtain ⟨b, h1, h2⟩ := few_n notes hN notes.length 0 (by omega) (fun j hj => by omega)
    have h0 : Ev (fun k => ententelaw19_few.l1 k notes 0) b := h1
    exact ⟨b, Ev.step (fun k => by rw [ententelaw19_few.l0]) (ev_neg (by omega) h0), fun e => ⟨fun j hj => h j (by omega), h2 e⟩⟩
  | succ d ih =>
    intro i hi h
    by_cases c : (((rd_T46 l (i : Int)).f3.f1.f2).length : Int) > 100
    · exact ⟨false, Ev.step (fun k => by rw [ententelaw19_few.l0]) (ev_pos (by omega) (ev_pos (by omega) (ev_pos c (Ev.now _)))), fun e => by cases e⟩
    · obtain ⟨b, h1, h2⟩ := ih (i + 1) (by omega) (fun j hj => by
        by_cases e : j = i
        · subst e; omega
        · exact h j (by omega))
      rw [← nx_ i l.length (by omega) (by omega)] at h1
      exact ⟨b, Ev.step (fun k => by rw [ententelaw19_few.l0]) (ev_pos (by omega) (ev_pos (by omega) (ev_neg c h1))), h2⟩
theorem rd46_of {l : List S46} (h : ∀ j, j < l.length → (rd_T46 l (j : Int)).f3.f1.f2.length ≤ 100) : ShortI l := by
  intro x hx
  obtain ⟨j, hj, rfl⟩ := List.getElem_of_mem hx
  have := h j hj
  unfold rd_T46 at this
  rw [Int.toNat_natCast, List.getD_eq_getElem?_getD, List.getElem?_eq_getElem hj] at this
  exact this
theorem rd37_of {l : List S37} (h : ∀ j, j < l.length → (rd_T37 l (j : Int)).f1.f2.length ≤ 100) : ShortN l := by
  intro x hx
  obtain ⟨j, hj, rfl⟩ := List.getElem_of_mem hx
  have := h j hj
  unfold rd_T37 at this
  rw [Int.toNat_natCast, List.getD_eq_getElem?_getD, List.getElem?_eq_getElem hj] at this
  exact this
theorem few_ev (l : List S46) (notes : List S37) : ∃ b, Ev (fun k => ententelaw19_few.f k l notes) b ∧ (b = true → ShortI l ∧ ShortN notes ∧ l.length ≤ 100 ∧ notes.length ≤ 100) := by
  have bad : Ev (fun k => ententelaw19_few.j0 k l notes true) false := Ev.step (fun k => by rw [ententelaw19_few.j0]) (ev_pos rfl (Ev.now _))
  unfold ententelaw19_few.f
  by_cases c1 : (l.length : Int) > 100
  · exact ⟨false, ev_pos c1 bad, fun e => by cases e⟩
  by_cases c2 : (notes.length : Int) > 100
  · rw [decide_eq_true c2]
    exact ⟨false, ev_neg c1 bad, fun e => by cases e⟩
  rw [decide_eq_false c2]
  obtain ⟨b, h1, h2⟩ := few_i l notes (by omega) (by omega) l.length 0 (by omega) (fun j hj => by omega)
  have h0 : Ev (fun k => ententelaw19_few.l0 k l notes 0) b := h1
  exact ⟨b, ev_neg c1 (Ev.step (fun k => by rw [ententelaw19_few.j0]) (ev_neg Bool.false_ne_true h0)), fun e => ⟨rd46_of (h2 e).1, rd37_of (h2 e).2, by omega, by omega⟩⟩
theorem awake_ev : Ev (fun k => ententelaw19_awake.f k) true := Ev.of ententelaw19_awake.mono (k := 40) (by decide +kernel)

/-! OutboxAnswered -/
theorem ahas_ev (l : List S46) (n : S37) (hl : ShortI l) : Ev (fun k => outbox_Has.f k l n.f0 n.f1.f0 n.f1.f1 n.f1.f2 n.f2 n.f3) (mayB l && hasB l n) := by
  unfold outbox_Has.f
  refine Ev.bind (may_ev l hl) ?_
  cases hm : mayB l with
  | false => exact ev_neg (by decide) (Ev.now _)
  | true => rw [Bool.true_and]; exact ev_pos rfl (Ev.bind (has_ev l n hl) (Ev.now _))
theorem eqN_eq {a b : S37} : eqN a b = true ↔ a = b := by unfold eqN; exact @decide_eq_true_iff _ (Classical.propDecidable _)
theorem hasB_mem {l : List S46} {n : S37} : hasB l n = true ↔ ∃ x ∈ l, x.f3 = n := by
  unfold hasB
  rw [List.any_eq_true]
  exact ⟨fun ⟨x, h1, h2⟩ => ⟨x, h1, eqN_eq.1 h2⟩, fun ⟨x, h1, h2⟩ => ⟨x, h1, eqN_eq.2 h2⟩⟩
theorem itemB_spec {least : Int} {pre : List S46} {x : S46} : itemB least pre x = true ↔ ((¬ x.f0 < least ∧ ¬ x.f0 > 1000000000 ∧ ¬ x.f1 < 0 ∧ ¬ x.f1 > 1000000016 ∧ ¬ x.f2 < 0 ∧ ¬ x.f2 > 1000000) ∧ noteB x.f3 = true ∧ ¬ hasB pre x.f3 = true) := by
  unfold itemB
  rw [Bool.and_eq_true, Bool.and_eq_true, decide_eq_true_iff, Bool.not_eq_true', Bool.not_eq_true]
theorem items_filter (p : S46 → Bool) : ∀ (l : List S46) (least least' : Int) (pre pre' : List S46), itemsB least pre l = true → least' ≤ least → (∀ n, hasB pre' n = true → hasB pre n = true) → itemsB least' pre' (l.filter p) = true
  | [], _, _, _, _, _, _, _ => by rw [List.filter_nil, itemsB]
  | x :: r, least, least', pre, pre', h, hle, hp => by
    rw [itemsB, Bool.and_eq_true, itemB_spec] at h
    obtain ⟨⟨h1, h2, h3⟩, h4⟩ := h
    rw [List.filter_cons]
    cases hx : p x with
    | true =>
      rw [if_pos rfl, itemsB, Bool.and_eq_true, itemB_spec]
      refine ⟨⟨⟨by omega, h1.2⟩, h2, fun g => h3 (hp _ g)⟩, items_filter p r _ _ _ _ h4 (Int.le_refl _) (fun n g => ?_)⟩
      obtain ⟨y, hy, hn⟩ := hasB_mem.1 g
      rcases List.mem_append.1 hy with hy | hy
      · obtain ⟨z, hz, hn'⟩ := hasB_mem.1 (hp n (hasB_mem.2 ⟨y, hy, hn⟩))
        exact hasB_mem.2 ⟨z, List.mem_append.2 (Or.inl hz), hn'⟩
      · exact hasB_mem.2 ⟨y, List.mem_append.2 (Or.inr hy), hn⟩
    | false =>
      rw [if_neg Bool.false_ne_true]
      refine items_filter p r _ _ _ _ h4 (by omega) (fun n g => ?_)
      obtain ⟨z, hz, hn'⟩ := hasB_mem.1 (hp n g)
      exact hasB_mem.2 ⟨z, List.mem_append.2 (Or.inl hz), hn'⟩
theorem may_filter (p : S46 → Bool) (l : List S46) (h : mayB l = true) : mayB (l.filter p) = true := by
  unfold mayB at *
  rw [Bool.and_eq_true, decide_eq_true_iff] at *
  have := List.length_filter_le p l
  exact ⟨by omega, items_filter p l _ _ _ _ h.2 (Int.le_refl _) (fun _ g => g)⟩
theorem items_diff : ∀ (l : List S46) (least : Int) (pre : List S46), itemsB least pre l = true → (∀ x ∈ l, ¬ hasB pre x.f3 = true) ∧ ∀ x ∈ l, ∀ y ∈ l, x.f3 = y.f3 → x = y
  | [], _, _, _ => ⟨fun x hx => (by cases hx), fun x hx => (by cases hx)⟩
  | x :: r, least, pre, h => by
    rw [itemsB, Bool.and_eq_true, itemB_spec] at h
    obtain ⟨⟨_, _, h3⟩, h4⟩ := h
    obtain ⟨i1, i2⟩ := items_diff r _ _ h4
    have out : ∀ y ∈ r, ¬ x.f3 = y.f3 := fun y hy e => i1 y hy (hasB_mem.2 ⟨x, List.mem_append.2 (Or.inr (List.mem_singleton.2 rfl)), e⟩)
    refine ⟨fun y hy => ?_, fun y hy z hz e => ?_⟩
    · rcases List.mem_cons.1 hy with rfl | hy
      · exact h3
      · intro g
        obtain ⟨w, hw, hn⟩ := hasB_mem.1 g
        exact i1 y hy (hasB_mem.2 ⟨w, List.mem_append.2 (Or.inl hw), hn⟩)
    · rcases List.mem_cons.1 hy with ey | hy
      · rcases List.mem_cons.1 hz with ez | hz
        · rw [ey, ez]
        · exact absurd (by rw [ey] at e; exact e) (out z hz)
      · rcases List.mem_cons.1 hz with ez | hz
        · exact absurd (by rw [ez] at e; exact e.symm) (out y hy)
        · exact i2 y hy z hz e
theorem filter_has (p : S46 → Bool) (l : List S46) (h : mayB l = true) (x : S46) (hx : x ∈ l) (hp : p x = false) : hasB (l.filter p) x.f3 = false := by
  unfold mayB at h
  rw [Bool.and_eq_true] at h
  have i2 := (items_diff l _ _ h.2).2
  cases hh : hasB (l.filter p) x.f3 with
  | false => rfl
  | true =>
    obtain ⟨y, hy, hn⟩ := hasB_mem.1 hh
    obtain ⟨h1, h2⟩ := List.mem_filter.1 hy
    rw [i2 y h1 x hx hn, hp] at h2
    exact absurd h2 Bool.false_ne_true
theorem items_anew : ∀ (m : List S46) (i : Nat) (least : Int) (pre pre' : List S46), itemsB least pre m = true → i + m.length ≤ 1000 → (∀ n, hasB pre' n = true → hasB pre n = true) → itemsB ((i + 1 : Nat) : Int) pre' (anewL 7 i m) = true
  | [], _, _, _, _, _, _, _ => by rw [anewL, itemsB]
  | x :: r, i, least, pre, pre', h, hi, hp => by
    rw [itemsB, Bool.and_eq_true, itemB_spec] at h
    obtain ⟨⟨h1, h2, h3⟩, h4⟩ := h
    rw [List.length_cons] at hi
    rw [anewL, itemsB, Bool.and_eq_true, itemB_spec]
    refine ⟨⟨⟨?_, ?_, show ¬ (7 : Int) < 0 by decide, show ¬ (7 : Int) > 1000000016 by decide, show ¬ (0 : Int) < 0 by decide, show ¬ (0 : Int) > 1000000 by decide⟩, h2, fun g => h3 (hp _ g)⟩, ?_⟩
    · show ¬ ((i + 1 : Nat) : Int) < ((i + 1 : Nat) : Int); omega
    · show ¬ ((i + 1 : Nat) : Int) > 1000000000; omega
    · have h5 := items_anew r (i + 1) _ _ (pre' ++ [⟨((i + 1 : Nat) : Int), 7, 0, x.f3⟩]) h4 (by omega) (fun n g => by
        obtain ⟨y, hy, hn⟩ := hasB_mem.1 g
        rcases List.mem_append.1 hy with hy | hy
        · obtain ⟨z, hz, hn'⟩ := hasB_mem.1 (hp n (hasB_mem.2 ⟨y, hy, hn⟩))
          exact hasB_mem.2 ⟨z, List.mem_append.2 (Or.inl hz), hn'⟩
        · rw [List.mem_singleton.1 hy] at hn
          exact hasB_mem.2 ⟨x, List.mem_append.2 (Or.inr (List.mem_singleton.2 rfl)), hn⟩)
      exact h5
theorem anewA_len (now : Int) : ∀ (l : List S46) (i : Nat), (anewL now i l).length = l.length
  | [], _ => rfl
  | y :: r, i => by rw [anewL, List.length_cons, List.length_cons, anewA_len now r (i + 1)]
theorem anewA_short (now : Int) : ∀ (l : List S46) (i : Nat), ShortI l → ShortI (anewL now i l)
  | [], _, _ => fun x hx => by cases hx
  | y :: r, i, h => fun x hx => by
    rcases List.mem_cons.1 hx with rfl | hx
    · exact h y List.mem_cons_self
    · exact anewA_short now r (i + 1) (fun z hz => h z (List.mem_cons_of_mem _ hz)) x hx
theorem may_anew (m : List S46) (h : mayB m = true) : mayB (anewL 7 0 m) = true := by
  unfold mayB at *
  rw [Bool.and_eq_true, decide_eq_true_iff] at *
  rw [anewA_len]
  exact ⟨h.1, items_anew m 0 _ _ _ h.2 (by omega) (fun _ g => g)⟩
theorem anewA_rd (now : Int) : ∀ (m : List S46) (i j : Nat), j < m.length → rd_T46 (anewL now i m) (j : Int) = ⟨((i + j + 1 : Nat) : Int), now, 0, (rd_T46 m (j : Int)).f3⟩
  | [], _, _, h => absurd h (Nat.not_lt_zero _)
  | x :: r, i, 0, _ => rfl
  | x :: r, i, j + 1, h => by
    have h1 := anewA_rd now r (i + 1) j (by rw [List.length_cons] at h; omega)
    have e : i + (j + 1) + 1 = i + 1 + j + 1 := by omega
    rw [e]
    exact h1
theorem one_take (l : List S46) (i : Nat) (h : i < l.length) : (l.take (i + 1)).drop i = [rd_T46 l (i : Int)] := by
  rw [take_snoc46 l i h, List.drop_append_of_le_length (by rw [List.length_take]; omega), List.drop_eq_nil_of_le (by rw [List.length_take]; omega), List.nil_append]
theorem ans_l1 (l m A : List S46) (hl : ShortI l) (hm : mayB l = true) (hMm : ShortI m) (hmm : mayB m = true) (hA : ShortI A) (hAm : mayB A = true) (hAl : A.length = m.length) (hAe : ∀ j, j < A.length → (rd_T46 A (j : Int)).f0 = ((j + 1 : Nat) : Int) ∧ (rd_T46 A (j : Int)).f1 = 7 ∧ (rd_T46 A (j : Int)).f2 = 0 ∧ hasB l (rd_T46 A (j : Int)).f3 = true) (d : Nat) : ∀ i, i + d = A.length → Ev (fun k => ententelaw19_OutboxAnswered.l1 k l m (m.length : Int) A (i : Int)) true := by
  have h12 := mayB_len hAm
  induction d with
  | zero =>
    intro i hi
    have e1 := may_ev m hMm
    have e2 := may_ev A hA
    rw [hmm, if_pos rfl] at e1
    rw [hAm, if_pos rfl] at e2
    exact Ev.step (fun k => by rw [ententelaw19_OutboxAnswered.l1]) (ev_neg (by omega) (ev_pos rfl (ev_pos (by omega) (Ev.bind e1 (ev_pos rfl (Ev.bind e2 (ev_pos rfl (Ev.bind awake_ev (Ev.now _)))))))))
  | succ d ih =>
    intro i hi
    have hi' : i < A.length := by omega
    obtain ⟨a1, a2, a3, a4⟩ := hAe i hi'
    have h := ih (i + 1) (by omega)
    have hw := nx_ i A.length hi' (by omega)
    rw [← hw] at h
    have e := ahas_ev l (rd_T46 A (i : Int)).f3 hl
    rw [hm, a4] at e
    exact Ev.step (fun k => by rw [ententelaw19_OutboxAnswered.l1]) (ev_pos (by omega) (ev_pos (by omega) (ev_pos (by rw [hw, a1]) (ev_pos a2 (ev_pos a3 (Ev.bind e (ev_pos rfl h)))))))
theorem ans_l0 (l : List S46) (low : Int) (hl : ShortI l) (hm : mayB l = true) (m : List S46) (hM : m = l.filter fun x => !decide (x.f0 ≤ low)) (d : Nat) : ∀ (i : Nat) (a : List S46), i + d = l.length → m = a ++ (l.drop i).filter (fun x => !decide (x.f0 ≤ low)) → Ev (fun k => ententelaw19_OutboxAnswered.l0 k l low m (a.length : Int) (i : Int)) true := by
  have h12 := mayB_len hm
  have hmm : mayB m = true := by rw [hM]; exact may_filter _ l hm
  have hMm : ShortI m := by rw [hM]; exact fun x hx => hl x (List.mem_filter.1 hx).1
  have hml := mayB_len hmm
  induction d with
  | zero =>
    intro i a hi ha
    rw [List.drop_eq_nil_of_le (by omega), List.filter_nil, List.append_nil] at ha
    have en := anew_ev m 7 hMm
    have hv : anewR m 7 = anewL 7 0 m := by unfold anewR; rw [if_pos ⟨hmm, rfl⟩]
    rw [hv] at en
    have h1 := ans_l1 l m (anewL 7 0 m) hl hm hMm hmm (anewA_short 7 m 0 hMm) (may_anew m hmm) (anewA_len 7 m 0) (fun j hj => by
      rw [anewA_len] at hj
      rw [anewA_rd 7 m 0 j hj]
      refine ⟨by rw [Nat.zero_add], rfl, rfl, hasB_mem.2 ⟨rd_T46 m (j : Int), ?_, rfl⟩⟩
      have := mem46 m j hj
      rw [hM] at this
      rw [hM]
      exact (List.mem_filter.1 this).1) (anewL 7 0 m).length 0 (by omega)
    rw [← ha]
    exact Ev.step (fun k => by rw [ententelaw19_OutboxAnswered.l0]) (ev_neg (by omega) (Ev.bind en h1))
  | succ d ih =>
    intro i a hi ha
    have hl' : i < l.length := by omega
    rw [drop46 l i hl', List.filter_cons] at ha
    have hw := nx_ i l.length hl' (by omega)
    refine Ev.step (fun k => by rw [ententelaw19_OutboxAnswered.l0]) (ev_pos (by omega) (ev_pos (by omega) ?_))
    by_cases c : (rd_T46 l (i : Int)).f0 > low
    · rw [decide_eq_false (show ¬ (rd_T46 l (i : Int)).f0 ≤ low by omega), Bool.not_false, if_pos rfl] at ha
      have ha2 : m = (a ++ [rd_T46 l (i : Int)]) ++ (l.drop (i + 1)).filter (fun x => !decide (x.f0 ≤ low)) := by rw [ha, List.append_assoc]; rfl
      have hla : a.length < m.length := by rw [ha, List.length_append, List.length_cons]; omega
      have hrd : rd_T46 m (a.length : Int) = rd_T46 l (i : Int) := by
        conv => lhs; unfold rd_T46
        rw [ha, Int.toNat_natCast, List.getD_eq_getElem?_getD, List.getElem?_append_right (Nat.le_refl _), Nat.sub_self]
        rfl
      have hwa := nx_ a.length m.length hla (by omega)
      have h := ih (i + 1) _ (by omega) ha2
      rw [List.length_append, List.length_singleton, ← hw, ← hwa] at h
      have hs := same_self [rd_T46 l (i : Int)] (fun x hx => by rw [List.mem_singleton.1 hx]; exact hl _ (mem46 l i hl')) (show 1 ≤ 1000 by decide)
      refine ev_pos c (ev_neg (by omega) (ev_pos (by omega) (ev_pos (by omega) (ev_pos (by omega) (ev_pos (by omega) (ev_pos (by omega) ?_))))))
      rw [hw, hwa, Int.toNat_natCast, Int.toNat_natCast, Int.toNat_natCast, Int.toNat_natCast, one_take l i hl', one_take m a.length hla, hrd]
      rw [hw, hwa] at h
      refine Ev.bind hs (Ev.step (fun k => by rw [ententelaw19_OutboxAnswered.j2]) (ev_neg (by decide) ?_))
      rw [hw, hwa]
      exact h
    · rw [decide_eq_true (show (rd_T46 l (i : Int)).f0 ≤ low by omega), Bool.not_true, if_neg Bool.false_ne_true] at ha
      have h := ih (i + 1) a (by omega) ha
      have e := ahas_ev m (rd_T46 l (i : Int)).f3 hMm
      have hf : hasB m (rd_T46 l (i : Int)).f3 = false := by
        rw [hM]
        exact filter_has _ l hm _ (mem46 l i hl') (by rw [decide_eq_true (show (rd_T46 l (i : Int)).f0 ≤ low by omega)]; rfl)
      rw [hmm, hf] at e
      rw [← hw] at h
      exact ev_neg c (Ev.bind e (ev_neg Bool.false_ne_true h))
theorem OutboxAnswered : ententelaw19_OutboxAnswered.Pure := by
  intro l low hl1 hl2
  apply Ev.rounds
  obtain ⟨b, hb, hbt⟩ := few_ev l []
  have bad : Ev (fun k => ententelaw19_OutboxAnswered.j0 k l low true) true := Ev.step (fun k => by rw [ententelaw19_OutboxAnswered.j0]) (ev_pos rfl (Ev.bind awake_ev (Ev.now _)))
  unfold ententelaw19_OutboxAnswered.f
  refine Ev.bind hb (ev_ite (fun c => ?_) (fun c => bad))
  obtain ⟨h1, h2, h3, h4⟩ := hbt c
  refine Ev.bind (may_ev l h1) ?_
  cases hm : mayB l with
  | false => exact bad
  | true =>
    rw [if_pos rfl]
    have e := answered_ev l low h1
    rw [hm, if_pos rfl] at e
    have h := ans_l0 l low h1 hm (l.filter fun x => !decide (x.f0 ≤ low)) rfl l.length 0 [] (by omega) (by rw [List.drop_zero, List.nil_append])
    exact Ev.step (fun k => by rw [ententelaw19_OutboxAnswered.j0]) (ev_neg (by decide) (Ev.bind e h))

end Go.Proofs.Ytcgmoeiknkdljaa.Pure
