/- OutboxDue: proved for all arguments; no condition. -/
import Derived.Test.YtcgmoeiknkdljaaNum
import Derived.Test.YtcgmoeiknkdljaaPAx22
namespace Go.Proofs.Ytcgmoeiknkdljaa.Pure
open Go.RowKit Go.Proofs.Ytcgmoeiknkdljaa.PA Go.Proofs.YtcgmoeiknkdljaaW.PrintWords Go.Proofs.YtcgmoeiknkdljaaW.PrintLast Go.Proofs.YtcgmoeiknkdljaaW.PrintMore Go.Proofs.Ytcgmoeiknkdljaa.Num
set_option linter.unusedVariables false
set_option linter.unusedSimpArgs false

/-! tests and rounds -/
theorem ev_ite {α : Type} {c : Prop} [Decidable c] {f g : Nat → Option α} {r : α} (h1 : c → Ev f r) (h2 : ¬ c → Ev g r) : Ev (fun k => if c then f k else g k) r := by
  by_cases hc : c
  · exact Ev.congr (fun k => if_pos hc) (h1 hc)
  · exact Ev.congr (fun k => if_neg hc) (h2 hc)
theorem ev_pos {α : Type} {c : Prop} [Decidable c] {f g : Nat → Option α} {r : α} (hc : c) (h1 : Ev f r) : Ev (fun k => if c then f k else g k) r := Ev.congr (fun k => if_pos hc) h1
theorem ev_neg {α : Type} {c : Prop} [Decidable c] {f g : Nat → Option α} {r : α} (hc : ¬ c) (h2 : Ev g r) : Ev (fun k => if c then f k else g k) r := Ev.congr (fun k => if_neg hc) h2
theorem ev_eq {α : Type} {f : Nat → Option α} {r r' : α} (h : Ev f r) (e : r = r') : Ev f r' := e ▸ h

namespace C6

/-! The words of Num are used here (wr, toList_iff), nothing of numS. -/
theorem ev_pos {α : Type} {c : Prop} [Decidable c] {f g : Nat → Option α} {a b : α} (h : c) (hf : Ev f a) : Ev (fun k => if c then f k else g k) (if c then a else b) := by
  simp only [if_pos h]
  exact hf
theorem ev_neg {α : Type} {c : Prop} [Decidable c] {f g : Nat → Option α} {a b : α} (h : ¬ c) (hg : Ev g b) : Ev (fun k => if c then f k else g k) (if c then a else b) := by
  simp only [if_neg h]
  exact hg
theorem drop_bt (s : ByteArray) (i : Nat) (h : i < s.size) : (bytesOf s).drop i = bt s (i : Int) :: (bytesOf s).drop (i + 1) := by
  have hl : i < (bytesOf s).length := by rw [bytesOf_length]; exact h
  rw [List.drop_eq_getElem_cons hl, ← rd_bytesOf]
  congr 1
  simp [rd, List.getD_eq_getElem?_getD, hl]
/-- May a letter stand in a name? -/
def okc (c : Int) : Bool := (decide (97 ≤ c) && decide (c ≤ 122)) || (decide (48 ≤ c) && decide (c ≤ 57))
def low (c : Int) : Bool := decide (97 ≤ c) && decide (c ≤ 122)
def nameB (s : ByteArray) : Bool := decide (1 ≤ s.size ∧ s.size ≤ 16) && (low (bt s 0) && (bytesOf s).all okc)
theorem empty_iff (s : ByteArray) : s.toList = ([] : List UInt8) ↔ s.size = 0 := by
  have h1 : s.toList = ([] : List UInt8) ↔ s.toList = ByteArray.empty.toList := by rw [show ByteArray.empty.toList = ([] : List UInt8) from by decide +kernel]
  rw [h1, toList_iff]
  constructor
  · intro h; rw [h]; rfl
  · intro h
    apply bytesOf_inj
    rw [bytesOf_empty]
    exact List.eq_nil_of_length_eq_zero (by rw [bytesOf_length, h])
theorem name_step (c : Int) (n : Option Bool) : (if c < 97 then (if c < 48 then some false else (if c > 57 then some false else n)) else (if c > 122 then (if c < 48 then some false else (if c > 57 then some false else n)) else n)) = if okc c = true then n else some false := by
  by_cases h1 : c < 97 <;> by_cases h2 : c < 48 <;> by_cases h3 : c > 57 <;> by_cases h4 : c > 122 <;> simp [okc, h1, h2, h3, h4] <;> omega
theorem name_loop (s : ByteArray) (hs : s.size ≤ 1000) (d : Nat) : ∀ i : Nat, i + d = s.size → Ev (fun k => act_Name.l0 k s (s.size : Int) (i : Int)) (((bytesOf s).drop i).all okc) := by
  induction d with
  | zero =>
    intro i hi
    refine Ev.step (f := fun _ => some (((bytesOf s).drop i).all okc)) (fun k => ?_) (Ev.now _)
    rw [act_Name.l0, if_neg (by omega), List.drop_eq_nil_of_le (by rw [bytesOf_length]; omega)]
    rfl
  | succ d ih =>
    intro i hi
    rw [drop_bt s i (by omega), List.all_cons]
    by_cases c : okc (bt s (i : Int)) = true
    · rw [c, Bool.true_and]
      refine Ev.step (fun k => ?_) (ih (i + 1) (by omega))
      rw [act_Name.l0, if_pos (by omega), if_pos (by omega), if_pos (by omega), name_step, if_pos c, wr _ (by omega)]
      rfl
    · rw [show okc (bt s (i : Int)) = false by simpa using c, Bool.false_and]
      refine Ev.step (f := fun _ => some false) (fun k => ?_) (Ev.now _)
      rw [act_Name.l0, if_pos (by omega), if_pos (by omega), if_pos (by omega), name_step, if_neg c]
theorem name_ev (s : ByteArray) : Ev (fun k => act_Name.f k s) (nameB s) := by
  have bad : Ev (fun k => act_Name.j0 k s true) false := Ev.step (f := fun _ => some false) (fun k => by rw [act_Name.j0, if_pos rfl]) (Ev.now _)
  unfold act_Name.f
  by_cases c1 : s.toList = ([] : List UInt8)
  · have h0 := (empty_iff s).1 c1
    rw [show nameB s = false by unfold nameB; rw [decide_eq_false (by omega), Bool.false_and]]
    exact Ev.congr (fun k => if_pos c1) bad
  have h0 : s.size ≠ 0 := fun h => c1 ((empty_iff s).2 h)
  refine Ev.congr (fun k => if_neg c1) ?_
  by_cases c2 : (s.size : Int) > 16
  · rw [show nameB s = false by unfold nameB; rw [decide_eq_false (by omega), Bool.false_and]]
    exact Ev.congr (fun k => if_pos c2) bad
  have e : nameB s = (low (bt s 0) && (bytesOf s).all okc) := by unfold nameB; rw [decide_eq_true (by omega), Bool.true_and]
  rw [e]
  refine Ev.congr (fun k => by rw [if_neg c2, if_pos (by omega)]) ?_
  by_cases c3 : bt s 0 < 97
  · rw [show low (bt s 0) = false by unfold low; rw [decide_eq_false (by omega), Bool.false_and], Bool.false_and]
    exact Ev.congr (fun k => if_pos c3) bad
  refine Ev.congr (fun k => if_neg c3) ?_
  by_cases c4 : bt s 0 > 122
  · rw [show low (bt s 0) = false by unfold low; rw [decide_eq_false (show ¬ bt s 0 ≤ 122 by omega), Bool.and_false], Bool.false_and, decide_eq_true c4]
    exact bad
  rw [show low (bt s 0) = true by unfold low; rw [decide_eq_true (by omega), decide_eq_true (by omega)]; rfl, Bool.true_and, decide_eq_false c4]
  have := name_loop s (by omega) s.size 0 (by omega)
  rw [List.drop_zero] at this
  refine Ev.step (fun k => ?_) this
  rw [act_Name.j0, if_neg (by decide)]
  rfl
end C6


/-- The document's delay. -/
def dl (a : Int) : Int := if a < 1 then 1 else if a = 1 then 2 else if a = 2 then 4 else 8
theorem dl_bd (a : Int) : 1 ≤ dl a ∧ dl a ≤ 8 := by unfold dl; (repeat' split) <;> omega
theorem delay_at (m : Int) (h0 : 0 ≤ m) (h8 : m ≤ 8) : Ev (fun k => backoff_Delay.l0 k 1 m 0) (dl m) := by
  have h : m = 0 ∨ m = 1 ∨ m = 2 ∨ m = 3 ∨ m = 4 ∨ m = 5 ∨ m = 6 ∨ m = 7 ∨ m = 8 := by omega
  rcases h with rfl | rfl | rfl | rfl | rfl | rfl | rfl | rfl | rfl <;>
    exact Ev.of (fun k => backoff_Delay.mono_l k _ _ _) (k := 12) (by decide +kernel)
theorem delay_ev (a : Int) : Ev (fun k => backoff_Delay.f k a) (dl a) := by
  have hm : 0 ≤ mn (mx a 0) 8 ∧ mn (mx a 0) 8 ≤ 8 := by unfold mn mx; (repeat' split) <;> omega
  have hd : dl a = dl (mn (mx a 0) 8) := by unfold dl mn mx; (repeat' split) <;> omega
  rw [hd]
  exact delay_at _ hm.1 hm.2

/-! ids -/
theorem drop62 (l : List S62) (i : Nat) (h : i < l.length) : l.drop i = rd_T62 l (i : Int) :: l.drop (i + 1) := by
  rw [List.drop_eq_getElem_cons h]
  congr 1
  unfold rd_T62
  rw [Int.toNat_natCast, List.getD_eq_getElem?_getD, List.getElem?_eq_getElem h]
  rfl
theorem nx_ (i n : Nat) (h : i < n) (hn : n ≤ 1000000) : wrap64 ((i : Int) + 1) = ((i + 1 : Nat) : Int) := by rw [wr _ (by omega)]; omega
theorem path_loop (l : List S62) (hl : l.length ≤ 100) (d : Nat) : ∀ (i : Nat) (x : List Int), i + d = l.length → x.length ≤ 1 + i → Ev (fun k => ident_path.l0 k x l (l.length : Int) (i : Int)) (x ++ (l.drop i).map (·.f1)) := by
  induction d with
  | zero =>
    intro i x hi hx
    rw [List.drop_eq_nil_of_le (by omega), List.map_nil, List.append_nil]
    exact Ev.step (fun k => by rw [ident_path.l0]) (ev_neg (by omega) (Ev.now _))
  | succ d ih =>
    intro i x hi hx
    rw [drop62 l i (by omega), List.map_cons]
    have h := ih (i + 1) (x ++ [(rd_T62 l (i : Int)).f1]) (by omega) (by rw [List.length_append, List.length_singleton]; omega)
    rw [List.append_assoc, ← nx_ i l.length (by omega) (by omega)] at h
    exact Ev.step (fun k => by rw [ident_path.l0]) (ev_pos (by omega) (ev_pos (by omega) (ev_pos (by omega) (ev_pos (by omega) h))))
theorem path_ev (r n : Int) (l : List S62) (hl : l.length ≤ 100) : Ev (fun k => ident_path.f k r n l) (r :: l.map (·.f1)) := by
  have h := path_loop l hl l.length 0 [r] (by omega) (by simp)
  rw [List.drop_zero] at h
  exact h
def badH (h : S62) : Bool := decide (h.f0 < 0 ∨ h.f0 ≥ 8)
theorem bad_loop (l : List S62) (hl : l.length ≤ 100) (d : Nat) : ∀ i : Nat, i + d = l.length → ∃ r, Ev (fun k => api_Hop_57.l0 k l (l.length : Int) (i : Int)) r ∧ decide (r ≥ 0) = (l.drop i).any badH := by
  induction d with
  | zero =>
    intro i hi
    rw [List.drop_eq_nil_of_le (by omega)]
    exact ⟨-1, Ev.step (fun k => by rw [api_Hop_57.l0]) (ev_neg (by omega) (Ev.now _)), rfl⟩
  | succ d ih =>
    intro i hi
    rw [drop62 l i (by omega), List.any_cons]
    obtain ⟨r, h1, h2⟩ := ih (i + 1) (by omega)
    rw [← nx_ i l.length (by omega) (by omega)] at h1
    have hc : ident_Check_1.f (rd_T62 l (i : Int)).f0 (rd_T62 l (i : Int)).f1 = some (badH (rd_T62 l (i : Int))) := by
      unfold ident_Check_1.f badH
      by_cases c : (rd_T62 l (i : Int)).f0 < 0
      · rw [if_pos c, decide_eq_true (Or.inl c)]
      · rw [if_neg c]
        congr 1
        exact decide_eq_decide.2 ⟨fun h => Or.inr h, fun h => h.resolve_left c⟩
    cases hb : badH (rd_T62 l (i : Int)) with
    | true =>
      refine ⟨(i : Int), Ev.step (fun k => by rw [api_Hop_57.l0]) (ev_pos (by omega) (ev_pos (by omega) (ev_pos (by omega) ?_))), by rw [Bool.true_or]; exact decide_eq_true (by omega)⟩
      simp only [hc, hb, Option.bind_some, if_true]
      exact Ev.now _
    | false =>
      refine ⟨r, Ev.step (fun k => by rw [api_Hop_57.l0]) (ev_pos (by omega) (ev_pos (by omega) (ev_pos (by omega) ?_))), by rw [Bool.false_or]; exact h2⟩
      simp only [hc, hb, Option.bind_some, Bool.false_eq_true, if_false]
      exact h1
theorem bad_ev (l : List S62) (hl : l.length ≤ 100) (a : Int) : Ev (fun k => api_Hop_50.f k l a) (l.any badH) := by
  obtain ⟨r, h1, h2⟩ := bad_loop l hl l.length 0 (by omega)
  rw [List.drop_zero] at h2
  unfold api_Hop_50.f api_Hop_57.f
  rw [← h2]
  exact Ev.bind h1 (Ev.now _)
/-- May an id be? -/
def idB (r n : Int) (l : List S62) : Bool := decide (¬ n < 1 ∧ ¬ n > 999999 ∧ ¬ (l.length : Int) > 4) && (ident_Check.go (r :: l.map (·.f1)) [] && !l.any badH)
theorem check_ev (r n : Int) (l : List S62) (hl : l.length ≤ 100) : Ev (fun k => ident_Check.f k r n l) (if idB r n l = true then 0 else 30) := by
  unfold ident_Check.f
  by_cases c : n < 1 ∨ n > 999999 ∨ (l.length : Int) > 4
  · have : idB r n l = false := by
      unfold idB
      rw [decide_eq_false (by omega), Bool.false_and]
    rw [this]
    exact ev_pos c (Ev.now _)
  · refine ev_neg c (Ev.bind (path_ev r n l hl) ?_)
    have : idB r n l = (ident_Check.go (r :: l.map (·.f1)) [] && !l.any badH) := by
      unfold idB
      rw [decide_eq_true (by omega), Bool.true_and]
    rw [this]
    cases hg : ident_Check.go (r :: l.map (·.f1)) [] with
    | false => exact ev_neg Bool.false_ne_true (Ev.now _)
    | true =>
      refine ev_pos rfl (Ev.bind (bad_ev l hl _) ?_)
      cases hb : l.any badH with
      | true => exact ev_pos rfl (Ev.now _)
      | false => exact ev_neg Bool.false_ne_true (Ev.now _)
/-! the reference's -/
/-! which ids and notes are the same -/
def cI (a b : Int) : Int := if a < b then -1 else if a > b then 1 else 0
theorem cI_zero (a b : Int) : cI a b = 0 ↔ a = b := by unfold cI; split <;> (try split) <;> omega
theorem compare_is (a b : Int) : cmp_Compare_int.f a b = some (cI a b) := by
  unfold cmp_Compare_int.f cmp_isNaN_int.f cI
  have h1 : (a != a) = false := by simp
  have h2 : (b != b) = false := by simp
  rw [h1, h2]
  simp only [Option.bind_some, Bool.false_eq_true, if_false]
  by_cases c : a < b
  · rw [if_pos c, if_pos c]
  · rw [if_neg c, if_neg c]
    by_cases c2 : a > b
    · rw [if_pos c2, if_pos c2]
    · rw [if_neg c2, if_neg c2]
def orL : List Int → Int
  | [] => 0
  | x :: r => if x = 0 then orL r else x
theorem or_loop (l : List Int) (hl : l.length ≤ 100) (d : Nat) : ∀ i, i + d = l.length → Ev (fun k => cmp_Or_int.l0 k 0 l (l.length : Int) (i : Int)) (orL (l.drop i)) := by
  induction d with
  | zero =>
    intro i hi
    rw [List.drop_eq_nil_of_le (by omega), orL]
    exact Ev.step (fun k => by rw [cmp_Or_int.l0]) (ev_neg (by omega) (Ev.now _))
  | succ d ih =>
    intro i hi
    rw [drop_cons l i (by omega), orL]
    have h := ih (i + 1) (by omega)
    rw [← nx_ i l.length (by omega) (by omega)] at h
    refine Ev.step (fun k => by rw [cmp_Or_int.l0]) (ev_pos (by omega) (ev_pos (by omega) (ev_pos (by omega) ?_)))
    by_cases c : rd l (i : Int) = 0
    · rw [if_pos c]
      exact ev_pos c h
    · rw [if_neg c]
      exact ev_neg c (Ev.now _)
theorem or_ev (l : List Int) (hl : l.length ≤ 100) : Ev (fun k => cmp_Or_int.f k l) (orL l) := by
  have h := or_loop l hl l.length 0 (by omega)
  rw [List.drop_zero] at h
  exact h
theorem hop_ext {a b : S62} (h0 : a.f0 = b.f0) (h1 : a.f1 = b.f1) : a = b := by
  cases a; cases b
  simp only at h0 h1
  rw [h0, h1]
theorem cmp1_ev (a0 a1 b0 b1 : Int) : ∃ c, Ev (fun k => ident_Cmp_1.f k a0 a1 b0 b1) c ∧ (c = 0 ↔ a0 = b0 ∧ a1 = b1) := by
  refine ⟨orL [cI a0 b0, cI a1 b1], ?_, ?_⟩
  · unfold ident_Cmp_1.f
    simp only [compare_is, Option.bind_some]
    exact Ev.bind (or_ev _ (by simp)) (Ev.now _)
  · rw [← cI_zero a0, ← cI_zero a1]
    unfold orL orL orL
    by_cases c : cI a0 b0 = 0
    · rw [if_pos c]
      by_cases c2 : cI a1 b1 = 0
      · rw [if_pos c2]; exact ⟨fun _ => ⟨c, c2⟩, fun _ => rfl⟩
      · rw [if_neg c2]; exact ⟨fun h => absurd h c2, fun h => absurd h.2 c2⟩
    · rw [if_neg c]
      exact ⟨fun h => absurd h c, fun h => absurd h.1 c⟩
theorem hops_loop (a b : List S62) (ha : a.length ≤ 100) (d : Nat) : ∀ i, i + d = a.length → i ≤ b.length → ∃ c, Ev (fun k => api_Hop_54.l0 k a b a (a.length : Int) (i : Int)) c ∧ (c = 0 ↔ a.drop i = b.drop i) := by
  induction d with
  | zero =>
    intro i hi hb
    rw [List.drop_eq_nil_of_le (by omega)]
    by_cases c : (a.length : Int) < (b.length : Int)
    · refine ⟨-1, Ev.step (fun k => by rw [api_Hop_54.l0]) (ev_neg (by omega) (ev_pos c (Ev.now _))), ⟨fun h => by omega, fun h => ?_⟩⟩
      have := congrArg List.length h
      rw [List.length_drop, List.length_nil] at this
      omega
    · refine ⟨0, Ev.step (fun k => by rw [api_Hop_54.l0]) (ev_neg (by omega) (ev_neg c (Ev.now _))), ⟨fun _ => ?_, fun _ => rfl⟩⟩
      rw [List.drop_eq_nil_of_le (by omega)]
  | succ d ih =>
    intro i hi hb
    by_cases c : (i : Int) ≥ (b.length : Int)
    · refine ⟨1, Ev.step (fun k => by rw [api_Hop_54.l0]) (ev_pos (by omega) (ev_pos (by omega) (ev_pos (by omega) (ev_pos c (Ev.now _))))), ⟨fun h => by omega, fun h => ?_⟩⟩
      have := congrArg List.length h
      rw [List.length_drop, List.length_drop] at this
      omega
    · obtain ⟨c1, h1, h2⟩ := cmp1_ev (rd_T62 a (i : Int)).f0 (rd_T62 a (i : Int)).f1 (rd_T62 b (i : Int)).f0 (rd_T62 b (i : Int)).f1
      rw [drop62 a i (by omega), drop62 b i (by omega)]
      by_cases c0 : c1 = 0
      · obtain ⟨c2, h3, h4⟩ := ih (i + 1) (by omega) (by omega)
        rw [← nx_ i a.length (by omega) (by omega)] at h3
        refine ⟨c2, Ev.step (fun k => by rw [api_Hop_54.l0]) (ev_pos (by omega) (ev_pos (by omega) (ev_pos (by omega) (ev_neg c (ev_pos (by omega) (Ev.bind h1 (ev_pos c0 h3))))))), ?_⟩
        rw [h4, hop_ext (h2.1 c0).1 (h2.1 c0).2]
        exact ⟨fun h => by rw [h], fun h => (List.cons.inj h).2⟩
      · refine ⟨c1, Ev.step (fun k => by rw [api_Hop_54.l0]) (ev_pos (by omega) (ev_pos (by omega) (ev_pos (by omega) (ev_neg c (ev_pos (by omega) (Ev.bind h1 (ev_neg c0 (Ev.now _)))))))), ⟨fun h => absurd h c0, fun h => ?_⟩⟩
        have := (List.cons.inj h).1
        exact absurd (h2.2 ⟨by rw [this], by rw [this]⟩) c0
theorem idcmp_ev (r n : Int) (l : List S62) (r' n' : Int) (l' : List S62) (hl : l.length ≤ 100) : ∃ c, Ev (fun k => ident_Cmp.f k r n l r' n' l') c ∧ (c = 0 ↔ r = r' ∧ n = n' ∧ l = l') := by
  obtain ⟨c, h1, h2⟩ := hops_loop l l' hl l.length 0 (by omega) (by omega)
  rw [List.drop_zero, List.drop_zero] at h2
  refine ⟨orL [cI r r', cI n n', c], ?_, ?_⟩
  · unfold ident_Cmp.f api_Hop_54.f
    simp only [compare_is, Option.bind_some]
    exact Ev.bind h1 (Ev.bind (or_ev _ (by simp)) (Ev.now _))
  · rw [← cI_zero r, ← cI_zero n, ← h2]
    unfold orL orL orL orL
    by_cases c1 : cI r r' = 0
    · rw [if_pos c1]
      by_cases c2 : cI n n' = 0
      · rw [if_pos c2]
        by_cases c3 : c = 0
        · rw [if_pos c3]; exact ⟨fun _ => ⟨c1, c2, c3⟩, fun _ => rfl⟩
        · rw [if_neg c3]; exact ⟨fun h => absurd h c3, fun h => absurd h.2.2 c3⟩
      · rw [if_neg c2]; exact ⟨fun h => absurd h c2, fun h => absurd h.2.1 c2⟩
    · rw [if_neg c1]
      exact ⟨fun h => absurd h c1, fun h => absurd h.1 c1⟩
noncomputable def eqN (x y : S37) : Bool := @decide (x = y) (Classical.propDecidable _)
theorem eqN_iff (x y : S37) : eqN x y = true ↔ x = y := @decide_eq_true_iff _ (Classical.propDecidable _)
theorem note_ext {x y : S37} : x = y ↔ x.f0 = y.f0 ∧ (x.f1.f0 = y.f1.f0 ∧ x.f1.f1 = y.f1.f1 ∧ x.f1.f2 = y.f1.f2) ∧ x.f2 = y.f2 ∧ x.f3 = y.f3 := by
  obtain ⟨a, ⟨b, c, d⟩, e, f⟩ := x
  obtain ⟨a', ⟨b', c', d'⟩, e', f'⟩ := y
  simp only [S37.mk.injEq, S35.mk.injEq]
theorem eqN_of {x y : S37} {p : Bool} (h : p = true ↔ x = y) : p = eqN x y := by
  rw [Bool.eq_iff_iff, eqN_iff]
  exact h
theorem same_ev (x y : S37) (hl : x.f1.f2.length ≤ 100) : Ev (fun k => outbox_same.f k x.f0 x.f1.f0 x.f1.f1 x.f1.f2 x.f2 x.f3 y.f0 y.f1.f0 y.f1.f1 y.f1.f2 y.f2 y.f3) (eqN x y) := by
  unfold outbox_same.f
  by_cases c1 : x.f0 = y.f0
  · refine ev_pos c1 ?_
    by_cases c2 : x.f2.toList = y.f2.toList
    · refine ev_pos c2 ?_
      by_cases c3 : x.f3 = y.f3
      · refine ev_pos c3 ?_
        obtain ⟨c, h1, h2⟩ := idcmp_ev x.f1.f0 x.f1.f1 x.f1.f2 y.f1.f0 y.f1.f1 y.f1.f2 hl
        refine ev_eq (Ev.bind h1 (Ev.now _)) (eqN_of ?_)
        rw [beq_iff_eq, h2, note_ext]
        exact ⟨fun h => ⟨c1, h, toList_iff.1 c2, c3⟩, fun h => h.2.1⟩
      · refine ev_eq (ev_neg c3 (Ev.now _)) (eqN_of ?_)
        rw [note_ext]
        exact ⟨fun h => (by cases h), fun h => absurd h.2.2.2 c3⟩
    · refine ev_eq (ev_neg c2 (Ev.now _)) (eqN_of ?_)
      rw [note_ext]
      exact ⟨fun h => (by cases h), fun h => absurd (toList_iff.2 h.2.2.1) c2⟩
  · refine ev_eq (ev_neg c1 (Ev.now _)) (eqN_of ?_)
    rw [note_ext]
    exact ⟨fun h => (by cases h), fun h => absurd h.1 c1⟩

/-! which notes are among items -/
noncomputable def hasB (l : List S46) (n : S37) : Bool := l.any fun x => eqN x.f3 n
theorem all_ev {α : Type} (l : List α) (f : Nat → α → Option Bool) (p : α → Bool) (h : ∀ x ∈ l, Ev (fun k => f k x) (p x)) : Ev (fun k => if (l.all fun x => (f k x).isSome) = true then some (l.any fun x => f k x == some true) else none) (l.any p) := by
  have : ∃ K, ∀ k, K ≤ k → ∀ x ∈ l, f k x = some (p x) := by
    induction l with
    | nil => exact ⟨0, fun k _ x hx => by cases hx⟩
    | cons y r ih =>
      obtain ⟨K1, h1⟩ := ih (fun x hx => h x (List.mem_cons_of_mem _ hx))
      obtain ⟨K2, h2⟩ := h y List.mem_cons_self
      refine ⟨max K1 K2, fun k hk x hx => ?_⟩
      rcases List.mem_cons.1 hx with rfl | hx
      · exact h2 k (by omega)
      · exact h1 k (by omega) x hx
  obtain ⟨K, hK⟩ := this
  refine ⟨K, fun k hk => ?_⟩
  have e1 : (l.all fun x => (f k x).isSome) = true := List.all_eq_true.2 fun x hx => by rw [hK k hk x hx]; rfl
  have e2 : (l.any fun x => f k x == some true) = l.any p := by
    rw [Bool.eq_iff_iff, List.any_eq_true, List.any_eq_true]
    constructor
    · rintro ⟨x, hx, g⟩
      refine ⟨x, hx, ?_⟩
      rw [hK k hk x hx] at g
      simpa using g
    · rintro ⟨x, hx, g⟩
      refine ⟨x, hx, ?_⟩
      rw [hK k hk x hx, g]
      rfl
  dsimp only
  rw [if_pos e1, e2]
def ShortI (l : List S46) : Prop := ∀ x ∈ l, x.f3.f1.f2.length ≤ 100
theorem has_ev (l : List S46) (n : S37) (hl : ShortI l) : Ev (fun k => outbox_has.f k l n.f0 n.f1.f0 n.f1.f1 n.f1.f2 n.f2 n.f3) (hasB l n) := by
  unfold outbox_has.f hasB
  exact all_ev l (fun k x => outbox_same.f k x.f3.f0 x.f3.f1.f0 x.f3.f1.f1 x.f3.f1.f2 x.f3.f2 x.f3.f3 n.f0 n.f1.f0 n.f1.f1 n.f1.f2 n.f2 n.f3) (fun x => eqN x.f3 n) (fun x hx => same_ev x.f3 n (hl x hx))
/-! which notes may be -/
theorem parent_ev (r n : Int) (l : List S62) (hl : l.length ≤ 100) : ∃ t, Ev (fun k => ident_Parent.f k r n l) t ∧ t.2.2.2.2 = (idB r n l && decide (0 < l.length)) := by
  unfold ident_Parent.f
  have hc := check_ev r n l hl
  cases hb : idB r n l with
  | false =>
    rw [hb, if_neg Bool.false_ne_true] at hc
    exact ⟨_, Ev.bind hc (ev_neg (by omega) (Ev.now _)), rfl⟩
  | true =>
    rw [hb, if_pos rfl] at hc
    have hw : wrap64 ((l.length : Int) - 1) = (l.length : Int) - 1 := wr _ (by omega)
    rw [hw]
    by_cases c : 0 < l.length
    · have h36 : api_Hop_36.f (l.take ((l.length : Int) - 1).toNat) = some (l.take ((l.length : Int) - 1).toNat) := by
        unfold api_Hop_36.f
        rw [if_pos (by rw [List.length_take]; omega)]
      rw [h36]
      simp only [Option.bind_some]
      exact ⟨_, Ev.bind hc (ev_pos rfl (ev_neg (by omega) (ev_pos (by omega) (ev_pos (by omega) (ev_pos (by omega) (Ev.now _)))))), by rw [decide_eq_true c]; rfl⟩
    · exact ⟨_, Ev.bind hc (ev_pos rfl (ev_pos (by omega) (Ev.now _))), by rw [decide_eq_false c]; rfl⟩
def whyB (g : Bool) (w : Int) : Bool := if g = true then decide (1 ≤ w ∧ w ≤ 9) else decide (w = 0)
def defB (o : Bool) (s : ByteArray) : Bool := if o = true then C6.nameB s else decide (s.size = 0)
def noteB (x : S37) : Bool := decide (¬ x.f0 < 1 ∧ ¬ x.f0 > 7) && ((idB x.f1.f0 x.f1.f1 x.f1.f2 && decide (0 < x.f1.f2.length)) && (defB (x.f0 == 1) x.f2 && whyB (x.f0 == 6) x.f3))
theorem name_empty (s : ByteArray) (h : s.size = 0) : C6.nameB s = false := by
  unfold C6.nameB
  rw [decide_eq_false (by omega), Bool.false_and]
theorem ne_empty (s : ByteArray) : (s.toList != ([] : List UInt8)) = !decide (s.size = 0) := by
  by_cases c : s.size = 0
  · rw [decide_eq_true c, (C6.empty_iff s).2 c]
    rfl
  · rw [decide_eq_false c, bne_iff_ne.2 (fun h => c ((C6.empty_iff s).1 h))]
    rfl
theorem why_ev (g : Bool) (a b c : Int) (l : List S62) (s : ByteArray) (w : Int) : Ev (fun k => note_Check.j1 k g false a b c l s w) (if whyB g w = true then 0 else 130) := by
  refine Ev.step (fun k => by rw [note_Check.j1]) (ev_neg Bool.false_ne_true ?_)
  cases g with
  | true =>
    rw [show whyB true w = decide (1 ≤ w ∧ w ≤ 9) from rfl]
    by_cases c1 : w ≥ 1
    · by_cases c2 : w ≤ 9
      · rw [decide_eq_true c2, decide_eq_true (show 1 ≤ w ∧ w ≤ 9 from ⟨c1, c2⟩)]
        exact ev_pos c1 (ev_neg (by decide) (ev_pos rfl (Ev.now _)))
      · rw [decide_eq_false c2, decide_eq_false (show ¬ (1 ≤ w ∧ w ≤ 9) from fun h => c2 h.2)]
        exact ev_pos c1 (ev_pos (by decide) (Ev.now _))
    · rw [decide_eq_false (show ¬ (1 ≤ w ∧ w ≤ 9) from fun h => c1 h.1)]
      exact ev_neg c1 (ev_pos (by decide) (Ev.now _))
  | false =>
    rw [show whyB false w = decide (w = 0) from rfl]
    by_cases c1 : w ≥ 1
    · rw [decide_eq_false (show ¬ w = 0 by omega)]
      by_cases c2 : w ≤ 9
      · rw [decide_eq_true c2]
        exact ev_pos c1 (ev_pos (by decide) (Ev.now _))
      · rw [decide_eq_false c2]
        exact ev_pos c1 (ev_neg (by decide) (ev_neg Bool.false_ne_true (ev_neg (by omega) (Ev.now _))))
    · by_cases c2 : w = 0
      · rw [decide_eq_true c2]
        exact ev_neg c1 (ev_neg (by decide) (ev_neg Bool.false_ne_true (ev_pos c2 (Ev.now _))))
      · rw [decide_eq_false c2]
        exact ev_neg c1 (ev_neg (by decide) (ev_neg Bool.false_ne_true (ev_neg c2 (Ev.now _))))
theorem nobad (g : Bool) (a b c : Int) (l : List S62) (s : ByteArray) (w : Int) : Ev (fun k => note_Check.j1 k g true a b c l s w) 130 := Ev.step (fun k => by rw [note_Check.j1]) (ev_pos rfl (Ev.now _))
theorem def_ev (o g : Bool) (a b c : Int) (l : List S62) (s : ByteArray) (w : Int) : Ev (fun k => note_Check.j0 k o g false a b c l s w) (if (defB o s && whyB g w) = true then 0 else 130) := by
  refine Ev.step (fun k => by rw [note_Check.j0]) (ev_neg Bool.false_ne_true (Ev.bind (C6.name_ev s) ?_))
  cases o with
  | true =>
    rw [show defB true s = C6.nameB s from rfl]
    cases hn : C6.nameB s with
    | true => rw [Bool.true_and]; exact ev_neg (by decide) (ev_pos rfl (why_ev g a b c l s w))
    | false => rw [Bool.false_and]; exact ev_pos (by decide) (nobad g a b c l s w)
  | false =>
    rw [show defB false s = decide (s.size = 0) from rfl]
    by_cases c0 : s.size = 0
    · rw [name_empty s c0, ne_empty, decide_eq_true c0, Bool.true_and]
      exact ev_neg (by decide) (ev_neg Bool.false_ne_true (why_ev g a b c l s w))
    · rw [ne_empty, decide_eq_false c0, Bool.false_and]
      cases hn : C6.nameB s with
      | true => exact ev_pos (by decide) (nobad g a b c l s w)
      | false => exact ev_neg (by decide) (ev_neg Bool.false_ne_true (nobad g a b c l s w))
theorem ncheck_ev (x : S37) (hl : x.f1.f2.length ≤ 100) : Ev (fun k => note_Check.f k x.f0 x.f1.f0 x.f1.f1 x.f1.f2 x.f2 x.f3) (if noteB x = true then 0 else 130) := by
  have bad : Ev (fun k => note_Check.j0 k (x.f0 == 1) (x.f0 == 6) true x.f0 x.f1.f0 x.f1.f1 x.f1.f2 x.f2 x.f3) 130 := Ev.step (fun k => by rw [note_Check.j0]) (ev_pos rfl (Ev.now _))
  obtain ⟨t, h1, h2⟩ := parent_ev x.f1.f0 x.f1.f1 x.f1.f2 hl
  unfold note_Check.f noteB
  refine Ev.bind h1 ?_
  by_cases c1 : x.f0 < 1
  · rw [decide_eq_false (fun h => h.1 c1), Bool.false_and, if_neg Bool.false_ne_true]
    exact ev_pos c1 bad
  refine ev_neg c1 ?_
  by_cases c2 : x.f0 > 7
  · rw [decide_eq_false (fun h => h.2 c2), Bool.false_and, if_neg Bool.false_ne_true]
    exact ev_pos c2 bad
  refine ev_neg c2 ?_
  rw [decide_eq_true ⟨c1, c2⟩, Bool.true_and, ← h2]
  cases t.2.2.2.2 with
  | false => rw [Bool.false_and, if_neg Bool.false_ne_true]; exact bad
  | true => rw [Bool.true_and]; exact def_ev _ _ _ _ _ _ _ _
/-! which items are an outbox -/
noncomputable def itemB (least : Int) (pre : List S46) (x : S46) : Bool := decide (¬ x.f0 < least ∧ ¬ x.f0 > 1000000000 ∧ ¬ x.f1 < 0 ∧ ¬ x.f1 > 1000000016 ∧ ¬ x.f2 < 0 ∧ ¬ x.f2 > 1000000) && (noteB x.f3 && !hasB pre x.f3)
noncomputable def itemsB : Int → List S46 → List S46 → Bool
  | _, _, [] => true
  | least, pre, x :: r => itemB least pre x && itemsB (x.f0 + 1) (pre ++ [x]) r
noncomputable def mayB (l : List S46) : Bool := decide (¬ (l.length : Int) > 12) && itemsB 1 [] l
theorem take_snoc46 (l : List S46) (i : Nat) (h : i < l.length) : l.take (i + 1) = l.take i ++ [rd_T46 l (i : Int)] := by
  rw [List.take_add_one, List.getElem?_eq_getElem h]
  have := drop46 l i h
  rw [List.drop_eq_getElem_cons h] at this
  injection this with h1 _
  rw [h1]
  rfl
theorem shortI_take {l : List S46} (h : ShortI l) (i : Nat) : ShortI (l.take i) := fun x hx => h x (List.mem_of_mem_take hx)
theorem may_loop (l : List S46) (hl : ShortI l) (hn : l.length ≤ 1000) (d : Nat) : ∀ (i : Nat) (least : Int), i + d = l.length → (0 ≤ least ∧ least ≤ 1000000001) → Ev (fun k => outbox_May.l0 k l least l (l.length : Int) (i : Int)) (if itemsB least (l.take i) (l.drop i) = true then 0 else 2) := by
  induction d with
  | zero =>
    intro i least hi _
    rw [List.drop_eq_nil_of_le (by omega), itemsB, if_pos rfl]
    exact Ev.step (fun k => by rw [outbox_May.l0]) (ev_neg (by omega) (Ev.now _))
  | succ d ih =>
    intro i least hi hle
    have hl' : i < l.length := by omega
    have hm := hl _ (mem46 l i hl')
    rw [drop46 l i hl', itemsB]
    generalize hx : rd_T46 l (i : Int) = x at hm
    have no : itemB least (l.take i) x = false → (if (itemB least (l.take i) x && itemsB (x.f0 + 1) (l.take i ++ [x]) (l.drop (i + 1))) = true then (0 : Int) else 2) = 2 := fun e => by rw [e, Bool.false_and, if_neg Bool.false_ne_true]
    refine Ev.step (fun k => by rw [outbox_May.l0]) (ev_pos (by omega) (ev_pos (by omega) (ev_pos (by omega) ?_)))
    rw [hx]
    have nd : ¬ (¬ x.f0 < least ∧ ¬ x.f0 > 1000000000 ∧ ¬ x.f1 < 0 ∧ ¬ x.f1 > 1000000016 ∧ ¬ x.f2 < 0 ∧ ¬ x.f2 > 1000000) → itemB least (l.take i) x = false := fun g => by unfold itemB; rw [decide_eq_false g, Bool.false_and]
    by_cases c1 : x.f0 < least
    · rw [no (nd (fun g => g.1 c1))]; exact ev_pos c1 (Ev.now _)
    refine ev_neg c1 ?_
    by_cases c2 : x.f0 > 1000000000
    · rw [no (nd (fun g => g.2.1 c2))]; exact ev_pos c2 (Ev.now _)
    refine ev_neg c2 ?_
    by_cases c3 : x.f1 < 0
    · rw [no (nd (fun g => g.2.2.1 c3))]; exact ev_pos c3 (Ev.now _)
    refine ev_neg c3 ?_
    by_cases c4 : x.f1 > 1000000016
    · rw [no (nd (fun g => g.2.2.2.1 c4))]; exact ev_pos c4 (Ev.now _)
    refine ev_neg c4 ?_
    by_cases c5 : x.f2 < 0
    · rw [no (nd (fun g => g.2.2.2.2.1 c5))]; exact ev_pos c5 (Ev.now _)
    refine ev_neg c5 ?_
    by_cases c6 : x.f2 > 1000000
    · rw [no (nd (fun g => g.2.2.2.2.2 c6))]; exact ev_pos c6 (Ev.now _)
    refine ev_neg c6 ?_
    have hd : itemB least (l.take i) x = (noteB x.f3 && !hasB (l.take i) x.f3) := by unfold itemB; rw [decide_eq_true ⟨c1, c2, c3, c4, c5, c6⟩, Bool.true_and]
    refine Ev.bind (ncheck_ev x.f3 hm) ?_
    cases hb : noteB x.f3 with
    | false =>
      rw [no (by rw [hd, hb, Bool.false_and])]
      exact ev_neg (by decide) (Ev.now _)
    | true =>
      refine ev_pos rfl (ev_pos (by omega) (Ev.bind (has_ev _ x.f3 (shortI_take hl i)) ?_))
      rw [Int.toNat_natCast]
      cases hh : hasB (l.take i) x.f3 with
      | true =>
        rw [no (by rw [hd, hh, Bool.not_true, Bool.and_false])]
        exact ev_pos rfl (Ev.now _)
      | false =>
        rw [hd, hb, hh, Bool.not_false, Bool.true_and, Bool.true_and]
        have h := ih (i + 1) (x.f0 + 1) (by omega) (by omega)
        rw [take_snoc46 l i hl', hx, ← nx_ i l.length hl' (by omega)] at h
        have hw : wrap64 (x.f0 + 1) = x.f0 + 1 := wr _ (by omega)
        rw [hw]
        exact ev_neg Bool.false_ne_true h
theorem may_ev (l : List S46) (hl : ShortI l) : Ev (fun k => outbox_May.f k l) (if mayB l = true then 0 else 2) := by
  unfold outbox_May.f mayB
  by_cases c : (l.length : Int) > 12
  · rw [decide_eq_false (fun g => g c), Bool.false_and, if_neg Bool.false_ne_true]
    exact ev_pos c (Ev.now _)
  · rw [decide_eq_true c, Bool.true_and]
    have h := may_loop l hl (by omega) l.length 0 1 (by omega) (by omega)
    rw [List.take_zero, List.drop_zero] at h
    exact ev_neg c h

/-! the reference's -/
/-! Push -/
theorem copied_loop (l : List S46) (hl : ShortI l) (hn : l.length ≤ 1000) (d : Nat) : ∀ (i : Nat), i + d = l.length → Ev (fun k => outbox_copied.l0 k (l.take i) l (l.length : Int) (i : Int)) l := by
  induction d with
  | zero =>
    intro i hi
    rw [List.take_of_length_le (by omega)]
    exact Ev.step (fun k => by rw [outbox_copied.l0]) (ev_neg (by omega) (Ev.now _))
  | succ d ih =>
    intro i hi
    have hl' : i < l.length := by omega
    have hm := hl _ (mem46 l i hl')
    have h := ih (i + 1) (by omega)
    rw [take_snoc46 l i hl', ← nx_ i l.length hl' (by omega)] at h
    have h36 : api_Hop_36.f (rd_T46 l (i : Int)).f3.f1.f2 = some (rd_T46 l (i : Int)).f3.f1.f2 := by
      unfold api_Hop_36.f
      rw [if_pos (by omega)]
    refine Ev.step (fun k => by rw [outbox_copied.l0]) (ev_pos (by omega) (ev_pos (by omega) (ev_pos (by omega) ?_)))
    rw [h36]
    simp only [Option.bind_some]
    exact ev_pos (by rw [List.length_take]; omega) h
theorem copied_ev (l : List S46) (hl : ShortI l) (hn : l.length ≤ 1000) : Ev (fun k => outbox_copied.f k l) l := by
  have h := copied_loop l hl hn l.length 0 (by omega)
  rw [List.take_zero] at h
  exact h
def timeB (t : Int) : Bool := decide (0 ≤ t ∧ t ≤ 1000000000)
theorem time_is (t : Int) : outbox_time.f t = some (timeB t) := by
  unfold outbox_time.f timeB
  by_cases c : t ≥ 0
  · rw [if_pos c]
    congr 1
    exact decide_eq_decide.2 ⟨fun h => ⟨c, h⟩, fun h => h.2⟩
  · rw [if_neg c, decide_eq_false (fun h => c h.1)]
def ShortN (l : List S37) : Prop := ∀ x ∈ l, x.f1.f2.length ≤ 100
/-- What is pushed. -/
noncomputable def pushL (fr now : Int) : List S37 → List S46 → List S46 × Int
  | [], ys => (ys, 0)
  | n :: r, ys => if noteB n = true then (if hasB ys n = true then pushL fr now r ys else if (ys.length : Int) = 12 then ([], 190) else if outbox_Push.nx fr ys > 1000000000 then ([], 180) else pushL fr now r (ys ++ [⟨outbox_Push.nx fr ys, now, 0, n⟩])) else ([], 130)
theorem shortI_snoc {l : List S46} (h : ShortI l) {x : S46} (hx : x.f3.f1.f2.length ≤ 100) : ShortI (l ++ [x]) := fun y hy => by
  rcases List.mem_append.1 hy with g | g
  · exact h y g
  · rw [List.mem_singleton.1 g]; exact hx
theorem push_go (fr now : Int) : ∀ (l : List S37) (ys : List S46), ShortN l → ShortI ys → ys.length ≤ 12 → Ev (fun k => outbox_Push.go k fr now l ys) (pushL fr now l ys)
  | [], ys, _, _, _ => Ev.now _
  | n :: r, ys, hl, hy, h12 => by
    have hn := hl n List.mem_cons_self
    have hr : ShortN r := fun x hx => hl x (List.mem_cons_of_mem _ hx)
    unfold outbox_Push.go pushL
    refine Ev.bind (ncheck_ev n hn) ?_
    cases hb : noteB n with
    | false =>
      rw [if_neg Bool.false_ne_true, if_neg Bool.false_ne_true]
      exact ev_neg (by decide) (Ev.now _)
    | true =>
      rw [if_pos rfl, if_pos rfl]
      refine ev_pos rfl (Ev.bind (has_ev ys n hy) ?_)
      cases hh : hasB ys n with
      | true =>
        rw [if_pos rfl]
        exact ev_pos rfl (push_go fr now r ys hr hy h12)
      | false =>
        rw [if_neg Bool.false_ne_true]
        refine ev_neg Bool.false_ne_true ?_
        by_cases c1 : (ys.length : Int) = 12
        · rw [if_pos c1]
          exact ev_pos c1 (Ev.now _)
        rw [if_neg c1]
        refine ev_neg c1 ?_
        by_cases c2 : outbox_Push.nx fr ys > 1000000000
        · rw [if_pos c2]
          exact ev_pos c2 (Ev.now _)
        rw [if_neg c2]
        have h1 := push_go fr now r (ys ++ [⟨outbox_Push.nx fr ys, now, 0, n⟩]) hr (shortI_snoc hy hn) (by rw [List.length_append, List.length_singleton]; omega)
        have h2 := copied_ev [⟨outbox_Push.nx fr ys, now, 0, n⟩] (fun x hx => by rw [List.mem_singleton.1 hx]; exact hn) (by simp)
        exact ev_neg c2 (ev_pos (by omega) (Ev.bind h2 (ev_pos (by simp) h1)))
noncomputable def pushR (l : List S46) (fr now : Int) (notes : List S37) : List S46 × Int := if mayB l = true ∧ timeB now = true ∧ ¬ fr < 1 ∧ ¬ fr > 1000000001 then pushL fr now notes l else ([], 2)
theorem mayB_len {l : List S46} (h : mayB l = true) : l.length ≤ 12 := by
  unfold mayB at h
  rw [Bool.and_eq_true, decide_eq_true_eq] at h
  omega
theorem push_ev (l : List S46) (fr now : Int) (notes : List S37) (hl : ShortI l) (hn : ShortN notes) : Ev (fun k => outbox_Push.f k l fr now notes) (pushR l fr now notes) := by
  unfold outbox_Push.f pushR
  refine Ev.bind (may_ev l hl) ?_
  rw [time_is]
  simp only [Option.bind_some]
  cases hm : mayB l with
  | false =>
    rw [if_neg (show ¬ (false = true ∧ timeB now = true ∧ ¬ fr < 1 ∧ ¬ fr > 1000000001) from fun g => Bool.false_ne_true g.1)]
    exact ev_neg (fun g => absurd g.1 (by decide)) (Ev.now _)
  | true =>
    by_cases c : timeB now = true ∧ ¬ fr < 1 ∧ ¬ fr > 1000000001
    · rw [if_pos (show true = true ∧ timeB now = true ∧ ¬ fr < 1 ∧ ¬ fr > 1000000001 from ⟨rfl, c⟩)]
      exact ev_pos ⟨rfl, c⟩ (Ev.bind (copied_ev l hl (by have := mayB_len hm; omega)) (push_go fr now notes l hn hl (mayB_len hm)))
    · rw [if_neg (show ¬ (true = true ∧ timeB now = true ∧ ¬ fr < 1 ∧ ¬ fr > 1000000001) from fun g => c g.2)]
      exact ev_neg (fun g => c g.2) (Ev.now _)

/-! Due, Answered, Anew -/
noncomputable def dueX (now : Int) (x : S46) : S46 := ⟨x.f0, now + dl (outbox_Due.sent x.f2), outbox_Due.sent x.f2, x.f3⟩
noncomputable def dueA (now : Int) (l : List S46) : List S46 := l.map fun x => if x.f1 > now then x else dueX now x
noncomputable def dueB (now : Int) (l : List S46) : List S46 := (l.filter fun x => !decide (x.f1 > now)).map (dueX now)
theorem next_ev (now s : Int) (h : timeB now = true) : Ev (fun k => backoff_Next.f k now s) (now + dl s, 0) := by
  unfold timeB at h
  have h := of_decide_eq_true h
  have hd := dl_bd s
  unfold backoff_Next.f
  refine ev_neg (by omega) (ev_neg (by omega) (Ev.bind (delay_ev s) ?_))
  rw [wr _ (by omega)]
  exact Ev.now _
theorem due_go (now : Int) (ht : timeB now = true) : ∀ (l acc ds : List S46), ds.length + l.length ≤ 1000 → Ev (fun k => outbox_Due.go k now l acc ds) (acc ++ dueA now l, ds ++ dueB now l)
  | [], acc, ds, _ => by
    unfold outbox_Due.go dueA dueB
    rw [List.map_nil, List.filter_nil, List.map_nil, List.append_nil, List.append_nil]
    exact Ev.now _
  | x :: r, acc, ds, h => by
    rw [List.length_cons] at h
    unfold outbox_Due.go
    by_cases c : x.f1 > now
    · have h1 := due_go now ht r (acc ++ [x]) ds (by omega)
      have e1 : dueA now (x :: r) = x :: dueA now r := by unfold dueA; rw [List.map_cons, if_pos c]
      have e2 : dueB now (x :: r) = dueB now r := by unfold dueB; rw [List.filter_cons, decide_eq_true c]; rfl
      rw [e1, e2]
      rw [List.append_assoc] at h1
      exact ev_pos c h1
    · have h1 := due_go now ht r (acc ++ [dueX now x]) (ds ++ [dueX now x]) (by rw [List.length_append, List.length_singleton]; omega)
      have e1 : dueA now (x :: r) = dueX now x :: dueA now r := by unfold dueA; rw [List.map_cons, if_neg c]
      have e2 : dueB now (x :: r) = dueX now x :: dueB now r := by unfold dueB; rw [List.filter_cons, decide_eq_false c]; rfl
      rw [e1, e2]
      rw [List.append_assoc, List.append_assoc] at h1
      exact ev_neg c (Ev.bind (next_ev now _ ht) (ev_pos (by omega) h1))
noncomputable def dueR (l : List S46) (now : Int) : List S46 × List S46 := if mayB l = true ∧ timeB now = true then (dueA now l, dueB now l) else ([], [])
theorem shortI_due {l : List S46} (h : ShortI l) (now : Int) : ShortI (dueB now l) := fun x hx => by
  unfold dueB at hx
  obtain ⟨y, hy, rfl⟩ := List.mem_map.1 hx
  exact h y (List.mem_filter.1 hy).1
theorem dueB_len (now : Int) (l : List S46) : (dueB now l).length ≤ l.length := by
  unfold dueB
  rw [List.length_map]
  exact List.length_filter_le _ _
theorem due_ev (l : List S46) (now : Int) (hl : ShortI l) : Ev (fun k => outbox_Due.f k l now) (dueR l now) := by
  unfold outbox_Due.f
  refine Ev.bind (may_ev l hl) ?_
  rw [time_is]
  simp only [Option.bind_some]
  by_cases c : mayB l = true ∧ timeB now = true
  · have h12 := mayB_len c.1
    have hv : dueR l now = (dueA now l, dueB now l) := by unfold dueR; rw [if_pos c]
    rw [hv, c.1, c.2]
    have h1 := due_go now c.2 l [] [] (by rw [List.length_nil]; omega)
    rw [List.nil_append, List.nil_append] at h1
    exact ev_pos ⟨rfl, rfl⟩ (Ev.bind (copied_ev l hl (by omega)) (Ev.bind h1 (Ev.bind (copied_ev (dueB now l) (shortI_due hl now) (by have := dueB_len now l; omega)) (Ev.now _))))
  · have hv : dueR l now = ([], []) := by unfold dueR; rw [if_neg c]
    rw [hv]
    refine ev_neg (fun g => c ⟨?_, g.2⟩) (Ev.now _)
    have g1 := g.1
    cases hm : mayB l with
    | true => rfl
    | false => rw [hm] at g1; exact absurd g1 (by decide)
/-! the same twice; few; awake -/
theorem awake_ev : Ev (fun k => ententelaw19_awake.f k) true := Ev.of ententelaw19_awake.mono (k := 40) (by decide +kernel)

/-! OutboxAnswered -/
theorem ahas_ev (l : List S46) (n : S37) (hl : ShortI l) : Ev (fun k => outbox_Has.f k l n.f0 n.f1.f0 n.f1.f1 n.f1.f2 n.f2 n.f3) (mayB l && hasB l n) := by
  unfold outbox_Has.f
  refine Ev.bind (may_ev l hl) ?_
  cases hm : mayB l with
  | false => exact ev_neg (by decide) (Ev.now _)
  | true => rw [Bool.true_and]; exact ev_pos rfl (Ev.bind (has_ev l n hl) (Ev.now _))
theorem eqN_eq {a b : S37} : eqN a b = true ↔ a = b := by unfold eqN; exact @decide_eq_true_iff _ (Classical.propDecidable _)
theorem hasB_mem {l : List S46} {n : S37} : hasB l n = true ↔ ∃ x ∈ l, x.f3 = n := by
  unfold hasB
  rw [List.any_eq_true]
  exact ⟨fun ⟨x, h1, h2⟩ => ⟨x, h1, eqN_eq.1 h2⟩, fun ⟨x, h1, h2⟩ => ⟨x, h1, eqN_eq.2 h2⟩⟩
theorem itemB_spec {least : Int} {pre : List S46} {x : S46} : itemB least pre x = true ↔ ((¬ x.f0 < least ∧ ¬ x.f0 > 1000000000 ∧ ¬ x.f1 < 0 ∧ ¬ x.f1 > 1000000016 ∧ ¬ x.f2 < 0 ∧ ¬ x.f2 > 1000000) ∧ noteB x.f3 = true ∧ ¬ hasB pre x.f3 = true) := by
  unfold itemB
  rw [Bool.and_eq_true, Bool.and_eq_true, decide_eq_true_iff, Bool.not_eq_true', Bool.not_eq_true]
/-! OutboxDue -/
theorem one_may (d s : Int) (n : S37) (hn : noteB n = true) (h1 : 0 ≤ d ∧ d ≤ 1000000016) (h2 : 0 ≤ s ∧ s ≤ 1000000) : mayB [⟨1, d, s, n⟩] = true := by
  unfold mayB
  rw [Bool.and_eq_true, decide_eq_true_iff]
  refine ⟨by show ¬ ((1 : Nat) : Int) > 12; decide, ?_⟩
  rw [itemsB, Bool.and_eq_true, itemB_spec]
  refine ⟨⟨⟨show ¬ (1 : Int) < 1 by decide, show ¬ (1 : Int) > 1000000000 by decide, show ¬ d < 0 by omega, show ¬ d > 1000000016 by omega, show ¬ s < 0 by omega, show ¬ s > 1000000 by omega⟩, hn, Bool.false_ne_true⟩, by rw [itemsB]⟩
theorem sent_at (s : Int) (h : 0 ≤ s ∧ s ≤ 1000) : outbox_Due.sent s = s + 1 := by
  unfold outbox_Due.sent
  rw [wr _ (by omega), if_neg (by omega)]
theorem one_due (n : S37) (hn : noteB n = true) (d s t : Int) (h1 : 0 ≤ d ∧ d ≤ 1000000016) (h2 : 0 ≤ s ∧ s ≤ 1000) (h3 : 0 ≤ t ∧ t ≤ 1000000000) : dueR [⟨1, d, s, n⟩] t = if d > t then ([⟨1, d, s, n⟩], []) else ([⟨1, t + dl (s + 1), s + 1, n⟩], [⟨1, t + dl (s + 1), s + 1, n⟩]) := by
  unfold dueR
  rw [if_pos ⟨one_may d s n hn h1 (by omega), by unfold timeB; exact decide_eq_true h3⟩]
  by_cases c : d > t
  · rw [if_pos c]
    unfold dueA dueB
    rw [List.map_cons, List.map_nil, List.filter_cons]
    show ((if d > t then (⟨1, d, s, n⟩ : S46) else _) :: [], List.map (dueX t) (if (!decide (d > t)) = true then _ else _)) = _
    rw [if_pos c, decide_eq_true c, if_neg (by decide)]
    rfl
  · rw [if_neg c]
    unfold dueA dueB
    rw [List.map_cons, List.map_nil, List.filter_cons]
    show ((if d > t then (⟨1, d, s, n⟩ : S46) else _) :: [], List.map (dueX t) (if (!decide (d > t)) = true then _ else _)) = _
    rw [if_neg c, decide_eq_false c, if_pos (by decide), List.filter_nil, List.map_cons, List.map_nil]
    unfold dueX
    rw [show (⟨1, d, s, n⟩ : S46).f2 = s from rfl, sent_at s h2]
theorem due_loop (n : S37) (hn : noteB n = true) (hs : n.f1.f2.length ≤ 100) (now : Int) (h0 : 0 ≤ now ∧ now ≤ 999999000) (d : Nat) : ∀ (nx s t : Int), t + d = now + 60 → now ≤ t → t ≤ nx → nx ≤ t + 8 → 0 ≤ s → s ≤ t - now → Ev (fun k => ententelaw19_OutboxDue.go k n now [⟨1, nx, s, n⟩] nx s t) true := by
  induction d with
  | zero =>
    intro nx s t ht _ _ _ _ _
    refine Ev.step (fun k => by rw [ententelaw19_OutboxDue.go]) (ev_neg ?_ awake_ev)
    rw [wr _ (by omega)]; omega
  | succ d ih =>
    intro nx s t ht h1 h2 h3 h4 h5
    have hsh : ∀ a b : Int, ShortI [⟨1, a, b, n⟩] := fun a b x hx => by rw [List.mem_singleton.1 hx]; exact hs
    have hd := due_ev [⟨1, nx, s, n⟩] t (hsh nx s)
    rw [one_due n hn nx s t (by omega) (by omega) (by omega)] at hd
    have hw1 : wrap64 (t + 1) = t + 1 := wr _ (by omega)
    have hw2 : wrap64 (s + 1) = s + 1 := wr _ (by omega)
    have hhas : ∀ a b : Int, 0 ≤ a ∧ a ≤ 1000000016 → 0 ≤ b ∧ b ≤ 1000000 → Ev (fun k => outbox_Has.f k [⟨1, a, b, n⟩] n.f0 n.f1.f0 n.f1.f1 n.f1.f2 n.f2 n.f3) true := fun a b g1 g2 => by
      have e := ahas_ev [⟨1, a, b, n⟩] n (hsh a b)
      rw [one_may a b n hn g1 g2, Bool.true_and, hasB_mem.2 ⟨⟨1, a, b, n⟩, List.mem_singleton.2 rfl, rfl⟩] at e
      exact e
    have hmay : ∀ a b : Int, 0 ≤ a ∧ a ≤ 1000000016 → 0 ≤ b ∧ b ≤ 1000000 → Ev (fun k => outbox_May.f k [⟨1, a, b, n⟩]) 0 := fun a b g1 g2 => by
      have e := may_ev [⟨1, a, b, n⟩] (hsh a b)
      rw [one_may a b n hn g1 g2, if_pos rfl] at e
      exact e
    refine Ev.step (fun k => by rw [ententelaw19_OutboxDue.go]) (ev_pos (by rw [wr _ (by omega)]; omega) (Ev.bind hd ?_))
    by_cases c : t = nx
    · have hb := dl_bd (s + 1)
      rw [if_neg (show ¬ nx > t by omega), hw2]
      have hw3 : wrap64 (t + dl (s + 1)) = t + dl (s + 1) := wr _ (by omega)
      refine ev_pos c (Ev.bind (delay_ev (s + 1)) ?_)
      rw [hw3, hw1]
      exact ev_pos ⟨rfl, rfl, rfl, rfl⟩ (Ev.bind (hmay _ _ (by omega) (by omega)) (Ev.bind (hhas _ _ (by omega) (by omega)) (ev_pos ⟨rfl, rfl⟩ (ih (t + dl (s + 1)) (s + 1) (t + 1) (by omega) (by omega) (by omega) (by omega) (by omega) (by omega)))))
    · rw [if_pos (show nx > t by omega), hw1]
      exact ev_neg c (ev_pos rfl (Ev.bind (hmay _ _ (by omega) (by omega)) (Ev.bind (hhas _ _ (by omega) (by omega)) (ev_pos ⟨rfl, rfl⟩ (ih nx s (t + 1) (by omega) (by omega) (by omega) (by omega) (by omega) (by omega))))))
theorem OutboxDue : ententelaw19_OutboxDue.Pure := by
  intro n0 n1 n2 l n4 n5 now _ _ _ _ _ _ _
  apply Ev.rounds
  unfold ententelaw19_OutboxDue.f
  refine ev_ite (fun _ => awake_ev) (fun c => ?_)
  have c1 : ¬ (l.length : Int) > 100 := fun g => c (Or.inl g)
  have c2 : 0 ≤ now ∧ now ≤ 999999000 := by
    constructor
    · exact Int.not_lt.1 fun g => c (Or.inr (Or.inl g))
    · exact Int.not_lt.1 fun g => c (Or.inr (Or.inr g))
  generalize hn : (⟨n0, ⟨n1, n2, l⟩, n4, n5⟩ : S37) = n
  have hs : n.f1.f2.length ≤ 100 := by rw [← hn]; show l.length ≤ 100; omega
  have hp := push_ev [] 1 now [n] (fun x hx => by cases hx) (fun x hx => by rw [List.mem_singleton.1 hx]; exact hs)
  have hv : pushR [] 1 now [n] = if noteB n = true then ([⟨1, now, 0, n⟩], 0) else ([], 130) := by
    unfold pushR
    rw [if_pos ⟨rfl, by unfold timeB; exact decide_eq_true (by omega), by decide, by decide⟩, pushL]
    by_cases c : noteB n = true
    · rw [if_pos c, if_pos c, if_neg (show ¬ hasB [] n = true from Bool.false_ne_true), if_neg (show ¬ (([] : List S46).length : Int) = 12 from by decide), if_neg (show ¬ outbox_Push.nx 1 [] > 1000000000 from by decide), pushL]
      rfl
    · rw [if_neg c, if_neg c]
  rw [hv] at hp
  refine Ev.bind hp ?_
  by_cases c : noteB n = true
  · rw [if_pos c]
    exact ev_pos rfl (due_loop n c hs now c2 60 now 0 now (by omega) (by omega) (by omega) (by omega) (by omega) (by omega))
  · rw [if_neg c]
    exact ev_neg (show ¬ (130 : Int) = 0 by decide) (ev_pos ⟨rfl, rfl⟩ awake_ev)

end Go.Proofs.Ytcgmoeiknkdljaa.Pure
