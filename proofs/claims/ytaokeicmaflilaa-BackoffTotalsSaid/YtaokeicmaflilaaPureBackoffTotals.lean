/- BackoffTotals: proved for all arguments; no condition. -/
import Derived.Test.YtaokeicmaflilaaPAx1
namespace Go.Proofs.Ytaokeicmaflilaa.Pure
open Go.RowKit Go.Proofs.Ytaokeicmaflilaa.PA Go.Proofs.YtaokeicmaflilaaW.PrintWords Go.Proofs.YtaokeicmaflilaaW.PrintLast Go.Proofs.YtaokeicmaflilaaW.PrintMore

/-- The document's delay. -/
def dl (a : Int) : Int := if a < 1 then 1 else if a = 1 then 2 else if a = 2 then 4 else 8
theorem dl_bd (a : Int) : 1 ≤ dl a ∧ dl a ≤ 8 := by unfold dl; (repeat' split) <;> omega
theorem delay_at (m : Int) (h0 : 0 ≤ m) (h8 : m ≤ 8) : Ev (fun k => backoff_Delay.l0 k 1 m 0) (dl m) := by
  have h : m = 0 ∨ m = 1 ∨ m = 2 ∨ m = 3 ∨ m = 4 ∨ m = 5 ∨ m = 6 ∨ m = 7 ∨ m = 8 := by omega
  rcases h with rfl | rfl | rfl | rfl | rfl | rfl | rfl | rfl | rfl <;>
    exact Ev.of (fun k => backoff_Delay.mono_l k _ _ _) (k := 12) (by decide +kernel)
theorem delay_ev (a : Int) : Ev (fun k => backoff_Delay.f k a) (dl a) := by
  have hm : 0 ≤ mn (mx a 0) 8 ∧ mn (mx a 0) 8 ≤ 8 := by unfold mn mx; (repeat' split) <;> omega
  have hd : dl a = dl (mn (mx a 0) 8) := by unfold dl mn mx; (repeat' split) <;> omega
  rw [hd]
  exact delay_at _ hm.1 hm.2
theorem awake_ev : Ev (fun k => ententelaw11_awake.f k) true :=
  Ev.of (fun k => ententelaw11_awake.mono k) (k := 40) (by decide +kernel)
theorem ref_delay (a : Int) : ententeref11_Delay.f a = some (dl a) := by
  unfold ententeref11_Delay.f dl; (repeat' split) <;> rfl
def sumFrom : List Int → Int
  | [] => 0
  | x :: l => dl x + sumFrom l
theorem sumFrom_bd (l : List Int) : 0 ≤ sumFrom l ∧ sumFrom l ≤ 8 * l.length := by
  induction l with
  | nil => simp [sumFrom]
  | cons x l ih => have := dl_bd x; simp only [sumFrom, List.length_cons]; omega
theorem rd_drop (l : List Int) (i : Nat) (h : i < l.length) : l.drop i = rd l (i : Int) :: l.drop (i + 1) := by
  unfold rd
  rw [List.drop_eq_getElem_cons h]
  simp [List.getD_eq_getElem?_getD, List.getElem?_eq_getElem h]
theorem total_loop (l : List Int) (hl : l.length ≤ 1000) (d : Nat) : ∀ (i : Nat) (s : Int), i + d = l.length → 0 ≤ s → s ≤ 8 * i →
    Ev (fun k => backoff_Total.l0 k s l (l.length : Int) (i : Int)) (s + sumFrom (l.drop i), 0) := by
  induction d with
  | zero =>
    intro i s hi h0 h1
    refine Ev.step (f := fun k => some (s + sumFrom (l.drop i), 0)) (fun k => ?_) (Ev.now _)
    simp only [backoff_Total.l0]
    rw [if_neg (by omega), List.drop_eq_nil_of_le (by omega)]
    simp [sumFrom]
  | succ d ih =>
    intro i s hi h0 h1
    have hb := dl_bd (rd l i)
    have hb2 := sumFrom_bd (l.drop (i + 1))
    have hi1 : wrap64 ((i : Int) + 1) = ((i + 1 : Nat) : Int) := by unfold wrap64; omega
    have hs1 : wrap64 (s + dl (rd l i)) = s + dl (rd l i) := by unfold wrap64; omega
    refine Ev.step (f := fun k => (backoff_Delay.f k (rd l i)).bind fun t => backoff_Total.l0 k (wrap64 (s + t)) l (l.length : Int) (wrap64 ((i : Int) + 1))) (fun k => ?_) ?_
    · simp only [backoff_Total.l0]
      rw [if_pos (by omega), if_pos (by omega), if_pos (by omega)]
    · refine Ev.bind (delay_ev _) ?_
      rw [rd_drop l i (by omega), hi1, hs1]
      have := ih (i + 1) (s + dl (rd l i)) (by omega) (by omega) (by omega)
      rw [Int.add_assoc] at this
      simpa only [sumFrom] using this
theorem ref_loop (l : List Int) (hl : l.length ≤ 1000) (d : Nat) : ∀ (i : Nat) (s : Int), i + d = l.length → 0 ≤ s → s ≤ 8 * i →
    Ev (fun k => ententeref11_Total.l0 k l s (i : Int)) (s + sumFrom (l.drop i), 0) := by
  induction d with
  | zero =>
    intro i s hi h0 h1
    refine Ev.step (f := fun k => some (s + sumFrom (l.drop i), 0)) (fun k => ?_) (Ev.now _)
    simp only [ententeref11_Total.l0]
    rw [if_neg (by omega), List.drop_eq_nil_of_le (by omega)]
    simp [sumFrom]
  | succ d ih =>
    intro i s hi h0 h1
    have hb := dl_bd (rd l i)
    have hb2 := sumFrom_bd (l.drop (i + 1))
    have hi1 : wrap64 ((i : Int) + 1) = ((i + 1 : Nat) : Int) := by unfold wrap64; omega
    have hs1 : wrap64 (s + dl (rd l i)) = s + dl (rd l i) := by unfold wrap64; omega
    refine Ev.step (f := fun k => ententeref11_Total.l0 k l (s + dl (rd l i)) ((i + 1 : Nat) : Int)) (fun k => ?_) ?_
    · simp only [ententeref11_Total.l0]
      rw [if_pos (by omega), if_pos (by omega), ref_delay]
      simp only [Option.bind_some, hi1, hs1]
    · rw [rd_drop l i (by omega)]
      have := ih (i + 1) (s + dl (rd l i)) (by omega) (by omega) (by omega)
      rw [Int.add_assoc] at this
      simpa only [sumFrom] using this
/-- How many delays of 8 fit, behind the third. -/
theorem within_far (n : Nat) : ∀ (left i : Int), left ≤ 1000000 → 0 ≤ left → 3 ≤ i → i + left ≤ 2000000 → left / 8 = n →
    Ev (fun k => backoff_Within.l0 k left i) (i + n) := by
  induction n with
  | zero =>
    intro left i h1 h0 h3 h4 hn
    have hd : dl i = 8 := by unfold dl; (repeat' split) <;> omega
    refine Ev.step (f := fun k => (backoff_Delay.f k i).bind fun t => if left ≥ t then ((backoff_Delay.f k i).bind fun u => backoff_Within.l0 k (wrap64 (left - u)) (wrap64 (i + 1))) else some i) (fun k => rfl) ?_
    refine Ev.bind (delay_ev _) ?_
    rw [hd]
    refine Ev.congr (f := fun _ => some i) (fun k => if_neg (by omega)) ?_
    simpa using Ev.now i
  | succ n ih =>
    intro left i h1 h0 h3 h4 hn
    have hd : dl i = 8 := by unfold dl; (repeat' split) <;> omega
    refine Ev.step (f := fun k => (backoff_Delay.f k i).bind fun t => if left ≥ t then ((backoff_Delay.f k i).bind fun u => backoff_Within.l0 k (wrap64 (left - u)) (wrap64 (i + 1))) else some i) (fun k => rfl) ?_
    refine Ev.bind (delay_ev _) ?_
    rw [hd]
    refine Ev.congr (f := fun k => (backoff_Delay.f k i).bind fun u => backoff_Within.l0 k (wrap64 (left - u)) (wrap64 (i + 1))) (fun k => if_pos (by omega)) ?_
    refine Ev.bind (delay_ev _) ?_
    have e1 : wrap64 (left - 8) = left - 8 := by unfold wrap64; omega
    have e2 : wrap64 (i + 1) = i + 1 := by unfold wrap64; omega
    rw [hd, e1, e2]
    have := ih (left - 8) (i + 1) (by omega) (by omega) (by omega) (by omega) (by omega)
    rw [show i + 1 + (n : Int) = i + ((n + 1 : Nat) : Int) by omega] at this
    exact this
theorem within_go (left i r : Int) (h : dl i ≤ left) (e1 : wrap64 (left - dl i) = left - dl i) (e2 : wrap64 (i + 1) = i + 1) (k : Ev (fun k => backoff_Within.l0 k (left - dl i) (i + 1)) r) :
    Ev (fun k => backoff_Within.l0 k left i) r := by
  refine Ev.step (f := fun k => (backoff_Delay.f k i).bind fun t => if left ≥ t then ((backoff_Delay.f k i).bind fun u => backoff_Within.l0 k (wrap64 (left - u)) (wrap64 (i + 1))) else some i) (fun k => rfl) ?_
  refine Ev.bind (delay_ev _) ?_
  refine Ev.congr (f := fun k => (backoff_Delay.f k i).bind fun u => backoff_Within.l0 k (wrap64 (left - u)) (wrap64 (i + 1))) (fun k => if_pos h) ?_
  refine Ev.bind (delay_ev _) ?_
  rw [e1, e2]
  exact k
theorem within_stop (left i : Int) (h : left < dl i) : Ev (fun k => backoff_Within.l0 k left i) i := by
  refine Ev.step (f := fun k => (backoff_Delay.f k i).bind fun t => if left ≥ t then ((backoff_Delay.f k i).bind fun u => backoff_Within.l0 k (wrap64 (left - u)) (wrap64 (i + 1))) else some i) (fun k => rfl) ?_
  refine Ev.bind (delay_ev _) ?_
  refine Ev.congr (f := fun _ => some i) (fun k => if_neg (by omega)) (Ev.now i)
def wi (a : Int) : Int := if a < 1 then 0 else if a < 3 then 1 else if a < 7 then 2 else 3 + (a - 7) / 8
theorem within_ev (a : Int) (h : a ≤ 1000000) : Ev (fun k => backoff_Within.l0 k a 0) (wi a) := by
  have d0 : dl 0 = 1 := by decide
  have d1 : dl 1 = 2 := by decide
  have d2 : dl 2 = 4 := by decide
  unfold wi
  by_cases c1 : a < 1
  · rw [if_pos c1]; exact within_stop _ _ (by omega)
  rw [if_neg c1]
  refine within_go a 0 _ (by omega) (by unfold wrap64; omega) (by unfold wrap64; omega) ?_
  by_cases c2 : a < 3
  · rw [if_pos c2]; exact within_stop _ _ (by rw [show (0 : Int) + 1 = 1 from rfl]; omega)
  rw [if_neg c2]
  rw [d0, show (0 : Int) + 1 = 1 from rfl]
  refine within_go _ 1 _ (by omega) (by unfold wrap64; omega) (by unfold wrap64; omega) ?_
  by_cases c3 : a < 7
  · rw [if_pos c3]; exact within_stop _ _ (by rw [show (1 : Int) + 1 = 2 from rfl]; omega)
  rw [if_neg c3]
  rw [d1, show (1 : Int) + 1 = 2 from rfl]
  refine within_go _ 2 _ (by omega) (by unfold wrap64; omega) (by unfold wrap64; omega) ?_
  rw [d2, show (2 : Int) + 1 = 3 from rfl]
  obtain ⟨n, hn⟩ := Int.eq_ofNat_of_zero_le (show 0 ≤ (a - 7) / 8 by omega)
  rw [hn]
  exact within_far n _ _ (by omega) (by omega) (by omega) (by omega) (by omega)
theorem ref_within (k : Nat) (a : Int) (h : a ≤ 1000000) (h0 : -9223372036854775808 ≤ a) : ententeref11_Within.j0 (k + 1) a = some (wi a) := by
  simp only [ententeref11_Within.j0, wi]
  by_cases c1 : a < 1
  · rw [if_pos c1, if_pos c1]
  rw [if_neg c1, if_neg c1]
  by_cases c2 : a < 3
  · rw [if_pos c2, if_pos c2]
  rw [if_neg c2, if_neg c2]
  by_cases c3 : a < 7
  · rw [if_pos c3, if_pos c3]
  rw [if_neg c3, if_neg c3]
  have e1 : wrap64 (a - 7) = a - 7 := by unfold wrap64; omega
  have e2 : (a - 7).tdiv 8 = (a - 7) / 8 := Int.tdiv_eq_ediv_of_nonneg (by omega)
  have e3 : wrap64 ((a - 7) / 8) = (a - 7) / 8 := by unfold wrap64; omega
  have e4 : wrap64 (3 + (a - 7) / 8) = 3 + (a - 7) / 8 := by unfold wrap64; omega
  rw [e1, e2, e3, e4]
theorem BackoffTotals : ententelaw11_BackoffTotals.Pure := by
  intro l a _ wa
  have hw : -9223372036854775808 ≤ a ∧ a ≤ 9223372036854775807 := by
    simp [Lit.wf, IntKind.min, IntKind.max, IntKind.signed, IntKind.bits] at wa; omega
  have hm : mn a 1000000 ≤ 1000000 ∧ -9223372036854775808 ≤ mn a 1000000 := by unfold mn; split <;> omega
  obtain ⟨K1, h1⟩ := within_ev (mn a 1000000) hm.1
  obtain ⟨K2, h2⟩ := awake_ev
  have tot : Ev (fun k => backoff_Total.f k l) (if (l.length : Int) > 1000 then ((0 : Int), (3 : Int)) else (sumFrom l, 0)) ∧ Ev (fun k => ententeref11_Total.f k l) (if (l.length : Int) > 1000 then ((0 : Int), (3 : Int)) else (sumFrom l, 0)) := by
    unfold backoff_Total.f ententeref11_Total.f
    by_cases c : (l.length : Int) > 1000
    · simp only [if_pos c]; exact ⟨Ev.now _, Ev.now _⟩
    · simp only [if_neg c]
      have t1 := total_loop l (by omega) l.length 0 0 (by omega) (by omega) (by omega)
      have t2 := ref_loop l (by omega) l.length 0 0 (by omega) (by omega) (by omega)
      simp only [List.drop_zero, Int.zero_add] at t1 t2
      exact ⟨t1, t2⟩
  obtain ⟨⟨K3, h3⟩, ⟨K4, h4⟩⟩ := tot
  refine ⟨K1 + K2 + K3 + K4 + 1, ?_⟩
  have g1 := h1 (K1 + K2 + K3 + K4 + 1) (by omega)
  have g2 := h2 (K1 + K2 + K3 + K4 + 1) (by omega)
  have g3 := h3 (K1 + K2 + K3 + K4 + 1) (by omega)
  have g4 := h4 (K1 + K2 + K3 + K4 + 1) (by omega)
  have e : ententeref11_Within.f (K1 + K2 + K3 + K4 + 1) a = some (wi (mn a 1000000)) := by
    unfold ententeref11_Within.f
    by_cases c : a > 1000000
    · rw [if_pos c, ref_within _ _ (by omega) (by omega)]
      have : mn a 1000000 = 1000000 := by unfold mn; split <;> omega
      rw [this]
    · rw [if_neg c, ref_within _ _ (by omega) (by omega)]
      have : mn a 1000000 = a := by unfold mn; split <;> omega
      rw [this]
  simp only [] at g1 g2 g3 g4
  unfold ententelaw11_BackoffTotals.f backoff_Within.f
  rw [g3, g4, g1, g2, e]
  simp

end Go.Proofs.Ytaokeicmaflilaa.Pure
