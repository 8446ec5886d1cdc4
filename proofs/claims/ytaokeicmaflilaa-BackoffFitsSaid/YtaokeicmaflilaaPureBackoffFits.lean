/- BackoffFits: proved for all arguments; no condition. -/
import Derived.Test.YtaokeicmaflilaaPBackoffFitsx1
namespace Go.Proofs.Ytaokeicmaflilaa.Pure
open Go.RowKit Go.Proofs.Ytaokeicmaflilaa.PBackoffFits Go.Proofs.YtaokeicmaflilaaW.PrintWords Go.Proofs.YtaokeicmaflilaaW.PrintLast

/-- The document's delay. -/
def dl (a : Int) : Int := if a < 1 then 1 else if a = 1 then 2 else if a = 2 then 4 else 8
theorem dl_bd (a : Int) : 1 ≤ dl a ∧ dl a ≤ 8 := by unfold dl; (repeat' split) <;> omega
theorem delay_at (m : Int) (h0 : 0 ≤ m) (h8 : m ≤ 8) : Ev (fun k => backoff_Delay.l0 k 1 m 0) (dl m) := by
  have h : m = 0 ∨ m = 1 ∨ m = 2 ∨ m = 3 ∨ m = 4 ∨ m = 5 ∨ m = 6 ∨ m = 7 ∨ m = 8 := by omega
  rcases h with rfl | rfl | rfl | rfl | rfl | rfl | rfl | rfl | rfl <;>
    exact Ev.of (fun k => backoff_Delay.mono_l k _ _ _) (k := 12) (by decide +kernel)
theorem delay_ev (a : Int) : Ev (fun k => backoff_Delay.f k a) (dl a) := by
  have hm : 0 ≤ mn (mx a 0) 8 ∧ mn (mx a 0) 8 ≤ 8 := by unfold mn mx; (repeat' split) <;> omega
  have hd : dl a = dl (mn (mx a 0) 8) := by unfold dl mn mx; (repeat' split) <;> omega
  rw [hd]
  exact delay_at _ hm.1 hm.2
theorem awake_ev : Ev (fun k => ententelaw11_awake.f k) true :=
  Ev.of (fun k => ententelaw11_awake.mono k) (k := 40) (by decide +kernel)
/-- What the first delays are together. -/
def su (i : Int) : Int := if i < 1 then 0 else if i < 2 then 1 else if i < 3 then 3 else 7 + 8 * (i - 3)
theorem su_next (i : Int) (h : 0 ≤ i) : su (i + 1) = su i + dl i := by unfold su dl; (repeat' split) <;> omega
theorem within_at (d : Nat) : ∀ (a left i : Int), a ≤ 5000 → 0 ≤ i → left = a - su i → 0 ≤ left → left < d →
    ∃ n, i ≤ n ∧ su n ≤ a ∧ a < su n + dl n ∧ Ev (fun k => backoff_Within.l0 k left i) n := by
  induction d with
  | zero => intro a left i h1 h2 h3 h4 h5; omega
  | succ d ih =>
    intro a left i h1 h2 h3 h4 h5
    have hb := dl_bd i
    have hn := su_next i h2
    have hbig : 0 ≤ su i ∧ i ≤ su i + 1 := by unfold su; (repeat' split) <;> omega
    by_cases c : left < dl i
    · refine ⟨i, by omega, by omega, by omega, ?_⟩
      refine Ev.step (f := fun k => (backoff_Delay.f k i).bind fun t => if left ≥ t then ((backoff_Delay.f k i).bind fun u => backoff_Within.l0 k (wrap64 (left - u)) (wrap64 (i + 1))) else some i) (fun k => rfl) ?_
      refine Ev.bind (delay_ev _) ?_
      exact Ev.congr (f := fun _ => some i) (fun k => if_neg (by omega)) (Ev.now i)
    · obtain ⟨n, p1, p2, p3, p4⟩ := ih a (left - dl i) (i + 1) h1 (by omega) (by omega) (by omega) (by omega)
      refine ⟨n, by omega, p2, p3, ?_⟩
      refine Ev.step (f := fun k => (backoff_Delay.f k i).bind fun t => if left ≥ t then ((backoff_Delay.f k i).bind fun u => backoff_Within.l0 k (wrap64 (left - u)) (wrap64 (i + 1))) else some i) (fun k => rfl) ?_
      refine Ev.bind (delay_ev _) ?_
      refine Ev.congr (f := fun k => (backoff_Delay.f k i).bind fun u => backoff_Within.l0 k (wrap64 (left - u)) (wrap64 (i + 1))) (fun k => if_pos (by omega)) ?_
      refine Ev.bind (delay_ev _) ?_
      have e1 : wrap64 (left - dl i) = left - dl i := by unfold wrap64; omega
      have e2 : wrap64 (i + 1) = i + 1 := by unfold wrap64; omega
      rw [e1, e2]
      exact p4
theorem fits_loop (a n : Int) (ha : 0 ≤ a ∧ a ≤ 5000) (hn : 0 ≤ n) (hs : su n ≤ a) (ht : a < su n + dl n) (d : Nat) : ∀ i : Int, 0 ≤ i → i + d = n →
    Ev (fun k => ententelaw11_BackoffFits.l0 k a n (su i) i) true := by
  have hb := dl_bd n
  induction d with
  | zero =>
    intro i h0 hi
    obtain rfl : i = n := by omega
    refine Ev.step (f := fun k => (backoff_Delay.f k i).bind fun t => if wrap64 (su i + t) > a then (ententelaw11_awake.f k).bind fun u => some u else some false) (fun k => ?_) ?_
    · simp only [ententelaw11_BackoffFits.l0]
      rw [if_neg (by omega), if_pos hs]
    · refine Ev.bind (delay_ev _) ?_
      have hp : 0 ≤ su i := by unfold su; (repeat' split) <;> omega
      have e1 : wrap64 (su i + dl i) = su i + dl i := by unfold wrap64; omega
      rw [e1]
      refine Ev.congr (f := fun k => (ententelaw11_awake.f k).bind fun u => some u) (fun k => if_pos (by omega)) ?_
      exact Ev.bind awake_ev (Ev.now true)
  | succ d ih =>
    intro i h0 hi
    have hbi := dl_bd i
    have hbig : 0 ≤ su i ∧ su i ≤ 8 * i ∧ n ≤ su n + 1 := by unfold su; (repeat' split) <;> omega
    refine Ev.step (f := fun k => (backoff_Delay.f k i).bind fun t => ententelaw11_BackoffFits.l0 k a n (wrap64 (su i + t)) (wrap64 (i + 1))) (fun k => ?_) ?_
    · simp only [ententelaw11_BackoffFits.l0]
      rw [if_pos (by omega)]
    · refine Ev.bind (delay_ev _) ?_
      have e1 : wrap64 (su i + dl i) = su (i + 1) := by rw [su_next i h0]; unfold wrap64; omega
      have e2 : wrap64 (i + 1) = i + 1 := by unfold wrap64; omega
      rw [e1, e2]
      exact ih (i + 1) (by omega) (by omega)
theorem fits_ev (a : Int) : Ev (fun k => ententelaw11_BackoffFits.f k a) true := by
  by_cases c1 : a < 0
  · refine Ev.congr (f := fun k => ententelaw11_BackoffFits.j0 k a true) (fun k => by unfold ententelaw11_BackoffFits.f; rw [if_pos c1]) ?_
    refine Ev.step (f := fun k => (ententelaw11_awake.f k).bind fun u => some u) (fun k => by simp only [ententelaw11_BackoffFits.j0, if_true]) ?_
    exact Ev.bind awake_ev (Ev.now true)
  by_cases c2 : a > 5000
  · refine Ev.congr (f := fun k => ententelaw11_BackoffFits.j0 k a true) (fun k => by unfold ententelaw11_BackoffFits.f; rw [if_neg c1, decide_eq_true c2]) ?_
    refine Ev.step (f := fun k => (ententelaw11_awake.f k).bind fun u => some u) (fun k => by simp only [ententelaw11_BackoffFits.j0, if_true]) ?_
    exact Ev.bind awake_ev (Ev.now true)
  refine Ev.congr (f := fun k => ententelaw11_BackoffFits.j0 k a false) (fun k => by unfold ententelaw11_BackoffFits.f; rw [if_neg c1, decide_eq_false c2]) ?_
  obtain ⟨n, p1, p2, p3, p4⟩ := within_at (a.toNat + 1) a a 0 (by omega) (by omega) (by simp [su]) (by omega) (by omega)
  have hbig : n ≤ su n := by
    unfold su at p2 ⊢
    (repeat' split) <;> omega
  have em : mn a 1000000 = a := by unfold mn; split <;> omega
  refine Ev.step (f := fun k => (backoff_Within.f k a).bind fun t117 => (if t117 < 0 then (ententelaw11_BackoffFits.j1 k a t117 true) else (ententelaw11_BackoffFits.j1 k a t117 (decide (t117 > a))))) (fun k => by simp only [ententelaw11_BackoffFits.j0]; rw [if_neg (by simp)]) ?_
  refine Ev.bind (a := n) (by unfold backoff_Within.f; rw [em]; exact p4) ?_
  have c3 : ¬ n > a := by omega
  refine Ev.congr (f := fun k => ententelaw11_BackoffFits.j1 k a n false) (fun k => by rw [if_neg (by omega), decide_eq_false c3]) ?_
  refine Ev.step (f := fun k => ententelaw11_BackoffFits.l0 k a n 0 0) (fun k => by simp only [ententelaw11_BackoffFits.j1]; rw [if_neg (by simp)]) ?_
  have := fits_loop a n ⟨by omega, by omega⟩ p1 p2 p3 n.toNat 0 (by omega) (by omega)
  simpa [su] using this
theorem BackoffFits : ententelaw11_BackoffFits.Pure := fun a _ => (fits_ev a).rounds

end Go.Proofs.Ytaokeicmaflilaa.Pure
