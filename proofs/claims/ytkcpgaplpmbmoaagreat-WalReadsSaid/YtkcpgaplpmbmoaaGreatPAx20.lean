/- A log on a disk, and the document's, walked by hand; Lean checks it. -/
import Derived.Test.YtkcpgaplpmbmoaaGreatPAx16
namespace Go.Proofs.YtkcpgaplpmbmoaaGreat.PA
open Go.RowKit Go.Proofs.YtkcpgaplpmbmoaaGreatW.PrintWords Go.Proofs.YtkcpgaplpmbmoaaGreatW.PrintLast Go.Proofs.YtkcpgaplpmbmoaaGreatW.PrintMore
attribute [local go_sem] max2_int min2_int max_two min_two max_three min_three max_four min_four
set_option linter.unusedVariables false
set_option linter.unusedSimpArgs false

/-! #### the document's disk -/
/-- In block q lies the document's disk, over the world w0 in which the call began. -/
structure RefAt (w0 W : World) (q : Nat) (s : DS) : Prop where
  inv : Inv s
  blk : ∃ A c ks fv, W.heap[q]? = some (.cells #[.int .i64 s.room, .bool s.dead, .int .i64 s.armed, .slice A ks.length c, fv] 45 (0, 0)) ∧ ks.length ≤ c ∧ (Kd.int .i64).C w0 A ks.length ks ∧ (s.armed ≠ 0 → ks = s.keep) ∧ k24.R 24 W w0.heap.size (fun _ => True) fv s.L
  hq : w0.heap.size ≤ q
  bel : Below w0.heap.size w0 W
/-- What a call of it turns: its own block alone. -/
structure FrQ (q : Nat) (W W' : World) : Prop where
  os : W'.os = W.os
  tape : W'.tape = W.tape
  output : W'.output = W.output
  size : W.heap.size ≤ W'.heap.size
  block : ∀ k, k < W.heap.size → k ≠ q → W'.heap[k]? = W.heap[k]?
theorem FrQ.refl (q : Nat) (W : World) : FrQ q W W := ⟨rfl, rfl, rfl, Nat.le_refl _, fun _ _ _ => rfl⟩
theorem FrQ.trans {q : Nat} {a b c : World} (h : FrQ q a b) (k : FrQ q b c) : FrQ q a c :=
  ⟨k.os.trans h.os, k.tape.trans h.tape, k.output.trans h.output, Nat.le_trans h.size k.size, fun i hi h1 => (k.block i (Nat.lt_of_lt_of_le hi h.size) h1).trans (h.block i hi h1)⟩
theorem FrQ.of {q : Nat} {W W' : World} (h : Below W.heap.size W W') : FrQ q W W' := ⟨h.os, h.tape, h.output, h.size, fun k hk _ => h.block k hk⟩
theorem FrQ.set {q : Nat} {W0 W : World} (h : FrQ q W0 W) (i : Nat) (u : Value) : FrQ q W0 (W.setCell ⟨q, i, none⟩ u) :=
  h.trans ⟨rfl, rfl, rfl, by simp, fun k hk h1 => Below.heap_setCell W ⟨q, i, none⟩ u k h1⟩
section
variable {w0 w : World} {q p bm base : Nat} {s : DS}
theorem FrQ.below {W : World} (h : FrQ q w W) (hb : Below w0.heap.size w0 w) (hq : w0.heap.size ≤ q) : Below w0.heap.size w0 W :=
  hb.trans ⟨h.os, h.tape, h.output, h.size, fun k hk => h.block k (Nat.lt_of_lt_of_le hk hb.size) (by omega)⟩
theorem RefAt.lt (h : RefAt w0 w q s) : q < w.heap.size := by
  obtain ⟨A, c, ks, fv, hb, _⟩ := h.blk
  exact blk_lt hb
theorem RefAt.move {W : World} (h : RefAt w0 w q s) (hb : Below w0.heap.size w0 W) (hm : ∀ k, k < w.heap.size → w0.heap.size ≤ k → (∃ cs, w.heap[k]? = some (.cells cs 45 (0, 0))) ∨ (∃ cs, w.heap[k]? = some (.cells cs 24 (0, 0))) → W.heap[k]? = w.heap[k]?) : RefAt w0 W q s := by
  obtain ⟨A, c, ks, fv, h1, h2, h3, h4, h5⟩ := h.blk
  refine ⟨h.inv, ⟨A, c, ks, fv, (hm q (blk_lt h1) h.hq (.inl ⟨_, h1⟩)).trans h1, h2, h3, h4, Kd.R_mono (Kd.R_step (Kd.R_bound h5) (fun k ho hk => hm k hk ho.2.1 (.inr ?_))) (fun _ _ => trivial)⟩, h.hq, hb⟩
  obtain ⟨_, _, _, t, ht, cells, hc⟩ := ho
  obtain rfl : t = 24 := by simpa [k24, Kd.iso, Kd.pair, Kd.int, Kd.string, Kd.scalar] using ht
  exact ⟨cells, hc⟩
theorem RefAt.up {W : World} (h : RefAt w0 w q s) (hb : Below w.heap.size w W) : RefAt w0 W q s := h.move (h.bel.trans (hb.mono h.bel.size)) (fun k hk _ _ => hb.block k hk)
theorem RefAt.fr {s' : DS} {W : World} (h : RefAt w0 w q s) (hD : DiskAt base w p bm s') (hle : w0.heap.size ≤ base) (hf : Fr p bm w W) : RefAt w0 W q s := by
  refine h.move (Fr.add h.bel hf (Nat.le_trans hle hD.hp) (Nat.le_trans hle hD.hm) h.bel.size) (fun k hk _ ht => hf.block k hk ?_ ?_)
  · obtain ⟨kv, hb, _⟩ := hD.blk
    rintro rfl
    rcases ht with ⟨cs, hc⟩ | ⟨cs, hc⟩
    all_goals
      rw [hb] at hc
      injection hc with hc
      injection hc with _ hc
      exact absurd hc (by decide)
  · obtain ⟨es, clock, hb⟩ := hD.map.blk
    rintro rfl
    rcases ht with ⟨cs, hc⟩ | ⟨cs, hc⟩
    all_goals
      rw [hb] at hc
      cases hc
theorem DiskAt.frq {W : World} {s' : DS} (h : DiskAt base w p bm s) (hR : RefAt w0 w q s') (hf : FrQ q w W) : DiskAt base W p bm s := by
  obtain ⟨A, c, ks, fv, h1, _⟩ := hR.blk
  obtain ⟨kv, hb, hk⟩ := h.blk
  obtain ⟨es, clock, hm⟩ := h.map.blk
  have ne : ∀ k o, w.heap[k]? = some o → o ≠ .cells #[.int .i64 s'.room, .bool s'.dead, .int .i64 s'.armed, .slice A ks.length c, fv] 45 (0, 0) → k ≠ q := by
    rintro k o hk2 hne rfl
    rw [h1] at hk2
    exact hne (Option.some.inj hk2).symm
  refine ⟨h.inv, ⟨kv, (hf.block p (blk_lt hb) (ne p _ hb (by intro e; injection e with _ e; exact absurd e (by decide)))).trans hb, Kd.R_mono (Kd.R_step (Kd.R_bound hk) (fun k ho hlt => hf.block k hlt ?_)) (fun _ _ => trivial)⟩, h.map.move (hf.block bm (blk_lt hm) (ne bm _ hm (by intro e; cases e))), h.hp, h.hm⟩
  obtain ⟨_, _, _, t, ht, cells, hc⟩ := ho
  obtain rfl : t = 3 := by simpa [Kd.int, Kd.scalar] using ht
  exact ne k _ hc (by intro e; injection e with _ e; exact absurd e (by decide))
theorem RefAt.cells (h : RefAt w0 w q s) : ∃ A c ks fA fc, w.heap[q]? = some (.cells #[.int .i64 s.room, .bool s.dead, .int .i64 s.armed, .slice A ks.length c, .slice fA s.L.length fc] 45 (0, 0)) ∧ ks.length ≤ c ∧ (Kd.int .i64).C w0 A ks.length ks ∧ (s.armed ≠ 0 → ks = s.keep) ∧ s.L.length ≤ fc ∧ k24.C w fA s.L.length s.L ∧ k24.R 24 w w0.heap.size (fun _ => True) (.slice fA s.L.length fc) s.L ∧
    w.cell? ⟨q, 0, none⟩ = some (.int .i64 s.room) ∧ w.cell? ⟨q, 1, none⟩ = some (.bool s.dead) ∧ w.cell? ⟨q, 2, none⟩ = some (.int .i64 s.armed) ∧ w.cell? ⟨q, 3, none⟩ = some (.slice A ks.length c) ∧ w.cell? ⟨q, 4, none⟩ = some (.slice fA s.L.length fc) ∧ ∀ i, w.frozen? ⟨q, i, none⟩ = false := by
  obtain ⟨A, c, ks, fv, hb, h2, h3, h4, h5⟩ := h.blk
  obtain ⟨fA, fc, rfl, hl, hC⟩ := Kd.R_reads h5
  exact ⟨A, c, ks, fA, fc, hb, h2, h3, h4, hl, hC, h5, blk_cell hb 0, blk_cell hb 1, blk_cell hb 2, blk_cell hb 3, blk_cell hb 4, fun i => blk_frozen hb i⟩
theorem RefAt.set {W : World} (h : RefAt w0 W q s) {cs : Array Value} (i : Nat) (u : Value) (s' : DS) (hi : Inv s') (hb' : ∃ A c ks fv, (W.setCell ⟨q, i, none⟩ u).heap[q]? = some (.cells #[.int .i64 s'.room, .bool s'.dead, .int .i64 s'.armed, .slice A ks.length c, fv] 45 (0, 0)) ∧ ks.length ≤ c ∧ (Kd.int .i64).C w0 A ks.length ks ∧ (s'.armed ≠ 0 → ks = s'.keep) ∧ k24.R 24 (W.setCell ⟨q, i, none⟩ u) w0.heap.size (fun _ => True) fv s'.L) : RefAt w0 (W.setCell ⟨q, i, none⟩ u) q s' :=
  ⟨hi, hb', h.hq, h.bel.trans ⟨rfl, rfl, rfl, by simp, fun k hk => Below.heap_setCell W ⟨q, i, none⟩ u k (by have := h.hq; show k ≠ q; omega)⟩⟩
theorem RefAt.put1 {W : World} (h : RefAt w0 W q s) (d : Bool) (hi : Inv { s with dead := d }) : RefAt w0 (W.setCell ⟨q, 1, none⟩ (.bool d)) q { s with dead := d } := by
  obtain ⟨A, c, ks, fv, hb, h2, h3, h4, h5⟩ := h.blk
  exact h.set (cs := #[]) 1 _ _ hi ⟨A, c, ks, fv, blk_put hb 1 (.bool d) rfl, h2, h3, h4, Kd.R_set h5 hb (by decide) 1 _⟩
/-- How many steps are left: nought, or of those that stand there (what is kept then is as it was). -/
theorem RefAt.put2 {W : World} (h : RefAt w0 W q s) (n : Int) (hn : n ≠ 0 → s.armed ≠ 0) (hi : Inv { s with armed := n }) : RefAt w0 (W.setCell ⟨q, 2, none⟩ (.int .i64 n)) q { s with armed := n } := by
  obtain ⟨A, c, ks, fv, hb, h2, h3, h4, h5⟩ := h.blk
  exact h.set (cs := #[]) 2 _ _ hi ⟨A, c, ks, fv, blk_put hb 2 (.int .i64 n) rfl, h2, h3, fun h => h4 (hn h), Kd.R_set h5 hb (by decide) 2 _⟩
theorem RefAt.put4 {W : World} (h : RefAt w0 W q s) (v : Value) (L : List S24) (hv : k24.R 24 W w0.heap.size (fun _ => True) v L) (hi : Inv { s with L := L }) : RefAt w0 (W.setCell ⟨q, 4, none⟩ v) q { s with L := L } := by
  obtain ⟨A, c, ks, fv, hb, h2, h3, h4, h5⟩ := h.blk
  exact h.set (cs := #[]) 4 _ _ hi ⟨A, c, ks, v, blk_put hb 4 v rfl, h2, h3, h4, Kd.R_set hv hb (by decide) 4 _⟩
/-! its small calls -/
set_option maxHeartbeats 4000000 in
theorem ref_last.calls (h : RefAt w0 w q s) : Calls Tryz.prog 52 #[.pointer (some ⟨q, 0, none⟩)] w fun e w' => e = .returned (.bool (lastS s)) ∧ RefAt w0 w' q (stepS s) ∧ FrQ q w w' ∧ (∀ v, w.cell? ⟨q, 3, none⟩ = some v → w'.cell? ⟨q, 3, none⟩ = some v) := by
  obtain ⟨A, c, ks, fA, fc, hb, h2, h3, h4, h5, h6, h7, k0, k1, k2, k3, k4, fz⟩ := h.cells
  have HR := Aside0.mk h
  have HBQ := Aside0.mk hb
  have ha := Aside0.mk h.inv.arm
  clear h hb h2 h3 h4 h5 h6 h7 k0 k1 k3 k4
  by_cases c : s.armed = 0
  · have e1 : lastS s = false := by simp [lastS, c]
    have e2 : stepS s = s := by simp [stepS, c]
    rw [e1, e2]
    rw [c] at k2
    clear e1 e2 c
    go_enter Tryz.func52, Tryz.ntmps52
    go_wp2
    go_ret
    exact ⟨rfl, HR.out, FrQ.refl _ _, fun v hv => hv⟩
  · have e2 : stepS s = { s with armed := s.armed - 1 } := by simp [stepS, c]
    have hw : wrap64 (s.armed - 1) = s.armed - 1 := (by have := ha.out; unfold wrap64; omega)
    have e1 : decide (s.armed - 1 = 0) = lastS s := by unfold lastS; congr 1; apply propext; omega
    have e3 : (s.armed - 1 == 0) = lastS s := by rw [← e1]; rfl
    have q3 : decide (s.armed = 0) = false := decide_eq_false c
    have q4 : (s.armed == 0) = false := beq_eq_false_iff_ne.2 c
    have hi := Aside0.mk (stepS_inv HR.out.inv)
    rw [e2] at hi ⊢
    have HR2 := Aside0.mk (HR.out.put2 (s.armed - 1) (fun _ => c) hi.out)
    clear e2 c
    obtain ⟨A', c', ks', fA', fc', hb', h2', h3', h4', h5', h6', h7', k0', k1', k2', k3', k4', fz'⟩ := HR2.out.cells
    simp only [] at k2'
    clear hb' h2' h3' h4' h5' h6' h7' k0' k1' k3' k4'
    go_enter Tryz.func52, Tryz.ntmps52
    go_wp2
    go_ret
    exact ⟨by first | rfl | (rw [← e1]; simp) | simp [lastS], HR2.out, (FrQ.refl _ _).set 2 _, fun v hv => by rw [blk_cell HBQ.out 3] at hv; rw [blk_cell (blk_put HBQ.out 2 _ rfl) 3]; exact hv⟩
end
/-! the document's disk: more of its calls -/
def idxL : List S24 → Int → Nat → Int
  | [], _, _ => -1
  | x :: r, n, i => if x.f0 = n then (i : Int) else idxL r n (i + 1)
theorem idxL_no {n : Int} : ∀ (L : List S24) (i : Nat), (∀ y ∈ L, y.f0 ≠ n) → idxL L n i = -1
  | [], _, _ => rfl
  | x :: r, i, h => by
    rw [idxL, if_neg (h x (by simp))]
    exact idxL_no r (i + 1) (fun y hy => h y (by simp [hy]))
theorem idxL_yes {n : Int} {X : S24} {B : List S24} (hX : X.f0 = n) : ∀ (A : List S24) (i : Nat), (∀ y ∈ A, y.f0 ≠ n) → idxL (A ++ X :: B) n i = ((i + A.length : Nat) : Int)
  | [], i, _ => by simp [idxL, hX]
  | x :: r, i, h => by
    rw [List.cons_append, idxL, if_neg (h x (by simp)), idxL_yes hX r (i + 1) (fun y hy => h y (by simp [hy]))]
    simp only [List.length_cons]
    omega
theorem idxL_cases {s : DS} (h : Inv s) (n : Int) : (hasL s.L n = false ∧ idxL s.L n 0 = -1) ∨ (hasL s.L n = true ∧ ∃ i : Nat, i < s.L.length ∧ idxL s.L n 0 = (i : Int) ∧ rd_T24 s.L (i : Int) = getL s.L n) := by
  obtain ⟨A, B, hA, hB, hdel, hput, hc⟩ := splitL h.srt n
  rcases hc with ⟨h1, h2, e⟩ | ⟨h1, _, e⟩
  · refine .inr ⟨h1, A.length, by rw [e]; simp, ?_, ?_⟩
    · have := idxL_yes (B := B) h2 A 0 (fun y hy => by have := hA y hy; omega)
      rw [← e, Nat.zero_add] at this
      exact this
    · obtain ⟨X, hX⟩ : ∃ X, getL s.L n = X := ⟨_, rfl⟩
      rw [hX] at e ⊢
      rw [e]
      unfold rd_T24
      rw [Int.toNat_natCast, List.getD_eq_getElem?_getD, List.getElem?_append_right (Nat.le_refl _)]
      simp
  · refine .inl ⟨h1, idxL_no _ 0 (fun y hy => ?_)⟩
    rw [e] at hy
    rcases List.mem_append.1 hy with hy | hy
    · have := hA y hy; omega
    · have := hB y hy; omega
section
variable {w0 w : World} {q p bm base : Nat} {s : DS}
set_option maxHeartbeats 4000000 in
set_option maxRecDepth 100000 in
theorem ref_Used.calls (h : RefAt w0 w q s) : Calls Tryz.prog 73 #[.pointer (some ⟨q, 0, none⟩)] w fun e w' => e = .returned (.int .i64 (useL s.L)) ∧ Below w.heap.size w w' := by
  obtain ⟨A, c, ks, fA, fc, hb, h2, h3, h4, h5, h6, h7, k0, k1, k2, k3, k4, fz⟩ := h.cells
  have HC := Aside0.mk h6
  have HU := Aside0.mk h.inv.use
  have HRo := Aside0.mk h.inv.room
  have HL8 := Aside0.mk h.inv.len
  clear h hb h2 h3 h4 h5 h6 h7 k0 k1 k2 k3 fz
  go_enter Tryz.func73, Tryz.ntmps73
  go_wp2
  go_loopg [3, 4] (s.L.length + 1) (fun kq v3 v4 w' => ∃ (i : Nat) (x n : Int), v3 = .int .i64 n ∧ v4 = .int .i64 x ∧ Aside0 (x = (i : Int)) ∧ Aside0 (n = useL (s.L.take i)) ∧ Aside0 (kq + i = s.L.length + 1) ∧ Aside0 (i ≤ s.L.length) ∧ w' = w)
  case atStart => exact ⟨0, _, _, rfl, rfl, ⟨rfl⟩, ⟨rfl⟩, ⟨rfl⟩, ⟨Nat.zero_le _⟩, rfl⟩
  case round =>
    obtain ⟨i, x, n, rfl, rfl, hx, hn, hk, hi, rfl⟩ := hrel
    by_cases c9 : i < s.L.length
    · have q1 : x < (s.L.length : Int) := by have := hx.out; omega
      have p1 : (0 : Int) ≤ x := by have := hx.out; omega
      have c3 : decide (x < (s.L.length : Int)) = true := decide_eq_true q1
      obtain ⟨ad, e1, x0, x1, x2⟩ := at_T24 HC.out x p1 q1
      cases e1
      have hx1 := hx.out
      have hut := useL_take s.L i c9
      have hle := useL_take_le s.L (i + 1)
      have h0 := useL_nonneg (s.L.take i)
      rw [← hx1, ← hn.out] at hut
      rw [← hn.out] at h0
      have hw : wrap64 (x + 1) = x + 1 := by have := HL8.out; unfold wrap64; omega
      have hw2 : wrap64 (n + ((rd_T24 s.L x).f1.size : Int)) = n + ((rd_T24 s.L x).f1.size : Int) := by have := HU.out; have := HRo.out; unfold wrap64; omega
      have HUT := Aside0.mk hut
      have HI := Aside0.mk c9
      clear hut hle h0 hx1 c9
      have p2 := eq_true p1
      have q2 := eq_true q1
      go_wp2
      have hI := HI.out
      have hx1 := hx.out
      have hk1 := hk.out
      go_roundg (s.L.length - i)
      case measure => omega
      case rel => exact ⟨i + 1, x + 1, n + ((rd_T24 s.L x).f1.size : Int), by first | rfl | (rw [hw2]), by first | rfl | (rw [hw]), ⟨by omega⟩, ⟨HUT.out.symm⟩, ⟨by omega⟩, ⟨by omega⟩, rfl⟩
    · have c3 : decide (x < (s.L.length : Int)) = false := decide_eq_false (by have := hi.out; have := hx.out; omega)
      have h1 := hn.out
      rw [List.take_of_length_le (by omega)] at h1
      have HE := Aside0.mk h1
      clear h1 c9
      go_wp2
      go_ret
      exact ⟨show Ending.returned (.int .i64 n) = _ from by rw [← HE.out], Below.refl _ _⟩
set_option maxHeartbeats 4000000 in
set_option maxRecDepth 100000 in
theorem ref_at.calls (h : RefAt w0 w q s) (n : Int) : Calls Tryz.prog 51 #[.pointer (some ⟨q, 0, none⟩), .int .i64 n] w fun e w' => e = .returned (.int .i64 (idxL s.L n 0)) ∧ Below w.heap.size w w' := by
  obtain ⟨A, c, ks, fA, fc, hb, h2, h3, h4, h5, h6, h7, k0, k1, k2, k3, k4, fz⟩ := h.cells
  have HC := Aside0.mk h6
  have HL8 := Aside0.mk h.inv.len
  clear h hb h2 h3 h4 h5 h6 h7 k0 k1 k2 k3 fz
  go_enter Tryz.func51, Tryz.ntmps51
  go_wp2
  go_loopg [5] (s.L.length + 1) (fun kq v5 w' => ∃ (i : Nat) (x : Int), v5 = .int .i64 x ∧ Aside0 (x = (i : Int)) ∧ Aside0 (kq + i = s.L.length + 1) ∧ Aside0 (i ≤ s.L.length) ∧ Aside0 (idxL (s.L.drop i) n i = idxL s.L n 0) ∧ w' = w)
  case atStart => exact ⟨0, _, rfl, ⟨rfl⟩, ⟨rfl⟩, ⟨Nat.zero_le _⟩, ⟨rfl⟩, rfl⟩
  case round =>
    obtain ⟨i, x, rfl, hx, hk, hi, HD, rfl⟩ := hrel
    by_cases c9 : i < s.L.length
    · have q1 : x < (s.L.length : Int) := by have := hx.out; omega
      have p1 : (0 : Int) ≤ x := by have := hx.out; omega
      have c3 : decide (x < (s.L.length : Int)) = true := decide_eq_true q1
      obtain ⟨ad, e1, x0, x1, x2⟩ := at_T24 HC.out x p1 q1
      cases e1
      have hx1 := hx.out
      have h1 := HD.out
      rw [drop40 s.L i c9, idxL, ← hx1] at h1
      obtain ⟨F, hF⟩ : ∃ F, rd_T24 s.L x = F := ⟨_, rfl⟩
      rw [hF] at h1 x0 x1 x2
      have hw : wrap64 (x + 1) = x + 1 := by have := HL8.out; unfold wrap64; omega
      have HI := Aside0.mk c9
      clear hx1 c9 hF x1 x2 HD
      have p2 := eq_true p1
      have q2 := eq_true q1
      by_cases d : F.f0 = n
      · rw [if_pos d] at h1
        have t1 : decide (F.f0 = n) = true := decide_eq_true d
        have t2 : (F.f0 == n) = true := by rw [d]; simp
        have HE := Aside0.mk h1
        clear d h1
        go_wp2
        go_ret
        exact ⟨show Ending.returned (.int .i64 x) = _ from by rw [← HE.out], Below.refl _ _⟩
      · rw [if_neg d] at h1
        have t1 : decide (F.f0 = n) = false := decide_eq_false d
        have t2 : (F.f0 == n) = false := beq_eq_false_iff_ne.2 d
        have HE := Aside0.mk h1
        clear d h1
        go_wp2
        have hI := HI.out
        have hx1 := hx.out
        have hk1 := hk.out
        go_roundg (s.L.length - i)
        case measure => omega
        case rel => exact ⟨i + 1, x + 1, by first | rfl | (rw [hw]), ⟨by omega⟩, ⟨by omega⟩, ⟨by omega⟩, HE, rfl⟩
    · have c3 : decide (x < (s.L.length : Int)) = false := decide_eq_false (by have := hi.out; have := hx.out; omega)
      have h1 := HD.out
      rw [List.drop_eq_nil_of_le (by omega), idxL] at h1
      have HE := Aside0.mk h1
      clear h1 c9 HD
      go_wp2
      go_ret
      exact ⟨show Ending.returned (.int .i64 (-1)) = _ from by rw [← HE.out], Below.refl _ _⟩
set_option maxHeartbeats 4000000 in
set_option maxRecDepth 100000 in
theorem ref_Read.calls (h : RefAt w0 w q s) (n : Int) : Calls Tryz.prog 26 #[.pointer (some ⟨q, 0, none⟩), .int .i64 n] w fun e w' => e = .returned (.tuple #[.string (findF s n).f1, .int .i64 (findE s n)]) ∧ Below w.heap.size w w' := by
  obtain ⟨A, c, ks, fA, fc, hb, h2, h3, h4, h5, h6, h7, k0, k1, k2, k3, k4, fz⟩ := h.cells
  have HR := Aside0.mk h
  have HIN := Aside0.mk h.inv
  have K4 := Aside0.mk k4
  have HC := Aside0.mk h6
  clear h hb h2 h3 h4 h5 h6 h7 k0 k2 k3 fz k4
  by_cases hd : s.dead = true
  · have e1 : findE s n = 150 := by simp [findE, hd]
    have e2 : (findF s n).f1 = ⟨#[]⟩ := by simp [findF, hd]; rfl
    rw [e1, e2]
    rw [hd] at k1
    clear hd e1 e2
    go_enter Tryz.func26, Tryz.ntmps26
    go_wp2
    go_ret2
    exact ⟨rfl, Below.refl _ _⟩
  · have hd' : s.dead = false := by simpa using hd
    rw [hd'] at k1
    rcases idxL_cases HIN.out n with ⟨hh, hx⟩ | ⟨hh, i, hi, hx, hrd⟩
    · have e1 : findE s n = 152 := by simp [findE, hd', hh]
      have e2 : (findF s n).f1 = ⟨#[]⟩ := by simp [findF, hd', hh]; rfl
      rw [e1, e2]
      have HX := Aside0.mk hx
      clear hd hd' e1 e2 hh hx
      go_enter Tryz.func26, Tryz.ntmps26
      go_wp2_with ((with_reducible refine gate_callee (f := 51) rfl ?_); refine goesL_ (some _) rfl rfl Tryz.func51 (by kernel_rfl) rfl #[.pointer (some ⟨q, 0, none⟩), .int .i64 n] rfl My.gx ?_; (refine (ref_at.calls HR.out n).mono ?_); rintro e W1 ⟨rfl, hb⟩; refine ⟨_, rfl, ?_⟩; rw [HX.out]; have HB := Aside0.mk hb; clear hb)
      go_ret2
      exact ⟨rfl, HB.out⟩
    · have e1 : findE s n = 0 := by simp [findE, hd', hh]
      have e2 : (findF s n).f1 = (getL s.L n).f1 := by simp [findF, hd', hh]
      rw [e1, e2, ← hrd]
      obtain ⟨x, hxx⟩ : ∃ x : Int, (i : Int) = x := ⟨_, rfl⟩
      rw [hxx] at hx ⊢
      have p1 : (0 : Int) ≤ x := by omega
      have q1 : x < (s.L.length : Int) := by omega
      have t1 : decide (x < 0) = false := decide_eq_false (by omega)
      have HX := Aside0.mk hx
      clear hd hd' e1 e2 hh hx hrd hi hxx
      obtain ⟨ad, e1, x0, x1, x2⟩ := at_T24 HC.out x p1 q1
      cases e1
      have X1 := Aside0.mk x1
      clear x0 x1 x2
      have p2 := eq_true p1
      have q2 := eq_true q1
      go_enter Tryz.func26, Tryz.ntmps26
      go_wp2_with ((with_reducible refine gate_callee (f := 51) rfl ?_); refine goesL_ (some _) rfl rfl Tryz.func51 (by kernel_rfl) rfl #[.pointer (some ⟨q, 0, none⟩), .int .i64 n] rfl My.gx ?_; (refine (ref_at.calls HR.out n).mono ?_); rintro e W1 ⟨rfl, hb⟩; refine ⟨_, rfl, ?_⟩; rw [HX.out]; have HB := Aside0.mk hb; have k4 := (hb.cell (World.block_lt_of_cell? _ _ K4.out)).trans K4.out; have x1 := (hb.cell (World.block_lt_of_cell? _ _ X1.out)).trans X1.out; clear hb)
      go_ret2
      exact ⟨rfl, HB.out⟩
set_option maxHeartbeats 4000000 in
theorem ref_New.calls (hw : w0.heap.size ≤ w.heap.size) (hb0 : Below w0.heap.size w0 w) (room : Int) : Calls Tryz.prog 17 #[.int .i64 room] w fun e w' => Below w.heap.size w w' ∧ ((0 ≤ room ∧ room ≤ 200000 ∧ ∃ q, e = .returned (.tuple #[.pointer (some ⟨q, 0, none⟩), .int .i64 0]) ∧ RefAt w0 w' q (newS room)) ∨ (¬ (0 ≤ room ∧ room ≤ 200000) ∧ e = .returned (.tuple #[.pointer none, .int .i64 2]))) := by
  have HW := Aside0.mk hw
  have HB0 := Aside0.mk hb0
  clear hw hb0
  by_cases d1 : room < 0
  · have b1 : decide (room < 0) = true := decide_eq_true d1
    have HN := Aside0.mk (show ¬ (0 ≤ room ∧ room ≤ 200000) by omega)
    clear d1
    go_enter Tryz.func17, Tryz.ntmps17
    go_wp2
    go_ret2
    exact ⟨Below.refl _ _, .inr ⟨HN.out, rfl⟩⟩
  · have b1 : decide (room < 0) = false := decide_eq_false d1
    by_cases d2 : room > 200000
    · have b2 : decide (200000 < room) = true := decide_eq_true d2
      have HN := Aside0.mk (show ¬ (0 ≤ room ∧ room ≤ 200000) by omega)
      clear d1 d2
      go_enter Tryz.func17, Tryz.ntmps17
      go_wp2
      go_ret2
      exact ⟨Below.refl _ _, .inr ⟨HN.out, rfl⟩⟩
    · have b2 : decide (200000 < room) = false := decide_eq_false d2
      have HN := Aside0.mk (show 0 ≤ room ∧ room ≤ 200000 by omega)
      clear d1 d2
      go_enter Tryz.func17, Tryz.ntmps17
      go_wp2_with ((with_reducible refine gate_dst (N := 12) rfl ?_); refine My.bx 12 #[.int .i64 room, .bool false, .int .i64 0, .slice none 0 0, .slice none 0 0] 45 ?_; intro q hg w12 hbox hb; have BX := My.am hbox; have HG := Aside0.mk hg; have HB := Aside0.mk hb; clear hb hbox hg)
      go_ret2
      refine ⟨HB.out, .inl ⟨HN.out.1, HN.out.2, q, rfl, ⟨⟨by simp [newS], by simp [newS], by simp [newS], by show useL [] ≤ room; have := HN.out; simp [useL]; omega, HN.out.2, by simp [newS], by show (0:Int) ≤ 0 ∧ (0:Int) ≤ 9223372036854775807; omega⟩, ⟨none, 0, [], _, BX.out, Nat.le_refl _, Kd.C_nil _ _, fun h => absurd rfl h, Kd.R_nil _ _ _ _ _⟩, by rw [HG.out]; exact HW.out, HB0.out.trans (HB.out.mono HW.out)⟩⟩⟩
end
section
variable {w0 w : World} {q p bm base : Nat} {s : DS}
theorem RefAt.rekeep (h : RefAt w0 w q s) (ha : s.armed = 0) (k : List Int) : RefAt w0 w q { s with keep := k } := by
  obtain ⟨A, c, ks, fv, h1, h2, h3, h4, h5⟩ := h.blk
  exact ⟨⟨h.inv.srt, h.inv.num, h.inv.dat, h.inv.use, h.inv.room, h.inv.len, h.inv.arm⟩, ⟨A, c, ks, fv, h1, h2, h3, fun hn => absurd ha hn, h5⟩, h.hq, h.bel⟩
def ref_fall.T11 : Bool × List (List Nat × List Nat) := (true, [([], []), ([], []), ([1], [1]), ([], []), ([3], [3]), ([], []), ([4, 5], [4, 5]), ([], []), ([2, 6, 7], [2, 6, 7]), ([8], [8]), ([0, 9], [0, 9]), ([10, 10, 0, 1, 2, 3, 4, 5, 6, 7, 8, 9, 10], [0, 10])])
def ref_fall.B11 : List Nat := [0, 0, 2, 0, 8, 0, 56, 0, 254, 510, 1023, 2047]
theorem ref_fall.tab11 : rtab .any (opsOf Tryz.f53 11) = ref_fall.T11 := by kernel_rfl
theorem ref_fall.bits11 : waitsOk ref_fall.T11.2 ref_fall.B11 = true := by kernel_rfl
set_option maxHeartbeats 16000000 in
set_option maxRecDepth 100000 in
theorem ref_fall.calls (h : RefAt w0 w q s) (Ak : Option Addr) (ck : Nat) (ks : List Int) (hck : ks.length ≤ ck) (hC : (Kd.int .i64).C w0 Ak ks.length ks) :
    Calls Tryz.prog 53 #[.pointer (some ⟨q, 0, none⟩), .slice Ak ks.length ck] w fun e w' => e = .returned (.tuple #[]) ∧ RefAt w0 w' q (fallS ks s) ∧ FrQ q w w' := by
  have hu40 := Tryz.underlying24
  have HR := Aside0.mk h
  have HI := Aside0.mk h.inv
  have HCK := Aside0.mk hck
  have HC := Aside0.mk hC
  clear h hck hC
  obtain ⟨A, c, ks0, fA, fc, hb, h2, h3, h4, h5, h6, h7, k0, k1, k2, k3, k4, fz⟩ := HR.out.cells
  have K4 := Aside0.mk k4
  have HCF := Aside0.mk h6
  clear hb h2 h3 h4 h5 h6 h7 k0 k1 k2 k3 fz
  go_enter Tryz.func53, Tryz.ntmps53
  go_wp2
  go_loopg [4, 5] (s.L.length + 1) (fun kq v4 v5 w' => ∃ (i : Nat) (x : Int), v5 = .int .i64 x ∧ Aside0 (x = (i : Int)) ∧ Aside0 (kq + i = s.L.length + 1) ∧ Aside0 (i ≤ s.L.length) ∧ Aside0 (k24.R 24 w' w.heap.size (fun _ => True) v4 (fallL ks 0 (s.L.take i))) ∧ Aside0 (Below w.heap.size w w'))
  case atStart => exact ⟨0, _, rfl, ⟨rfl⟩, ⟨rfl⟩, ⟨Nat.zero_le _⟩, ⟨Kd.R_nil _ _ _ _ _⟩, ⟨Below.refl _ _⟩⟩
  case round =>
    clear k4
    obtain ⟨i, x, rfl, hx, hk, hi, HO, HB⟩ := hrel
    have k4 := (HB.out.cell (World.block_lt_of_cell? _ _ K4.out)).trans K4.out
    by_cases c9 : i < s.L.length
    · have q1 : x < (s.L.length : Int) := by have := hx.out; omega
      have p1 : (0 : Int) ≤ x := by have := hx.out; omega
      have c3 : decide (x < (s.L.length : Int)) = true := decide_eq_true q1
      obtain ⟨ad, e1, x0, x1, x2⟩ := at_T24 (Kd.C_below HCF.out HB.out) x p1 q1
      cases e1
      have hmem := mem40 s.L i c9
      have htk := take40 s.L i c9
      rw [← hx.out] at hmem htk
      obtain ⟨X, hX⟩ : ∃ X, rd_T24 s.L x = X := ⟨_, rfl⟩
      rw [hX] at hmem htk x0 x1 x2
      have hdat := HI.out.dat _ hmem
      have hsz := useL_mem hmem
      have HSZ := Aside0.mk (show X.f1.size ≤ 200000 by have := HI.out.use; have := HI.out.room; omega)
      have hw : wrap64 (x + 1) = x + 1 := by have := HI.out.len; unfold wrap64; omega
      have HW := Aside0.mk hw
      have HT := Aside0.mk htk
      have HD := Aside0.mk hdat
      have HCI := Aside0.mk c9
      clear hmem htk hX hdat hsz hw c9
      have p2 := eq_true p1
      have q2 := eq_true q1
      go_upto_block 2 with ((with_reducible refine gate_dst (N := 6) rfl ?_); refine My.bx 6 #[.int .i64 0, .string ⟨#[]⟩, .int .i64 0] 24 ?_; intro g6 hg w6 hbox hb; have BX := My.am hbox; have HB6 := Aside0.mk hb; have G6 := Aside0.mk (show wr.heap.size ≤ g6 by rw [hg]; exact Nat.le_refl _); clear hb hbox hg x0 x1 x2; have hz := My.cz3 BX)
      refine at_world (J := fun W => Below wr.heap.size wr W ∧ W.heap[g6]? = some (.cells #[.int .i64 X.f0, .string X.f1, .int .i64 X.f2] 24 (0, 0))) ⟨below_set (below_set (below_set HB6.out G6.out) G6.out) G6.out, My.put3 BX.out⟩ ?_
      clear BX HB6 hz k4
      rintro W2 ⟨B2, Y2⟩
      have HY2 := My.am Y2
      have HLT := Aside0.mk (Kd.R_lt HO.out)
      have HO2 := Aside0.mk (Kd.R_below HO.out B2)
      have HB2 := Aside0.mk (HB.out.trans (B2.mono HB.out.size))
      clear B2 Y2 HO HB
      obtain ⟨z, hzz⟩ : ∃ z, fallZ ks i X = z := ⟨_, rfl⟩
      have HZZ := Aside0.mk hzz
      clear hzz
      go_cut [7] (fun v7 wc => v7 = .int .i64 z ∧ wc = W2)
      case first =>
        have hz := My.cz3 HY2
        have hm0 := fallM_nonneg ks i
        obtain ⟨M, hM⟩ : ∃ M, fallM ks i = M := ⟨_, rfl⟩
        have hzM : z = X.f2 + mn M ((X.f1.size : Int) - X.f2) := by rw [← HZZ.out, ← hM]; rfl
        rw [hM] at hm0
        have HZM := Aside0.mk hzM
        have HM0 := Aside0.mk hm0
        have HMM := Aside0.mk hM
        clear hzM hm0 hM
        go_wp2
        go_loopg [7, 8] ((X.f1.size : Int) - X.f2 + 1).toNat (fun kq v7 v8 w' => ∃ (n y : Int), v7 = .int .i64 n ∧ v8 = .int .i64 y ∧ Aside0 (n = X.f2 + y ∧ 0 ≤ y ∧ n ≤ z ∧ (kq : Int) = (X.f1.size : Int) - n + 1) ∧ w' = W2)
        case atStart =>
          refine ⟨_, _, rfl, rfl, ⟨by omega, by omega, ?_, ?_⟩, rfl⟩
          · have h1 := HZM.out; have h2 := HM0.out; have h3 := HD.out
            unfold mn at h1
            split at h1 <;> omega
          · have h3 := HD.out
            omega
        case round =>
          obtain ⟨n, y, rfl, rfl, hny, rfl⟩ := hrel
          by_cases ci : i < ks.length
          · have r1 : x < (ks.length : Int) := by have := hx.out; omega
            have t1 : decide (x < (ks.length : Int)) = true := decide_eq_true r1
            obtain ⟨ad2, e2, y0⟩ := at_I (Kd.C_below (Kd.C_below HC.out HR.out.bel) HB2.out) x p1 r1
            cases e2
            have hMv : M = mx (rd ks x) 0 := by rw [← HMM.out]; unfold fallM; rw [if_pos ci, hx.out]
            obtain ⟨kv, hkv⟩ : ∃ kv, rd ks x = kv := ⟨_, rfl⟩
            rw [hkv] at hMv y0
            have HMV := Aside0.mk hMv
            have r2 := eq_true r1
            clear hkv hMv ci r1
            by_cases cy : y < kv
            · have t2 : decide (y < kv) = true := decide_eq_true cy
              by_cases cn : n < (X.f1.size : Int)
              · have t3 : decide (n < (X.f1.size : Int)) = true := decide_eq_true cn
                have hw1 : wrap64 (n + 1) = n + 1 := by have := HSZ.out; have := hny.out; have := HD.out; unfold wrap64; omega
                have hw2 : wrap64 (y + 1) = y + 1 := by have := HSZ.out; have := hny.out; have := HD.out; unfold wrap64; omega
                have HNX := Aside0.mk (show n + 1 ≤ z by
                  have h1 := HZM.out; have h2 := HMV.out; have h3 := hny.out
                  unfold mx at h2
                  unfold mn at h1
                  split at h1 <;> split at h2 <;> omega)
                have HCN := Aside0.mk cn
                clear cy cn
                go_wp2
                have h3 := hny.out
                have h4 := HNX.out
                have h5 := HCN.out
                have hgk : gk ≠ 0 := by omega
                go_roundg (gk - 1)
                case measure => omega
                case rel => exact ⟨n + 1, y + 1, by first | rfl | (rw [hw1]), by first | rfl | (rw [hw2]), ⟨by omega, by omega, by omega, by omega⟩, rfl⟩
              · have t3 : decide (n < (X.f1.size : Int)) = false := decide_eq_false cn
                have he : n = z := by
                  have h1 := HZM.out; have h3 := hny.out; have h4 := HM0.out
                  unfold mn at h1
                  split at h1 <;> omega
                subst he
                clear cy cn
                go_wp2
                go_meet
                case rel => exact ⟨rfl, rfl⟩
            · have t2 : decide (y < kv) = false := decide_eq_false cy
              have he : n = z := by
                have h1 := HZM.out; have h2 := HMV.out; have h3 := hny.out; have h4 := HM0.out
                unfold mx at h2
                unfold mn at h1
                split at h1 <;> split at h2 <;> omega
              subst he
              clear cy
              go_wp2
              go_meet
              case rel => exact ⟨rfl, rfl⟩
          · have t1 : decide (x < (ks.length : Int)) = false := decide_eq_false (by have := hx.out; omega)
            have he : n = z := by
              have h1 := HZM.out; have h3 := hny.out
              have h2 : M = 0 := by rw [← HMM.out]; unfold fallM; rw [if_neg ci]
              have h5 := HD.out
              unfold mn at h1
              split at h1 <;> omega
            subst he
            clear ci
            go_wp2
            go_meet
            case rel => exact ⟨rfl, rfl⟩
      case rest =>
        obtain ⟨rfl, rfl⟩ := hcut
        have hz := My.cz3 HY2
        have hzi := fallZ_in (ks := ks) (i := i) HD.out
        have hA1 : fallL ks 0 (s.L.take (i + 1)) = fallL ks 0 (s.L.take i) ++ (if fallZ ks i X = 0 then [] else [fallX ks i X]) := by
          have hl : (s.L.take i).length = i := by rw [List.length_take]; have := HCI.out; omega
          rw [HT.out, fallL_app, hl, Nat.zero_add]
        have hzz := HZZ.out
        rw [hzz] at hzi hA1
        have hfx : fallX ks i X = ⟨X.f0, X.f1.extract 0 z.toNat, z⟩ := by unfold fallX; rw [hzz]
        rw [hfx] at hA1
        have z0 : (0 : Int) ≤ z := by have := HD.out; omega
        by_cases cz : z = 0
        · have t1 : decide (0 < z) = false := decide_eq_false (by omega)
          rw [if_pos cz, List.append_nil] at hA1
          have HA1 := Aside0.mk hA1
          clear hzz hzi hfx z0 cz hA1
          go_wp2
          have hI := HCI.out
          have hx1 := hx.out
          have hk1 := hk.out
          go_roundg (s.L.length - i)
          case measure => omega
          case rel => exact ⟨i + 1, x + 1, by first | rfl | (rw [HW.out]), ⟨by omega⟩, ⟨by omega⟩, ⟨by omega⟩, ⟨by rw [HA1.out]; exact HO2.out⟩, HB2⟩
        · have t1 : decide (0 < z) = true := decide_eq_true (by omega)
          rw [if_neg cz] at hA1
          have HA1 := Aside0.mk hA1
          have z0t := eq_true z0
          have z1t := eq_true hzi.2
          have z0d := decide_eq_true z0
          have z1d := decide_eq_true hzi.2
          have HLL := Aside0.mk (show (fallL ks 0 (s.L.take i)).length ≤ 8 by have h1 := fallL_len ks (s.L.take i) 0; rw [List.length_take] at h1; have := HI.out.len; omega)
          clear hzz hzi hfx z0 cz hA1
          go_upto_region 11 with (fail)
          refine start_ (n := 12) (S := fun w' => w'.cell? ⟨g6, 0, none⟩ = some (.int .i64 X.f0) ∧ w'.cell? ⟨g6, 1, none⟩ = some (.string X.f1)) (ds := []) #[false, false, false, false, false, false, false, false, false, false, false, false] (by kernel_rfl) rfl rfl ⟨hz.1, hz.2.1⟩ (fun hHeld => ?_); refine with_tabW ref_fall.tab11 ref_fall.bits11 (fun HT_ HW_ => ?_)
          have HO3 := Aside0.mk (Kd.R_drew HO2.out)
          have HB3 := Aside0.mk (show Below w.heap.size w wc.drew from ⟨HB2.out.os, HB2.out.tape, HB2.out.output, HB2.out.size, HB2.out.block⟩)
          generalize wc.drew = W3 at HO3 HB3 hHeld ⊢
          have HH3 := Aside0.mk hHeld
          refine My.pv_ 0 52 12 1 HT_.out ?_
          refine My.pv_ 1 53 12 3 HT_.out ?_
          refine My.tv_ 2 54 12 7 HT_.out HW_.out hHeld rfl rfl (by rintro w' ⟨s0, s1⟩; go_simp; with_reducible rfl) ?_
          refine My.pv_ 3 55 12 15 HT_.out ?_
          refine My.tv_ 4 56 12 31 HT_.out HW_.out hHeld rfl rfl (by rintro w' ⟨s0, s1⟩; go_simp; with_reducible rfl) ?_
          refine My.pv_ 5 57 12 63 HT_.out ?_
          refine My.tv_ 6 58 12 127 HT_.out HW_.out hHeld rfl rfl (by rintro w' ⟨s0, s1⟩; go_simp; with_reducible rfl) ?_
          refine My.pv_ 7 59 12 255 HT_.out ?_
          refine My.pv_ 8 60 12 511 HT_.out ?_
          refine one_ (i := 9) (N := some 61) (My.Mb 12 1023) rfl rfl (one_of HT_.out (by kernel_rfl)) (by decide) (fun K hK => ?_)
          refine value_ (w1 := ?_) (v := ?_) (by rfl) rfl ?_ ?_
          rotate_left 2
          · go_simp
            constructor
            · rfl
            · rfl
          refine hK.out _ _ ⟨(World.cell?_alloc_lt _ _ _ (World.block_lt_of_cell? _ _ hHeld.1)).trans hHeld.1, (World.cell?_alloc_lt _ _ _ (World.block_lt_of_cell? _ _ hHeld.2)).trans hHeld.2⟩ (fun hHeld => ?_)
          clear hK K
          refine My.nm 61 ?_
          refine one_ (i := 10) (N := some 62) (My.Mb 12 2047) rfl rfl (one_of HT_.out (by kernel_rfl)) (by decide) (fun K hK => ?_)
          refine Kd.R_append_step k24 (w0 := w) w.heap.size (by rfl) (.tmp 52) (.tmp 61) 22 24 (.agg #[(.int .i64 0), (.string ⟨#[]⟩), (.int .i64 0)]) 32 rfl Tryz.underlying22 info24 rfl (by decide) (by decide) u4 (fallL ks 0 (s.L.take i)) (⟨X.f0, X.f1.extract 0 z.toNat, z⟩ : S24) [.int .i64 X.f0, .string (X.f1.extract 0 z.toNat), .int .i64 z] (fun _ => True) (fun _ => False) rfl rfl (k24_mkM _ _ _ _) (fun _ hk => hk.elim) (fun _ _ => trivial) HO3.out HB3.out HB3.out.size (by have := HLL.out; omega) ?_
          intro v1 w1 hr1 hb1 hg1 hat1
          rw [← HA1.out] at hr1
          have hg6 : w1.heap[g6]? = W3.heap[g6]? := hg1.block g6 (World.block_lt_of_cell? W3 _ HH3.out.1) (fun e => by have := HLT.out g6 e.symm; have := G6.out; omega)
          have HB4 := Aside0.mk hb1
          refine hK.out _ _ ⟨(World.cell?_of_block hg6).trans HH3.out.1, (World.cell?_of_block hg6).trans HH3.out.2⟩ (fun hHeld => ?_)
          clear hK K
          refine My.nm 62 ?_
          refine My.pv_ 11 4 12 4095 HT_.out ?_
          refine done_ (done_of HT_.out (by kernel_rfl)) ?_
          go_wp2
          have hI := HCI.out
          have hx1 := hx.out
          have hk1 := hk.out
          go_roundg (s.L.length - i)
          case measure => omega
          case rel => exact ⟨i + 1, x + 1, by first | rfl | (rw [HW.out]), ⟨by omega⟩, ⟨by omega⟩, ⟨by omega⟩, ⟨hr1⟩, HB4⟩
    · have c3 : decide (x < (s.L.length : Int)) = false := decide_eq_false (by have := hi.out; have := hx.out; omega)
      have e : s.L.take i = s.L := List.take_of_length_le (by have := hi.out; omega)
      have h1 := HO.out
      rw [e] at h1
      have HE := Aside0.mk (Kd.R_lower h1 HR.out.bel.size)
      have HRR := Aside0.mk (HR.out.up HB.out)
      obtain ⟨vA, vc, ev⟩ := Kd.R_slice h1
      subst ev
      obtain ⟨A', c', ks', fA', fc', hb', h2', h3', h4', h5', h6', h7', k0', k1', k2', k3', k4', fz'⟩ := HRR.out.cells
      clear h1 c9 e HO hb' h2' h3' h4' h5' h6' h7' k0' k3' k4'
      go_wp2
      have i1 := fallS_inv (ks := ks) HI.out
      have j : ∀ (d : Bool) (a : Int), (0 ≤ a ∧ a ≤ 9223372036854775807) → Inv { dead := d, room := s.room, armed := a, keep := s.keep, L := fallL ks 0 s.L } := fun d a ha => ⟨i1.srt, i1.num, i1.dat, i1.use, i1.room, i1.len, ha⟩
      refine bodyPost_end (results_none rfl _ _ _) rfl ?_
      exact ⟨rfl, (((HRR.out.put4 _ (fallL ks 0 s.L) HE.out (j _ _ HI.out.arm)).put1 true (j _ _ HI.out.arm)).put2 0 (fun h => absurd rfl h) (j true 0 ⟨by decide, by decide⟩)).rekeep rfl [], (((FrQ.of HB.out).set 4 _).set 1 _).set 2 _⟩
end

end Go.Proofs.YtkcpgaplpmbmoaaGreat.PA
