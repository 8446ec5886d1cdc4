/- A log on a disk, walked by hand; Lean checks it. -/
import Derived.Test.YtkcpgaplpmbmoaaPAx20
import Derived.Test.YtkcpgaplpmbmoaaPAx6
import Derived.Test.YtkcpgaplpmbmoaaPAx23
namespace Go.Proofs.Ytkcpgaplpmbmoaa.PA
open Go.RowKit Go.Proofs.YtkcpgaplpmbmoaaW.PrintWords Go.Proofs.YtkcpgaplpmbmoaaW.PrintLast Go.Proofs.YtkcpgaplpmbmoaaW.PrintMore
attribute [local go_sem] max2_int min2_int max_two min_two max_three min_three max_four min_four
set_option linter.unusedVariables false
set_option linter.unusedSimpArgs false

/-! #### WalBack -/
section
variable {base p bm g q : Nat} {w W : World} {s : DS} {x : WS}
/-- A row of texts of the caller's stays, whatever a disk's or a log's calls turn. -/
theorem row_frX {α : Type} {d : Kd α} {e b0 : Nat} {ok X : Nat → Prop} {v : Value} {xs : List α} (hr : d.R e w b0 ok v xs) (hf : FrX X w W) (hX : ∀ k, X k → (∃ cs t, w.heap[k]? = some (.cells cs t (0, 0)) ∧ ∀ q, q ∈ e :: d.E → q ≠ t) ∨ ∃ es cl, w.heap[k]? = some (.map es cl)) : d.R e W b0 ok v xs := by
  refine Kd.R_mono (Kd.R_step (Kd.R_bound hr) (fun k ho hk => ?_)) (fun _ ho => ho.1)
  obtain ⟨_, _, _, q, hq, cells, hc⟩ := ho
  refine hf.block k hk (fun hx => ?_)
  rcases hX k hx with ⟨cs, t, hb, ht⟩ | ⟨es, cl, hb⟩
  · rw [hc] at hb
    injection hb with hb
    injection hb with _ hb
    exact ht q hq hb
  · rw [hc] at hb
    cases hb
theorem disk_types (hD : DiskAt base w p bm s) (t0 : Nat) (h1 : t0 ≠ 37) (k : Nat) (hk : k = p ∨ k = bm) : (∃ cs t, w.heap[k]? = some (.cells cs t (0, 0)) ∧ t0 ≠ t) ∨ ∃ es cl, w.heap[k]? = some (.map es cl) := by
  obtain ⟨kv, hb, _⟩ := hD.blk
  obtain ⟨es, clock, hm⟩ := hD.map.blk
  rcases hk with rfl | rfl
  · exact .inl ⟨_, _, hb, h1⟩
  · exact .inr ⟨_, _, hm⟩
theorem strs_disk {b0 : Nat} {v : Value} {xs : List ByteArray} (hr : Kd.string.R 9 w b0 (fun _ => True) v xs) (hD : DiskAt base w p bm s) (hf : FrX (fun k => k = p ∨ k = bm) w W) : Kd.string.R 9 W b0 (fun _ => True) v xs := by
  refine row_frX hr hf (fun k hk => ?_)
  rcases disk_types hD 9 (by decide) k hk with ⟨cs, t, h, ht⟩ | h
  · exact .inl ⟨cs, t, h, fun q hq => by rw [List.mem_singleton.1 (show q ∈ [9] from hq)]; exact ht⟩
  · exact .inr h
theorem strs_log {b0 : Nat} {v : Value} {xs : List ByteArray} (hr : Kd.string.R 9 w b0 (fun _ => True) v xs) (hD : DiskAt base w p bm s) (hL : LogAt w q g p x) (hf : FrX (fun k => k = p ∨ k = bm ∨ k = g ∨ k = q) w W) : Kd.string.R 9 W b0 (fun _ => True) v xs := by
  refine row_frX hr hf (fun k hk => ?_)
  rcases hk with h | h | rfl | rfl
  · rcases disk_types hD 9 (by decide) k (.inl h) with ⟨cs, t, h, ht⟩ | h
    · exact .inl ⟨cs, t, h, fun q hq => by rw [List.mem_singleton.1 (show q ∈ [9] from hq)]; exact ht⟩
    · exact .inr h
  · rcases disk_types hD 9 (by decide) k (.inr h) with ⟨cs, t, h, ht⟩ | h
    · exact .inl ⟨cs, t, h, fun q hq => by rw [List.mem_singleton.1 (show q ∈ [9] from hq)]; exact ht⟩
    · exact .inr h
  · exact .inl ⟨_, _, hL.f, fun q hq => by rw [List.mem_singleton.1 (show q ∈ [9] from hq)]; decide⟩
  · exact .inl ⟨_, _, hL.l, fun q hq => by rw [List.mem_singleton.1 (show q ∈ [9] from hq)]; decide⟩
theorem LogAt.disk (hL : LogAt w q g p x) (hD : DiskAt base w p bm s) (hf : FrX (fun k => k = p ∨ k = bm) w W) : LogAt W q g p x := by
  have h := hL.qp hD
  exact hL.fr hf (fun hx => by rcases hx with hx | hx; exact h.1 hx; exact h.2.1 hx) (fun hx => by rcases hx with hx | hx; exact h.2.2.1 hx; exact h.2.2.2 hx)
theorem below_disk {w0 : World} (hb : Below base w0 w) (hD : DiskAt base w p bm s) (hf : FrX (fun k => k = p ∨ k = bm) w W) (hle : base ≤ w.heap.size) : Below base w0 W :=
  hf.below hb (fun k hk => by rcases hk with h | h; exact h ▸ hD.hp; exact h ▸ hD.hm) hle
theorem below_log {w0 : World} (hb : Below base w0 w) (hD : DiskAt base w p bm s) (hg : base ≤ g ∧ base ≤ q) (hf : FrX (fun k => k = p ∨ k = bm ∨ k = g ∨ k = q) w W) (hle : base ≤ w.heap.size) : Below base w0 W :=
  hf.below hb (fun k hk => by rcases hk with h | h | h | h; exact h ▸ hD.hp; exact h ▸ hD.hm; exact h ▸ hg.1; exact h ▸ hg.2) hle
end
/-- What WalBack counts. -/
def smB : List ByteArray → Int
  | [] => 0
  | b :: r => mn (b.size : Int) 50000 + 30 + smB r
theorem smB_app (a b : List ByteArray) : smB (a ++ b) = smB a + smB b := by
  induction a with
  | nil => simp [smB]
  | cons x r ih => simp only [List.cons_append, smB, ih]; omega
theorem smB_nonneg (l : List ByteArray) : 0 ≤ smB l := by
  induction l with
  | nil => exact Int.le_refl _
  | cons x r ih =>
    simp only [smB]
    unfold mn
    split <;> omega
section
variable {base p bm g q : Nat} {w : World} {s : DS}
theorem DiskAt.lower {b : Nat} (h : DiskAt base w p bm s) (hb : b ≤ base) : DiskAt b w p bm s := by
  obtain ⟨kv, h1, h2⟩ := h.blk
  exact ⟨h.inv, ⟨kv, h1, Kd.R_lower h2 hb⟩, h.map, Nat.le_trans hb h.hp, Nat.le_trans hb h.hm⟩
theorem bk_new (w : World) (room : Int) (h : 0 ≤ room ∧ room ≤ 200000) : Calls Try.prog 12 #[.int .i64 room] w fun e w' => ∃ p bm, e = .returned (.tuple #[.pointer (some ⟨p, 0, none⟩), .int .i64 0]) ∧ Below w.heap.size w w' ∧ DiskAt w.heap.size w' p bm (newS room) := (disk_New.calls w room).mono (by
  rintro e W1 ⟨hb, ⟨_, _, p, bm, rfl, hD⟩ | ⟨hno, _⟩⟩
  · exact ⟨p, bm, rfl, hb, hD⟩
  · exact absurd h hno)
theorem bk_open1 (hD : DiskAt base w p bm (newS 200000)) (first : ByteArray) (hf : first.size ≤ 30000) : Calls Try.prog 10 #[.pointer (some ⟨p, 0, none⟩), .string first] w fun e w' => ∃ s3 q g A c, e = .returned (.tuple #[.pointer (some ⟨q, 0, none⟩), .slice A [first].length c, .int .i64 0]) ∧ Whole s3 1 [first] ∧ s3.room = 200000 ∧ s3.armed = 0 ∧ DiskAt base w' p bm s3 ∧ FrX (fun k => k = p ∨ k = bm) w w' ∧ w.heap.size ≤ q ∧ w.heap.size ≤ g ∧ LogAt w' q g p ⟨1, ((FRL 3 [first]).length : Int), false⟩ ∧ Kd.string.R 9 w' w.heap.size (fun _ => True) (.slice A [first].length c) [first] := by
  refine (wal_Open.fresh hD rfl rfl rfl first hf).mono ?_
  rintro e w' (⟨h, _⟩ | ⟨s3, q, g, A, c, h1, h2, h3, h4, h5⟩)
  · have := fr_small first hf
    have : (newS 200000).room = 200000 := rfl
    omega
  · exact ⟨s3, q, g, A, c, h1, h2, h3, h4, h5⟩
theorem imgs_disk {W : World} {b0 : Nat} {v : Value} {xs : List S75} (hr : k75.R 75 w b0 (fun _ => True) v xs) (hD : DiskAt base w p bm s) (hf : FrX (fun k => k = p ∨ k = bm) w W) : k75.R 75 W b0 (fun _ => True) v xs := by
  refine row_frX hr hf (fun k hk => ?_)
  rcases disk_types hD 75 (by decide) k hk with ⟨cs, t, h, ht⟩ | h
  · exact .inl ⟨cs, t, h, fun q hq => by rw [List.mem_singleton.1 (show q ∈ [75] from hq)]; exact ht⟩
  · exact .inr h
end
/-- What WalBack keeps from round to round. -/
structure BkI (w w' : World) (p bm q g : Nat) (s : DS) (n : Int) (h : List ByteArray) (A : Option Addr) (c : Nat) (j : Nat) (u : Int) : Prop where
  D : DiskAt w.heap.size w' p bm s
  L : LogAt w' q g p ⟨n, ((FRL 3 h).length : Int), false⟩
  W : Whole s n h
  arm : s.armed = 0
  room : s.room = 200000
  num : n ≤ j
  len : h.length ≤ j
  use : ((FRL 3 h).length : Int) ≤ u
  R : Kd.string.R 9 w' w.heap.size (fun _ => True) (.slice A h.length c) h
  q0 : w.heap.size ≤ q
  g0 : w.heap.size ≤ g
  B : Below w.heap.size w w'
section
variable {w w1 W : World} {p bm q g : Nat} {s : DS} {n : Int} {h : List ByteArray} {A : Option Addr} {c j : Nat} {u : Int}
theorem BkI.up (I : BkI w w1 p bm q g s n h A c j u) (hb : Below w1.heap.size w1 W) : BkI w W p bm q g s n h A c j u :=
  ⟨I.D.up hb, I.L.up hb, I.W, I.arm, I.room, I.num, I.len, I.use, Kd.R_below I.R hb, I.q0, I.g0, I.B.trans (hb.mono I.B.size)⟩
theorem BkI.fr (I : BkI w w1 p bm q g s n h A c j u) (hD : DiskAt w.heap.size W p bm s) (hf : FrX (fun k => k = p ∨ k = bm) w1 W) : BkI w W p bm q g s n h A c j u :=
  ⟨hD, I.L.disk I.D hf, I.W, I.arm, I.room, I.num, I.len, I.use, strs_disk I.R I.D hf, I.q0, I.g0, below_disk I.B I.D hf I.B.size⟩
theorem BkI.reads (I : BkI w w1 p bm q g s n h A c j u) : Kd.C Kd.string w1 A h.length h ∧ h.length ≤ c := ⟨(Kd.R_reads' I.R).2.2, (Kd.R_reads' I.R).2.1⟩
theorem frl_len_b (b : ByteArray) (hb : b.size ≤ 30000) : ((FRL 3 [b]).length : Int) ≤ mn (b.size : Int) 50000 + 30 := by
  have h1 := fr_small b hb
  rw [← catF_size, catF_one]
  unfold mn
  split <;> omega
theorem bk_append (I : BkI w w1 p bm q g s n h A c j u) (hj : j ≤ 1000) (hu : 0 ≤ u ∧ u ≤ 100000) (b : ByteArray) (hb : b.size ≤ 140737488351232) (u2 : Int) (hu2 : u + (mn (b.size : Int) 50000 + 30) ≤ u2) : Calls Try.prog 6 #[.pointer (some ⟨q, 0, none⟩), .string b] w1 fun e w' => ∃ er s', e = .returned (.int .i64 er) ∧ Below w.heap.size w w' ∧
    ((er = 0 ∧ Kd.string.R 9 w' w.heap.size (fun _ => True) (.slice A h.length c) h ∧ ∀ W A' c', Below w'.heap.size w' W → Kd.string.R 9 W w.heap.size (fun _ => True) (.slice A' (h ++ [b]).length c') (h ++ [b]) → BkI w W p bm q g s' n (h ++ [b]) A' c' (j + 1) u2) ∨ (er ≠ 0 ∧ 30000 < b.size ∧ s' = s ∧ BkI w w' p bm q g s n h A c (j + 1) u2)) := by
  refine (log_Append.whole I.D I.L I.W b hb).mono ?_
  rintro e w' ⟨er, s', rfl, hf, hD, hroom, h3⟩
  have hB := below_log I.B I.D ⟨I.g0, I.q0⟩ hf I.B.size
  have hR := strs_log I.R I.D I.L hf
  have hm : 0 ≤ mn (b.size : Int) 50000 := by unfold mn; split <;> omega
  refine ⟨er, s', rfl, hB, ?_⟩
  rcases h3 with ⟨e0, e1, e2, e3, e4⟩ | ⟨e0, _, e1, e2, e3⟩ | ⟨_, e1, _⟩
  · refine .inl ⟨e0, hR, fun W A' c' hb' hR' => ⟨hD.up hb', e4.up hb', e2, e3 I.arm, by rw [hroom, I.room], by have := I.num; omega, by rw [List.length_append, List.length_singleton]; have := I.len; omega, ?_, hR', I.q0, I.g0, hB.trans (hb'.mono hB.size)⟩⟩
    have h5 := frl_app h b
    have h6 := frl_len_b b e1
    rw [← catF_size, catF_one] at h6
    have := I.use
    omega
  · refine .inr ⟨e0, ?_, e1, ?_⟩
    · rcases e3 with e3 | e3
      · exact e3
      · have := I.use
        have := I.room
        omega
    · rw [e1] at hD
      exact ⟨hD, e2, I.W, I.arm, I.room, by have := I.num; omega, by have := I.len; omega, by have := I.use; omega, hR, I.q0, I.g0, hB⟩
  · exact absurd I.arm e1
theorem bk_turn (I : BkI w w1 p bm q g s n h A c j u) (hj : j ≤ 1000) (hu : 0 ≤ u ∧ u ≤ 100000) (b : ByteArray) (hb : b.size ≤ 140737488351232) (u2 : Int) (hu2 : u + (mn (b.size : Int) 50000 + 30) ≤ u2) : Calls Try.prog 7 #[.pointer (some ⟨q, 0, none⟩), .string b] w1 fun e w' => ∃ er s', e = .returned (.int .i64 er) ∧ Below w.heap.size w w' ∧
    ((er = 0 ∧ ∃ g', ∀ W A' c', Below w'.heap.size w' W → Kd.string.R 9 W w.heap.size (fun _ => True) (.slice A' [b].length c') [b] → BkI w W p bm q g' s' (n + 1) [b] A' c' (j + 1) u2) ∨ (er ≠ 0 ∧ 30000 < b.size ∧ s' = s ∧ BkI w w' p bm q g s n h A c (j + 1) u2)) := by
  refine (log_Turn.whole I.D I.L I.W b hb).mono ?_
  rintro e w' ⟨er, s', rfl, hf, hD, hroom, h3⟩
  have hB := below_log I.B I.D ⟨I.g0, I.q0⟩ hf I.B.size
  have hR := strs_log I.R I.D I.L hf
  have hm : 0 ≤ mn (b.size : Int) 50000 := by unfold mn; split <;> omega
  refine ⟨er, s', rfl, hB, ?_⟩
  rcases h3 with ⟨e0, e1, e2, e3, g', hg, e4⟩ | ⟨e0, _, e1, e2, e3⟩ | ⟨_, e1, _⟩
  · refine .inl ⟨e0, g', fun W A' c' hb' hR' => ⟨hD.up hb', e4.up hb', e2, e3 I.arm, by rw [hroom, I.room], by have := I.num; omega, by simp, ?_, hR', I.q0, Nat.le_trans I.B.size hg, hB.trans (hb'.mono hB.size)⟩⟩
    have h6 := frl_len_b b e1
    have := I.use
    omega
  · refine .inr ⟨e0, ?_, e1, ?_⟩
    · rcases e3 with e3 | e3 | e3
      · exact e3
      · have := I.num
        omega
      · have := I.use
        have := I.room
        omega
    · rw [e1] at hD
      exact ⟨hD, e2, I.W, I.arm, I.room, by have := I.num; omega, by have := I.len; omega, by have := I.use; omega, hR, I.q0, I.g0, hB⟩
  · exact absurd I.arm e1
theorem bk_open (I : BkI w w1 p bm q g s n h A c j u) (first : ByteArray) (hf : first.size ≤ 30000) : Calls Try.prog 10 #[.pointer (some ⟨p, 0, none⟩), .string first] w1 fun e w' => ∃ q2 g2 A2 c2, e = .returned (.tuple #[.pointer (some ⟨q2, 0, none⟩), .slice A2 h.length c2, .int .i64 0]) ∧ BkI w w' p bm q g s n h A c j u ∧ BkI w w' p bm q2 g2 s n h A2 c2 j u ∧ FrX (fun k => k = p ∨ k = bm) w1 w' := by
  refine (wal_Open.opens I.D (opens_whole I.D.inv I.W) first (by omega)).mono ?_
  rintro e w' ⟨q2, g2, A2, c2, rfl, hD, hf, hq, hg, hL, hR⟩
  have I1 := I.fr hD hf
  exact ⟨q2, g2, A2, c2, rfl, I1, ⟨hD, hL, I.W, I.arm, I.room, I.num, I.len, I.use, Kd.R_lower hR I.B.size, Nat.le_trans I.B.size hq, Nat.le_trans I.B.size hg, I1.B⟩, hf⟩
theorem BkI.mix {q3 g3 : Nat} {A3 : Option Addr} {c3 : Nat} (I : BkI w w1 p bm q g s n h A c j u) (I3 : BkI w w1 p bm q3 g3 s n h A3 c3 j u) : BkI w w1 p bm q3 g3 s n h A c j u := { I3 with R := I.R }
end
theorem with_some (l : List ByteArray) (b : ByteArray) (h : l.length ≤ 1000) : ententelaw17_with.f l b = some (l ++ [b]) := by
  unfold ententelaw17_with.f
  rw [Option.bind_some, if_pos (by show 0 + l.length < _; omega), Option.bind_some, if_pos (by rw [List.nil_append]; omega), List.nil_append]
noncomputable section
open Classical in
def ententelaw17_WalBack.f (k : Nat) (a0 : ByteArray) (l1 : List ByteArray) (l2 : List Bool) : Option Bool := if a0.size ≤ 140737488351232 ∧ ∀ y ∈ l1, y.size ≤ 140737488351232 then some true else none
end
theorem ententelaw17_WalBack.ok {k : Nat} {a0 : ByteArray} {l1 : List ByteArray} {l2 : List Bool} {r : Bool} (h : ententelaw17_WalBack.f k a0 l1 l2 = some r) : a0.size ≤ 140737488351232 ∧ ∀ y ∈ l1, y.size ≤ 140737488351232 := by
  unfold ententelaw17_WalBack.f at h
  split at h
  · assumption
  · cases h
set_option maxHeartbeats 16000000 in
set_option maxRecDepth 100000 in
theorem ententelaw17_WalBack.calls (k : Nat) (a0 : ByteArray) (A1 : Option Addr) (c1 : Nat) (l1 : List ByteArray) (A2 : Option Addr) (c2 : Nat) (l2 : List Bool) (r : Bool) (w : World) (hr1 : Kd.C Kd.string w A1 l1.length l1) (hc1 : l1.length ≤ c1) (hr2 : Kd.C Kd.bool w A2 l2.length l2) (hc2 : l2.length ≤ c2) (ht : r = true) (h : ententelaw17_WalBack.f k a0 l1 l2 = some r) :
    Calls Try.prog 4 #[.string a0, .slice A1 l1.length c1, .slice A2 l2.length c2] w fun e w' => e = .returned (.bool r) ∧ Below w.heap.size w w' := by
  subst ht
  obtain ⟨hq0, hq1⟩ := ententelaw17_WalBack.ok h
  have HR1 := Aside0.mk hr1
  have HR2 := Aside0.mk hr2
  have HQ := Aside0.mk hq1
  have HB := Aside0.mk (Below.refl w.heap.size w)
  clear h hr1 hc1 hr2 hc2 hq1 hq0
  by_cases d1 : a0.size > 30000
  · have b1 : decide ((30000 : Int) < (a0.size : Int)) = true := decide_eq_true (by omega)
    clear d1
    go_enter Try.func4, Try.ntmps4
    go_wp2_with ((with_reducible refine gate_callee (f := 11) rfl ?_); refine goesL_ (some 36) rfl rfl Try.func11 (by kernel_rfl) rfl #[] rfl My.gx ?_; (refine (awake.calls _).mono ?_); rintro e W36 ⟨rfl, hb⟩; refine ⟨_, rfl, ?_⟩; replace HB := Aside0.mk (HB.out.trans (hb.mono HB.out.size)); clear hb)
    go_ret
    exact ⟨rfl, HB.out⟩
  have b1 : decide ((30000 : Int) < (a0.size : Int)) = false := decide_eq_false (by omega)
  by_cases d2 : l1.length > 60
  · have b2 : decide ((60 : Int) < (l1.length : Int)) = true := decide_eq_true (by omega)
    clear d1 d2
    go_enter Try.func4, Try.ntmps4
    go_wp2_with ((with_reducible refine gate_callee (f := 11) rfl ?_); refine goesL_ (some 36) rfl rfl Try.func11 (by kernel_rfl) rfl #[] rfl My.gx ?_; (refine (awake.calls _).mono ?_); rintro e W36 ⟨rfl, hb⟩; refine ⟨_, rfl, ?_⟩; replace HB := Aside0.mk (HB.out.trans (hb.mono HB.out.size)); clear hb)
    go_ret
    exact ⟨rfl, HB.out⟩
  have b2 : decide ((60 : Int) < (l1.length : Int)) = false := decide_eq_false (by omega)
  by_cases d3 : l2.length > 60
  · have b3 : decide ((60 : Int) < (l2.length : Int)) = true := decide_eq_true (by omega)
    clear d1 d2 d3
    go_enter Try.func4, Try.ntmps4
    go_wp2_with ((with_reducible refine gate_callee (f := 11) rfl ?_); refine goesL_ (some 36) rfl rfl Try.func11 (by kernel_rfl) rfl #[] rfl My.gx ?_; (refine (awake.calls _).mono ?_); rintro e W36 ⟨rfl, hb⟩; refine ⟨_, rfl, ?_⟩; replace HB := Aside0.mk (HB.out.trans (hb.mono HB.out.size)); clear hb)
    go_ret
    exact ⟨rfl, HB.out⟩
  have b3 : decide ((60 : Int) < (l2.length : Int)) = false := decide_eq_false (by omega)
  have HG := Aside0.mk (show a0.size ≤ 30000 ∧ l1.length ≤ 60 from ⟨by omega, by omega⟩)
  clear d1 d2 d3
  go_enter Try.func4, Try.ntmps4
  go_wp2
  go_loopg [7, 8] (l1.length + 1) (fun kq v7 v8 w' => ∃ (i : Nat) (x n : Int), v7 = .int .i64 n ∧ v8 = .int .i64 x ∧ Aside0 (x = (i : Int)) ∧ Aside0 (n = (a0.size : Int) + smB (l1.take i)) ∧ Aside0 (kq + i = l1.length + 1) ∧ Aside0 (i ≤ l1.length) ∧ Aside0 (n ≤ 90000) ∧ Aside0 (Below w.heap.size w w'))
  case atStart => exact ⟨0, _, _, rfl, rfl, ⟨rfl⟩, ⟨by rw [List.take_zero]; exact (Int.add_zero _).symm⟩, ⟨rfl⟩, ⟨Nat.zero_le _⟩, ⟨by have := HG.out; omega⟩, HB⟩
  case round =>
    clear HB
    obtain ⟨i, x, n, rfl, rfl, hx, hn, hk, hi, hn9, HB⟩ := hrel
    by_cases c9 : i < l1.length
    · have q1 : x < (l1.length : Int) := by have := hx.out; omega
      have p1 : (0 : Int) ≤ x := by have := hx.out; omega
      have t3 : decide (x < (l1.length : Int)) = true := decide_eq_true q1
      obtain ⟨ad, e1, x0⟩ := Kd.at_string (Kd.C_below HR1.out HB.out) x p1 q1
      cases e1
      have htk := take_S l1 i c9
      rw [← hx.out] at htk
      obtain ⟨F, hF⟩ : ∃ F, rdOf ByteArray.empty l1 x = F := ⟨_, rfl⟩
      rw [hF] at x0 htk
      have hsm : smB (l1.take (i + 1)) = smB (l1.take i) + (mn (F.size : Int) 50000 + 30) := by rw [htk, smB_app]; simp [smB]
      obtain ⟨j, hj⟩ : ∃ j : Int, mn (F.size : Int) 50000 = j := ⟨_, rfl⟩
      rw [hj] at hsm
      have hjb : 0 ≤ j ∧ j ≤ 50000 := by rw [← hj]; unfold mn; split <;> omega
      have hj_ : (if 50000 < (F.size : Int) then 50000 else (F.size : Int)) = j := hj
      have hnn := smB_nonneg (l1.take i)
      have hw1 : wrap64 (n + (j + 30)) = n + (j + 30) := by have := hn.out; have := hn9.out; unfold wrap64; omega
      have hw2 : wrap64 (x + 1) = x + 1 := by have := HG.out; have := hx.out; unfold wrap64; omega
      have HW1 := Aside0.mk hw1
      have HW2 := Aside0.mk hw2
      have HSM := Aside0.mk hsm
      have HI := Aside0.mk c9
      have p2 := eq_true p1
      have q2 := eq_true q1
      clear htk hF hj hsm hnn c9
      by_cases c8 : n + (j + 30) > 90000
      · have t4 : decide ((90000 : Int) < n + (j + 30)) = true := decide_eq_true (by omega)
        clear c8 hjb
        go_wp2_with ((with_reducible refine gate_callee (f := 11) rfl ?_); refine goesL_ (some 56) rfl rfl Try.func11 (by kernel_rfl) rfl #[] rfl My.gx ?_; (refine (awake.calls _).mono ?_); rintro e W56 ⟨rfl, hb⟩; refine ⟨_, rfl, ?_⟩; replace HB := Aside0.mk (HB.out.trans (hb.mono HB.out.size)); clear hb)
        go_ret
        exact ⟨rfl, HB.out⟩
      · have t4 : decide ((90000 : Int) < n + (j + 30)) = false := decide_eq_false (by omega)
        have C8 := Aside0.mk c8
        clear c8 hjb
        go_wp2
        have hI := HI.out
        have hx1 := hx.out
        have hk1 := hk.out
        go_roundg (l1.length - i)
        case measure => omega
        case rel => exact ⟨i + 1, x + 1, n + (j + 30), by first | rfl | (rw [HW1.out]), by first | rfl | (rw [HW2.out]), ⟨by omega⟩, ⟨by have h1 := HSM.out; have h2 := hn.out; omega⟩, ⟨by omega⟩, ⟨by omega⟩, ⟨by have := C8.out; omega⟩, HB⟩
    · have t3 : decide (x < (l1.length : Int)) = false := decide_eq_false (by have := hx.out; have := hi.out; omega)
      have hall : (a0.size : Int) + smB l1 ≤ 90000 := by
        have h1 := hn.out
        have h2 := hn9.out
        rw [List.take_of_length_le (by omega)] at h1
        omega
      have HALL := Aside0.mk hall
      clear hx hn hk hi hn9 c9 hall
      go_wp2_with (first
      | ((with_reducible refine gate_callee (f := 12) rfl ?_); refine goesL_ (some 58) rfl rfl Try.func12 (by kernel_rfl) rfl #[.int .i64 200000] rfl My.gx ?_; (refine (bk_new _ 200000 (by decide)).mono ?_); rintro e W58 ⟨p, bm, rfl, hb, hD⟩; refine ⟨_, rfl, ?_⟩; have HD := Aside0.mk (hD.lower HB.out.size); replace HB := Aside0.mk (HB.out.trans (hb.mono HB.out.size)); clear hb hD)
      | ((with_reducible refine gate_callee (f := 10) rfl ?_); refine goesL_ (some 64) rfl rfl Try.func10 (by kernel_rfl) rfl #[.pointer (some ⟨p, 0, none⟩), .string a0] rfl My.gx ?_; (refine (bk_open1 HD.out a0 HG.out.1).mono ?_); rintro e W64 ⟨s1, q1, g1, A9, c9, rfl, hW, hrm, har, hD, hF, hq, hg, hL, hR⟩; refine ⟨_, rfl, ?_⟩; have HI := Aside0.mk (show BkI w W64 p bm q1 g1 s1 1 [a0] A9 c9 1 ((a0.size : Int) + 30) from ⟨hD, hL, hW, har, hrm, by decide, by simp, (by have h1 := fr_small a0 HG.out.1; rw [← catF_size, catF_one]; omega), Kd.R_lower hR HB.out.size, Nat.le_trans HB.out.size hq, Nat.le_trans HB.out.size hg, below_disk HB.out HD.out hF HB.out.size⟩); clear hW hrm har hD hF hq hg hL hR HD HB))
      go_loopg [11, 12, 14] (l1.length + 1) (fun kq v11 v12 v14 w' => ∃ (i : Nat) (x : Int) (q g : Nat) (s : DS) (n : Int) (h : List ByteArray) (A : Option Addr) (c : Nat), v11 = .pointer (some ⟨q, 0, none⟩) ∧ v12 = .slice A h.length c ∧ v14 = .int .i64 x ∧ Aside0 (x = (i : Int)) ∧ Aside0 (kq + i = l1.length + 1) ∧ Aside0 (i ≤ l1.length) ∧ Aside0 (BkI w w' p bm q g s n h A c (1 + i) ((a0.size : Int) + 30 + smB (l1.take i))))
      case atStart => exact ⟨0, _, _, _, _, _, _, _, _, rfl, rfl, rfl, ⟨rfl⟩, ⟨rfl⟩, ⟨Nat.zero_le _⟩, ⟨by rw [List.take_zero]; exact HI.out⟩⟩
      case round =>
        clear HI
        obtain ⟨i, x, q, g, s, n, h, A, c, rfl, rfl, rfl, hx, hk, hi, HI⟩ := hrel
        by_cases c9 : i < l1.length
        · have q1 : x < (l1.length : Int) := by have := hx.out; omega
          have p1 : (0 : Int) ≤ x := by have := hx.out; omega
          have t3 : decide (x < (l1.length : Int)) = true := decide_eq_true q1
          obtain ⟨ad, e1, x0⟩ := Kd.at_string HR1.out x p1 q1
          cases e1
          have htk := take_S l1 i c9
          have hmem := HQ.out _ (mem_S l1 i c9)
          rw [← hx.out] at htk hmem
          obtain ⟨F, hF⟩ : ∃ F, rdOf ByteArray.empty l1 x = F := ⟨_, rfl⟩
          rw [hF] at x0 htk hmem
          have hsm : smB (l1.take (i + 1)) = smB (l1.take i) + (mn (F.size : Int) 50000 + 30) := by rw [htk, smB_app]; simp [smB]
          have hu : 0 ≤ (a0.size : Int) + 30 + smB (l1.take i) ∧ (a0.size : Int) + 30 + smB (l1.take i) ≤ 100000 := by
            have h1 := smB_nonneg (l1.take i)
            have h2 := smB_nonneg (l1.drop i)
            have h3 := smB_app (l1.take i) (l1.drop i)
            rw [List.take_append_drop] at h3
            have := HALL.out
            omega
          have HU := Aside0.mk hu
          have HU2 := Aside0.mk (show (a0.size : Int) + 30 + smB (l1.take i) + (mn (F.size : Int) 50000 + 30) ≤ (a0.size : Int) + 30 + smB (l1.take (i + 1)) by rw [hsm]; omega)
          have HJ := Aside0.mk (show 1 + i ≤ 1000 by have := HG.out; omega)
          have HM := Aside0.mk hmem
          have hw2 : wrap64 (x + 1) = x + 1 := by have := HG.out; have := hx.out; unfold wrap64; omega
          have HW2 := Aside0.mk hw2
          have HCI := Aside0.mk c9
          have X0 := Aside0.mk x0
          have p2 := eq_true p1
          have q2 := eq_true q1
          clear htk hmem hF hsm hu c9 hw2 x0
          go_upto_region 18 with (fail)
          go_cut [89] (fun v89 wc => ∃ T : Bool, v89 = .bool T ∧ Aside0 (BkI w wc p bm q g s n h A c (1 + i) ((a0.size : Int) + 30 + smB (l1.take i))))
          case first =>
            by_cases c10 : x < (l2.length : Int)
            · have t10 : decide (x < (l2.length : Int)) = true := decide_eq_true c10
              obtain ⟨ad2, e2, y0'⟩ := Kd.at_bool HR2.out x p1 c10
              have y0 := (HI.out.B.cell (World.block_lt_of_cell? w _ y0')).trans y0'
              cases e2
              have c10t := eq_true c10
              clear y0'
              obtain ⟨T, hT⟩ : ∃ T, rdOf false l2 x = T := ⟨_, rfl⟩
              rw [hT] at y0
              clear hT
              go_wp2
              go_meet
              exact ⟨T, rfl, HI⟩
            · have t10 : decide (x < (l2.length : Int)) = false := decide_eq_false c10
              clear c10
              go_wp2
              go_meet
              exact ⟨false, rfl, HI⟩
          case rest =>
          clear HI
          obtain ⟨T, rfl, HI⟩ := hcut
          go_upto_if 89 with (fail)
          go_cut [12, 15] (fun v12 v15 wc => ∃ (er : Int) (g : Nat) (s : DS) (n : Int) (h : List ByteArray) (A : Option Addr) (c : Nat), v12 = .slice A h.length c ∧ v15 = .int .i64 er ∧ Aside0 (er = 0 ∨ 30000 < F.size) ∧ Aside0 (BkI w wc p bm q g s n h A c (1 + i + 1) ((a0.size : Int) + 30 + smB (l1.take (i + 1)))))
          case first =>
            have x0 := (HI.out.B.cell (World.block_lt_of_cell? w _ X0.out)).trans X0.out
            cases T with
            | true =>
              go_upto_region 20 with ((with_reducible refine gate_callee (f := 7) rfl ?_); refine goesL_ (some 95) rfl rfl Try.func7 (by kernel_rfl) rfl #[.pointer (some ⟨q, 0, none⟩), .string F] rfl My.gx ?_; (refine (bk_turn HI.out HJ.out HU.out F HM.out _ HU2.out).mono ?_); rintro e W95 ⟨er, s2, rfl, hb, hP⟩; refine ⟨_, rfl, ?_⟩; have HP := Aside0.mk hP; have HB2 := Aside0.mk hb; clear hP hb x0)
              have x0 := (HB2.out.cell (World.block_lt_of_cell? w _ X0.out)).trans X0.out
              rcases HP.out with ⟨rfl, g2, hI2⟩ | ⟨e0, e1, rfl, hI2⟩
              · have HI2 := Aside0.mk hI2
                clear hI2 HP
                go_wp2
                go_meet
                exact ⟨0, g2, _, _, [F], _, _, rfl, rfl, ⟨.inl rfl⟩, ⟨HI2.out _ _ _ (below_alloc (Below.refl _ _) _) (one_row _ _ HB2.out.size F)⟩⟩
              · have HI2 := Aside0.mk hI2
                have E1 := Aside0.mk e1
                have m1 : decide (er = 0) = false := decide_eq_false e0
                have m2 : (er == 0) = false := beq_eq_false_iff_ne.2 e0
                clear hI2 HP e0 e1
                go_wp2
                go_meet
                exact ⟨er, g, _, _, h, A, c, rfl, rfl, ⟨.inr E1.out⟩, HI2⟩
            | false =>
              go_upto_region 23 with ((with_reducible refine gate_callee (f := 6) rfl ?_); refine goesL_ (some 108) rfl rfl Try.func6 (by kernel_rfl) rfl #[.pointer (some ⟨q, 0, none⟩), .string F] rfl My.gx ?_; (refine (bk_append HI.out HJ.out HU.out F HM.out _ HU2.out).mono ?_); rintro e W108 ⟨er, s2, rfl, hb, hP⟩; refine ⟨_, rfl, ?_⟩; have HP := Aside0.mk hP; have HB2 := Aside0.mk hb; clear hP hb x0)
              have x0 := (HB2.out.cell (World.block_lt_of_cell? w _ X0.out)).trans X0.out
              rcases HP.out with ⟨rfl, hR2, hI2⟩ | ⟨e0, e1, rfl, hI2⟩
              · have HI2 := Aside0.mk hI2
                have HR3 := Aside0.mk hR2
                have HWI := Aside0.mk (with_some h F (by have := HI.out.len; have := HJ.out; omega))
                clear hI2 HP hR2
                go_wp2_with ((with_reducible refine gate_callee (f := 13) rfl ?_); refine goesL_ (some 116) rfl rfl Try.func13 (by kernel_rfl) rfl #[.slice A h.length c, .string F] rfl My.gx ?_; (refine (ententelaw17_with.calls A c h F _ _ (Kd.R_reads' HR3.out).2.2 (Kd.R_reads' HR3.out).2.1 HWI.out).mono ?_); rintro e W116 ⟨v, rfl, hR, hb⟩; refine ⟨_, rfl, ?_⟩; obtain ⟨A5, c5, rfl⟩ := Kd.R_slice hR; have HI3 := Aside0.mk (HI2.out _ A5 c5 hb (Kd.R_lower hR HB2.out.size)); clear hR hb HR3 HI2 x0)
                go_meet
                exact ⟨0, g, _, _, h ++ [F], _, _, (by rw [List.length_append, List.length_singleton]), rfl, ⟨.inl rfl⟩, HI3⟩
              · have HI2 := Aside0.mk hI2
                have E1 := Aside0.mk e1
                have m1 : decide (er = 0) = false := decide_eq_false e0
                have m2 : (er == 0) = false := beq_eq_false_iff_ne.2 e0
                clear hI2 HP e0 e1
                go_wp2
                go_meet
                exact ⟨er, g, _, _, h, A, c, rfl, rfl, ⟨.inr E1.out⟩, HI2⟩
          case rest =>
            clear HI
            obtain ⟨er, g, s, n, h, A, c, rfl, rfl, her, HI⟩ := hcut
            go_upto_region 25 with (fail)
            go_cut [15, 126] (fun v15 v126 wc => v15 = .int .i64 er ∧ v126 = .bool false ∧ Aside0 (BkI w wc p bm q g s n h A c (1 + i + 1) ((a0.size : Int) + 30 + smB (l1.take (i + 1)))))
            case first =>
              by_cases e0 : er = 0
              · subst e0
                go_wp2
                go_meet
                exact ⟨rfl, rfl, HI⟩
              · have m1 : decide (er = 0) = false := decide_eq_false e0
                have m2 : (er == 0) = false := beq_eq_false_iff_ne.2 e0
                have m3 : (er != 0) = true := by simp [bne, m2]
                have m4 : decide ((F.size : Int) ≤ 30000) = false := decide_eq_false (by rcases her.out with h | h; exact absurd h e0; omega)
                have x0 := (HI.out.B.cell (World.block_lt_of_cell? w _ X0.out)).trans X0.out
                clear e0
                go_wp2
                go_meet
                exact ⟨rfl, rfl, HI⟩
            case rest =>
              clear HI
              obtain ⟨rfl, rfl, HI⟩ := hcut
              obtain ⟨ks, hks⟩ := (same_ev h (by have := HI.out.len; have := HJ.out; omega)).rounds
              have HKS := Aside0.mk hks
              obtain ⟨z, hz⟩ : ∃ z : Int, ((FRL 3 h).length : Int) = z := ⟨_, rfl⟩
              have HZ := Aside0.mk hz
              have u1 : (z != z) = false := by simp
              have u2 : (n != n) = false := by simp
              clear hks hz
              go_wp2_with (first
      | ((with_reducible refine gate_callee (f := 14) rfl ?_); refine goesL_ (some 128) rfl rfl Try.func14 (by kernel_rfl) rfl #[.pointer (some ⟨p, 0, none⟩)] rfl My.gx ?_; (refine (disk_Disk_Image.calls HI.out.D).mono ?_); rintro e W128 ⟨v, rfl, hR, hb⟩; refine ⟨_, rfl, ?_⟩; obtain ⟨Ai, ci, rfl⟩ := Kd.R_slice hR; have HIM := Aside0.mk hR; replace HI := Aside0.mk (HI.out.up hb); clear hR hb)
      | ((with_reducible refine gate_callee (f := 10) rfl ?_); refine goesL_ (some 131) rfl rfl Try.func10 (by kernel_rfl) rfl #[.pointer (some ⟨p, 0, none⟩), .string ⟨#[111, 116, 104, 101, 114]⟩] rfl My.gx ?_; (refine (bk_open HI.out ⟨#[111, 116, 104, 101, 114]⟩ (by decide)).mono ?_); rintro e W131 ⟨q2, g2, A2, d2, rfl, h1, h2, hF⟩; refine ⟨_, rfl, ?_⟩; replace HIM := Aside0.mk (imgs_disk HIM.out HI.out.D hF); replace HI := Aside0.mk h1; have HM2 := Aside0.mk h2; clear h1 h2 hF)
      | ((with_reducible refine gate_callee (f := 10) rfl ?_); refine goesL_ (some 138) rfl rfl Try.func10 (by kernel_rfl) rfl #[.pointer (some ⟨p, 0, none⟩), .string a0] rfl My.gx ?_; (refine (bk_open HI.out a0 HG.out.1).mono ?_); rintro e W138 ⟨q3, g3, A3, d3, rfl, h1, h3, hF⟩; refine ⟨_, rfl, ?_⟩; replace HIM := Aside0.mk (imgs_disk HIM.out HI.out.D hF); replace HM2 := Aside0.mk (HM2.out.fr h1.D hF); replace HI := Aside0.mk h1; have HM3 := Aside0.mk h3; clear h1 h3 hF)
      | ((with_reducible refine gate_callee (f := 15) rfl ?_); (refine gate_guard (by rfl) ?_; dsimp only); refine goesL_ (some 159) rfl rfl Try.func15 (by kernel_rfl) rfl #[.slice A2 h.length d2, .slice A h.length c] rfl My.gx ?_; (refine (ententeref01_Same.calls ks A2 d2 h A c h true _ HM2.out.reads.1 HM2.out.reads.2 HI.out.reads.1 HI.out.reads.2 HKS.out).mono ?_); rintro e W159 ⟨rfl, hdr⟩; refine ⟨_, rfl, ?_⟩; have hb := hdr.below; replace HI := Aside0.mk (HI.out.up hb); replace HM2 := Aside0.mk (HM2.out.up hb); replace HM3 := Aside0.mk (HM3.out.up hb); replace HIM := Aside0.mk (Kd.R_below HIM.out hb); clear hb hdr)
      | ((with_reducible refine gate_callee (f := 15) rfl ?_); (refine gate_guard (by rfl) ?_; dsimp only); refine goesL_ (some 165) rfl rfl Try.func15 (by kernel_rfl) rfl #[.slice A3 h.length d3, .slice A h.length c] rfl My.gx ?_; (refine (ententeref01_Same.calls ks A3 d3 h A c h true _ HM3.out.reads.1 HM3.out.reads.2 HI.out.reads.1 HI.out.reads.2 HKS.out).mono ?_); rintro e W165 ⟨rfl, hdr⟩; refine ⟨_, rfl, ?_⟩; have hb := hdr.below; replace HI := Aside0.mk (HI.out.up hb); replace HM2 := Aside0.mk (HM2.out.up hb); replace HM3 := Aside0.mk (HM3.out.up hb); replace HIM := Aside0.mk (Kd.R_below HIM.out hb); clear hb hdr)
      | ((with_reducible refine gate_callee (f := 14) rfl ?_); (refine gate_guard (by rfl) ?_; dsimp only); refine goesL_ (some 170) rfl rfl Try.func14 (by kernel_rfl) rfl #[.pointer (some ⟨p, 0, none⟩)] rfl My.gx ?_; (refine (disk_Disk_Image.calls HI.out.D).mono ?_); rintro e W170 ⟨v, rfl, hR, hb⟩; refine ⟨_, rfl, ?_⟩; obtain ⟨Aj, cj, rfl⟩ := Kd.R_slice hR; have HIN := Aside0.mk hR; replace HI := Aside0.mk (HI.out.up hb); replace HM2 := Aside0.mk (HM2.out.up hb); replace HM3 := Aside0.mk (HM3.out.up hb); replace HIM := Aside0.mk (Kd.R_below HIM.out hb); clear hR hb)
      | ((with_reducible refine gate_callee (f := 16) rfl ?_); (refine gate_guard (by rfl) ?_; dsimp only); refine goesL_ (some 172) rfl rfl Try.func16 (by kernel_rfl) rfl #[.slice Aj s.L.length cj, .slice Ai s.L.length ci] rfl My.gx ?_; (refine (ref_Same.calls Aj cj Ai ci s.L (by have := HI.out.D.inv.len; omega) (Kd.R_reads' HIN.out).2.2 (Kd.R_reads' HIM.out).2.2).mono ?_); rintro e W172 ⟨rfl, hb⟩; refine ⟨_, rfl, ?_⟩; clear HIN; replace HI := Aside0.mk (HI.out.up hb); replace HM2 := Aside0.mk (HM2.out.up hb); replace HM3 := Aside0.mk (HM3.out.up hb); replace HIM := Aside0.mk (Kd.R_below HIM.out hb); clear hb)
      | ((with_reducible refine gate_callee (f := 9) rfl ?_); (refine gate_guard (by rfl) ?_; dsimp only); refine goesL_ (some 177) rfl rfl Try.func9 (by kernel_rfl) rfl #[.pointer (some ⟨q2, 0, none⟩)] rfl My.gx ?_; (refine (log_Size.calls HM2.out.L).mono ?_); rintro e W177 ⟨rfl, hb⟩; refine ⟨_, rfl, ?_⟩; replace HI := Aside0.mk (HI.out.up hb); replace HM2 := Aside0.mk (HM2.out.up hb); replace HM3 := Aside0.mk (HM3.out.up hb); replace HIM := Aside0.mk (Kd.R_below HIM.out hb); clear hb; dsimp only; rw [HZ.out])
      | ((with_reducible refine gate_callee (f := 9) rfl ?_); (refine gate_guard (by rfl) ?_; dsimp only); refine goesL_ (some 179) rfl rfl Try.func9 (by kernel_rfl) rfl #[.pointer (some ⟨q, 0, none⟩)] rfl My.gx ?_; (refine (log_Size.calls HI.out.L).mono ?_); rintro e W179 ⟨rfl, hb⟩; refine ⟨_, rfl, ?_⟩; replace HI := Aside0.mk (HI.out.up hb); replace HM2 := Aside0.mk (HM2.out.up hb); replace HM3 := Aside0.mk (HM3.out.up hb); replace HIM := Aside0.mk (Kd.R_below HIM.out hb); clear hb; dsimp only; rw [HZ.out])
      | ((with_reducible refine gate_callee (f := 8) rfl ?_); (refine gate_guard (by rfl) ?_; dsimp only); refine goesL_ (some 184) rfl rfl Try.func8 (by kernel_rfl) rfl #[.pointer (some ⟨q2, 0, none⟩)] rfl My.gx ?_; (refine (log_Number.calls HM2.out.L).mono ?_); rintro e W184 ⟨rfl, hb⟩; refine ⟨_, rfl, ?_⟩; replace HI := Aside0.mk (HI.out.up hb); replace HM2 := Aside0.mk (HM2.out.up hb); replace HM3 := Aside0.mk (HM3.out.up hb); replace HIM := Aside0.mk (Kd.R_below HIM.out hb); clear hb; dsimp only)
      | ((with_reducible refine gate_callee (f := 8) rfl ?_); (refine gate_guard (by rfl) ?_; dsimp only); refine goesL_ (some 186) rfl rfl Try.func8 (by kernel_rfl) rfl #[.pointer (some ⟨q, 0, none⟩)] rfl My.gx ?_; (refine (log_Number.calls HI.out.L).mono ?_); rintro e W186 ⟨rfl, hb⟩; refine ⟨_, rfl, ?_⟩; replace HI := Aside0.mk (HI.out.up hb); replace HM2 := Aside0.mk (HM2.out.up hb); replace HM3 := Aside0.mk (HM3.out.up hb); replace HIM := Aside0.mk (Kd.R_below HIM.out hb); clear hb; dsimp only))
              have hI := HCI.out
              have hx1 := hx.out
              have hk1 := hk.out
              go_roundg (l1.length - i)
              case measure => omega
              case rel => exact ⟨i + 1, x + 1, _, _, s, n, h, A, c, rfl, rfl, by first | rfl | (rw [HW2.out]), ⟨by omega⟩, ⟨by omega⟩, ⟨by omega⟩, ⟨HI.out.mix HM3.out⟩⟩
        · have t3 : decide (x < (l1.length : Int)) = false := decide_eq_false (by have := hx.out; have := hi.out; omega)
          have HB := Aside0.mk HI.out.B
          clear HI hx hk hi c9
          go_wp2_with ((with_reducible refine gate_callee (f := 11) rfl ?_); refine goesL_ (some 190) rfl rfl Try.func11 (by kernel_rfl) rfl #[] rfl My.gx ?_; (refine (awake.calls _).mono ?_); rintro e W190 ⟨rfl, hb⟩; refine ⟨_, rfl, ?_⟩; replace HB := Aside0.mk (HB.out.trans (hb.mono HB.out.size)); clear hb)
          go_ret
          exact ⟨rfl, HB.out⟩

/-- THE ONE PURE STATEMENT of ententelaw17_WalBack. -/
def ententelaw17_WalBack.Pure : Prop := ∀ (a0 : ByteArray) (l1 : List ByteArray) (l2 : List Bool), a0.size ≤ 140737488351232 → (l1.length ≤ 9223372036854775807 ∧ l1.length * 16 ≤ 140737488351232 ∧ ∀ y_ ∈ l1, y_.size ≤ 140737488351232) → (l2.length ≤ 9223372036854775807 ∧ l2.length * 1 ≤ 140737488351232 ∧ ∀ y_ ∈ l2, True) → ∃ k, ententelaw17_WalBack.f k a0 l1 l2 = some true

end Go.Proofs.Ytkcpgaplpmbmoaa.PA
