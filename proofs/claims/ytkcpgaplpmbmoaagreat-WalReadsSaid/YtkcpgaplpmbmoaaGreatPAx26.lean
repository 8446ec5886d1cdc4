/- A log on a disk, and the document's, walked by hand; Lean checks it. -/
import Derived.Test.YtkcpgaplpmbmoaaGreatPAx24
import Derived.Test.YtkcpgaplpmbmoaaGreatPAx25
namespace Go.Proofs.YtkcpgaplpmbmoaaGreat.PA
open Go.RowKit Go.Proofs.YtkcpgaplpmbmoaaGreatW.PrintWords Go.Proofs.YtkcpgaplpmbmoaaGreatW.PrintLast Go.Proofs.YtkcpgaplpmbmoaaGreatW.PrintMore
attribute [local go_sem] max2_int min2_int max_two min_two max_three min_three max_four min_four
set_option linter.unusedVariables false
set_option linter.unusedSimpArgs false

open Go.Proofs.YtkcpgaplpmbmoaaGreat.Num
/-! #### WalReads -/
def smW : List S24 → Int
  | [] => 0
  | f :: r => mn (f.f1.size : Int) 100000 + 20 + smW r
theorem smW_app (a b : List S24) : smW (a ++ b) = smW a + smW b := by
  induction a with
  | nil => simp [smW]
  | cons x r ih => simp only [List.cons_append, smW, ih]; omega
theorem smW_nonneg (l : List S24) : 0 ≤ smW l := by
  induction l with
  | nil => exact Int.le_refl _
  | cons x r ih =>
    simp only [smW]
    unfold mn
    split <;> omega
theorem smW_all (l : List S24) (h : smW l ≤ 60000) : 20 * (l.length : Int) ≤ smW l ∧ ∀ f ∈ l, f.f1.size ≤ 60000 := by
  induction l with
  | nil => exact ⟨by simp [smW], fun f hf => by cases hf⟩
  | cons x r ih =>
    have h0 := smW_nonneg r
    simp only [smW] at h ⊢
    have hm : 0 ≤ mn (x.f1.size : Int) 100000 := by unfold mn; split <;> omega
    obtain ⟨h1, h2⟩ := ih (by omega)
    refine ⟨by rw [List.length_cons]; omega, fun f hf => ?_⟩
    rcases List.mem_cons.1 hf with rfl | hf
    · unfold mn at h
      split at h <;> omega
    · exact h2 f hf
/-- What both looks tell of the same files. -/
theorem looks_both (l : List S24) (hl : l.length ≤ 3000) (hz : ∀ f ∈ l, f.f1.size ≤ 60000) : ∃ R : Int × Int × List ByteArray × List Int × Int, Ev (fun k => segment_Look.f k l) R ∧ Ev (fun k => ententeref16_Look.f k l) R ∧ R.2.2.2.1.length ≤ 1000000 ∧ (R.1 = -1 ∨ R.1 = 0 ∨ R.1 ∈ l.map S24.f0) ∧ ∀ x ∈ R.2.2.2.1, x ∈ l.map S24.f0 := by
  have hex : ∀ f : S24, ∃ r : List ByteArray × Int × Int, f ∈ l → r.1.length ≤ 1000000 ∧ Ev (fun k => seal_Cut.f k f.f1 3) r ∧ Ev (fun k => ententeref02_Cut.f k f.f1 3) r := fun f => by
    by_cases hf : f ∈ l
    · obtain ⟨r, h⟩ := cut_three f.f1 (by have := hz f hf; omega)
      exact ⟨r, fun _ => h⟩
    · exact ⟨([], 0, 0), fun h => absurd h hf⟩
  obtain ⟨C, hC⟩ := Classical.axiomOfChoice hex
  have h1 := look_ev C l (by omega) (fun f hf => by have := hz f hf; omega) (fun f hf => (hC f hf).2.1)
  have h2 := rlook_ev C l (by omega) (fun f hf => by have := hz f hf; omega) (fun f hf => (hC f hf).2.2)
  have key : ∀ n, n ≤ l.length → ((LS C l n).1 = -1 ∨ (LS C l n).1 = 0 ∨ (LS C l n).1 ∈ l.map S24.f0) ∧ ∀ x ∈ (LS C l n).2.2.2.1, x ∈ l.map S24.f0 := by
    intro n
    induction n with
    | zero => intro _; exact ⟨.inl rfl, fun x hx => hx⟩
    | succ n ih =>
      intro hn
      have hm : rd_T24 l (n : Int) ∈ l := by rw [rd46 l n (by omega)]; exact List.getElem_mem _
      simp only [LS]
      split
      · exact ih (by omega)
      · split
        · exact ⟨.inr (.inl rfl), fun x hx => by cases hx⟩
        · refine ⟨.inr (.inr (List.mem_map.2 ⟨_, hm, rfl⟩)), fun x hx => ?_⟩
          obtain ⟨y, hy, rfl⟩ := List.mem_map.1 hx
          rcases List.mem_append.1 hy with hy | hy
          · exact List.mem_map.2 ⟨y, List.mem_of_mem_take hy, rfl⟩
          · exact List.mem_map.2 ⟨y, List.mem_of_mem_drop hy, rfl⟩
  have hk := key l.length (Nat.le_refl _)
  have hs := ls_small C l (by omega) (fun f hf => (hC f hf).1) l.length (Nat.le_refl _)
  by_cases c : segment_Look.sorted l = true
  · rw [if_pos c] at h1 h2
    exact ⟨_, h1, h2, hs.2, hk.1, hk.2⟩
  · rw [if_neg c] at h1 h2
    exact ⟨_, h1, h2, by simp, .inr (.inl rfl), fun x hx => by cases hx⟩
theorem bytes_eq {x y : ByteArray} (h : x.toList = y.toList) : x = y := by
  rw [ByteArray.toList_eq, ByteArray.toList_eq] at h
  exact ByteArray.ext (Array.ext' h)
theorem same_ev (l : List ByteArray) (hl : l.length ≤ 9223372036854775807) : Ev (fun k => ententeref01_Same.f k l l) true := by
  have key : ∀ (d i : Nat), i + d = l.length → Ev (fun k => ententeref01_Same.l0 k l l (i : Int)) true := by
    intro d
    induction d with
    | zero =>
      intro i hi
      refine Ev.step (fun k => by rw [ententeref01_Same.l0]) ?_
      exact ev_neg (by omega) (Ev.now _)
    | succ d ih =>
      intro i hi
      have e1 : wrap64 ((i : Int) + 1) = ((i + 1 : Nat) : Int) := by unfold wrap64; omega
      refine Ev.step (fun k => by rw [ententeref01_Same.l0]) ?_
      refine ev_pos (by omega) (ev_pos (by omega) (ev_pos (by omega) (ev_pos rfl ?_)))
      rw [e1]
      exact ih (i + 1) (by omega)
  unfold ententeref01_Same.f
  exact ev_pos rfl (key l.length 0 (by omega))
theorem take24 (l : List S24) (i : Nat) (h : i < l.length) : l.take (i + 1) = l.take i ++ [rd_T24 l (i : Int)] := by
  rw [List.take_add_one, List.getElem?_eq_getElem h, Option.toList_some, rd46 l i h]
def wd.T16 : Bool × List (List Nat × List Nat) := (true, [([], []), ([], []), ([0, 1], [0, 1]), ([2], [2]), ([3], [3]), ([4, 3], [3, 4]), ([3], [3]), ([6, 3], [3, 6]), ([5, 7, 3], [3, 5, 7]), ([3, 8], [3, 8]), ([9, 3], [9]), ([10], [10]), ([10], [10]), ([11, 12, 10, 10], [10, 11, 12]), ([10, 13], [10, 13]), ([14, 13], [14]), ([15], [15]), ([16, 15, 15], [15, 16]), ([15], [15]), ([18, 15], [15, 18]), ([19, 15], [15, 19]), ([20, 15], [15, 20]), ([17, 21, 17, 15], [15, 17, 21]), ([15, 22], [15, 22]), ([23, 22], [23]), ([24, 24], [24]), ([24, 25], [24, 25]), ([26, 25, 0, 1, 2, 3, 4, 5, 6, 7, 8, 9, 10, 11, 12, 13, 14, 15, 16, 17, 18, 19, 20, 21, 22, 23, 24, 25, 26], [26])])
def wd.B16 : List Nat := [0, 0, 3, 7, 15, 31, 15, 79, 255, 511, 1023, 2047, 2047, 8191, 16383, 32767, 65535, 131071, 65535, 327679, 851967, 1900543, 4194303, 8388607, 16777215, 33554431, 67108863, 134217727]
theorem wd.tab16 : rtab .any (opsOf Tryz.f3 16) = wd.T16 := by kernel_rfl
theorem wd.bits16 : waitsOk wd.T16.2 wd.B16 = true := by kernel_rfl
section
variable {base p bm q : Nat} {w0 w1 w W : World} {s s' : DS}
theorem RefAt.frX (h : RefAt w0 w q s) (hD : DiskAt base w p bm s') (hle : w0.heap.size ≤ base) (hf : FrX (fun k => k = p ∨ k = bm) w W) : RefAt w0 W q s :=
  h.fr hD hle ⟨hf.os, hf.tape, hf.output, hf.size, fun k hk h1 h2 => hf.block k hk (fun h => by rcases h with h | h; exact h1 h; exact h2 h)⟩
theorem load1 (l : List S24) (A : Option Addr) (c : Nat) (hr : Kd.C k24 w A l.length l) (hc : l.length ≤ c) : Calls Tryz.prog 5 #[.int .i64 70000, .slice A l.length c] w fun e w' => ∃ a er, e = .returned (.tuple #[.pointer a, .int .i64 er]) ∧ Below w.heap.size w w' ∧ ((okL 70000 l ∧ er = 0 ∧ ∃ p bm, a = some ⟨p, 0, none⟩ ∧ DiskAt w.heap.size w' p bm ⟨false, 70000, 0, [], l⟩) ∨ (¬ okL 70000 l ∧ er = 2 ∧ a = none)) :=
  (disk_Load.calls w 70000 A c l hr hc).mono (by
    rintro e w' ⟨hb, ⟨h1, p, bm, rfl, hD⟩ | ⟨h1, rfl⟩⟩
    · exact ⟨_, _, rfl, hb, .inl ⟨h1, rfl, p, bm, rfl, hD⟩⟩
    · exact ⟨_, _, rfl, hb, .inr ⟨h1, rfl, rfl⟩⟩)
theorem load2 (hb0 : Below w0.heap.size w0 w) (l : List S24) (A : Option Addr) (c : Nat) (hr : Kd.C k24 w A l.length l) (hc : l.length ≤ c) (hq : ∀ x ∈ l, x.f1.size ≤ 140737488351232) : Calls Tryz.prog 6 #[.int .i64 70000, .slice A l.length c] w fun e w' => ∃ a er, e = .returned (.tuple #[.pointer a, .int .i64 er]) ∧ Below w.heap.size w w' ∧ ((okL 70000 l ∧ er = 0 ∧ ∃ q, a = some ⟨q, 0, none⟩ ∧ RefAt w0 w' q ⟨false, 70000, 0, [], l⟩) ∨ (¬ okL 70000 l ∧ er = 2 ∧ a = none)) :=
  (ref_Load.calls hb0 70000 A c l hr hc hq).mono (by
    rintro e w' ⟨hb, ⟨h1, q, rfl, hR⟩ | ⟨h1, rfl⟩⟩
    · exact ⟨_, _, rfl, hb, .inl ⟨h1, rfl, q, rfl, hR⟩⟩
    · exact ⟨_, _, rfl, hb, .inr ⟨h1, rfl, rfl⟩⟩)
theorem DiskAt.lower {b : Nat} (h : DiskAt base w p bm s) (hb : b ≤ base) : DiskAt b w p bm s := by
  obtain ⟨kv, h1, h2⟩ := h.blk
  exact ⟨h.inv, ⟨kv, h1, Kd.R_lower h2 hb⟩, h.map, Nat.le_trans hb h.hp, Nat.le_trans hb h.hm⟩
theorem both_loads {a b : Option Addr} {e1 e2 : Int} {l : List S24} (h0 : w0.heap.size ≤ w1.heap.size) (hb : Below w.heap.size w W)
    (h1 : (okL 70000 l ∧ e1 = 0 ∧ ∃ p bm, a = some ⟨p, 0, none⟩ ∧ DiskAt w1.heap.size w p bm ⟨false, 70000, 0, [], l⟩) ∨ (¬ okL 70000 l ∧ e1 = 2 ∧ a = none))
    (h2 : (okL 70000 l ∧ e2 = 0 ∧ ∃ q, b = some ⟨q, 0, none⟩ ∧ RefAt w0 W q ⟨false, 70000, 0, [], l⟩) ∨ (¬ okL 70000 l ∧ e2 = 2 ∧ b = none)) :
    e1 = e2 ∧ ((∃ p bm q, a = some ⟨p, 0, none⟩ ∧ b = some ⟨q, 0, none⟩ ∧ DiskAt w0.heap.size W p bm ⟨false, 70000, 0, [], l⟩ ∧ RefAt w0 W q ⟨false, 70000, 0, [], l⟩) ∨ (a = none ∧ b = none)) := by
  rcases h1 with ⟨k1, rfl, p, bm, rfl, hD⟩ | ⟨k1, rfl, rfl⟩
  · rcases h2 with ⟨_, rfl, q, rfl, hR⟩ | ⟨k2, _⟩
    · exact ⟨rfl, .inl ⟨p, bm, q, rfl, rfl, (hD.lower h0).up hb, hR⟩⟩
    · exact absurd k1 k2
  · rcases h2 with ⟨k2, _⟩ | ⟨_, rfl, rfl⟩
    · exact absurd k2 k1
    · exact ⟨rfl, .inr ⟨rfl, rfl⟩⟩
def opR (s : DS) (num good : Int) (bodies : List ByteArray) (drop : List Int) (er : Int) (r1 : ByteArray) (r2 : Int) (first : ByteArray) : DS × Int × List ByteArray :=
  if er = 0 then ((begO (dropO (cutO s num good) drop) num r1 r2).1, (begO (dropO (cutO s num good) drop) num r1 r2).2, if (begO (dropO (cutO s num good) drop) num r1 r2).2 = 0 then openB num bodies first else []) else (s, er, [])
theorem open_u (hD : DiskAt base w p bm s) (hd : s.dead = false) (first : ByteArray) (k : Nat) (num good : Int) (bodies : List ByteArray) (drop : List Int) (er : Int) (hK : segment_Look.f k s.L = some (num, good, bodies, drop, er)) (r1 : ByteArray) (r2 : Int) (hB : segment_Begin.f k first = some (r1, r2)) (hr : r1.size ≤ 140737488351232) (hnum : (Lit.int .i64 num).wf = true) (hlen : drop.length ≤ 1000000) (hdw : ∀ x ∈ drop, (Lit.int .i64 x).wf = true) (s3 : DS) (e3 : Int) (bs : List ByteArray) (hop : opR s num good bodies drop er r1 r2 first = (s3, e3, bs)) :
    Calls Tryz.prog 7 #[.pointer (some ⟨p, 0, none⟩), .string first] w fun e w' => ∃ a A c, e = .returned (.tuple #[.pointer a, .slice A bs.length c, .int .i64 e3]) ∧ a.isNone = decide (e3 ≠ 0) ∧ bs.length ≤ c ∧ Kd.string.R 9 w' w.heap.size (fun _ => True) (.slice A bs.length c) bs ∧ DiskAt base w' p bm s3 ∧ FrX (fun k => k = p ∨ k = bm) w w' := by
  unfold opR at hop
  by_cases her : er = 0
  · subst her
    rw [if_pos rfl] at hop
    injection hop with h1 hop
    injection hop with h2 h3
    refine (wal_Open.calls hD hd first k num good bodies drop hK r1 r2 hB hr hnum hlen hdw).mono ?_
    rintro e w' ⟨g1, g2, g3⟩
    rw [h1] at g1
    rw [h2] at g3 h3
    rcases g3 with ⟨g3, rfl⟩ | ⟨g3, q, g, A, c, rfl, _, _, _, hR⟩
    · rw [if_neg g3] at h3
      subst h3
      exact ⟨none, none, 0, rfl, (decide_eq_true g3).symm, Nat.le_refl _, Kd.R_nil _ _ _ _ _, g1, g2⟩
    · rw [if_pos g3] at h3
      subst h3
      exact ⟨some ⟨q, 0, none⟩, A, c, by rw [g3], (decide_eq_false (fun h => h g3)).symm, (Kd.R_reads' hR).2.1, hR, g1, g2⟩
  · rw [if_neg her] at hop
    injection hop with h1 hop
    injection hop with h2 h3
    subst h1 h2 h3
    refine (wal_Open.bad hD hd first k num good bodies drop er hK her).mono ?_
    rintro e w' ⟨rfl, hb⟩
    exact ⟨none, none, 0, rfl, (decide_eq_true her).symm, Nat.le_refl _, Kd.R_nil _ _ _ _ _, hD.up hb, FrX.of hb⟩
theorem ropen_u (h : RefAt w0 w q s) (hd : s.dead = false) (first : ByteArray) (k : Nat) (num good : Int) (bodies : List ByteArray) (drop : List Int) (er : Int) (hK : ententeref16_Look.f k s.L = some (num, good, bodies, drop, er)) (r1 : ByteArray) (r2 : Int) (hB : ententeref02_Seal.f k 3 first = some (r1, r2)) (hr : r1.size ≤ 140737488351232) (hlen : drop.length ≤ 1000000) (s3 : DS) (e3 : Int) (bs : List ByteArray) (hop : opR s num good bodies drop er r1 r2 first = (s3, e3, bs)) :
    Calls Tryz.prog 8 #[.pointer (some ⟨q, 0, none⟩), .string first] w fun e w' => ∃ a A c, e = .returned (.tuple #[.pointer a, .slice A bs.length c, .int .i64 e3]) ∧ a.isNone = decide (e3 ≠ 0) ∧ bs.length ≤ c ∧ Kd.C Kd.string w' A bs.length bs ∧ RefAt w0 w' q s3 ∧ FrQ q w w' := by
  unfold opR at hop
  by_cases her : er = 0
  · subst her
    rw [if_pos rfl] at hop
    injection hop with h1 hop
    injection hop with h2 h3
    refine (ref_Open.calls h hd first k num good bodies drop hK r1 r2 hB hr hlen).mono ?_
    rintro e w' ⟨g1, g2, g3⟩
    rw [h1] at g1
    rw [h2] at g3 h3
    rcases g3 with ⟨g3, rfl⟩ | ⟨g3, a, A, c, rfl, hR⟩
    · rw [if_neg g3] at h3
      subst h3
      exact ⟨none, none, 0, rfl, (decide_eq_true g3).symm, Nat.le_refl _, Kd.C_nil _ _, g1, g2⟩
    · rw [if_pos g3] at h3
      subst h3
      exact ⟨some a, A, c, by rw [g3], (decide_eq_false (fun h => h g3)).symm, (Kd.R_reads' hR).2.1, (Kd.R_reads' hR).2.2, g1, g2⟩
  · rw [if_neg her] at hop
    injection hop with h1 hop
    injection hop with h2 h3
    subst h1 h2 h3
    refine (ref_Open.bad h hd first k num good bodies drop er hK her).mono ?_
    rintro e w' ⟨rfl, hR, hF⟩
    exact ⟨none, none, 0, rfl, (decide_eq_true her).symm, Nat.le_refl _, Kd.C_nil _ _, hR, hF⟩
theorem c_frq {b0 : Nat} {A : Option Addr} {c : Nat} {xs : List ByteArray} (hC : Kd.string.R 9 w b0 (fun _ => True) (.slice A xs.length c) xs) (hR : RefAt w0 w q s) (hf : FrQ q w W) : Kd.C Kd.string W A xs.length xs :=
  (Kd.R_reads' (row_frQ hC hR hf (by decide))).2.2
/-- What stands behind both openings. -/
structure RdI (w0 W : World) (p bm q : Nat) (s : DS) (A : Option Addr) (c : Nat) (B : Option Addr) (d : Nat) (bs : List ByteArray) (fA : Option Addr) (fc : Nat) : Prop where
  D : DiskAt w0.heap.size W p bm s
  R : RefAt w0 W q s
  a : Kd.C Kd.string W A bs.length bs
  b : Kd.C Kd.string W B bs.length bs
  f4 : W.cell? ⟨q, 4, none⟩ = some (.slice fA s.L.length fc)
  F : k24.C W fA s.L.length s.L
  Bw : Below w0.heap.size w0 W
theorem RdI.up {A B fA : Option Addr} {c d fc : Nat} {bs : List ByteArray} (I : RdI w0 w p bm q s A c B d bs fA fc) (hb : Below w.heap.size w W) : RdI w0 W p bm q s A c B d bs fA fc :=
  ⟨I.D.up hb, I.R.up hb, Kd.C_below I.a hb, Kd.C_below I.b hb, (hb.cell (World.block_lt_of_cell? _ _ I.f4)).trans I.f4, Kd.C_below I.F hb, I.Bw.trans (hb.mono I.Bw.size)⟩
end
noncomputable section
open Classical in
def ententelaw17_WalReads.f (k : Nat) (l0 : List S24) (a1 : ByteArray) : Option Bool := if (∀ y ∈ l0, Q24 y) ∧ l0.length ≤ 140737488351232 ∧ a1.size ≤ 140737488351232 then some true else none
end
theorem ententelaw17_WalReads.ok {k : Nat} {l0 : List S24} {a1 : ByteArray} {r : Bool} (h : ententelaw17_WalReads.f k l0 a1 = some r) : (∀ y ∈ l0, Q24 y) ∧ l0.length ≤ 140737488351232 ∧ a1.size ≤ 140737488351232 := by
  unfold ententelaw17_WalReads.f at h
  split at h
  · assumption
  · cases h
set_option maxHeartbeats 32000000 in
set_option maxRecDepth 100000 in
theorem ententelaw17_WalReads.calls (k : Nat) (A0 : Option Addr) (c0 : Nat) (l0 : List S24) (a1 : ByteArray) (r : Bool) (w : World) (hr0 : Kd.C k24 w A0 l0.length l0) (hc0 : l0.length ≤ c0) (ht : r = true) (h : ententelaw17_WalReads.f k l0 a1 = some r) :
    Calls Tryz.prog 3 #[.slice A0 l0.length c0, .string a1] w fun e w' => e = .returned (.bool r) ∧ Below w.heap.size w w' := by
  subst ht
  obtain ⟨hq, hl0, hs1⟩ := ententelaw17_WalReads.ok h
  have HR0 := Aside0.mk hr0
  have HC0 := Aside0.mk hc0
  have HQ := Aside0.mk hq
  have HLL := Aside0.mk hl0
  have HS1 := Aside0.mk hs1
  have HB := Aside0.mk (Below.refl w.heap.size w)
  clear h hr0 hc0 hq hl0 hs1
  go_enter Tryz.func3, Tryz.ntmps3
  go_wp2
  go_loopg [5, 6] (l0.length + 1) (fun kq v5 v6 w' => ∃ (i : Nat) (x n : Int), v5 = .int .i64 n ∧ v6 = .int .i64 x ∧ Aside0 (x = (i : Int)) ∧ Aside0 (n = smW (l0.take i)) ∧ Aside0 (kq + i = l0.length + 1) ∧ Aside0 (i ≤ l0.length) ∧ Aside0 (n ≤ 60000) ∧ Aside0 (Below w.heap.size w w'))
  case atStart => exact ⟨0, _, _, rfl, rfl, ⟨rfl⟩, ⟨rfl⟩, ⟨rfl⟩, ⟨Nat.zero_le _⟩, ⟨by decide⟩, HB⟩
  case round =>
    clear HB
    obtain ⟨i, x, n, rfl, rfl, hx, hn, hk, hi, hn6, HB⟩ := hrel
    by_cases c9 : i < l0.length
    · have q1 : x < (l0.length : Int) := by have := hx.out; omega
      have p1 : (0 : Int) ≤ x := by have := hx.out; omega
      have t3 : decide (x < (l0.length : Int)) = true := decide_eq_true q1
      obtain ⟨ad, e1, x0, x1, x2⟩ := at_T24 (Kd.C_below HR0.out HB.out) x p1 q1
      cases e1
      have htk := take24 l0 i c9
      rw [← hx.out] at htk
      obtain ⟨F, hF⟩ : ∃ F, rd_T24 l0 x = F := ⟨_, rfl⟩
      rw [hF] at x0 x1 x2 htk
      obtain ⟨j, hj⟩ : ∃ j : Int, mn (F.f1.size : Int) 100000 = j := ⟨_, rfl⟩
      have hsm : smW (l0.take (i + 1)) = smW (l0.take i) + (j + 20) := by rw [htk, smW_app, ← hj]; simp [smW]
      have hjb : 0 ≤ j ∧ j ≤ 100000 := by rw [← hj]; unfold mn; split <;> omega
      have hj_ : (if 100000 < (F.f1.size : Int) then 100000 else (F.f1.size : Int)) = j := hj
      have hnn := smW_nonneg (l0.take i)
      have hw1 : wrap64 (n + (20 + j)) = n + (20 + j) := by have := hn.out; have := hn6.out; unfold wrap64; omega
      have hw2 : wrap64 (x + 1) = x + 1 := by have := HLL.out; have := hx.out; unfold wrap64; omega
      have HW1 := Aside0.mk hw1
      have HW2 := Aside0.mk hw2
      have HSM := Aside0.mk hsm
      have HI := Aside0.mk c9
      have p2 := eq_true p1
      have q2 := eq_true q1
      clear htk hF hj hsm hnn c9
      by_cases c8 : n + (20 + j) > 60000
      · have t4 : decide ((60000 : Int) < n + (20 + j)) = true := decide_eq_true (by omega)
        clear c8 hjb
        go_wp2_with ((with_reducible refine gate_callee (f := 4) rfl ?_); refine goesL_ (some 35) rfl rfl Tryz.func4 (by kernel_rfl) rfl #[] rfl My.gx ?_; (refine (awake.calls _).mono ?_); rintro e W35 ⟨rfl, hb⟩; refine ⟨_, rfl, ?_⟩; replace HB := Aside0.mk (HB.out.trans (hb.mono HB.out.size)); clear hb)
        go_ret
        exact ⟨rfl, HB.out⟩
      · have t4 : decide ((60000 : Int) < n + (20 + j)) = false := decide_eq_false (by omega)
        have C8 := Aside0.mk c8
        clear c8 hjb
        go_wp2
        have hI := HI.out
        have hx1 := hx.out
        have hk1 := hk.out
        go_roundg (l0.length - i)
        case measure => omega
        case rel => exact ⟨i + 1, x + 1, n + (20 + j), by first | rfl | (rw [HW1.out]), by first | rfl | (rw [HW2.out]), ⟨by omega⟩, ⟨by have h1 := HSM.out; have h2 := hn.out; omega⟩, ⟨by omega⟩, ⟨by omega⟩, ⟨by have := C8.out; omega⟩, HB⟩
    · have t3 : decide (x < (l0.length : Int)) = false := decide_eq_false (by have := hx.out; have := hi.out; omega)
      have hall : smW l0 ≤ 60000 := by
        have h1 := hn.out
        have h2 := hn6.out
        rw [List.take_of_length_le (by omega)] at h1
        omega
      obtain ⟨hl20, hz6⟩ := smW_all l0 hall
      have HZ6 := Aside0.mk hz6
      have HL3 := Aside0.mk (show l0.length ≤ 3000 by omega)
      clear hx hn hk hi hn6 c9 hall hl20 hz6
      go_upto_region 10 with (first
      | ((with_reducible refine gate_callee (f := 5) rfl ?_); refine goesL_ (some 38) rfl rfl Tryz.func5 (by kernel_rfl) rfl #[.int .i64 70000, .slice A0 l0.length c0] rfl My.gx ?_; (refine (load1 l0 A0 c0 (Kd.C_below HR0.out HB.out) HC0.out).mono ?_); rintro e W38 ⟨a, er1, rfl, hb, h1⟩; refine ⟨_, rfl, ?_⟩; have HW1' := Aside0.mk HB.out.size; have H1 := Aside0.mk h1; replace HB := Aside0.mk (HB.out.trans (hb.mono HB.out.size)); clear hb h1)
      | ((with_reducible refine gate_callee (f := 6) rfl ?_); refine goesL_ (some 43) rfl rfl Tryz.func6 (by kernel_rfl) rfl #[.int .i64 70000, .slice A0 l0.length c0] rfl My.gx ?_; (refine (load2 HB.out l0 A0 c0 (Kd.C_below HR0.out HB.out) HC0.out (fun y hy => (HQ.out y hy).2.1)).mono ?_); rintro e W43 ⟨b, er2, rfl, hb, h2⟩; refine ⟨_, rfl, ?_⟩; have HP := Aside0.mk (both_loads HW1'.out hb H1.out h2); replace HB := Aside0.mk (HB.out.trans (hb.mono HB.out.size)); clear hb h2 H1 HW1'))
      rcases HP.out with ⟨rfl, ⟨p, bm, q, rfl, rfl, hD, hR⟩ | ⟨rfl, rfl⟩⟩
      rotate_left
      · clear HP
        go_wp2_with ((with_reducible refine gate_callee (f := 4) rfl ?_); refine goesL_ (some 51) rfl rfl Tryz.func4 (by kernel_rfl) rfl #[] rfl My.gx ?_; (refine (awake.calls _).mono ?_); rintro e W51 ⟨rfl, hb⟩; refine ⟨_, rfl, ?_⟩; replace HB := Aside0.mk (HB.out.trans (hb.mono HB.out.size)); clear hb)
        go_ret
        exact ⟨rfl, HB.out⟩
      have HD := Aside0.mk hD
      have HR := Aside0.mk hR
      clear HP hD hR
      obtain ⟨⟨num, good, bodies, drop, er⟩, ⟨K1, hk1⟩, ⟨K2, hk2⟩, hd6, hnum, hdm⟩ := looks_both l0 HL3.out HZ6.out
      obtain ⟨K3, hk3⟩ := begin_ev a1
      obtain ⟨K4, hk4⟩ := rseal_ev 3 a1
      obtain ⟨⟨r1, r2⟩, hr12⟩ : ∃ R, SEAL 3 a1 = R := ⟨_, rfl⟩
      rw [hr12] at hk3 hk4
      have hr1 : r1.size ≤ 140737488351232 := by
        by_cases c : r2 = 0
        · have := seal_size a1 (by rw [hr12]; exact c)
          rw [hr12] at this
          exact Nat.le_trans this (by decide)
        · have : r1 = E0 := by
            unfold SEAL at hr12
            rw [if_neg (by omega)] at hr12
            split at hr12
            · exact (congrArg Prod.fst hr12).symm
            · exact absurd (congrArg Prod.snd hr12).symm c
          rw [this]
          decide
      have HK1 := Aside0.mk (hk1 (K1 + K2 + K3 + K4) (by omega))
      have HK2 := Aside0.mk (hk2 (K1 + K2 + K3 + K4) (by omega))
      have HK3 := Aside0.mk (hk3 (K1 + K2 + K3 + K4) (by omega))
      have HK4 := Aside0.mk (hk4 (K1 + K2 + K3 + K4) (by omega))
      have HR1 := Aside0.mk hr1
      have HD6 := Aside0.mk hd6
      have hwf : ∀ x, x ∈ l0.map S24.f0 → (Lit.int .i64 x).wf = true := fun x hx => by
        obtain ⟨y, hy, rfl⟩ := List.mem_map.1 hx
        exact (HQ.out y hy).1
      have HNW := Aside0.mk (show (Lit.int .i64 num).wf = true by
        rcases hnum with h | h | h
        · have h' : num = -1 := h
          rw [h']; decide
        · have h' : num = 0 := h
          rw [h']; decide
        · exact hwf _ h)
      have HDW := Aside0.mk (fun x (hx : x ∈ drop) => hwf x (hdm x hx))
      clear hk1 hk2 hk3 hk4 hr12 hr1 hd6 hnum hdm hwf
      obtain ⟨⟨s3, e3, bs⟩, hop⟩ : ∃ R, opR ⟨false, 70000, 0, [], l0⟩ num good bodies drop er r1 r2 a1 = R := ⟨_, rfl⟩
      have HOP := Aside0.mk hop
      clear hop
      go_upto_region 16 with (first
      | ((with_reducible refine gate_callee (f := 7) rfl ?_); refine goesL_ (some 55) rfl rfl Tryz.func7 (by kernel_rfl) rfl #[.pointer (some ⟨p, 0, none⟩), .string a1] rfl My.gx ?_; (refine (open_u HD.out rfl a1 _ num good bodies drop er HK1.out r1 r2 HK3.out HR1.out HNW.out HD6.out HDW.out s3 e3 bs HOP.out).mono ?_); rintro e W55 ⟨a, A, c, rfl, hno, hlc, hCA, hD, hF⟩; refine ⟨_, rfl, ?_⟩; have HNA := Aside0.mk hno; have HLA := Aside0.mk hlc; have HCA := Aside0.mk hCA; replace HR := Aside0.mk (HR.out.frX HD.out (Nat.le_refl _) hF); replace HB := Aside0.mk (hF.below HB.out (fun k hk => by rcases hk with h | h; exact h ▸ HD.out.hp; exact h ▸ HD.out.hm) HB.out.size); replace HD := Aside0.mk hD; clear hno hlc hCA hD hF)
      | ((with_reducible refine gate_callee (f := 8) rfl ?_); refine goesL_ (some 62) rfl rfl Tryz.func8 (by kernel_rfl) rfl #[.pointer (some ⟨q, 0, none⟩), .string a1] rfl My.gx ?_; (refine (ropen_u HR.out rfl a1 _ num good bodies drop er HK2.out r1 r2 HK4.out HR1.out HD6.out s3 e3 bs HOP.out).mono ?_); rintro e W62 ⟨b, B, d, rfl, hno, hlc, hCB, hR, hF⟩; refine ⟨_, rfl, ?_⟩; have HNO := Aside0.mk (HNA.out.trans hno.symm); have HLC := Aside0.mk (And.intro HLA.out hlc); have HCB := Aside0.mk hCB; replace HCA := Aside0.mk (c_frq HCA.out HR.out hF); replace HD := Aside0.mk (HD.out.frq HR.out hF); replace HB := Aside0.mk (hF.below HB.out HR.out.hq); replace HR := Aside0.mk hR; clear hno hlc hCB hR hF))
      obtain ⟨_, _, _, fA, fc, _, _, _, _, hlfc, hC, _, _, _, _, _, k4, _⟩ := HR.out.cells
      have HI := Aside0.mk (show RdI w W62 p bm q s3 A c B d bs fA fc from ⟨HD.out, HR.out, HCA.out, HCB.out, k4, hC, HB.out⟩)
      clear HD HR HB hlfc hC k4 HCA HCB
      obtain ⟨ks, hks⟩ := (same_ev bs HI.out.a.2.1).rounds
      have HKS := Aside0.mk hks
      have HB16 := Aside0.mk (show w.heap.size ≤ W62.heap.size from HI.out.Bw.size)
      have u1 : (e3 == e3) = true := by simp
      have u2 : decide (e3 = e3) = true := by simp
      have hno := HNO.out
      clear hks HNO
      rcases a with _ | a <;> rcases b with _ | b
      · clear hno
        refine start_ (n := 28) (S := fun w' => RdI w w' p bm q s3 A c B d bs fA fc) (ds := []) #[false, false, false, false, false, false, false, false, false, false, false, false, false, false, false, false, false, false, false, false, false, false, false, false, false, false, false, false] (by kernel_rfl) rfl rfl (HI.out.up (Below.drew (Below.refl W62.heap.size W62))) (fun hHeld => ?_); refine with_tabW wd.tab16 wd.bits16 (fun HT_ HW_ => ?_)
        clear HI
        generalize W62.drew = W6 at hHeld ⊢
        refine My.pv_ 0 66 28 1 HT_.out ?_
        refine My.pv_ 1 67 28 3 HT_.out ?_
        refine My.pv_ 2 68 28 7 HT_.out ?_
        refine My.pv_ 3 69 28 15 HT_.out ?_
        refine My.pv_ 4 70 28 31 HT_.out ?_
        refine My.pv_ 5 71 28 63 HT_.out ?_
        refine My.pv_ 6 72 28 127 HT_.out ?_
        refine My.pv_ 7 73 28 255 HT_.out ?_
        refine My.pv_ 8 74 28 511 HT_.out ?_
        refine My.pv_ 9 75 28 1023 HT_.out ?_
        refine My.pv_ 10 76 28 2047 HT_.out ?_
        refine My.pv_ 11 77 28 4095 HT_.out ?_
        refine My.pv_ 12 78 28 8191 HT_.out ?_
        refine one_ (i := 13) (N := some 79) (My.Mb 28 16383) rfl rfl (one_of HT_.out (by kernel_rfl)) (by decide) (fun K hK => ?_)
        refine goes_ Tryz.func9 (by kernel_rfl) rfl #[.slice A bs.length c, .slice B bs.length d] (by rfl) rfl rfl My.gx ?_
        refine (ententeref01_Same.calls ks A c bs B d bs true _ hHeld.a HLC.out.1 hHeld.b HLC.out.2 HKS.out).mono ?_
        rintro e W4 ⟨rfl, hdr⟩
        have hb := hdr.below
        refine ⟨_, rfl, ?_⟩
        refine hK.out _ _ (hHeld.up hb) (fun hHeld => ?_)
        clear hK K hb
        refine My.nm 79 ?_
        refine My.pv_ 14 80 28 32767 HT_.out ?_
        refine My.pv_ 15 81 28 65535 HT_.out ?_
        refine My.pv_ 16 82 28 131071 HT_.out ?_
        refine My.pv_ 18 84 28 393215 HT_.out ?_
        refine My.pv_ 19 85 28 917503 HT_.out ?_
        refine My.pv_ 20 86 28 1966079 HT_.out ?_
        refine My.tv_ 21 87 28 4063231 HT_.out HW_.out hHeld rfl rfl (by rintro w' hS; have hz := hS.f4; go_simp; with_reducible rfl) ?_
        refine one_ (i := 17) (N := some 83) (My.Mb 28 4194303) rfl rfl (one_of HT_.out (by kernel_rfl)) (by decide) (fun K hK => ?_)
        refine goes_ Tryz.func11 (by kernel_rfl) rfl #[.pointer (some ⟨p, 0, none⟩)] (by rfl) rfl rfl My.gx ?_
        refine (disk_Disk_Image.calls hHeld.D).mono ?_
        rintro e W4 ⟨v4, rfl, hR4, hb⟩
        obtain ⟨Ai, ci, rfl, hlc4, hC4⟩ := Kd.R_reads hR4
        refine ⟨_, rfl, ?_⟩
        have HCI := Aside0.mk hC4
        clear hR4 hlc4 hC4
        refine hK.out _ _ (hHeld.up hb) (fun hHeld => ?_)
        clear hK K hb
        refine My.nm 83 ?_
        refine one_ (i := 22) (N := some 88) (My.Mb 28 8388607) rfl rfl (one_of HT_.out (by kernel_rfl)) (by decide) (fun K hK => ?_)
        refine goes_ Tryz.func10 (by kernel_rfl) rfl #[.slice Ai s3.L.length ci, .slice fA s3.L.length fc] (by rfl) rfl rfl My.gx ?_
        refine (ref_Same.calls Ai ci fA fc s3.L (by have := hHeld.D.inv.len; omega) HCI.out hHeld.F).mono ?_
        rintro e W4 ⟨rfl, hb⟩
        refine ⟨_, rfl, ?_⟩
        refine hK.out _ _ (hHeld.up hb) (fun hHeld => ?_)
        clear hK K hb
        refine My.nm 88 ?_
        refine My.pv_ 23 89 28 16777215 HT_.out ?_
        refine My.pv_ 24 90 28 33554431 HT_.out ?_
        refine one_ (i := 25) (N := some 91) (My.Mb 28 67108863) rfl rfl (one_of HT_.out (by kernel_rfl)) (by decide) (fun K hK => ?_)
        refine goes_ Tryz.func4 (by kernel_rfl) rfl #[] (by rfl) rfl rfl My.gx ?_
        refine (awake.calls _).mono ?_
        rintro e W4 ⟨rfl, hb⟩
        refine ⟨_, rfl, ?_⟩
        refine hK.out _ _ (hHeld.up hb) (fun hHeld => ?_)
        clear hK K hb
        refine My.nm 91 ?_
        refine My.pv_ 26 92 28 134217727 HT_.out ?_
        refine My.pv_ 27 4 28 268435455 HT_.out ?_
        refine done_ (done_of HT_.out (by kernel_rfl)) ?_
        clear HT_ HW_
        have HBX := Aside0.mk hHeld.Bw
        clear hHeld
        go_wp2
        go_ret
        exact ⟨rfl, HBX.out⟩
      · cases hno
      · cases hno
      · clear hno
        refine start_ (n := 28) (S := fun w' => RdI w w' p bm q s3 A c B d bs fA fc) (ds := []) #[false, false, false, false, false, false, false, false, false, false, false, false, false, false, false, false, false, false, false, false, false, false, false, false, false, false, false, false] (by kernel_rfl) rfl rfl (HI.out.up (Below.drew (Below.refl W62.heap.size W62))) (fun hHeld => ?_); refine with_tabW wd.tab16 wd.bits16 (fun HT_ HW_ => ?_)
        clear HI
        generalize W62.drew = W6 at hHeld ⊢
        refine My.pv_ 0 66 28 1 HT_.out ?_
        refine My.pv_ 1 67 28 3 HT_.out ?_
        refine My.pv_ 2 68 28 7 HT_.out ?_
        refine My.pv_ 3 69 28 15 HT_.out ?_
        refine My.pv_ 4 70 28 31 HT_.out ?_
        refine My.pv_ 5 71 28 63 HT_.out ?_
        refine My.pv_ 6 72 28 127 HT_.out ?_
        refine My.pv_ 7 73 28 255 HT_.out ?_
        refine My.pv_ 8 74 28 511 HT_.out ?_
        refine My.pv_ 9 75 28 1023 HT_.out ?_
        refine My.pv_ 10 76 28 2047 HT_.out ?_
        refine My.pv_ 11 77 28 4095 HT_.out ?_
        refine My.pv_ 12 78 28 8191 HT_.out ?_
        refine one_ (i := 13) (N := some 79) (My.Mb 28 16383) rfl rfl (one_of HT_.out (by kernel_rfl)) (by decide) (fun K hK => ?_)
        refine goes_ Tryz.func9 (by kernel_rfl) rfl #[.slice A bs.length c, .slice B bs.length d] (by rfl) rfl rfl My.gx ?_
        refine (ententeref01_Same.calls ks A c bs B d bs true _ hHeld.a HLC.out.1 hHeld.b HLC.out.2 HKS.out).mono ?_
        rintro e W4 ⟨rfl, hdr⟩
        have hb := hdr.below
        refine ⟨_, rfl, ?_⟩
        refine hK.out _ _ (hHeld.up hb) (fun hHeld => ?_)
        clear hK K hb
        refine My.nm 79 ?_
        refine My.pv_ 14 80 28 32767 HT_.out ?_
        refine My.pv_ 15 81 28 65535 HT_.out ?_
        refine My.pv_ 16 82 28 131071 HT_.out ?_
        refine My.pv_ 18 84 28 393215 HT_.out ?_
        refine My.pv_ 19 85 28 917503 HT_.out ?_
        refine My.pv_ 20 86 28 1966079 HT_.out ?_
        refine My.tv_ 21 87 28 4063231 HT_.out HW_.out hHeld rfl rfl (by rintro w' hS; have hz := hS.f4; go_simp; with_reducible rfl) ?_
        refine one_ (i := 17) (N := some 83) (My.Mb 28 4194303) rfl rfl (one_of HT_.out (by kernel_rfl)) (by decide) (fun K hK => ?_)
        refine goes_ Tryz.func11 (by kernel_rfl) rfl #[.pointer (some ⟨p, 0, none⟩)] (by rfl) rfl rfl My.gx ?_
        refine (disk_Disk_Image.calls hHeld.D).mono ?_
        rintro e W4 ⟨v4, rfl, hR4, hb⟩
        obtain ⟨Ai, ci, rfl, hlc4, hC4⟩ := Kd.R_reads hR4
        refine ⟨_, rfl, ?_⟩
        have HCI := Aside0.mk hC4
        clear hR4 hlc4 hC4
        refine hK.out _ _ (hHeld.up hb) (fun hHeld => ?_)
        clear hK K hb
        refine My.nm 83 ?_
        refine one_ (i := 22) (N := some 88) (My.Mb 28 8388607) rfl rfl (one_of HT_.out (by kernel_rfl)) (by decide) (fun K hK => ?_)
        refine goes_ Tryz.func10 (by kernel_rfl) rfl #[.slice Ai s3.L.length ci, .slice fA s3.L.length fc] (by rfl) rfl rfl My.gx ?_
        refine (ref_Same.calls Ai ci fA fc s3.L (by have := hHeld.D.inv.len; omega) HCI.out hHeld.F).mono ?_
        rintro e W4 ⟨rfl, hb⟩
        refine ⟨_, rfl, ?_⟩
        refine hK.out _ _ (hHeld.up hb) (fun hHeld => ?_)
        clear hK K hb
        refine My.nm 88 ?_
        refine My.pv_ 23 89 28 16777215 HT_.out ?_
        refine My.pv_ 24 90 28 33554431 HT_.out ?_
        refine one_ (i := 25) (N := some 91) (My.Mb 28 67108863) rfl rfl (one_of HT_.out (by kernel_rfl)) (by decide) (fun K hK => ?_)
        refine goes_ Tryz.func4 (by kernel_rfl) rfl #[] (by rfl) rfl rfl My.gx ?_
        refine (awake.calls _).mono ?_
        rintro e W4 ⟨rfl, hb⟩
        refine ⟨_, rfl, ?_⟩
        refine hK.out _ _ (hHeld.up hb) (fun hHeld => ?_)
        clear hK K hb
        refine My.nm 91 ?_
        refine My.pv_ 26 92 28 134217727 HT_.out ?_
        refine My.pv_ 27 4 28 268435455 HT_.out ?_
        refine done_ (done_of HT_.out (by kernel_rfl)) ?_
        clear HT_ HW_
        have HBX := Aside0.mk hHeld.Bw
        clear hHeld
        go_wp2
        go_ret
        exact ⟨rfl, HBX.out⟩

/-- THE ONE PURE STATEMENT of ententelaw17_WalReads. -/
def ententelaw17_WalReads.Pure : Prop := ∀ (l0 : List S24) (a1 : ByteArray), (l0.length ≤ 9223372036854775807 ∧ l0.length * 32 ≤ 140737488351232 ∧ ∀ y_ ∈ l0, Q24 y_) → a1.size ≤ 140737488351232 → ∃ k, ententelaw17_WalReads.f k l0 a1 = some true

end Go.Proofs.YtkcpgaplpmbmoaaGreat.PA
