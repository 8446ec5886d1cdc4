/- A log on a disk, walked by hand; Lean checks it. -/
import Derived.Test.YtkcpgaplpmbmoaaPAx21
namespace Go.Proofs.Ytkcpgaplpmbmoaa.PA
open Go.RowKit Go.Proofs.YtkcpgaplpmbmoaaW.PrintWords Go.Proofs.YtkcpgaplpmbmoaaW.PrintLast Go.Proofs.YtkcpgaplpmbmoaaW.PrintMore
attribute [local go_sem] max2_int min2_int max_two min_two max_three min_three max_four min_four
set_option linter.unusedVariables false
set_option linter.unusedSimpArgs false

open Go.Proofs.Ytkcpgaplpmbmoaa.Num
/-! #### WalCrash -/
theorem T53_drop (l : List S53) (i : Nat) (h : i < l.length) : rd_T53 l (i : Int) ∈ l := by
  unfold rd_T53
  rw [Int.toNat_natCast, List.getD_eq_getElem?_getD, List.getElem?_eq_getElem h]
  exact List.getElem_mem _
theorem few_ev (l : List S53) (hl : l.length ≤ 140737488351232) : ∃ r, Ev (fun k => ententelaw17_few.f k l) r ∧ (r = true → l.length ≤ 600) := by
  have key : ∀ (d i : Nat) (n : Int), i + d = l.length → 100 * (i : Int) ≤ n → n ≤ 60000 → ∃ r, Ev (fun k => ententelaw17_few.l0 k l n (i : Int)) r ∧ (r = true → l.length ≤ 600) := by
    intro d
    induction d with
    | zero =>
      intro i n hi h1 h2
      refine ⟨true, ?_, fun _ => by omega⟩
      refine Ev.step (fun k => by rw [ententelaw17_few.l0]) ?_
      exact ev_neg (by omega) (Ev.now _)
    | succ d ih =>
      intro i n hi h1 h2
      have e1 : wrap64 ((i : Int) + 1) = ((i + 1 : Nat) : Int) := by unfold wrap64; omega
      obtain ⟨x, hx⟩ : ∃ x : Int, mn (((rd_T53 l (i : Int)).f1).size : Int) 50000 = x := ⟨_, rfl⟩
      obtain ⟨y, hy⟩ : ∃ y : Int, mn (((rd_T53 l (i : Int)).f3).length : Int) 10000 = y := ⟨_, rfl⟩
      have hxb : 0 ≤ x ∧ x ≤ 50000 := by rw [← hx]; unfold mn; split <;> omega
      have hyb : 0 ≤ y ∧ y ≤ 10000 := by rw [← hy]; unfold mn; split <;> omega
      have hw : wrap64 (n + ((100 + x) + (10 * y))) = n + ((100 + x) + (10 * y)) := by unfold wrap64; omega
      by_cases c : n + ((100 + x) + (10 * y)) > 60000
      · refine ⟨false, ?_, fun h => by cases h⟩
        refine Ev.step (fun k => by rw [ententelaw17_few.l0]) ?_
        refine ev_pos (by omega) (ev_pos (by omega) ?_)
        rw [hx, hy, hw]
        exact ev_pos c (Ev.now _)
      · obtain ⟨r, h3, h4⟩ := ih (i + 1) (n + ((100 + x) + (10 * y))) (by omega) (by omega) (by omega)
        refine ⟨r, ?_, h4⟩
        refine Ev.step (fun k => by rw [ententelaw17_few.l0]) ?_
        refine ev_pos (by omega) (ev_pos (by omega) ?_)
        rw [hx, hy, hw, e1]
        exact ev_neg c h3
  obtain ⟨r, h1, h2⟩ := key l.length 0 0 (by omega) (by omega) (by omega)
  exact ⟨r, h1, h2⟩
theorem room_ok (a0 : Int) : ∃ r, ententelaw17_Room.f a0 = some r ∧ 0 ≤ r ∧ r ≤ 200000 := by
  have h1 := Int.tmod_lt_of_pos a0 (show (0 : Int) < 400 by decide)
  have h2 := Int.lt_tmod_of_pos a0 (show (0 : Int) < 400 by decide)
  have e1 : wrap64 (Int.tmod a0 400 + 400) = Int.tmod a0 400 + 400 := by unfold wrap64; omega
  have h3 := Int.tmod_lt_of_pos (Int.tmod a0 400 + 400) (show (0 : Int) < 400 by decide)
  have h4 : 0 ≤ Int.tmod (Int.tmod a0 400 + 400) 400 := Int.tmod_nonneg _ (by omega)
  have e2 : wrap64 (20 + Int.tmod (Int.tmod a0 400 + 400) 400) = 20 + Int.tmod (Int.tmod a0 400 + 400) 400 := by unfold wrap64; omega
  refine ⟨_, rfl, ?_⟩
  rw [e1, e2]
  omega
theorem info30 : (Try.prog.info? 30).map (fun i => (i.zero, i.size, i.bytes)) = some (some (.slice none 0 0), 1, 24) := by kernel_rfl
/-- The kind of a row of texts' rows. -/
abbrev kL := Kd.slice 9 Kd.string
theorem one_rows (W : World) (base : Nat) (hb : base ≤ W.heap.size) (v : Value) (h : List ByteArray) (hR : Kd.string.R 9 W base (fun _ => True) v h) : kL.R 30 (W.alloc (.cells #[v] 30)) base (fun _ => True) (.slice (some ⟨W.heap.size, 0, none⟩) 1 1) [h] := by
  have h1 : (W.alloc (.cells #[v] 30)).heap[W.heap.size]? = some (.cells #[v] 30 (0, 0)) := (MapKept.heap_alloc W _).1
  refine ⟨fun _ _ => trivial, [v], ⟨rfl, .inr ⟨W.heap.size, 1, #[v], rfl, hb, h1, Nat.le_refl _, by unfold maxLen; omega, rfl, rfl⟩⟩, ?_⟩
  have h2 : Kd.string.R 9 (W.alloc (.cells #[v] 30)) base (fun k => True ∧ some k ≠ (Value.slice (some ⟨W.heap.size, 0, none⟩) 1 1).ownBlock) v h := by
    refine Kd.R_mono (Kd.R_below (Kd.R_bound hR) (below_alloc (Below.refl _ _) _)) (fun k hk => ⟨trivial, fun e => ?_⟩)
    have h3 : k = W.heap.size := by simpa [Value.ownBlock] using e
    have := hk.2.2.1
    omega
  obtain ⟨A, c, rfl⟩ := Kd.R_slice hR
  exact Reps.snoc (Reps.none _ _) ⟨_, rfl, h2⟩ rfl
section
variable {base p bm g q : Nat} {w W : World} {s : DS} {x : WS}
theorem rows_disk {b0 : Nat} {v : Value} {xs : List (List ByteArray)} (hr : kL.R 30 w b0 (fun _ => True) v xs) (hD : DiskAt base w p bm s) (hf : FrX (fun k => k = p ∨ k = bm) w W) : kL.R 30 W b0 (fun _ => True) v xs := by
  refine row_frX hr hf (fun k hk => ?_)
  rcases disk_types hD 30 (by decide) k hk with ⟨cs, t, h, ht⟩ | h
  · rcases disk_types hD 9 (by decide) k hk with ⟨cs2, t2, h2, ht2⟩ | ⟨es, cl, h2⟩
    · refine .inl ⟨cs, t, h, fun q hq => ?_⟩
      rw [h] at h2
      injection h2 with h2
      injection h2 with _ h2
      rcases List.mem_cons.1 (show q ∈ 30 :: 9 :: [] from hq) with rfl | hq
      · exact ht
      · rw [List.mem_singleton.1 hq, h2]
        exact ht2
    · rw [h] at h2
      cases h2
  · exact .inr h
set_option maxHeartbeats 8000000 in
set_option maxRecDepth 100000 in
theorem among.calls (A : Option Addr) (c : Nat) (a : List ByteArray) (M : Option Addr) (d : Nat) (Ls : List (List ByteArray)) (ha : Kd.string.C w A a.length a) (hc : a.length ≤ c) (hM : kL.C w M Ls.length Ls) (hl : Ls.length ≤ 1000) (hal : a.length ≤ 1000000) (hm : a ∈ Ls) :
    Calls Try.prog 22 #[.slice A a.length c, .slice M Ls.length d] w fun e w' => e = .returned (.bool true) ∧ Below w.heap.size w w' := by
  have HA := Aside0.mk ha
  have HC := Aside0.mk hc
  have HM := Aside0.mk hM
  have HL := Aside0.mk hl
  have HAL := Aside0.mk hal
  have HIN := Aside0.mk hm
  clear ha hc hM hl hal hm
  go_enter Try.func22, Try.ntmps22
  go_wp2
  go_loopg [5] (Ls.length + 1) (fun kq v5 w' => ∃ (i : Nat) (x : Int), v5 = .int .i64 x ∧ Aside0 (x = (i : Int)) ∧ Aside0 (kq + i = Ls.length + 1) ∧ Aside0 (a ∈ Ls.drop i) ∧ Aside0 (Below w.heap.size w w'))
  case atStart => exact ⟨0, _, rfl, ⟨rfl⟩, ⟨rfl⟩, ⟨by rw [List.drop_zero]; exact HIN.out⟩, ⟨Below.refl _ _⟩⟩
  case round =>
    obtain ⟨i, x, rfl, hx, hk, hi, HB⟩ := hrel
    have c9 : i < Ls.length := by
      have h1 := List.length_pos_of_mem hi.out
      rw [List.length_drop] at h1
      omega
    have q1 : x < (Ls.length : Int) := by have := hx.out; omega
    have p1 : (0 : Int) ≤ x := by have := hx.out; omega
    have c3 : decide (x < (Ls.length : Int)) = true := decide_eq_true q1
    obtain ⟨ad, A0, c0, e1, x0, l0, g0⟩ := at_L2 (Kd.C_below HM.out HB.out) x p1 q1
    cases e1
    have hdr : Ls.drop i = rd_L2 Ls x :: Ls.drop (i + 1) := by
      rw [List.drop_eq_getElem_cons c9]
      congr 1
      unfold rd_L2
      rw [hx.out, Int.toNat_natCast, List.getD_eq_getElem?_getD, List.getElem?_eq_getElem c9]
      rfl
    have hin := hi.out
    rw [hdr] at hin
    obtain ⟨F, hF⟩ : ∃ F, rd_L2 Ls x = F := ⟨_, rfl⟩
    rw [hF] at x0 l0 g0 hin
    have hw : wrap64 (x + 1) = x + 1 := by have := HL.out; have := hx.out; unfold wrap64; omega
    have HW := Aside0.mk hw
    have HCI := Aside0.mk c9
    have L0 := Aside0.mk l0
    have G0 := Aside0.mk g0
    have HI2 := Aside0.mk hin
    obtain ⟨ks, hks⟩ := (same_ev2 a F HAL.out).rounds
    have HKS := Aside0.mk hks
    have p2 := eq_true p1
    have q2 := eq_true q1
    clear hdr hF l0 g0 hin c9 hw hks
    by_cases c : a = F
    · have HS := Aside0.mk (show ententeref01_Same.f ks a F = some true by rw [HKS.out, decide_eq_true c])
      clear c HKS
      go_wp2_with ((with_reducible refine gate_callee (f := 15) rfl ?_); refine goesL_ (some 17) rfl rfl Try.func15 (by kernel_rfl) rfl #[.slice A a.length c, .slice A0 F.length c0] rfl My.gx ?_; (refine (ententeref01_Same.calls ks A c a A0 c0 F true _ (Kd.C_below HA.out HB.out) HC.out G0.out L0.out HS.out).mono ?_); rintro e W17 ⟨rfl, hdr⟩; refine ⟨_, rfl, ?_⟩; have hb := hdr.below; replace HB := Aside0.mk (HB.out.trans (hb.mono HB.out.size)); clear hb hdr)
      go_ret
      exact ⟨rfl, HB.out⟩
    · have HS := Aside0.mk (show ententeref01_Same.f ks a F = some false by rw [HKS.out, decide_eq_false c])
      have HNE := Aside0.mk c
      clear c HKS
      go_wp2_with ((with_reducible refine gate_callee (f := 15) rfl ?_); refine goesL_ (some 17) rfl rfl Try.func15 (by kernel_rfl) rfl #[.slice A a.length c, .slice A0 F.length c0] rfl My.gx ?_; (refine (ententeref01_Same.calls ks A c a A0 c0 F false _ (Kd.C_below HA.out HB.out) HC.out G0.out L0.out HS.out).mono ?_); rintro e W17 ⟨rfl, hdr⟩; refine ⟨_, rfl, ?_⟩; have hb := hdr.below; replace HB := Aside0.mk (HB.out.trans (hb.mono HB.out.size)); clear hb hdr)
      have hI := HCI.out
      have hx1 := hx.out
      have hk1 := hk.out
      go_roundg (Ls.length - i)
      case measure => omega
      case rel => exact ⟨i + 1, x + 1, by first | rfl | (rw [HW.out]), ⟨by omega⟩, ⟨by omega⟩, ⟨(List.mem_cons.1 HI2.out).resolve_left HNE.out⟩, HB⟩
end
/-- What WalCrash keeps from round to round. -/
structure CrI (w w' : World) (p bm q g : Nat) (s : DS) (n : Int) (h : List ByteArray) (A : Option Addr) (c : Nat) (j : Nat) : Prop where
  D : DiskAt w.heap.size w' p bm s
  L : LogAt w' q g p ⟨n, ((FRL 3 h).length : Int), false⟩
  W : Whole s n h
  len : h.length ≤ j
  R : Kd.string.R 9 w' w.heap.size (fun _ => True) (.slice A h.length c) h
  q0 : w.heap.size ≤ q
  g0 : w.heap.size ≤ g
  B : Below w.heap.size w w'
section
variable {w w1 W : World} {p bm q g : Nat} {s : DS} {n : Int} {h : List ByteArray} {A : Option Addr} {c j : Nat}
theorem CrI.up (I : CrI w w1 p bm q g s n h A c j) (hb : Below w1.heap.size w1 W) : CrI w W p bm q g s n h A c j :=
  ⟨I.D.up hb, I.L.up hb, I.W, I.len, Kd.R_below I.R hb, I.q0, I.g0, I.B.trans (hb.mono I.B.size)⟩
theorem CrI.reads (I : CrI w w1 p bm q g s n h A c j) : Kd.C Kd.string w1 A h.length h ∧ h.length ≤ c := ⟨(Kd.R_reads' I.R).2.2, (Kd.R_reads' I.R).2.1⟩
theorem CrI.mono {k : Nat} (I : CrI w w1 p bm q g s n h A c j) (hk : j ≤ k) : CrI w w1 p bm q g s n h A c k := { I with len := Nat.le_trans I.len hk }
end
/-- What it keeps within a round: may: Ls, in M. -/
structure CrJ (w w' : World) (p bm q : Nat) (s : DS) (h : List ByteArray) (A : Option Addr) (c : Nat) (M : Option Addr) (d : Nat) (Ls : List (List ByteArray)) (b : Nat) (cs : Array Value) (j : Nat) : Prop where
  D : DiskAt w.heap.size w' p bm s
  B : Below w.heap.size w w'
  rows : kL.R 30 w' w.heap.size (fun _ => True) (.slice M Ls.length d) Ls
  len : Ls.length ≤ 2
  box : w'.heap[b]? = some (.cells cs 53 (0, 0))
  op : ∃ s3 n3 l3, Opens (boot s) s3 n3 l3 ∧ l3 ∈ Ls ∧ l3.length ≤ j
  live : s.dead = false → ∃ g n, CrI w w' p bm q g s n h A c j
section
variable {w w1 W : World} {p bm q g : Nat} {s : DS} {n : Int} {h : List ByteArray} {A : Option Addr} {c j : Nat} {M : Option Addr} {d : Nat} {Ls : List (List ByteArray)} {b : Nat} {cs : Array Value}
theorem CrJ.up (J : CrJ w w1 p bm q s h A c M d Ls b cs j) (hb : Below w1.heap.size w1 W) : CrJ w W p bm q s h A c M d Ls b cs j :=
  ⟨J.D.up hb, J.B.trans (hb.mono J.B.size), Kd.R_below J.rows hb, J.len, (hb.block _ (blk_lt J.box)).trans J.box, J.op, fun hd => by obtain ⟨g, n, I⟩ := J.live hd; exact ⟨g, n, I.up hb⟩⟩
theorem boot_live (h : s.dead = false) : boot s = s := by
  unfold boot
  rw [← h]
/-- The log stands: what may be is what was answered. -/
theorem CrJ.alive (I : CrI w w1 p bm q g s n h A c j) (hR : kL.R 30 w1 w.heap.size (fun _ => True) (.slice M Ls.length d) Ls) (hl : Ls.length ≤ 2) (hm : h ∈ Ls) (hb : w1.heap[b]? = some (.cells cs 53 (0, 0))) : CrJ w w1 p bm q s h A c M d Ls b cs j :=
  ⟨I.D, I.B, hR, hl, hb, ⟨s, n, h, by rw [boot_live I.W.dead]; exact opens_whole I.D.inv I.W, hm, I.len⟩, fun _ => ⟨g, n, I⟩⟩
theorem opened.crash (J : CrJ w w1 p bm q s h A c M d Ls b cs j) (first : ByteArray) (hf : first.size ≤ 140737488351232) : Calls Try.prog 19 #[.pointer (some ⟨p, 0, none⟩), .string first] w1 fun e w' => ∃ q2 g2 A2 c2 s3 n3 l3, e = .returned (.tuple #[.pointer (some ⟨q2, 0, none⟩), .slice A2 l3.length c2, .int .i64 0]) ∧ l3 ∈ Ls ∧ CrI w w' p bm q2 g2 s3 n3 l3 A2 c2 j ∧ kL.R 30 w' w.heap.size (fun _ => True) (.slice M Ls.length d) Ls := by
  obtain ⟨s3, n3, l3, hO, hm, hl⟩ := J.op
  refine (opened.calls J.D first (fun W a A m c er w' => er = 0 ∧ ∃ q2 g2, a = some ⟨q2, 0, none⟩ ∧ m = l3.length ∧ CrI w w' p bm q2 g2 s3 n3 l3 A c j ∧ kL.R 30 w' w.heap.size (fun _ => True) (.slice M Ls.length d) Ls) (fun W hD hF => ?_)).mono ?_
  · refine (wal_Open.opens hD hO first hf).mono ?_
    rintro e w' ⟨q2, g2, A2, c2, rfl, hD2, hF2, hq, hg, hL, hR⟩
    have hB := below_disk J.B J.D hF J.B.size
    have hB2 := below_disk hB hD hF2 hB.size
    exact ⟨_, _, _, _, _, rfl, by decide, rfl, q2, g2, rfl, rfl, ⟨hD2, hL, hO.whole, hl, Kd.R_lower hR hB.size, Nat.le_trans hB.size hq, Nat.le_trans hB.size hg, hB2⟩, rows_disk (rows_disk J.rows J.D hF) hD hF2⟩
  · rintro e w' ⟨W, a, A2, m, c2, er, rfl, hF, rfl, q2, g2, rfl, rfl, hI, hR⟩
    exact ⟨q2, g2, A2, c2, s3, n3, l3, rfl, hm, hI, hR⟩
theorem opened.first (hB : Below w.heap.size w w1) (hD : DiskAt w.heap.size w1 p bm s) (hd : s.dead = false) (hL : s.L = []) (ha : s.armed = 0) (first : ByteArray) (hf : first.size ≤ 30000) : Calls Try.prog 19 #[.pointer (some ⟨p, 0, none⟩), .string first] w1 fun e w' => ∃ a A m c er, e = .returned (.tuple #[.pointer a, .slice A m c, .int .i64 er]) ∧ ((er = 151 ∧ Below w.heap.size w w') ∨ (er = 0 ∧ ∃ q g s3, a = some ⟨q, 0, none⟩ ∧ m = [first].length ∧ CrI w w' p bm q g s3 1 [first] A c 1)) := by
  have e0 : boot s = s := boot_live hd
  refine (opened.calls hD first (fun W a A m c er w' => (er = 151 ∧ Below w.heap.size w w') ∨ (er = 0 ∧ ∃ q g s3, a = some ⟨q, 0, none⟩ ∧ m = [first].length ∧ CrI w w' p bm q g s3 1 [first] A c 1)) (fun W hD1 hF => ?_)).mono ?_
  · rw [e0] at hD1
    have hB1 := below_disk hB hD hF hB.size
    refine (wal_Open.fresh hD1 hd hL ha first hf).mono ?_
    rintro e w' (⟨_, rfl, hF2⟩ | ⟨s3, q, g, A, c, rfl, h1, h2, h3, h4, h5, h6, h7, h8, h9⟩)
    · exact ⟨_, _, _, _, _, rfl, by decide, .inl ⟨rfl, below_disk hB1 hD1 hF2 hB1.size⟩⟩
    · exact ⟨_, _, _, _, _, rfl, by decide, .inr ⟨rfl, q, g, s3, rfl, rfl, h4, h8, h1, by simp, Kd.R_lower h9 hB1.size, Nat.le_trans hB1.size h6, Nat.le_trans hB1.size h7, below_disk hB1 hD1 h5 hB1.size⟩⟩
  · rintro e w' ⟨W, a, A, m, c, er, rfl, hF, hP⟩
    exact ⟨a, A, m, c, er, rfl, hP⟩
end
/-! #### a call within a round -/
section
variable {w w1 W : World} {p bm q g : Nat} {s : DS} {n : Int} {h : List ByteArray} {A : Option Addr} {c j : Nat} {M : Option Addr} {d : Nat} {Ls : List (List ByteArray)} {b : Nat} {cs : Array Value} {base b0 : Nat} {x : WS}
theorem log_types (hD : DiskAt base w p bm s) (hL : LogAt w q g p x) (t0 : Nat) (h1 : t0 ≠ 37) (h2 : t0 ≠ 63) (h3 : t0 ≠ 25) (k : Nat) (hk : k = p ∨ k = bm ∨ k = g ∨ k = q) : (∃ cs t, w.heap[k]? = some (.cells cs t (0, 0)) ∧ t0 ≠ t) ∨ ∃ es cl, w.heap[k]? = some (.map es cl) := by
  rcases hk with h | h | rfl | rfl
  · exact disk_types hD t0 h1 k (.inl h)
  · exact disk_types hD t0 h1 k (.inr h)
  · exact .inl ⟨_, _, hL.f, h2⟩
  · exact .inl ⟨_, _, hL.l, h3⟩
theorem rows_log {v : Value} {xs : List (List ByteArray)} (hr : kL.R 30 w b0 (fun _ => True) v xs) (hD : DiskAt base w p bm s) (hL : LogAt w q g p x) (hf : FrX (fun k => k = p ∨ k = bm ∨ k = g ∨ k = q) w W) : kL.R 30 W b0 (fun _ => True) v xs := by
  refine row_frX hr hf (fun k hk => ?_)
  rcases log_types hD hL 30 (by decide) (by decide) (by decide) k hk with ⟨cs, t, h, ht⟩ | h
  · rcases log_types hD hL 9 (by decide) (by decide) (by decide) k hk with ⟨cs2, t2, h2, ht2⟩ | ⟨es, cl, h2⟩
    · refine .inl ⟨cs, t, h, fun q hq => ?_⟩
      rw [h] at h2
      injection h2 with h2
      injection h2 with _ h2
      rcases List.mem_cons.1 (show q ∈ 30 :: 9 :: [] from hq) with rfl | hq
      · exact ht
      · rw [List.mem_singleton.1 hq, h2]
        exact ht2
    · rw [h] at h2
      cases h2
  · exact .inr h
theorem box_log (hb : w.heap[b]? = some (.cells cs 53 (0, 0))) (hD : DiskAt base w p bm s) (hL : LogAt w q g p x) (hf : FrX (fun k => k = p ∨ k = bm ∨ k = g ∨ k = q) w W) : W.heap[b]? = some (.cells cs 53 (0, 0)) := by
  refine (hf.block b (blk_lt hb) (fun hk => ?_)).trans hb
  rcases log_types hD hL 53 (by decide) (by decide) (by decide) b hk with ⟨cs2, t, h, ht⟩ | ⟨es, cl, h⟩
  · rw [hb] at h
    injection h with h
    injection h with _ h
    exact ht h
  · rw [hb] at h
    cases h
theorem cr_append (I : CrI w w1 p bm q g s n h A c j) (hM : kL.R 30 w1 w.heap.size (fun _ => True) (.slice M Ls.length d) Ls) (hY : w1.heap[b]? = some (.cells cs 53 (0, 0))) (x : ByteArray) (hx : x.size ≤ 140737488351232) (h2 : List ByteArray) (hh : h ++ [x] = h2) : Calls Try.prog 6 #[.pointer (some ⟨q, 0, none⟩), .string x] w1 fun e w' => ∃ er, e = .returned (.int .i64 er) ∧ Below w.heap.size w w' ∧ Kd.string.R 9 w' w.heap.size (fun _ => True) (.slice A h.length c) h ∧ kL.R 30 w' w.heap.size (fun _ => True) (.slice M Ls.length d) Ls ∧ w'.heap[b]? = some (.cells cs 53 (0, 0)) ∧
    ((er = 0 ∧ ∃ s', ∀ W A' c', Below w'.heap.size w' W → Kd.string.R 9 W w.heap.size (fun _ => True) (.slice A' h2.length c') h2 → CrI w W p bm q g s' n h2 A' c' (j + 1)) ∨ (er ≠ 0 ∧ er ≠ 150 ∧ CrI w w' p bm q g s n h A c j) ∨
      (er = 150 ∧ ∃ s', DiskAt w.heap.size w' p bm s' ∧ s'.dead = true ∧ ∃ s3, Opens (boot s') s3 n h ∨ Opens (boot s') s3 n h2)) := by
  subst hh
  refine (log_Append.whole I.D I.L I.W x hx).mono ?_
  rintro e w' ⟨er, s', rfl, hf, hD, _, h3⟩
  have hB := below_log I.B I.D ⟨I.g0, I.q0⟩ hf I.B.size
  have hR := strs_log I.R I.D I.L hf
  refine ⟨er, rfl, hB, hR, rows_log hM I.D I.L hf, box_log hY I.D I.L hf, ?_⟩
  rcases h3 with ⟨e0, e1, e2, e3, e4⟩ | ⟨e0, e1, e2, e3, _⟩ | ⟨e0, _, e2, s3, e3⟩
  · exact .inl ⟨e0, s', fun W A' c' hb' hR' => ⟨hD.up hb', e4.up hb', e2, by rw [List.length_append, List.length_singleton]; have := I.len; omega, hR', I.q0, I.g0, hB.trans (hb'.mono hB.size)⟩⟩
  · rw [e2] at hD
    exact .inr (.inl ⟨e0, e1, ⟨hD, e3, I.W, I.len, hR, I.q0, I.g0, hB⟩⟩)
  · exact .inr (.inr ⟨e0, s', hD, e2, s3, e3⟩)
theorem cr_turn (I : CrI w w1 p bm q g s n h A c j) (hM : kL.R 30 w1 w.heap.size (fun _ => True) (.slice M Ls.length d) Ls) (hY : w1.heap[b]? = some (.cells cs 53 (0, 0))) (x : ByteArray) (hx : x.size ≤ 140737488351232) : Calls Try.prog 7 #[.pointer (some ⟨q, 0, none⟩), .string x] w1 fun e w' => ∃ er, e = .returned (.int .i64 er) ∧ Below w.heap.size w w' ∧ Kd.string.R 9 w' w.heap.size (fun _ => True) (.slice A h.length c) h ∧ kL.R 30 w' w.heap.size (fun _ => True) (.slice M Ls.length d) Ls ∧ w'.heap[b]? = some (.cells cs 53 (0, 0)) ∧
    ((er = 0 ∧ ∃ s' g', ∀ W A' c', Below w'.heap.size w' W → Kd.string.R 9 W w.heap.size (fun _ => True) (.slice A' [x].length c') [x] → CrI w W p bm q g' s' (n + 1) [x] A' c' (j + 1)) ∨ (er ≠ 0 ∧ er ≠ 150 ∧ CrI w w' p bm q g s n h A c j) ∨
      (er = 150 ∧ ∃ s', DiskAt w.heap.size w' p bm s' ∧ s'.dead = true ∧ ∃ s3, Opens (boot s') s3 n h ∨ Opens (boot s') s3 (n + 1) [x])) := by
  refine (log_Turn.whole I.D I.L I.W x hx).mono ?_
  rintro e w' ⟨er, s', rfl, hf, hD, _, h3⟩
  have hB := below_log I.B I.D ⟨I.g0, I.q0⟩ hf I.B.size
  have hR := strs_log I.R I.D I.L hf
  refine ⟨er, rfl, hB, hR, rows_log hM I.D I.L hf, box_log hY I.D I.L hf, ?_⟩
  rcases h3 with ⟨e0, e1, e2, e3, g', hg, e4⟩ | ⟨e0, e1, e2, e3, _⟩ | ⟨e0, _, e2, s3, e3⟩
  · exact .inl ⟨e0, s', g', fun W A' c' hb' hR' => ⟨hD.up hb', e4.up hb', e2, by simp, hR', I.q0, Nat.le_trans I.B.size hg, hB.trans (hb'.mono hB.size)⟩⟩
  · rw [e2] at hD
    exact .inr (.inl ⟨e0, e1, ⟨hD, e3, I.W, I.len, hR, I.q0, I.g0, hB⟩⟩)
  · exact .inr (.inr ⟨e0, s', hD, e2, s3, e3⟩)
theorem CrI.armed (I : CrI w w1 p bm q g s n h A c j) (m : Int) (ks : List Int) (hD : DiskAt w.heap.size W p bm (armS s m ks).1) (hF : Fr p bm w1 W) : CrI w W p bm q g (armS s m ks).1 n h A c j := by
  have hf := Fr.toX hF
  have e : (armS s m ks).1.dead = s.dead ∧ (armS s m ks).1.L = s.L := by
    unfold armS
    split
    · exact ⟨rfl, rfl⟩
    · split <;> exact ⟨rfl, rfl⟩
  exact ⟨hD, I.L.disk I.D hf, ⟨by rw [e.1]; exact I.W.dead, by rw [e.2]; exact I.W.L, I.W.ne, I.W.sz⟩, I.len, strs_disk I.R I.D hf, I.q0, I.g0, below_disk I.B I.D hf I.B.size⟩
/-- The power went: what may be is what was, or what it would have been. -/
theorem CrJ.fell {s' s3 : DS} {n1 n2 : Int} {l1 l2 : List ByteArray} (hD : DiskAt w.heap.size w1 p bm s') (hd : s'.dead = true) (ho : Opens (boot s') s3 n1 l1 ∨ Opens (boot s') s3 n2 l2) (hB : Below w.heap.size w w1) (hb : w1.heap[b]? = some (.cells cs 53 (0, 0))) (h1 : l1.length ≤ j) (h2 : l2.length ≤ j)
    {gm : Nat} {xs : Array Value} (hg : w1.grownBy W (some gm)) (hgm : w1.heap[gm]? = some (.cells xs 30 (0, 0))) (hW : Below w.heap.size w W) (hR : kL.R 30 W w.heap.size (fun _ => True) (.slice M [l1, l2].length d) [l1, l2]) : CrJ w W p bm q s' h A c M d [l1, l2] b cs j := by
  have hf : FrX (fun k => k = gm) w1 W := ⟨hg.os, hg.tape, hg.output, hg.size, fun k hk hX => hg.block k hk (by simpa using hX)⟩
  refine ⟨hD.frx hf hgm (by decide) (by decide), hW, hR, by simp, ?_, ?_, fun h => by rw [hd] at h; cases h⟩
  · refine (hf.block b (blk_lt hb) (fun e => ?_)).trans hb
    have e' : b = gm := e
    rw [e', hgm] at hb
    injection hb with hb
    injection hb with _ hb
    cases hb
  · rcases ho with ho | ho
    · exact ⟨s3, _, l1, ho, by simp, h1⟩
    · exact ⟨s3, _, l2, ho, by simp, h2⟩
theorem dead_is {y : Bool} (hD : DiskAt base w p bm s) (hd : s.dead = y) : Calls Try.prog 21 #[.pointer (some ⟨p, 0, none⟩)] w fun e w' => e = .returned (.bool y) ∧ Below w.heap.size w w' := by
  rw [← hd]
  exact disk_Disk_Dead.calls hD
/-- The row behind a slice that was made. -/
theorem rows_blk {v : Value} {xs : List (List ByteArray)} {gm : Nat} {k : Nat} (h : kL.R 30 w b0 (fun _ => True) (.slice (some ⟨gm, 0, none⟩) k 1) xs) : ∃ cs, w.heap[gm]? = some (.cells cs 30 (0, 0)) := by
  obtain ⟨_, inner, ho, _⟩ := h
  exact own_typed ho gm rfl
theorem row_apart {v : Value} {xs : List ByteArray} {u : Value} {ys : List (List ByteArray)} {k : Nat} (hR : Kd.string.R 9 W w1.heap.size (fun _ => True) v xs) (hM : kL.R 30 w1 b0 (fun _ => True) u ys) (hb : k ≤ w1.heap.size) : kL.M W k (fun k => some k ≠ u.ownBlock) xs [v] := by
  obtain ⟨inner, ho⟩ := Kd.R_own hM
  exact ⟨v, rfl, Kd.R_lower (Kd.R_mono (Kd.R_new hR ho) (fun k hk => hk.2)) hb⟩
end

end Go.Proofs.Ytkcpgaplpmbmoaa.PA
