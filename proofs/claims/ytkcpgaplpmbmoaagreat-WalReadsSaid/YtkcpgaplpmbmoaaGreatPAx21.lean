/- A log on a disk, and the document's, walked by hand; Lean checks it. -/
import Derived.Test.YtkcpgaplpmbmoaaGreatPAx20
namespace Go.Proofs.YtkcpgaplpmbmoaaGreat.PA
open Go.RowKit Go.Proofs.YtkcpgaplpmbmoaaGreatW.PrintWords Go.Proofs.YtkcpgaplpmbmoaaGreatW.PrintLast Go.Proofs.YtkcpgaplpmbmoaaGreatW.PrintMore
attribute [local go_sem] max2_int min2_int max_two min_two max_three min_three max_four min_four
set_option linter.unusedVariables false
set_option linter.unusedSimpArgs false

/-! the document's Append -/
def fin (ab : Bool) (new : S24) (d : ByteArray) : Bool → List S24 → List S24
  | done, [] => if (ab && !done) = true then [new] else []
  | done, x :: r => if (ab && (!done && decide (new.f0 < x.f0))) = true then new :: (if x.f0 = new.f0 then ⟨x.f0, x.f1 ++ d, x.f2⟩ else x) :: fin ab new d true r else (if x.f0 = new.f0 then ⟨x.f0, x.f1 ++ d, x.f2⟩ else x) :: fin ab new d done r
theorem fin_copy (ab : Bool) (new : S24) (d : ByteArray) (done : Bool) (hd : (ab && !done) = false) : ∀ L : List S24, (∀ y ∈ L, y.f0 ≠ new.f0) → fin ab new d done L = L
  | [], _ => by unfold fin; rw [hd]; rfl
  | x :: r, h => by
    have e : (ab && (!done && decide (new.f0 < x.f0))) = false := by rw [← Bool.and_assoc, hd, Bool.false_and]
    rw [fin, e, if_neg (h x (by simp)), fin_copy ab new d done hd r (fun y hy => h y (by simp [hy]))]
    rfl
theorem fin_past (new : S24) (d : ByteArray) : ∀ (A B : List S24), (∀ y ∈ A, y.f0 < new.f0) → fin true new d false (A ++ B) = A ++ fin true new d false B
  | [], B, _ => rfl
  | x :: r, B, h => by
    have hx := h x (by simp)
    have e : (true && (!false && decide (new.f0 < x.f0))) = false := by simp; omega
    rw [List.cons_append, fin, e, if_neg Bool.false_ne_true, if_neg (show ¬ x.f0 = new.f0 by omega), fin_past new d r B (fun y hy => h y (by simp [hy]))]
    rfl
theorem fin_past' (new : S24) (d : ByteArray) : ∀ (A B : List S24), (∀ y ∈ A, y.f0 ≠ new.f0) → fin false new d false (A ++ B) = A ++ fin false new d false B
  | [], B, _ => rfl
  | x :: r, B, h => by
    rw [List.cons_append, fin, if_neg (h x (by simp)), fin_past' new d r B (fun y hy => h y (by simp [hy]))]
    rfl
theorem fin_put {s : DS} (h : Inv s) (n : Int) (d : ByteArray) : fin (!hasL s.L n) ⟨n, d, 0⟩ d false s.L = putL s.L (appF s n d) := by
  obtain ⟨A, B, hA, hB, hdel, hput, hc⟩ := splitL h.srt n
  rw [hput _ rfl]
  rcases hc with ⟨h1, h2, e⟩ | ⟨h1, h2, e⟩
  · obtain ⟨X, hX⟩ : ∃ X, getL s.L n = X := ⟨_, rfl⟩
    have hf : appF s n d = ⟨X.f0, X.f1 ++ d, X.f2⟩ := by unfold appF; rw [hX]; rw [← h2, hX]
    rw [hX] at e h2
    rw [h1, hf, e, Bool.not_true, fin_past' _ _ A _ (fun y hy => by have := hA y hy; show y.f0 ≠ n; omega)]
    congr 1
    rw [fin, if_pos h2, fin_copy false _ _ false rfl B (fun y hy => by have := hB y hy; show y.f0 ≠ n; omega)]
    rfl
  · have hf : appF s n d = ⟨n, d, 0⟩ := by
      unfold appF
      rw [h2]
      show (⟨n, (⟨#[]⟩ : ByteArray) ++ d, 0⟩ : S24) = ⟨n, d, 0⟩
      have : (⟨#[]⟩ : ByteArray) ++ d = d := by apply ByteArray.ext; rw [ByteArray.data_append]; simp
      rw [this]
    rw [h1, hf, e, Bool.not_false, fin_past _ _ A B hA]
    congr 1
    cases B with
    | nil => rfl
    | cons x r =>
      have hx := hB x (by simp)
      have e1 : (true && (!false && decide ((⟨n, d, 0⟩ : S24).f0 < x.f0))) = true := by simp; exact hx
      rw [fin, if_pos e1, if_neg (by show ¬ x.f0 = n; omega), fin_copy true _ _ true rfl r (fun y hy => by have := hB y (by simp [hy]); show y.f0 ≠ n; omega)]
section
variable {w0 w : World} {q p bm base : Nat} {s : DS}
theorem Inv.upto {s s' : DS} (h : Inv s) (h1 : s'.L = s.L) (h2 : s'.room = s.room) (h3 : 0 ≤ s'.armed ∧ s'.armed ≤ 9223372036854775807) : Inv s' := by
  obtain ⟨a, b, c, d, e, f, g⟩ := h
  exact ⟨by rw [h1]; exact a, by rw [h1]; exact b, by rw [h1]; exact c, by rw [h1, h2]; exact d, by rw [h2]; exact e, by rw [h1]; exact f, h3⟩
def ref_Append.T6 : Bool × List (List Nat × List Nat) := (true, [([], []), ([0], [0]), ([1], [1]), ([2], [2]), ([3, 2], [2, 3]), ([4, 2], [2, 4]), ([5, 2], [2, 5]), ([6, 2], [2, 6]), ([7, 2], [2, 7]), ([2, 8], [2, 8]), ([9, 2], [9]), ([10], [10]), ([11, 10, 10], [10, 11]), ([10], [10]), ([13, 10], [10, 13]), ([12, 14, 10], [10, 12, 14]), ([10], [10]), ([16, 10], [10, 16]), ([17, 10], [10, 17]), ([18, 10], [10, 18]), ([15, 19, 10], [10, 15, 19]), ([10, 20], [10, 20])])
def ref_Append.B6 : List Nat := [0, 1, 3, 7, 15, 31, 63, 127, 255, 511, 1023, 2047, 4095, 2047, 10239, 32767, 2047, 67583, 198655, 460799, 1048575, 2097151]
theorem ref_Append.tab6 : rtab .any (opsOf Tryz.f50 6) = ref_Append.T6 := by kernel_rfl
theorem ref_Append.bits6 : waitsOk ref_Append.T6.2 ref_Append.B6 = true := by kernel_rfl
set_option maxHeartbeats 32000000 in
set_option maxRecDepth 100000 in
theorem ref_Append.calls (h : RefAt w0 w q s) (n : Int) (d : ByteArray) (hds : d.size ≤ 140737488351232) : Calls Tryz.prog 50 #[.pointer (some ⟨q, 0, none⟩), .int .i64 n, .string d] w fun e w' => e = .returned (.int .i64 (appS s n d).2) ∧ RefAt w0 w' q (appS s n d).1 ∧ FrQ q w w' := by
  have hu40 := Tryz.underlying24
  have HR := Aside0.mk h
  have HI := Aside0.mk h.inv
  have HDS := Aside0.mk hds
  clear h hds
  obtain ⟨R, hR⟩ : ∃ R, appS s n d = R := ⟨_, rfl⟩
  rw [hR]
  have HRES := Aside0.mk hR
  clear hR
  obtain ⟨A, c, ks0, fA, fc, hb, h2, h3, h4, h5, h6, h7, k0, k1, k2, k3, k4, fz⟩ := HR.out.cells
  have K0 := Aside0.mk k0
  have K3 := Aside0.mk k3
  have K4 := Aside0.mk k4
  have HCF := Aside0.mk h6
  have H4 := Aside0.mk h4
  have H2 := Aside0.mk h2
  have H3 := Aside0.mk h3
  clear hb h2 h3 h4 h5 h6 h7 k0 k2 k3 k4 fz
  by_cases hd : s.dead = true
  · have e1 : R = (s, 150) := by rw [← HRES.out]; unfold appS; rw [if_pos hd]
    subst e1
    rw [hd] at k1
    clear hd HRES
    go_enter Tryz.func50, Tryz.ntmps50
    go_wp2
    go_ret
    exact ⟨rfl, HR.out, FrQ.refl _ _⟩
  · have hd' : s.dead = false := by simpa using hd
    rw [hd'] at k1
    have HDD := Aside0.mk hd'
    by_cases hr : n < 0 ∨ n > 1000000
    · have e1 : R = (s, 2) := by rw [← HRES.out]; unfold appS; rw [if_neg hd, if_pos hr]
      subst e1
      by_cases d1 : n < 0
      · have b1 : decide (n < 0) = true := decide_eq_true d1
        clear hd hd' hr d1 HRES
        go_enter Tryz.func50, Tryz.ntmps50
        go_wp2
        go_ret
        exact ⟨rfl, HR.out, FrQ.refl _ _⟩
      · have b1 : decide (n < 0) = false := decide_eq_false d1
        have b2 : decide (1000000 < n) = true := decide_eq_true (by omega)
        clear hd hd' hr d1 HRES
        go_enter Tryz.func50, Tryz.ntmps50
        go_wp2
        go_ret
        exact ⟨rfl, HR.out, FrQ.refl _ _⟩
    · have HNR := Aside0.mk hr
      have b1 : decide (n < 0) = false := decide_eq_false (by omega)
      have b2 : decide (1000000 < n) = false := decide_eq_false (by omega)
      obtain ⟨ix, hix⟩ : ∃ ix, idxL s.L n 0 = ix := ⟨_, rfl⟩
      obtain ⟨ab, hab⟩ : ∃ ab, (!hasL s.L n) = ab := ⟨_, rfl⟩
      have t5 : decide (ix < 0) = ab := by
        rw [← hab]
        rcases idxL_cases HI.out n with ⟨g1, g2⟩ | ⟨g1, i, _, g2, _⟩
        · rw [g1, ← hix, g2]; rfl
        · rw [g1, ← hix, g2]; exact decide_eq_false (by omega)
      have HIX := Aside0.mk hix
      have HAB := Aside0.mk hab
      have T5 := Aside0.mk t5
      clear hd hd' hr hix hab t5
      go_enter Tryz.func50, Tryz.ntmps50
      go_upto_region 6 with ((with_reducible refine gate_callee (f := 51) rfl ?_); refine goesL_ (some _) rfl rfl Tryz.func51 (by kernel_rfl) rfl #[.pointer (some ⟨q, 0, none⟩), .int .i64 n] rfl My.gx ?_; (refine (ref_at.calls HR.out n).mono ?_); rintro e W1 ⟨rfl, hb⟩; refine ⟨_, rfl, ?_⟩; rw [HIX.out]; have HB := Aside0.mk hb; clear hb)
      clear b1 b2 k1
      have t5 := T5.out
      have hwr : wrap64 (useL s.L + (d.size : Int)) = useL s.L + (d.size : Int) := by have h1 := HI.out.use; have h2 := HI.out.room; have h3 := useL_nonneg s.L; have := HDS.out; unfold wrap64; omega
      have hfb : (!hasL s.L n && decide (s.L.length = 8) || decide (s.room < useL s.L + (d.size : Int))) = fullB s n d := by
        unfold fullB
        congr 1
        apply decide_eq_decide.2
        omega
      rw [HAB.out] at hfb
      have HFB := Aside0.mk hfb
      clear hfb
      obtain ⟨fu, hfu⟩ : ∃ fu, fullB s n d = fu := ⟨_, rfl⟩
      have HFU := Aside0.mk hfu
      rw [hfu] at HFB
      clear hfu
      go_cut [46] (fun v46 wc => v46 = .bool fu ∧ Aside0 (Below w.heap.size w wc))
      case first =>
        cases ab with
        | false =>
          have k4 := (HB.out.cell (World.block_lt_of_cell? _ _ K4.out)).trans K4.out
          have k0 := (HB.out.cell (World.block_lt_of_cell? _ _ K0.out)).trans K0.out
          refine start_ (n := 22) (S := fun w' => RefAt w0 w' q s ∧ w'.cell? ⟨q, 0, none⟩ = some (.int .i64 s.room) ∧ w'.cell? ⟨q, 4, none⟩ = some (.slice fA s.L.length fc)) (ds := []) #[false, false, false, false, false, false, false, false, false, false, false, false, false, false, false, false, false, false, false, false, false, false] (by kernel_rfl) rfl rfl ⟨(HR.out.up HB.out).up (Below.refl _ W1).drew, k0, k4⟩ (fun hHeld => ?_); refine with_tabW ref_Append.tab6 ref_Append.bits6 (fun HT_ HW_ => ?_)
          have HB3 := Aside0.mk (Below.drew (Below.refl W1.heap.size W1))
          generalize W1.drew = W3 at HB3 hHeld ⊢
          refine My.pv_ 0 25 22 1 HT_.out ?_
          refine My.pv_ 1 26 22 3 HT_.out ?_
          refine My.pv_ 2 27 22 7 HT_.out ?_
          refine My.pw_ 3 28 22 15 HT_.out ?_
          refine My.pw_ 4 29 22 31 HT_.out ?_
          refine My.pw_ 5 30 22 63 HT_.out ?_
          refine My.pw_ 6 31 22 127 HT_.out ?_
          refine My.pw_ 7 32 22 255 HT_.out ?_
          refine My.pw_ 8 33 22 511 HT_.out ?_
          refine My.pv_ 9 34 22 1023 HT_.out ?_
          refine My.pv_ 10 35 22 2047 HT_.out ?_
          refine My.pv_ 11 36 22 4095 HT_.out ?_
          refine My.pv_ 13 38 22 12287 HT_.out ?_
          refine My.tv_ 14 39 22 28671 HT_.out HW_.out hHeld rfl rfl (by rintro w' ⟨hS, k0, k4⟩; go_simp; with_reducible rfl) ?_
          refine My.pv_ 16 41 22 94207 HT_.out ?_
          refine My.pv_ 17 42 22 225279 HT_.out ?_
          refine My.pv_ 18 43 22 487423 HT_.out ?_
          refine My.tv_ 19 44 22 1011711 HT_.out HW_.out hHeld rfl rfl (by rintro w' ⟨hS, k0, k4⟩; go_simp; with_reducible rfl) ?_
          refine one_ (i := 12) (N := some 37) (My.Mb 22 1015807) rfl rfl (one_of HT_.out (by kernel_rfl)) (by decide) (fun K hK => ?_)
          refine goes_ Tryz.func73 (by kernel_rfl) rfl #[.pointer (some ⟨q, 0, none⟩)] (by rfl) rfl rfl My.gx ?_
          refine (ref_Used.calls hHeld.1).mono ?_
          rintro e W4 ⟨rfl, hb⟩
          refine ⟨_, rfl, ?_⟩
          replace HB3 := Aside0.mk (HB3.out.trans (hb.mono HB3.out.size))
          refine hK.out _ _ ⟨hHeld.1.up hb, (hb.cell (World.block_lt_of_cell? _ _ hHeld.2.1)).trans hHeld.2.1, (hb.cell (World.block_lt_of_cell? _ _ hHeld.2.2)).trans hHeld.2.2⟩ (fun hHeld => ?_)
          clear hK K
          refine My.nm 37 ?_
          refine My.pv_ 15 40 22 1048575 HT_.out ?_
          refine My.pv_ 20 45 22 2097151 HT_.out ?_
          refine My.pv_ 21 46 22 4194303 HT_.out ?_
          refine done_ (done_of HT_.out (by kernel_rfl)) ?_
          try go_wp2
          go_meet
          case rel => exact ⟨by rw [← HFB.out]; simp, ⟨HB.out.trans (HB3.out.mono HB.out.size)⟩⟩
        | true =>
          by_cases hl : s.L.length = 8
          · have l1 : decide ((s.L.length : Int) = 8) = true := decide_eq_true (by omega)
            have l2 : ((s.L.length : Int) == 8) = true := by rw [hl]; rfl
            have l3 : (s.L.length : Int) = 8 := by omega
            have HLL := Aside0.mk hl
            clear hl hwr
            have k4 := (HB.out.cell (World.block_lt_of_cell? _ _ K4.out)).trans K4.out
            have k0 := (HB.out.cell (World.block_lt_of_cell? _ _ K0.out)).trans K0.out
            refine start_ (n := 22) (S := fun w' => RefAt w0 w' q s ∧ w'.cell? ⟨q, 0, none⟩ = some (.int .i64 s.room) ∧ w'.cell? ⟨q, 4, none⟩ = some (.slice fA s.L.length fc)) (ds := []) #[false, false, false, false, false, false, false, false, false, false, false, false, false, false, false, false, false, false, false, false, false, false] (by kernel_rfl) rfl rfl ⟨(HR.out.up HB.out).up (Below.refl _ W1).drew, k0, k4⟩ (fun hHeld => ?_); refine with_tabW ref_Append.tab6 ref_Append.bits6 (fun HT_ HW_ => ?_)
            have HB3 := Aside0.mk (Below.drew (Below.refl W1.heap.size W1))
            generalize W1.drew = W3 at HB3 hHeld ⊢
            refine My.pv_ 0 25 22 1 HT_.out ?_
            refine My.pv_ 1 26 22 3 HT_.out ?_
            refine My.pv_ 2 27 22 7 HT_.out ?_
            refine My.pv_ 3 28 22 15 HT_.out ?_
            refine My.pv_ 4 29 22 31 HT_.out ?_
            refine My.pv_ 5 30 22 63 HT_.out ?_
            refine My.tv_ 6 31 22 127 HT_.out HW_.out hHeld rfl rfl (by rintro w' ⟨hS, k0, k4⟩; go_simp; with_reducible rfl) ?_
            refine My.tv_ 7 32 22 255 HT_.out HW_.out hHeld rfl rfl (by rintro w' ⟨hS, k0, k4⟩; go_simp; with_reducible rfl) ?_
            refine My.pv_ 8 33 22 511 HT_.out ?_
            refine My.pv_ 9 34 22 1023 HT_.out ?_
            refine My.pv_ 10 35 22 2047 HT_.out ?_
            refine My.pw_ 11 36 22 4095 HT_.out ?_
            refine My.pw_ 12 37 22 8191 HT_.out ?_
            refine My.pw_ 13 38 22 16383 HT_.out ?_
            refine My.pw_ 14 39 22 32767 HT_.out ?_
            refine My.pw_ 15 40 22 65535 HT_.out ?_
            refine My.pw_ 16 41 22 131071 HT_.out ?_
            refine My.pw_ 17 42 22 262143 HT_.out ?_
            refine My.pw_ 18 43 22 524287 HT_.out ?_
            refine My.pw_ 19 44 22 1048575 HT_.out ?_
            refine My.pw_ 20 45 22 2097151 HT_.out ?_
            refine My.pv_ 21 46 22 4194303 HT_.out ?_
            refine done_ (done_of HT_.out (by kernel_rfl)) ?_
            try go_wp2
            go_meet
            case rel => exact ⟨by rw [← HFB.out]; simp [HLL.out], ⟨HB.out.trans (HB3.out.mono HB.out.size)⟩⟩
          · have l1 : decide ((s.L.length : Int) = 8) = false := decide_eq_false (by omega)
            have l2 : ((s.L.length : Int) == 8) = false := beq_eq_false_iff_ne.2 (by omega)
            have HLL := Aside0.mk hl
            clear hl
            have k4 := (HB.out.cell (World.block_lt_of_cell? _ _ K4.out)).trans K4.out
            have k0 := (HB.out.cell (World.block_lt_of_cell? _ _ K0.out)).trans K0.out
            refine start_ (n := 22) (S := fun w' => RefAt w0 w' q s ∧ w'.cell? ⟨q, 0, none⟩ = some (.int .i64 s.room) ∧ w'.cell? ⟨q, 4, none⟩ = some (.slice fA s.L.length fc)) (ds := []) #[false, false, false, false, false, false, false, false, false, false, false, false, false, false, false, false, false, false, false, false, false, false] (by kernel_rfl) rfl rfl ⟨(HR.out.up HB.out).up (Below.refl _ W1).drew, k0, k4⟩ (fun hHeld => ?_); refine with_tabW ref_Append.tab6 ref_Append.bits6 (fun HT_ HW_ => ?_)
            have HB3 := Aside0.mk (Below.drew (Below.refl W1.heap.size W1))
            generalize W1.drew = W3 at HB3 hHeld ⊢
            refine My.pv_ 0 25 22 1 HT_.out ?_
            refine My.pv_ 1 26 22 3 HT_.out ?_
            refine My.pv_ 2 27 22 7 HT_.out ?_
            refine My.pv_ 3 28 22 15 HT_.out ?_
            refine My.pv_ 4 29 22 31 HT_.out ?_
            refine My.pv_ 5 30 22 63 HT_.out ?_
            refine My.tv_ 6 31 22 127 HT_.out HW_.out hHeld rfl rfl (by rintro w' ⟨hS, k0, k4⟩; go_simp; with_reducible rfl) ?_
            refine My.tv_ 7 32 22 255 HT_.out HW_.out hHeld rfl rfl (by rintro w' ⟨hS, k0, k4⟩; go_simp; with_reducible rfl) ?_
            refine My.pv_ 8 33 22 511 HT_.out ?_
            refine My.pv_ 9 34 22 1023 HT_.out ?_
            refine My.pv_ 10 35 22 2047 HT_.out ?_
            refine My.pv_ 11 36 22 4095 HT_.out ?_
            refine My.pv_ 13 38 22 12287 HT_.out ?_
            refine My.tv_ 14 39 22 28671 HT_.out HW_.out hHeld rfl rfl (by rintro w' ⟨hS, k0, k4⟩; go_simp; with_reducible rfl) ?_
            refine My.pv_ 16 41 22 94207 HT_.out ?_
            refine My.pv_ 17 42 22 225279 HT_.out ?_
            refine My.pv_ 18 43 22 487423 HT_.out ?_
            refine My.tv_ 19 44 22 1011711 HT_.out HW_.out hHeld rfl rfl (by rintro w' ⟨hS, k0, k4⟩; go_simp; with_reducible rfl) ?_
            refine one_ (i := 12) (N := some 37) (My.Mb 22 1015807) rfl rfl (one_of HT_.out (by kernel_rfl)) (by decide) (fun K hK => ?_)
            refine goes_ Tryz.func73 (by kernel_rfl) rfl #[.pointer (some ⟨q, 0, none⟩)] (by rfl) rfl rfl My.gx ?_
            refine (ref_Used.calls hHeld.1).mono ?_
            rintro e W4 ⟨rfl, hb⟩
            refine ⟨_, rfl, ?_⟩
            replace HB3 := Aside0.mk (HB3.out.trans (hb.mono HB3.out.size))
            refine hK.out _ _ ⟨hHeld.1.up hb, (hb.cell (World.block_lt_of_cell? _ _ hHeld.2.1)).trans hHeld.2.1, (hb.cell (World.block_lt_of_cell? _ _ hHeld.2.2)).trans hHeld.2.2⟩ (fun hHeld => ?_)
            clear hK K
            refine My.nm 37 ?_
            refine My.pv_ 15 40 22 1048575 HT_.out ?_
            refine My.pv_ 20 45 22 2097151 HT_.out ?_
            refine My.pv_ 21 46 22 4194303 HT_.out ?_
            refine done_ (done_of HT_.out (by kernel_rfl)) ?_
            try go_wp2
            go_meet
            case rel => exact ⟨by rw [← HFB.out]; simp [HLL.out], ⟨HB.out.trans (HB3.out.mono HB.out.size)⟩⟩
      case rest =>
        obtain ⟨rfl, HB2⟩ := hcut
        clear hwr HB
        cases fu with
        | true =>
          have e1 : R = (s, 151) := by rw [← HRES.out]; unfold appS; rw [if_neg (by rw [HDD.out]; decide), if_neg HNR.out, if_pos HFU.out]
          subst e1
          clear HRES
          go_wp2
          go_ret
          exact ⟨rfl, HR.out.up HB2.out, FrQ.of HB2.out⟩
        | false =>
          by_cases hd0 : d.size = 0
          · have e1 : R = (s, 0) := by rw [← HRES.out]; unfold appS; rw [if_neg (by rw [HDD.out]; decide), if_neg HNR.out, if_neg (by rw [HFU.out]; decide), if_pos hd0]
            subst e1
            obtain rfl : d = ⟨#[]⟩ := ByteArray.ext (Array.eq_empty_of_size_eq_zero hd0)
            clear HRES HFU hd0 HDS HFB
            go_wp2
            go_ret
            exact ⟨rfl, HR.out.up HB2.out, FrQ.of HB2.out⟩
          · have e1 : R = endS { s with L := putL s.L (appF s n d) } := by rw [← HRES.out]; unfold appS; rw [if_neg (by rw [HDD.out]; decide), if_neg HNR.out, if_neg (by rw [HFU.out]; decide), if_neg hd0]
            have t1 : d.toList.isEmpty = false := by
              rw [ByteArray.toList_eq, List.isEmpty_eq_false_iff]
              intro he
              exact hd0 (by have := congrArg List.length he; simpa using this)
            have HE1 := Aside0.mk e1
            have HD0 := Aside0.mk hd0
            have HI5 := Aside0.mk (app_inv HI.out HNR.out HFU.out hd0)
            clear HRES e1 hd0 HFB
            obtain ⟨fin0, hf0⟩ : ∃ l, fin ab ⟨n, d, 0⟩ d false s.L = l := ⟨_, rfl⟩
            have HFP := Aside0.mk (show fin0 = putL s.L (appF s n d) by rw [← hf0, ← HAB.out]; exact fin_put HI.out n d)
            have HF0 := Aside0.mk hf0
            clear hf0
            go_wp2
            clear t1
            go_loopg [8, 9, 10] (s.L.length + 1) (fun kq v8 v9 v10 w' => ∃ (i : Nat) (x : Int) (done : Bool) (out : List S24), v9 = .bool done ∧ v10 = .int .i64 x ∧ Aside0 (x = (i : Int)) ∧ Aside0 (kq + i = s.L.length + 1) ∧ Aside0 (i ≤ s.L.length) ∧ Aside0 (k24.R 24 w' w.heap.size (fun _ => True) v8 out) ∧ Aside0 (Below w.heap.size w w') ∧ Aside0 (out ++ fin ab ⟨n, d, 0⟩ d done (s.L.drop i) = fin0) ∧ Aside0 (out.length ≤ 2 * i))
            case atStart => exact ⟨0, _, false, [], rfl, rfl, ⟨rfl⟩, ⟨rfl⟩, ⟨Nat.zero_le _⟩, ⟨Kd.R_nil _ _ _ _ _⟩, HB2, ⟨by rw [List.nil_append, List.drop_zero]; exact HF0.out⟩, ⟨by simp⟩⟩
            case round =>
              obtain ⟨i, x, done, out, rfl, rfl, hx, hk, hi, HO, HB, HFI, HOL⟩ := hrel
              have k4 := (HB.out.cell (World.block_lt_of_cell? _ _ K4.out)).trans K4.out
              by_cases c9 : i < s.L.length
              · have q1 : x < (s.L.length : Int) := by have := hx.out; omega
                have p1 : (0 : Int) ≤ x := by have := hx.out; omega
                have c3 : decide (x < (s.L.length : Int)) = true := decide_eq_true q1
                obtain ⟨ad, e1, x0, x1, x2⟩ := at_T24 (Kd.C_below HCF.out HB.out) x p1 q1
                cases e1
                have hdr := drop40 s.L i c9
                have hmem := mem40 s.L i c9
                rw [← hx.out] at hdr hmem
                obtain ⟨X, hX⟩ : ∃ X, rd_T24 s.L x = X := ⟨_, rfl⟩
                rw [hX] at hdr hmem x0 x1 x2
                have hfi := HFI.out
                rw [hdr, fin] at hfi
                have hcat : (9223372036854775807 < X.f1.size + d.size) = False := eq_false (by have h1 := useL_mem hmem; have h2 := HI.out.use; have h3 := HI.out.room; have h4 := HDS.out; omega)
                have HCT := Aside0.mk hcat
                have hw : wrap64 (x + 1) = x + 1 := by have := HI.out.len; unfold wrap64; omega
                have HW := Aside0.mk hw
                have HCI := Aside0.mk c9
                have HL8 := Aside0.mk HI.out.len
                have HBsz := Aside0.mk HB.out.size
                obtain ⟨X', hX'⟩ : ∃ X', (if X.f0 = n then (⟨X.f0, X.f1 ++ d, X.f2⟩ : S24) else X) = X' := ⟨_, rfl⟩
                obtain ⟨bb, hbb⟩ : ∃ bb, (ab && (!done && decide (n < X.f0))) = bb := ⟨_, rfl⟩
                have hfi2 : out ++ (if bb = true then (⟨n, d, 0⟩ : S24) :: X' :: fin ab ⟨n, d, 0⟩ d true (s.L.drop (i + 1)) else X' :: fin ab ⟨n, d, 0⟩ d done (s.L.drop (i + 1))) = fin0 := by rw [← hX', ← hbb]; exact hfi
                have HFI2 := Aside0.mk hfi2
                have HX' := Aside0.mk hX'
                have HBB := Aside0.mk hbb
                clear hdr hmem hX hfi hfi2 hX' hbb hcat hw c9 HFI
                have p2 := eq_true p1
                have q2 := eq_true q1
                have t5 := T5.out
                go_upto_region 16 with ((with_reducible refine gate_dst (N := 11) rfl ?_); refine My.bx 11 #[.int .i64 0, .string ⟨#[]⟩, .int .i64 0] 24 ?_; intro g11 hg w11 hbox hb; have BX := My.am hbox; have HB6 := Aside0.mk hb; have G11 := Aside0.mk (show wr.heap.size ≤ g11 by rw [hg]; exact Nat.le_refl _); clear hb hbox hg x0 x1 x2; have hz := My.cz3 BX)
                refine at_world (J := fun W => Below wr.heap.size wr W ∧ W.heap[g11]? = some (.cells #[.int .i64 X.f0, .string X.f1, .int .i64 X.f2] 24 (0, 0))) ⟨below_set (below_set (below_set HB6.out G11.out) G11.out) G11.out, My.put3 BX.out⟩ ?_
                clear BX HB6 hz k4
                rintro W2 ⟨B2, Y2⟩
                have HY2 := My.am Y2
                have HO2 := Aside0.mk (Kd.R_mono (Kd.R_below (Kd.R_bound HO.out) B2) (fun k hk => show k ≠ g11 from by have := hk.2.2.1; have := G11.out; omega))
                have HBW := Aside0.mk (HB.out.trans (B2.mono HB.out.size))
                have hz := My.cz3 HY2
                clear B2 Y2 HO HB
                go_cut [76] (fun v76 wc => v76 = .bool bb ∧ wc = W2)
                case first =>
                  cases ab with
                  | false =>
                    go_wp2
                    go_meet
                    case rel => exact ⟨by rw [← HBB.out]; simp, rfl⟩
                  | true =>
                    cases done with
                    | true =>
                      go_wp2
                      go_meet
                      case rel => exact ⟨by rw [← HBB.out]; simp, rfl⟩
                    | false =>
                      by_cases dn : n < X.f0
                      · have u1 : decide (n < X.f0) = true := decide_eq_true dn
                        go_wp2
                        go_meet
                        case rel => exact ⟨by rw [← HBB.out]; simp [dn], rfl⟩
                      · have u1 : decide (n < X.f0) = false := decide_eq_false dn
                        go_wp2
                        go_meet
                        case rel => exact ⟨by rw [← HBB.out]; simp [dn], rfl⟩
                case rest =>
                  obtain ⟨rfl, rfl⟩ := hcut
                  clear hz t5
                  go_upto_if 76 with (fail)
                  go_cut [8, 9] (fun v8 v9 wc2 => ∃ (out2 : List S24) (done2 : Bool), v9 = .bool done2 ∧ Aside0 (k24.R 24 wc2 w.heap.size (fun k => k ≠ g11) v8 out2) ∧ Aside0 (wc2.heap[g11]? = some (.cells #[.int .i64 X.f0, .string X.f1, .int .i64 X.f2] 24 (0, 0))) ∧ Aside0 (Below w.heap.size w wc2) ∧ Aside0 (out2 ++ X' :: fin ab ⟨n, d, 0⟩ d done2 (s.L.drop (i + 1)) = fin0) ∧ Aside0 (out2.length ≤ 2 * i + 1))
                  case first =>
                    cases bb with
                    | true =>
                      go_wp2_with (at_builtin; refine Kd.R_append k24 (w0 := w) w.heap.size rfl _ _ 22 24 (.agg #[(.int .i64 0), (.string ⟨#[]⟩), (.int .i64 0)]) 32 rfl Tryz.underlying22 info24 rfl (by decide) (by decide) u8 out (⟨n, d, 0⟩ : S24) [.int .i64 n, .string d, .int .i64 0] (fun k => k ≠ g11) (fun _ => False) rfl rfl (k24_mkM _ _ _ _) (fun _ hk => hk.elim) (fun k hk => by have := blk_lt HY2.out; omega) HO2.out HBW.out HBW.out.size (by have := HOL.out; have := HCI.out; have := HL8.out; omega) ?_; intro v1 w1 hr1 hb1 hg1 hat1)
                      have hg11 := (hg1.block g11 (blk_lt HY2.out) (fun e => HO2.out.1 g11 e.symm rfl)).trans HY2.out
                      go_meet
                      case rel => exact ⟨out ++ [⟨n, d, 0⟩], true, rfl, ⟨hr1⟩, ⟨hg11⟩, ⟨hb1⟩, ⟨by (have h := HFI2.out); (first | rw [if_pos rfl] at h | rw [if_pos trivial] at h); rw [← h]; simp⟩, ⟨by have := HOL.out; simp; omega⟩⟩
                    | false =>
                      go_wp2
                      go_meet
                      case rel => exact ⟨out, done, rfl, HO2, HY2, HBW, ⟨by (have h := HFI2.out); (first | rw [if_neg Bool.false_ne_true] at h | rw [if_neg not_false] at h); exact h⟩, ⟨by have := HOL.out; omega⟩⟩
                  case rest =>
                    obtain ⟨out2, done2, rfl, HO3, HY3, HB3, HFI3, HOL3⟩ := hcut
                    clear HO2 HY2 HBW HFI2
                    have hz := My.cz3 HY3
                    have hcat := HCT.out
                    by_cases dn : X.f0 = n
                    · have u1 : decide (X.f0 = n) = true := decide_eq_true dn
                      have u2 : (X.f0 == n) = true := by rw [dn]; simp
                      have ex : X' = ⟨X.f0, X.f1 ++ d, X.f2⟩ := by rw [← HX'.out, if_pos dn]
                      clear dn
                      go_upto_region 21 with (fail)
                      clear u1 u2 hcat hz
                      refine at_world (J := fun W => W.heap[g11]? = some (.cells #[.int .i64 X.f0, .string (X.f1 ++ d), .int .i64 X.f2] 24 (0, 0)) ∧ k24.R 24 W w.heap.size (fun k => k ≠ g11) u8 out2 ∧ Below w.heap.size w W) ⟨blk_put HY3.out 1 (.string (X.f1 ++ d)) rfl, Kd.R_far (p := ⟨g11, 1, none⟩) HO3.out (fun _ hk => hk) _, below_set HB3.out (Nat.le_trans HBsz.out G11.out)⟩ ?_
                      clear HO3 HB3 HY3
                      rintro W5 ⟨Y5, O5, B5⟩
                      have HY5 := My.am Y5
                      have HO5 := Aside0.mk O5
                      have HB5 := Aside0.mk B5
                      have hz := My.cz3 HY5
                      clear Y5 O5 B5
                      go_wp2_with (at_builtin; refine Kd.R_append k24 (w0 := w) w.heap.size rfl _ _ 22 24 (.agg #[(.int .i64 0), (.string ⟨#[]⟩), (.int .i64 0)]) 32 rfl Tryz.underlying22 info24 rfl (by decide) (by decide) u8 out2 (⟨X.f0, X.f1 ++ d, X.f2⟩ : S24) [.int .i64 X.f0, .string (X.f1 ++ d), .int .i64 X.f2] (fun k => k ≠ g11) (fun _ => False) rfl rfl (k24_mkM _ _ _ _) (fun _ hk => hk.elim) (fun k hk => by have := blk_lt HY5.out; omega) HO5.out HB5.out HB5.out.size (by have := HOL3.out; have := HCI.out; have := HL8.out; omega) ?_; intro v1 w1 hr1 hb1 hg1 hat1; rw [← ex] at hr1)
                      have hI := HCI.out
                      have hx1 := hx.out
                      have hk1 := hk.out
                      go_roundg (s.L.length - i)
                      case measure => omega
                      case rel => exact ⟨i + 1, x + 1, done2, out2 ++ [X'], rfl, by first | rfl | (rw [HW.out]), ⟨by omega⟩, ⟨by omega⟩, ⟨by omega⟩, ⟨Kd.R_mono hr1 (fun _ _ => trivial)⟩, ⟨hb1⟩, ⟨by rw [← HFI3.out]; simp⟩, ⟨by have := HOL3.out; simp; omega⟩⟩
                    · have u1 : decide (X.f0 = n) = false := decide_eq_false dn
                      have u2 : (X.f0 == n) = false := beq_eq_false_iff_ne.2 dn
                      have ex : X' = X := by rw [← HX'.out, if_neg dn]
                      clear dn hcat
                      go_wp2_with (at_builtin; refine Kd.R_append k24 (w0 := w) w.heap.size rfl _ _ 22 24 (.agg #[(.int .i64 0), (.string ⟨#[]⟩), (.int .i64 0)]) 32 rfl Tryz.underlying22 info24 rfl (by decide) (by decide) u8 out2 X [.int .i64 X.f0, .string X.f1, .int .i64 X.f2] (fun k => k ≠ g11) (fun _ => False) rfl rfl (k24_mkM _ _ _ _) (fun _ hk => hk.elim) (fun k hk => by have := blk_lt HY3.out; omega) HO3.out HB3.out HB3.out.size (by have := HOL3.out; have := HCI.out; have := HL8.out; omega) ?_; intro v1 w1 hr1 hb1 hg1 hat1; rw [← ex] at hr1)
                      have hI := HCI.out
                      have hx1 := hx.out
                      have hk1 := hk.out
                      go_roundg (s.L.length - i)
                      case measure => omega
                      case rel => exact ⟨i + 1, x + 1, done2, out2 ++ [X'], rfl, by first | rfl | (rw [HW.out]), ⟨by omega⟩, ⟨by omega⟩, ⟨by omega⟩, ⟨Kd.R_mono hr1 (fun _ _ => trivial)⟩, ⟨hb1⟩, ⟨by rw [← HFI3.out]; simp⟩, ⟨by have := HOL3.out; simp; omega⟩⟩
              · have c3 : decide (x < (s.L.length : Int)) = false := decide_eq_false (by have := hi.out; have := hx.out; omega)
                have hfi := HFI.out
                rw [List.drop_eq_nil_of_le (by omega), fin] at hfi
                obtain ⟨bb, hbb⟩ : ∃ bb, (ab && !done) = bb := ⟨_, rfl⟩
                rw [hbb] at hfi
                have HFI2 := Aside0.mk hfi
                have HBB := Aside0.mk hbb
                have HLO := Aside0.mk (show out.length ≤ 16 by have := HOL.out; have := hi.out; have := HI.out.len; omega)
                have t5 := T5.out
                clear hfi hbb c9 HFI
                go_upto_region 22 with (fail)
                clear c3
                go_cut [101] (fun v101 wc => v101 = .bool bb ∧ wc = wr)
                case first =>
                  cases ab with
                  | false =>
                    go_wp2
                    go_meet
                    case rel => exact ⟨by rw [← HBB.out]; simp, rfl⟩
                  | true =>
                    cases done with
                    | true =>
                      go_wp2
                      go_meet
                      case rel => exact ⟨by rw [← HBB.out]; simp, rfl⟩
                    | false =>
                      go_wp2
                      go_meet
                      case rel => exact ⟨by rw [← HBB.out]; simp, rfl⟩
                case rest =>
                  obtain ⟨rfl, rfl⟩ := hcut
                  clear t5 k4
                  go_upto_if 101 with (fail)
                  go_cut [8] (fun v8 wc2 => Aside0 (k24.R 24 wc2 w.heap.size (fun _ => True) v8 fin0) ∧ Aside0 (Below w.heap.size w wc2))
                  case first =>
                    cases bb with
                    | true =>
                      go_wp2_with (at_builtin; refine Kd.R_append k24 (w0 := w) w.heap.size rfl _ _ 22 24 (.agg #[(.int .i64 0), (.string ⟨#[]⟩), (.int .i64 0)]) 32 rfl Tryz.underlying22 info24 rfl (by decide) (by decide) u8 out (⟨n, d, 0⟩ : S24) [.int .i64 n, .string d, .int .i64 0] (fun _ => True) (fun _ => False) rfl rfl (k24_mkM _ _ _ _) (fun _ hk => hk.elim) (fun _ _ => trivial) HO.out HB.out HB.out.size (by have := HLO.out; omega) ?_; intro v1 w1 hr1 hb1 hg1 hat1)
                      go_meet
                      case rel => exact ⟨⟨by (have h := HFI2.out); (first | rw [if_pos rfl] at h | rw [if_pos trivial] at h); rw [← h]; exact hr1⟩, ⟨hb1⟩⟩
                    | false =>
                      go_wp2
                      go_meet
                      case rel => exact ⟨⟨by (have h := HFI2.out); (first | rw [if_neg Bool.false_ne_true] at h | rw [if_neg not_false] at h); rw [List.append_nil] at h; rw [← h]; exact HO.out⟩, HB⟩
                  case rest =>
                    obtain ⟨HO3, HB3⟩ := hcut
                    clear HO HB HFI2
                    rw [HFP.out] at HO3
                    obtain ⟨vA, vc, rfl⟩ := Kd.R_slice HO3.out
                    have HRR := Aside0.mk (HR.out.up HB3.out)
                    have HR5 := Aside0.mk (HRR.out.put4 _ (putL s.L (appF s n d)) (Kd.R_lower HO3.out HR.out.bel.size) HI5.out)
                    obtain ⟨A', c', ks', fA', fc', hb', h2', h3', h4', h5', h6', h7', k0', k1', k2', k3', k4', fz'⟩ := HRR.out.cells
                    have K3' := Aside0.mk ((HB3.out.cell (World.block_lt_of_cell? _ _ K3.out)).trans K3.out)
                    have HBQ := Aside0.mk hb'
                    clear h2' h3' h4' h5' h6' h7' k0' k1' k2' k3'
                    obtain ⟨s5, hs5⟩ : ∃ s5, ({ s with L := putL s.L (appF s n d) } : DS) = s5 := ⟨_, rfl⟩
                    have HK5 := Aside0.mk (show s5.keep = s.keep ∧ s5.armed = s.armed by rw [← hs5]; exact ⟨rfl, rfl⟩)
                    rw [hs5] at HE1 HR5
                    clear hs5 hb'
                    go_upto_region 25 with (fail)
                    clear fz' k4'
                    refine at_world (J := fun W => RefAt w0 W q s5 ∧ FrQ q w W ∧ W.cell? ⟨q, 3, none⟩ = some (.slice A ks0.length c)) ⟨HR5.out, (FrQ.of HB3.out).set 4 _, by rw [blk_cell (blk_put HBQ.out 4 _ rfl) 3]; rw [← K3'.out, blk_cell HBQ.out 3]; rfl⟩ ?_
                    clear HR5 HRR HO3 HB3 HBQ K3'
                    rintro W5 ⟨R5, F5, k99935⟩
                    have HR5 := Aside0.mk R5
                    have HF5 := Aside0.mk F5
                    have K35 := Aside0.mk k99935
                    have HCALL := Aside0.mk (ref_last.calls R5)
                    clear R5 F5 k99935
                    cases hls : lastS s5 with
                    | true =>
                      have e2 := HE1.out
                      unfold endS at e2
                      rw [if_pos hls] at e2
                      subst e2
                      have hk0 : ks0 = s5.keep := by
                        rw [HK5.out.1]
                        refine H4.out ?_
                        unfold lastS at hls
                        have := of_decide_eq_true hls
                        rw [HK5.out.2] at this
                        omega
                      have HK0 := Aside0.mk hk0
                      have HC2 := HCALL.out
                      rw [hls] at HC2
                      have HCA := Aside0.mk HC2
                      clear HE1 HCALL hls HC2 hk0 HFP
                      go_wp2_with (first
                        | ((with_reducible refine gate_callee (f := 52) rfl ?_); refine goesL_ (some _) rfl rfl Tryz.func52 (by kernel_rfl) rfl #[.pointer (some ⟨q, 0, none⟩)] rfl My.gx ?_; (refine HCA.out.mono ?_); rintro e W6 ⟨rfl, hR6, hF6, h36⟩; refine ⟨_, rfl, ?_⟩; have HR6 := Aside0.mk hR6; have HF6 := Aside0.mk (HF5.out.trans hF6); have k99936 := h36 _ K35.out; clear hR6 hF6 h36)
                        | ((with_reducible refine gate_callee (f := 53) rfl ?_); refine goesL_ (some _) rfl rfl Tryz.func53 (by kernel_rfl) rfl #[.pointer (some ⟨q, 0, none⟩), .slice A ks0.length c] rfl My.gx ?_; (refine (ref_fall.calls HR6.out A c ks0 H2.out H3.out).mono ?_); rintro e W7 ⟨rfl, hR7, hF7⟩; refine ⟨_, rfl, ?_⟩; have HR7 := Aside0.mk hR7; have HF7 := Aside0.mk (HF6.out.trans hF7); clear hR7 hF7))
                      go_ret
                      exact ⟨rfl, by rw [← HK0.out]; exact HR7.out, HF7.out⟩
                    | false =>
                      have e2 := HE1.out
                      unfold endS at e2
                      rw [if_neg (by rw [hls]; decide)] at e2
                      subst e2
                      have HC2 := HCALL.out
                      rw [hls] at HC2
                      have HCA := Aside0.mk HC2
                      clear HE1 HCALL hls HC2 HFP
                      go_wp2_with ((with_reducible refine gate_callee (f := 52) rfl ?_); refine goesL_ (some _) rfl rfl Tryz.func52 (by kernel_rfl) rfl #[.pointer (some ⟨q, 0, none⟩)] rfl My.gx ?_; (refine HCA.out.mono ?_); rintro e W6 ⟨rfl, hR6, hF6, h36⟩; refine ⟨_, rfl, ?_⟩; have HR6 := Aside0.mk hR6; have HF6 := Aside0.mk (HF5.out.trans hF6); clear hR6 hF6 h36)
                      go_ret
                      exact ⟨rfl, HR6.out, HF6.out⟩
end

end Go.Proofs.YtkcpgaplpmbmoaaGreat.PA
