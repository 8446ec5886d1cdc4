/- A log on a disk, and the document's, walked by hand; Lean checks it. -/
import Derived.Test.YtkcpgaplpmbmoaaGreatPAx23
import Derived.Test.YtkcpgaplpmbmoaaGreatPAx18
import Derived.Test.YtkcpgaplpmbmoaaGreatPAx7
import Derived.Test.YtkcpgaplpmbmoaaGreatPAx10
namespace Go.Proofs.YtkcpgaplpmbmoaaGreat.PA
open Go.RowKit Go.Proofs.YtkcpgaplpmbmoaaGreatW.PrintWords Go.Proofs.YtkcpgaplpmbmoaaGreatW.PrintLast Go.Proofs.YtkcpgaplpmbmoaaGreatW.PrintMore
attribute [local go_sem] max2_int min2_int max_two min_two max_three min_three max_four min_four
set_option linter.unusedVariables false
set_option linter.unusedSimpArgs false

/-! #### the document's log -/
theorem row_frQ {α : Type} {d : Kd α} {e b0 q : Nat} {ok : Nat → Prop} {v : Value} {xs : List α} {w0 w W : World} {s : DS} (hr : d.R e w b0 ok v xs) (hR : RefAt w0 w q s) (hf : FrQ q w W) (ht : ∀ k, k ∈ e :: d.E → k ≠ 45) : d.R e W b0 ok v xs := by
  obtain ⟨A, c, ks, fv, hb, _⟩ := hR.blk
  refine Kd.R_mono (Kd.R_step (Kd.R_bound hr) (fun k ho hk => ?_)) (fun _ ho => ho.1)
  obtain ⟨_, _, _, t, hq, cells, hc⟩ := ho
  refine hf.block k hk ?_
  rintro rfl
  rw [hc] at hb
  injection hb with hb
  injection hb with _ hb
  exact ht t hq hb
theorem RefAt.set_ {g j t : Nat} {u : Value} {cells : Array Value} {w0 W : World} {q : Nat} {s : DS} (h : RefAt w0 W q s) (hg : W.heap[g]? = some (.cells cells t (0, 0))) (h1 : t ≠ 45) (h3 : t ≠ 24) (h0 : w0.heap.size ≤ g) : RefAt w0 (W.setCell ⟨g, j, none⟩ u) q s := by
  refine h.move (below_set h.bel h0) (fun k hk _ ht => Below.heap_setCell W ⟨g, j, none⟩ u k ?_)
  show k ≠ g
  rintro rfl
  rcases ht with ⟨cs, hc⟩ | ⟨cs, hc⟩
  all_goals
    rw [hg] at hc
    injection hc with hc
    injection hc with _ hc
    first | exact h1 hc | exact h3 hc
theorem FrQ.fresh {q g i : Nat} {W0 W : World} (h : FrQ q W0 W) (hg : W0.heap.size ≤ g) (u : Value) : FrQ q W0 (W.setCell ⟨g, i, none⟩ u) :=
  ⟨h.os, h.tape, h.output, by simpa using h.size, fun k hk h1 => (Below.heap_setCell W ⟨g, i, none⟩ u k (by show k ≠ g; omega)).trans (h.block k hk h1)⟩
theorem set4_ref {w0 w W : World} {q g : Nat} {s : DS} {a0 a1 a2 a3 v0 v1 v2 v3 : Value} (h : RefAt w0 W q s) (hf : FrQ q w W) (hY : W.heap[g]? = some (.cells #[a0, a1, a2, a3] 68 (0, 0))) (hg : w.heap.size ≤ g) (hw : w0.heap.size ≤ w.heap.size) : RefAt w0 ((((W.setCell ⟨g, 0, none⟩ v0).setCell ⟨g, 1, none⟩ v1).setCell ⟨g, 2, none⟩ v2).setCell ⟨g, 3, none⟩ v3) q s ∧ FrQ q w ((((W.setCell ⟨g, 0, none⟩ v0).setCell ⟨g, 1, none⟩ v1).setCell ⟨g, 2, none⟩ v2).setCell ⟨g, 3, none⟩ v3) := by
  have h0 : w0.heap.size ≤ g := Nat.le_trans hw hg
  refine ⟨?_, (((hf.fresh hg _).fresh hg _).fresh hg _).fresh hg _⟩
  refine (((h.set_ hY (by decide) (by decide) h0).set_ (blk_put (cs' := #[v0, a1, a2, a3]) hY 0 _ rfl) (by decide) (by decide) h0).set_ (blk_put (cs' := #[v0, v1, a2, a3]) (blk_put (cs' := #[v0, a1, a2, a3]) hY 0 _ rfl) 1 _ rfl) (by decide) (by decide) h0).set_ (blk_put (cs' := #[v0, v1, v2, a3]) (blk_put (cs' := #[v0, v1, a2, a3]) (blk_put (cs' := #[v0, a1, a2, a3]) hY 0 _ rfl) 1 _ rfl) 2 _ rfl) (by decide) (by decide) h0
theorem set4_row {α : Type} {d : Kd α} {e b0 : Nat} {v : Value} {xs : List α} {W : World} {g : Nat} {a0 a1 a2 a3 v0 v1 v2 v3 : Value} (h : d.R e W b0 (fun _ => True) v xs) (hY : W.heap[g]? = some (.cells #[a0, a1, a2, a3] 68 (0, 0))) (ht : ∀ k, k ∈ e :: d.E → k ≠ 68) : d.R e ((((W.setCell ⟨g, 0, none⟩ v0).setCell ⟨g, 1, none⟩ v1).setCell ⟨g, 2, none⟩ v2).setCell ⟨g, 3, none⟩ v3) b0 (fun _ => True) v xs :=
  Kd.R_set (Kd.R_set (Kd.R_set (Kd.R_set h hY ht 0 _) (blk_put (cs' := #[v0, a1, a2, a3]) hY 0 _ rfl) ht 1 _) (blk_put (cs' := #[v0, v1, a2, a3]) (blk_put (cs' := #[v0, a1, a2, a3]) hY 0 _ rfl) 1 _ rfl) ht 2 _) (blk_put (cs' := #[v0, v1, v2, a3]) (blk_put (cs' := #[v0, v1, a2, a3]) (blk_put (cs' := #[v0, a1, a2, a3]) hY 0 _ rfl) 1 _ rfl) 2 _ rfl) ht 3 _
section
variable {w0 w W : World} {q p bm base : Nat} {s : DS}
def begR (s : DS) (n : Int) (r1 : ByteArray) (r2 : Int) : DS × Int := if r2 = 0 then writeS s n r1 else (s, r2)
set_option maxHeartbeats 16000000 in
set_option maxRecDepth 100000 in
theorem ref_begin.calls (h : RefAt w0 w q s) (n : Int) (body r1 : ByteArray) (r2 : Int) (k : Nat) (hB : ententeref02_Seal.f k 3 body = some (r1, r2)) (hr : r1.size ≤ 140737488351232) :
    Calls Tryz.prog 25 #[.pointer (some ⟨q, 0, none⟩), .int .i64 n, .string body] w fun e w' => ∃ z, e = .returned (.tuple #[.int .i64 z, .int .i64 (begR s n r1 r2).2]) ∧ RefAt w0 w' q (begR s n r1 r2).1 ∧ FrQ q w w' := by
  have HD := Aside0.mk h
  have HB := Aside0.mk hB
  have HR1 := Aside0.mk hr
  have HF := Aside0.mk (FrQ.refl q w)
  clear h hB hr
  unfold begR
  by_cases c : r2 = 0
  · subst c
    simp only [if_true]
    unfold writeS
    obtain ⟨⟨s1, e1⟩, hR⟩ : ∃ R : DS × Int, appS s n r1 = R := ⟨_, rfl⟩
    rw [hR]
    have HRR := Aside0.mk hR
    dsimp only
    clear hR
    by_cases c : e1 = 0
    · subst c
      simp only [if_true]
      obtain ⟨⟨s2, e2⟩, hR2⟩ : ∃ R : DS × Int, syncS s1 n = R := ⟨_, rfl⟩
      rw [hR2]
      have HR2 := Aside0.mk hR2
      dsimp only
      clear hR2
      go_enter Tryz.func25, Tryz.ntmps25
      go_wp2_with (first
      | ((with_reducible refine gate_callee (f := 49) rfl ?_); refine goesL_ (some 12) rfl rfl Tryz.func49 (by kernel_rfl) rfl #[.int .i64 3, .string body] rfl My.gx ?_; (refine (ententeref02_Seal.calls k 3 body _ _ _ HB.out).mono ?_); rintro e W12 ⟨rfl, hb⟩; refine ⟨_, rfl, ?_⟩; replace HF := Aside0.mk (HF.out.trans (FrQ.of hb)); replace HD := Aside0.mk (HD.out.up hb); clear hb)
      | ((with_reducible refine gate_callee (f := 50) rfl ?_); refine goesL_ (some 21) rfl rfl Tryz.func50 (by kernel_rfl) rfl #[.pointer (some ⟨q, 0, none⟩), .int .i64 n, .string r1] rfl My.gx ?_; (refine (ref_Append.calls HD.out n r1 HR1.out).mono ?_); rintro e W21 ⟨rfl, hD, hF⟩; refine ⟨_, rfl, ?_⟩; rw [HRR.out] at hD ⊢; dsimp only at hD ⊢; replace HF := Aside0.mk (HF.out.trans hF); replace HD := Aside0.mk hD; clear hD hF)
      | ((with_reducible refine gate_callee (f := 27) rfl ?_); refine goesL_ (some 29) rfl rfl Tryz.func27 (by kernel_rfl) rfl #[.pointer (some ⟨q, 0, none⟩), .int .i64 1, .int .i64 n, .int .i64 0] rfl My.gx ?_; (refine (ref_Sync.calls HD.out n).mono ?_); rintro e W29 ⟨rfl, hD, hF⟩; refine ⟨_, rfl, ?_⟩; rw [HR2.out] at hD ⊢; dsimp only at hD ⊢; replace HF := Aside0.mk (HF.out.trans hF); replace HD := Aside0.mk hD; clear hD hF))
      go_ret2
      exact ⟨_, rfl, HD.out, HF.out⟩
    · simp only [if_neg c]
      have m1 : decide (e1 = 0) = false := decide_eq_false c
      have m2 : (e1 == 0) = false := beq_eq_false_iff_ne.2 c
      have m3 : (e1 != 0) = true := by simp [bne, m2]
      clear c
      go_enter Tryz.func25, Tryz.ntmps25
      go_wp2_with (first
      | ((with_reducible refine gate_callee (f := 49) rfl ?_); refine goesL_ (some 12) rfl rfl Tryz.func49 (by kernel_rfl) rfl #[.int .i64 3, .string body] rfl My.gx ?_; (refine (ententeref02_Seal.calls k 3 body _ _ _ HB.out).mono ?_); rintro e W12 ⟨rfl, hb⟩; refine ⟨_, rfl, ?_⟩; replace HF := Aside0.mk (HF.out.trans (FrQ.of hb)); replace HD := Aside0.mk (HD.out.up hb); clear hb)
      | ((with_reducible refine gate_callee (f := 50) rfl ?_); refine goesL_ (some 21) rfl rfl Tryz.func50 (by kernel_rfl) rfl #[.pointer (some ⟨q, 0, none⟩), .int .i64 n, .string r1] rfl My.gx ?_; (refine (ref_Append.calls HD.out n r1 HR1.out).mono ?_); rintro e W21 ⟨rfl, hD, hF⟩; refine ⟨_, rfl, ?_⟩; rw [HRR.out] at hD ⊢; dsimp only at hD ⊢; replace HF := Aside0.mk (HF.out.trans hF); replace HD := Aside0.mk hD; clear hD hF)
      | ((with_reducible refine gate_callee (f := 27) rfl ?_); refine goesL_ (some 29) rfl rfl Tryz.func27 (by kernel_rfl) rfl #[.pointer (some ⟨q, 0, none⟩), .int .i64 1, .int .i64 n, .int .i64 0] rfl My.gx ?_; (refine (ref_Sync.calls HD.out n).mono ?_); rintro e W29 ⟨rfl, hD, hF⟩; refine ⟨_, rfl, ?_⟩; rw [HR2.out] at hD ⊢; dsimp only at hD ⊢; replace HF := Aside0.mk (HF.out.trans hF); replace HD := Aside0.mk hD; clear hD hF))
      go_ret2
      exact ⟨_, rfl, HD.out, HF.out⟩
  · simp only [if_neg c]
    have m1 : decide (r2 = 0) = false := decide_eq_false c
    have m2 : (r2 == 0) = false := beq_eq_false_iff_ne.2 c
    have m3 : (r2 != 0) = true := by simp [bne, m2]
    clear c
    go_enter Tryz.func25, Tryz.ntmps25
    go_wp2_with (first
      | ((with_reducible refine gate_callee (f := 49) rfl ?_); refine goesL_ (some 12) rfl rfl Tryz.func49 (by kernel_rfl) rfl #[.int .i64 3, .string body] rfl My.gx ?_; (refine (ententeref02_Seal.calls k 3 body _ _ _ HB.out).mono ?_); rintro e W12 ⟨rfl, hb⟩; refine ⟨_, rfl, ?_⟩; replace HF := Aside0.mk (HF.out.trans (FrQ.of hb)); replace HD := Aside0.mk (HD.out.up hb); clear hb)
      | ((with_reducible refine gate_callee (f := 50) rfl ?_); refine goesL_ (some 21) rfl rfl Tryz.func50 (by kernel_rfl) rfl #[.pointer (some ⟨q, 0, none⟩), .int .i64 n, .string r1] rfl My.gx ?_; (refine (ref_Append.calls HD.out n r1 HR1.out).mono ?_); rintro e W21 ⟨rfl, hD, hF⟩; refine ⟨_, rfl, ?_⟩; rw [HRR.out] at hD ⊢; dsimp only at hD ⊢; replace HF := Aside0.mk (HF.out.trans hF); replace HD := Aside0.mk hD; clear hD hF)
      | ((with_reducible refine gate_callee (f := 27) rfl ?_); refine goesL_ (some 29) rfl rfl Tryz.func27 (by kernel_rfl) rfl #[.pointer (some ⟨q, 0, none⟩), .int .i64 1, .int .i64 n, .int .i64 0] rfl My.gx ?_; (refine (ref_Sync.calls HD.out n).mono ?_); rintro e W29 ⟨rfl, hD, hF⟩; refine ⟨_, rfl, ?_⟩; rw [HR2.out] at hD ⊢; dsimp only at hD ⊢; replace HF := Aside0.mk (HF.out.trans hF); replace HD := Aside0.mk hD; clear hD hF))
    go_ret2
    exact ⟨_, rfl, HD.out, HF.out⟩
set_option maxHeartbeats 8000000 in
set_option maxRecDepth 100000 in
theorem ref_drop.calls (h : RefAt w0 w q s) (A : Option Addr) (c : Nat) (l : List Int) (hl : l.length ≤ 1000000) (hkeep : ∀ W, FrQ q w W → (Kd.int .i64).C W A l.length l) :
    Calls Tryz.prog 24 #[.pointer (some ⟨q, 0, none⟩), .slice A l.length c] w fun e w' => e = .returned (.int .i64 (dropS s l).2) ∧ RefAt w0 w' q (dropS s l).1 ∧ FrQ q w w' := by
  have HD0 := Aside0.mk h
  have HK := Aside0.mk hkeep
  have HL := Aside0.mk hl
  clear h hl hkeep
  obtain ⟨R, hR⟩ : ∃ R : DS × Int, dropS s l = R := ⟨_, rfl⟩
  rw [hR]
  have HRR := Aside0.mk hR
  clear hR
  go_enter Tryz.func24, Tryz.ntmps24
  go_wp2
  go_loopg [5] (l.length + 1) (fun kq v5 w' => ∃ (i : Nat) (x : Int) (S : DS), v5 = .int .i64 x ∧ Aside0 (x = (i : Int)) ∧ Aside0 (kq + i = l.length + 1) ∧ Aside0 (i ≤ l.length) ∧ Aside0 (RefAt w0 w' q S) ∧ Aside0 (FrQ q w w') ∧ Aside0 (dropS S (l.drop i) = R))
  case atStart => exact ⟨0, _, _, rfl, ⟨rfl⟩, ⟨rfl⟩, ⟨Nat.zero_le _⟩, HD0, ⟨FrQ.refl _ _⟩, HRR⟩
  case round =>
    clear HD0 HRR
    obtain ⟨i, x, S, rfl, hx, hk, hi, HD, HF, HRR⟩ := hrel
    by_cases c9 : i < l.length
    · have q1 : x < (l.length : Int) := by have := hx.out; omega
      have p1 : (0 : Int) ≤ x := by have := hx.out; omega
      have c3 : decide (x < (l.length : Int)) = true := decide_eq_true q1
      obtain ⟨ad, e1, x0⟩ := at_I (HK.out _ HF.out) x p1 q1
      cases e1
      have hd := drop_I l i c9
      rw [← hx.out] at hd
      have hr := HRR.out
      rw [hd] at hr
      obtain ⟨y, hy⟩ : ∃ y, rd l x = y := ⟨_, rfl⟩
      rw [hy] at x0 hr
      rw [dropS] at hr
      have hw1 : wrap64 (x + 1) = x + 1 := by have := HL.out; unfold wrap64; omega
      have HW1 := Aside0.mk hw1
      have HI := Aside0.mk c9
      have p2 := eq_true p1
      have q2 := eq_true q1
      obtain ⟨⟨s1, e1⟩, hR1⟩ : ∃ R1 : DS × Int, remS S y = R1 := ⟨_, rfl⟩
      rw [hR1] at hr
      dsimp only at hr
      have HR1 := Aside0.mk hR1
      clear hd hy c9 hR1 HRR hw1
      by_cases c : e1 = 0
      · rw [if_pos c] at hr
        subst c
        have HRN := Aside0.mk hr
        clear hr
        go_wp2_with ((with_reducible refine gate_callee (f := 27) rfl ?_); refine goesL_ (some 18) rfl rfl Tryz.func27 (by kernel_rfl) rfl #[.pointer (some ⟨q, 0, none⟩), .int .i64 3, .int .i64 y, .int .i64 0] rfl My.gx ?_; (refine (ref_Rem.calls HD.out y).mono ?_); rintro e W18 ⟨rfl, hD, hF⟩; refine ⟨_, rfl, ?_⟩; clear x0; rw [HR1.out] at hD ⊢; dsimp only at hD ⊢; replace HF := Aside0.mk (HF.out.trans hF); replace HD := Aside0.mk hD; clear hD hF)
        have hI := HI.out
        have hx1 := hx.out
        have hk1 := hk.out
        go_roundg (l.length - i)
        case measure => omega
        case rel => exact ⟨i + 1, x + 1, s1, by first | rfl | (rw [HW1.out]), ⟨by omega⟩, ⟨by omega⟩, ⟨by omega⟩, HD, HF, HRN⟩
      · rw [if_neg c] at hr
        subst hr
        have m1 : decide (e1 = 0) = false := decide_eq_false c
        have m2 : (e1 == 0) = false := beq_eq_false_iff_ne.2 c
        have m3 : (e1 != 0) = true := by simp [bne, m2]
        clear c
        go_wp2_with ((with_reducible refine gate_callee (f := 27) rfl ?_); refine goesL_ (some 18) rfl rfl Tryz.func27 (by kernel_rfl) rfl #[.pointer (some ⟨q, 0, none⟩), .int .i64 3, .int .i64 y, .int .i64 0] rfl My.gx ?_; (refine (ref_Rem.calls HD.out y).mono ?_); rintro e W18 ⟨rfl, hD, hF⟩; refine ⟨_, rfl, ?_⟩; clear x0; rw [HR1.out] at hD ⊢; dsimp only at hD ⊢; replace HF := Aside0.mk (HF.out.trans hF); replace HD := Aside0.mk hD; clear hD hF)
        go_ret
        exact ⟨rfl, HD.out, HF.out⟩
    · have c3 : decide (x < (l.length : Int)) = false := decide_eq_false (by have := hi.out; have := hx.out; omega)
      have hr := HRR.out
      rw [List.drop_of_length_le (by omega)] at hr
      rw [dropS] at hr
      subst hr
      clear c9 HRR
      go_wp2
      go_ret
      exact ⟨rfl, HD.out, HF.out⟩
end
/-- What stands within an opening. -/
structure RoI (w0 w W : World) (q : Nat) (s : DS) (g : Nat) (num good : Int) (A2 : Option Addr) (c2 : Nat) (bodies : List ByteArray) (A3 : Option Addr) (c3 : Nat) (drop : List Int) : Prop where
  R : RefAt w0 W q s
  Y : W.heap[g]? = some (.cells #[.int .i64 num, .int .i64 good, .slice A2 bodies.length c2, .slice A3 drop.length c3] 68 (0, 0))
  B : Kd.string.R 9 W w.heap.size (fun _ => True) (.slice A2 bodies.length c2) bodies
  D : (Kd.int .i64).R 3 W w.heap.size (fun _ => True) (.slice A3 drop.length c3) drop
  F : FrQ q w W
section
variable {w0 w W W1 : World} {q g : Nat} {s s1 : DS} {num good : Int} {A2 A3 : Option Addr} {c2 c3 : Nat} {bodies : List ByteArray} {drop : List Int}
theorem RoI.up (I : RoI w0 w W q s g num good A2 c2 bodies A3 c3 drop) (hb : Below W.heap.size W W1) : RoI w0 w W1 q s g num good A2 c2 bodies A3 c3 drop :=
  ⟨I.R.up hb, (hb.block _ (blk_lt I.Y)).trans I.Y, Kd.R_below I.B hb, Kd.R_below I.D hb, I.F.trans (FrQ.of hb)⟩
theorem RoI.fr (I : RoI w0 w W q s g num good A2 c2 bodies A3 c3 drop) (hR : RefAt w0 W1 q s1) (hf : FrQ q W W1) : RoI w0 w W1 q s1 g num good A2 c2 bodies A3 c3 drop :=
  ⟨hR, (hf.block _ (blk_lt I.Y) (neQ I.Y I.R (by decide))).trans I.Y, row_frQ I.B I.R hf (by decide), row_frQ I.D I.R hf (by decide), I.F.trans hf⟩
/-- What the document's opening comes to. -/
def RoPost (w0 w : World) (q : Nat) (s3 : DS) (e3 : Int) (bs : List ByteArray) (e : Ending) (w' : World) : Prop :=
  RefAt w0 w' q s3 ∧ FrQ q w w' ∧ ((e3 ≠ 0 ∧ e = .returned (.tuple #[.pointer none, .slice none 0 0, .int .i64 e3])) ∨ (e3 = 0 ∧ ∃ a A c, e = .returned (.tuple #[.pointer (some a), .slice A bs.length c, .int .i64 0]) ∧ Kd.string.R 9 w' w.heap.size (fun _ => True) (.slice A bs.length c) bs))
def ro.T22 : Bool × List (List Nat × List Nat) := (true, [([], []), ([], []), ([1], [1]), ([], []), ([3], [3]), ([0, 2, 4], [0, 2, 4]), ([5], [5]), ([], []), ([7], [7]), ([6, 0, 1, 2, 3, 4, 5, 6], [6]), ([8, 9, 0, 1, 2, 3, 4, 5, 6, 7, 8, 9], [8]), ([10, 0, 1, 2, 3, 4, 5, 6, 7, 8, 9, 10], [])])
def ro.B22 : List Nat := [0, 0, 2, 0, 8, 31, 63, 0, 128, 127, 1023, 2047]
theorem ro.tab22 : rtab .any (opsOf Tryz.f8 22) = ro.T22 := by kernel_rfl
theorem ro.bits22 : waitsOk ro.T22.2 ro.B22 = true := by kernel_rfl
set_option maxHeartbeats 16000000 in
set_option maxRecDepth 100000 in
theorem ref_Open.bad (h : RefAt w0 w q s) (hd : s.dead = false) (first : ByteArray) (k : Nat) (num good : Int) (bodies : List ByteArray) (drop : List Int) (er : Int) (hK : ententeref16_Look.f k s.L = some (num, good, bodies, drop, er)) (her : er ≠ 0) :
    Calls Tryz.prog 8 #[.pointer (some ⟨q, 0, none⟩), .string first] w fun e w' => e = .returned (.tuple #[.pointer none, .slice none 0 0, .int .i64 er]) ∧ RefAt w0 w' q s ∧ FrQ q w w' := by
  have HD := Aside0.mk h
  have HK := Aside0.mk hK
  have HFQ := Aside0.mk (FrQ.refl q w)
  have HW0 := Aside0.mk h.bel.size
  have m1 : decide (er = 0) = false := decide_eq_false her
  have m2 : (er == 0) = false := beq_eq_false_iff_ne.2 her
  have m3 : (er != 0) = true := by simp [bne, m2]
  have hu68 := Tryz.underlying68
  obtain ⟨A, c, ks, fA, fc, hb, h2, h3, h4, hl, hC, hR5, y0, y1, y2, y3, y4, fz⟩ := h.cells
  rw [hd] at y1
  have HC := Aside0.mk hC
  have HLC := Aside0.mk hl
  clear hd hK her h hb h2 h3 h4 hl hC hR5 fz y0 y2 y3
  go_enter Tryz.func8, Tryz.ntmps8
  go_upto_region 4 with (first
      | ((with_reducible refine gate_callee (f := 23) rfl ?_); refine goesL_ (some 22) rfl rfl Tryz.func23 (by kernel_rfl) rfl #[.slice fA s.L.length fc] rfl My.gx ?_; (refine (ententeref16_Look.calls k fA fc s.L _ _ _ _ _ _ HC.out HLC.out HK.out).mono ?_); rintro e W22 ⟨v2, v3, rfl, hR2, hR3, hb⟩; refine ⟨_, rfl, ?_⟩; obtain ⟨A2, c2, rfl⟩ := Kd.R_slice hR2; obtain ⟨A3, c3, rfl⟩ := Kd.R_slice hR3; have HRB := Aside0.mk hR2; have HRD := Aside0.mk hR3; clear y1 y4; replace HD := Aside0.mk (HD.out.up hb); replace HFQ := Aside0.mk (HFQ.out.trans (FrQ.of hb)); clear hb hR2 hR3 HC HLC)
      | ((with_reducible refine gate_dst (N := 7) rfl ?_); refine My.bx 7 #[.int .i64 0, .int .i64 0, .slice none 0 0, .slice none 0 0] 68 ?_; intro g7 hg w7 hbox hb; have BX := My.am hbox; have G7 := Aside0.mk (show w.heap.size ≤ g7 by rw [hg]; exact HFQ.out.size); replace HRB := Aside0.mk (Kd.R_below HRB.out hb); replace HRD := Aside0.mk (Kd.R_below HRD.out hb); replace HD := Aside0.mk (HD.out.up hb); replace HFQ := Aside0.mk (HFQ.out.trans (FrQ.of hb)); clear hb hbox hg; have hz := cz4' BX))
  refine at_world (J := fun W => RefAt w0 W q s ∧ FrQ q w W) (set4_ref HD.out HFQ.out BX.out G7.out HW0.out) ?_
  clear HD HFQ BX hz G7
  rintro W2 ⟨D2, F2⟩
  have HD := Aside0.mk D2
  have HFQ := Aside0.mk F2
  clear D2 F2
  go_wp2
  go_ret3
  exact ⟨rfl, HD.out, HFQ.out⟩
set_option maxHeartbeats 32000000 in
set_option maxRecDepth 100000 in
theorem ref_Open.calls (h : RefAt w0 w q s) (hd : s.dead = false) (first : ByteArray) (k : Nat) (num good : Int) (bodies : List ByteArray) (drop : List Int) (hK : ententeref16_Look.f k s.L = some (num, good, bodies, drop, 0)) (r1 : ByteArray) (r2 : Int) (hB : ententeref02_Seal.f k 3 first = some (r1, r2)) (hr : r1.size ≤ 140737488351232) (hlen : drop.length ≤ 1000000) :
    Calls Tryz.prog 8 #[.pointer (some ⟨q, 0, none⟩), .string first] w fun e w' => RoPost w0 w q (begO (dropO (cutO s num good) drop) num r1 r2).1 (begO (dropO (cutO s num good) drop) num r1 r2).2 (openB num bodies first) e w' := by
  have HD := Aside0.mk h
  have HK := Aside0.mk hK
  have HBG := Aside0.mk hB
  have HR1 := Aside0.mk hr
  have HLN := Aside0.mk hlen
  have HFQ := Aside0.mk (FrQ.refl q w)
  have HW0 := Aside0.mk h.bel.size
  obtain ⟨⟨s1, e1⟩, hR1⟩ : ∃ R : DS × Int, cutO s num good = R := ⟨_, rfl⟩
  rw [hR1]
  obtain ⟨⟨s2, e2⟩, hR2⟩ : ∃ R : DS × Int, dropO (s1, e1) drop = R := ⟨_, rfl⟩
  rw [hR2]
  obtain ⟨⟨s3, e3⟩, hR3⟩ : ∃ R : DS × Int, begO (s2, e2) num r1 r2 = R := ⟨_, rfl⟩
  rw [hR3]
  obtain ⟨bs, hbs⟩ : ∃ bs, openB num bodies first = bs := ⟨_, rfl⟩
  rw [hbs]
  dsimp only
  have C1 := Aside0.mk hR1
  have C2 := Aside0.mk hR2
  have C3 := Aside0.mk hR3
  have HBS := Aside0.mk hbs
  have hu68 := Tryz.underlying68
  obtain ⟨A, c, ks, fA, fc, hb, h2, h3, h4, hl, hC, hR5, y0, y1, y2, y3, y4, fz⟩ := h.cells
  rw [hd] at y1
  have HC := Aside0.mk hC
  have HLC := Aside0.mk hl
  clear hd hK hB hr hlen hR1 hR2 hR3 hbs h hb h2 h3 h4 hl hC hR5 fz y0 y2 y3
  go_enter Tryz.func8, Tryz.ntmps8
  go_upto_region 4 with (first
      | ((with_reducible refine gate_callee (f := 23) rfl ?_); refine goesL_ (some 22) rfl rfl Tryz.func23 (by kernel_rfl) rfl #[.slice fA s.L.length fc] rfl My.gx ?_; (refine (ententeref16_Look.calls k fA fc s.L _ _ _ _ _ _ HC.out HLC.out HK.out).mono ?_); rintro e W22 ⟨v2, v3, rfl, hR2, hR3, hb⟩; refine ⟨_, rfl, ?_⟩; obtain ⟨A2, c2, rfl⟩ := Kd.R_slice hR2; obtain ⟨A3, c3, rfl⟩ := Kd.R_slice hR3; have HRB := Aside0.mk hR2; have HRD := Aside0.mk hR3; clear y1 y4; replace HD := Aside0.mk (HD.out.up hb); replace HFQ := Aside0.mk (HFQ.out.trans (FrQ.of hb)); clear hb hR2 hR3 HC HLC)
      | ((with_reducible refine gate_dst (N := 7) rfl ?_); refine My.bx 7 #[.int .i64 0, .int .i64 0, .slice none 0 0, .slice none 0 0] 68 ?_; intro g7 hg w7 hbox hb; have BX := My.am hbox; have G7 := Aside0.mk (show w.heap.size ≤ g7 by rw [hg]; exact HFQ.out.size); replace HRB := Aside0.mk (Kd.R_below HRB.out hb); replace HRD := Aside0.mk (Kd.R_below HRD.out hb); replace HD := Aside0.mk (HD.out.up hb); replace HFQ := Aside0.mk (HFQ.out.trans (FrQ.of hb)); clear hb hbox hg; have hz := cz4' BX))
  refine at_world (J := fun W => RoI w0 w W q s g7 num good A2 c2 bodies A3 c3 drop) ⟨(set4_ref HD.out HFQ.out BX.out G7.out HW0.out).1, put4' BX.out, set4_row HRB.out BX.out (by decide), set4_row HRD.out BX.out (by decide), (set4_ref HD.out HFQ.out BX.out G7.out HW0.out).2⟩ ?_
  clear HD HFQ BX HRB HRD hz G7
  rintro W2 I2
  have HI := Aside0.mk I2
  clear I2
  have hz := cz4' (My.am HI.out.Y)
  by_cases c1 : num < 0
  · have t1 : decide (num < 0) = true := decide_eq_true c1
    have ec : ((s, (0 : Int)) : DS × Int) = (s1, e1) := by rw [← C1.out]; unfold cutO; rw [if_neg (by omega)]
    injection ec with ea eb
    subst ea eb
    have C2' := Aside0.mk (show dropS s drop = (s2, e2) by rw [← C2.out]; unfold dropO; rw [if_pos rfl])
    have hbs := HBS.out
    unfold openB at hbs
    rw [if_pos c1] at hbs
    subst hbs
    by_cases c0 : e2 = 0
    · subst c0
      have h3 := C3.out
      unfold begO at h3
      rw [if_pos ⟨rfl, c1⟩] at h3
      have H3 := Aside0.mk (show begR s2 1 r1 r2 = (s3, e3) from h3)
      clear h3 c1
      by_cases c4 : e3 = 0
      · subst c4
        go_wp2_with (first
      | ((with_reducible refine gate_callee (f := 24) rfl ?_); refine goesL_ (some 34) rfl rfl Tryz.func24 (by kernel_rfl) rfl #[.pointer (some ⟨q, 0, none⟩), .slice A3 drop.length c3] rfl My.gx ?_; (refine (ref_drop.calls HI.out.R A3 c3 drop HLN.out (fun W hf => (Kd.R_reads' (row_frQ HI.out.D HI.out.R hf (by decide))).2.2)).mono ?_); rintro e W34 ⟨rfl, hD, hF⟩; refine ⟨_, rfl, ?_⟩; rw [C2'.out] at hD ⊢; dsimp only at hD ⊢; clear hz; replace HI := Aside0.mk (HI.out.fr hD hF); clear hD hF; have hz := cz4' (My.am HI.out.Y))
      | ((with_reducible refine gate_callee (f := 25) rfl ?_); refine goesL_ (some 41) rfl rfl Tryz.func25 (by kernel_rfl) rfl #[.pointer (some ⟨q, 0, none⟩), .int .i64 1, .string first] rfl My.gx ?_; (refine (ref_begin.calls HI.out.R 1 first r1 r2 k HBG.out HR1.out).mono ?_); rintro e W41 ⟨zb, rfl, hD, hF⟩; refine ⟨_, rfl, ?_⟩; rw [H3.out] at hD ⊢; dsimp only at hD ⊢; clear hz; replace HI := Aside0.mk (HI.out.fr hD hF); clear hD hF; have hz := cz4' (My.am HI.out.Y))
      | ((with_reducible refine gate_dst (N := 50) rfl ?_); refine My.bx 50 #[.pointer (some ⟨q, 0, none⟩), .int .i64 1, .int .i64 zb, .bool false] 75 ?_; intro g50 hg w50 hbox hb; clear hz; replace HI := Aside0.mk (HI.out.up hb); clear hb hbox hg))
        go_ret3
        exact ⟨HI.out.R.up (below_alloc (Below.refl _ _) _), HI.out.F.trans (FrQ.of (below_alloc (Below.refl _ _) _)), .inr ⟨rfl, _, _, _, rfl, one_row _ _ HI.out.F.size first⟩⟩
      · have m1 : decide (e3 = 0) = false := decide_eq_false c4
        have m2 : (e3 == 0) = false := beq_eq_false_iff_ne.2 c4
        have m3 : (e3 != 0) = true := by simp [bne, m2]
        have HC4 := Aside0.mk c4
        clear c4
        go_wp2_with (first
      | ((with_reducible refine gate_callee (f := 24) rfl ?_); refine goesL_ (some 34) rfl rfl Tryz.func24 (by kernel_rfl) rfl #[.pointer (some ⟨q, 0, none⟩), .slice A3 drop.length c3] rfl My.gx ?_; (refine (ref_drop.calls HI.out.R A3 c3 drop HLN.out (fun W hf => (Kd.R_reads' (row_frQ HI.out.D HI.out.R hf (by decide))).2.2)).mono ?_); rintro e W34 ⟨rfl, hD, hF⟩; refine ⟨_, rfl, ?_⟩; rw [C2'.out] at hD ⊢; dsimp only at hD ⊢; clear hz; replace HI := Aside0.mk (HI.out.fr hD hF); clear hD hF; have hz := cz4' (My.am HI.out.Y))
      | ((with_reducible refine gate_callee (f := 25) rfl ?_); refine goesL_ (some 41) rfl rfl Tryz.func25 (by kernel_rfl) rfl #[.pointer (some ⟨q, 0, none⟩), .int .i64 1, .string first] rfl My.gx ?_; (refine (ref_begin.calls HI.out.R 1 first r1 r2 k HBG.out HR1.out).mono ?_); rintro e W41 ⟨zb, rfl, hD, hF⟩; refine ⟨_, rfl, ?_⟩; rw [H3.out] at hD ⊢; dsimp only at hD ⊢; clear hz; replace HI := Aside0.mk (HI.out.fr hD hF); clear hD hF; have hz := cz4' (My.am HI.out.Y))
      | ((with_reducible refine gate_dst (N := 50) rfl ?_); refine My.bx 50 #[.pointer (some ⟨q, 0, none⟩), .int .i64 1, .int .i64 zb, .bool false] 75 ?_; intro g50 hg w50 hbox hb; clear hz; replace HI := Aside0.mk (HI.out.up hb); clear hb hbox hg))
        go_ret3
        exact ⟨HI.out.R, HI.out.F, .inl ⟨HC4.out, rfl⟩⟩
    · have m1 : decide (e2 = 0) = false := decide_eq_false c0
      have m2 : (e2 == 0) = false := beq_eq_false_iff_ne.2 c0
      have m3 : (e2 != 0) = true := by simp [bne, m2]
      have h3 := C3.out
      unfold begO at h3
      rw [if_neg (fun h => c0 h.1)] at h3
      injection h3 with h3a h3b
      subst h3a h3b
      have HC0 := Aside0.mk c0
      clear c0 c1
      go_wp2_with (first
      | ((with_reducible refine gate_callee (f := 24) rfl ?_); refine goesL_ (some 34) rfl rfl Tryz.func24 (by kernel_rfl) rfl #[.pointer (some ⟨q, 0, none⟩), .slice A3 drop.length c3] rfl My.gx ?_; (refine (ref_drop.calls HI.out.R A3 c3 drop HLN.out (fun W hf => (Kd.R_reads' (row_frQ HI.out.D HI.out.R hf (by decide))).2.2)).mono ?_); rintro e W34 ⟨rfl, hD, hF⟩; refine ⟨_, rfl, ?_⟩; rw [C2'.out] at hD ⊢; dsimp only at hD ⊢; clear hz; replace HI := Aside0.mk (HI.out.fr hD hF); clear hD hF; have hz := cz4' (My.am HI.out.Y))
      | ((with_reducible refine gate_callee (f := 25) rfl ?_); refine goesL_ (some 41) rfl rfl Tryz.func25 (by kernel_rfl) rfl #[.pointer (some ⟨q, 0, none⟩), .int .i64 1, .string first] rfl My.gx ?_; (refine (ref_begin.calls HI.out.R 1 first r1 r2 k HBG.out HR1.out).mono ?_); rintro e W41 ⟨zb, rfl, hD, hF⟩; refine ⟨_, rfl, ?_⟩; rw [H3.out] at hD ⊢; dsimp only at hD ⊢; clear hz; replace HI := Aside0.mk (HI.out.fr hD hF); clear hD hF; have hz := cz4' (My.am HI.out.Y))
      | ((with_reducible refine gate_dst (N := 50) rfl ?_); refine My.bx 50 #[.pointer (some ⟨q, 0, none⟩), .int .i64 1, .int .i64 zb, .bool false] 75 ?_; intro g50 hg w50 hbox hb; clear hz; replace HI := Aside0.mk (HI.out.up hb); clear hb hbox hg))
      go_ret3
      exact ⟨HI.out.R, HI.out.F, .inl ⟨HC0.out, rfl⟩⟩
  · have t1 : decide (num < 0) = false := decide_eq_false c1
    have hbs := HBS.out
    unfold openB at hbs
    rw [if_neg c1] at hbs
    subst hbs
    have h3 := C3.out
    unfold begO at h3
    rw [if_neg (fun h => c1 h.2)] at h3
    injection h3 with h3a h3b
    subst h3a h3b
    have C0 := Aside0.mk c1
    clear c1
    by_cases c2' : good < ((findF s num).f1.size : Int)
    · have t2 : decide (good < ((findF s num).f1.size : Int)) = true := decide_eq_true c2'
      have C1' := Aside0.mk (show cutS s num good = (s1, e1) by rw [← C1.out]; unfold cutO; rw [if_pos ⟨by have := C0.out; omega, c2'⟩])
      clear c2'
      by_cases c0 : e1 = 0
      · subst c0
        go_upto_region 19 with (first
      | ((with_reducible refine gate_callee (f := 26) rfl ?_); refine goesL_ (some 57) rfl rfl Tryz.func26 (by kernel_rfl) rfl #[.pointer (some ⟨q, 0, none⟩), .int .i64 num] rfl My.gx ?_; (refine (ref_Read.calls HI.out.R num).mono ?_); rintro e W57 ⟨rfl, hb⟩; refine ⟨_, rfl, ?_⟩; clear hz; replace HI := Aside0.mk (HI.out.up hb); clear hb; have hz := cz4' (My.am HI.out.Y))
      | ((with_reducible refine gate_callee (f := 27) rfl ?_); refine goesL_ (some 70) rfl rfl Tryz.func27 (by kernel_rfl) rfl #[.pointer (some ⟨q, 0, none⟩), .int .i64 2, .int .i64 num, .int .i64 good] rfl My.gx ?_; (refine (ref_Cut.calls HI.out.R num good).mono ?_); rintro e W70 ⟨rfl, hD, hF⟩; refine ⟨_, rfl, ?_⟩; rw [C1'.out] at hD ⊢; dsimp only at hD ⊢; clear hz; replace HI := Aside0.mk (HI.out.fr hD hF); clear hD hF; have hz := cz4' (My.am HI.out.Y)))
        clear hz
        have hz := cz4' (My.am HI.out.Y)
        have C2' := Aside0.mk (show dropS s1 drop = (s2, e2) by rw [← C2.out]; unfold dropO; rw [if_pos rfl])
        by_cases c0 : e2 = 0
        · subst c0
          go_upto_region 22 with ((with_reducible refine gate_callee (f := 24) rfl ?_); refine goesL_ (some 77) rfl rfl Tryz.func24 (by kernel_rfl) rfl #[.pointer (some ⟨q, 0, none⟩), .slice A3 drop.length c3] rfl My.gx ?_; (refine (ref_drop.calls HI.out.R A3 c3 drop HLN.out (fun W hf => (Kd.R_reads' (row_frQ HI.out.D HI.out.R hf (by decide))).2.2)).mono ?_); rintro e W77 ⟨rfl, hD, hF⟩; refine ⟨_, rfl, ?_⟩; rw [C2'.out] at hD ⊢; dsimp only at hD ⊢; clear hz; replace HI := Aside0.mk (HI.out.fr hD hF); clear hD hF; have hz := cz4' (My.am HI.out.Y))
          clear hz
          refine start_ (n := 12) (S := fun w' => RoI w0 w w' q s2 g7 num good A2 c2 bodies A3 c3 drop) (ds := []) #[false, false, false, false, false, false, false, false, false, false, false, false] (by kernel_rfl) rfl rfl (HI.out.up (Below.drew (Below.refl W77.heap.size W77))) (fun hHeld => ?_); refine with_tabW ro.tab22 ro.bits22 (fun HT_ HW_ => ?_)
          clear HI
          generalize W77.drew = W6 at hHeld ⊢
          refine My.pv_ 0 81 12 1 HT_.out ?_
          refine My.pv_ 1 82 12 3 HT_.out ?_
          refine My.tv_ 2 83 12 7 HT_.out HW_.out hHeld rfl rfl (by rintro w' hS; have hz := cz4' (My.am hS.Y); go_simp; with_reducible rfl) ?_
          refine My.pv_ 3 84 12 15 HT_.out ?_
          refine My.tv_ 4 85 12 31 HT_.out HW_.out hHeld rfl rfl (by rintro w' hS; have hz := cz4' (My.am hS.Y); go_simp; with_reducible rfl) ?_
          refine My.pv_ 5 86 12 63 HT_.out ?_
          refine My.pv_ 7 88 12 191 HT_.out ?_
          refine My.tv_ 8 89 12 447 HT_.out HW_.out hHeld rfl rfl (by rintro w' hS; have hz := cz4' (My.am hS.Y); go_simp; with_reducible rfl) ?_
          refine one_ (i := 6) (N := some 87) (My.Mb 12 511) rfl rfl (one_of HT_.out (by kernel_rfl)) (by decide) (fun K hK => ?_)
          refine box_step ?hg (N := 87) ?hd (cs := #[.pointer (some ⟨q, 0, none⟩), .int .i64 num, .int .i64 good, .bool false]) (t := 75) ?hr ?_; (case hd => rfl); (case hg => rfl); (case hr => first | (go_simp; done) | (go_simp; rfl))
          intro qb hg w15 hbox hb
          refine hK.out _ _ (hHeld.up hb) (fun hHeld => ?_)
          clear hK K hbox hg hb
          refine My.nm 87 ?_
          refine My.pv_ 9 4 12 1023 HT_.out ?_
          refine My.pv_ 10 5 12 2047 HT_.out ?_
          refine My.pv_ 11 6 12 4095 HT_.out ?_
          refine done_ (done_of HT_.out (by kernel_rfl)) ?_
          clear HT_ HW_
          go_wp2
          go_ret3
          exact ⟨hHeld.R, hHeld.F, .inr ⟨rfl, _, _, _, rfl, hHeld.B⟩⟩
        · have m1 : decide (e2 = 0) = false := decide_eq_false c0
          have m2 : (e2 == 0) = false := beq_eq_false_iff_ne.2 c0
          have m3 : (e2 != 0) = true := by simp [bne, m2]
          have HC0 := Aside0.mk c0
          clear c0
          go_wp2_with ((with_reducible refine gate_callee (f := 24) rfl ?_); refine goesL_ (some 77) rfl rfl Tryz.func24 (by kernel_rfl) rfl #[.pointer (some ⟨q, 0, none⟩), .slice A3 drop.length c3] rfl My.gx ?_; (refine (ref_drop.calls HI.out.R A3 c3 drop HLN.out (fun W hf => (Kd.R_reads' (row_frQ HI.out.D HI.out.R hf (by decide))).2.2)).mono ?_); rintro e W77 ⟨rfl, hD, hF⟩; refine ⟨_, rfl, ?_⟩; rw [C2'.out] at hD ⊢; dsimp only at hD ⊢; clear hz; replace HI := Aside0.mk (HI.out.fr hD hF); clear hD hF; have hz := cz4' (My.am HI.out.Y))
          go_ret3
          exact ⟨HI.out.R, HI.out.F, .inl ⟨HC0.out, rfl⟩⟩
      · have m1 : decide (e1 = 0) = false := decide_eq_false c0
        have m2 : (e1 == 0) = false := beq_eq_false_iff_ne.2 c0
        have m3 : (e1 != 0) = true := by simp [bne, m2]
        have e : ((s1, e1) : DS × Int) = (s2, e2) := by rw [← C2.out]; unfold dropO; rw [if_neg c0]
        injection e with ea eb
        subst ea eb
        have HC0 := Aside0.mk c0
        clear c0
        go_wp2_with (first
      | ((with_reducible refine gate_callee (f := 26) rfl ?_); refine goesL_ (some 57) rfl rfl Tryz.func26 (by kernel_rfl) rfl #[.pointer (some ⟨q, 0, none⟩), .int .i64 num] rfl My.gx ?_; (refine (ref_Read.calls HI.out.R num).mono ?_); rintro e W57 ⟨rfl, hb⟩; refine ⟨_, rfl, ?_⟩; clear hz; replace HI := Aside0.mk (HI.out.up hb); clear hb; have hz := cz4' (My.am HI.out.Y))
      | ((with_reducible refine gate_callee (f := 27) rfl ?_); refine goesL_ (some 70) rfl rfl Tryz.func27 (by kernel_rfl) rfl #[.pointer (some ⟨q, 0, none⟩), .int .i64 2, .int .i64 num, .int .i64 good] rfl My.gx ?_; (refine (ref_Cut.calls HI.out.R num good).mono ?_); rintro e W70 ⟨rfl, hD, hF⟩; refine ⟨_, rfl, ?_⟩; rw [C1'.out] at hD ⊢; dsimp only at hD ⊢; clear hz; replace HI := Aside0.mk (HI.out.fr hD hF); clear hD hF; have hz := cz4' (My.am HI.out.Y)))
        go_ret3
        exact ⟨HI.out.R, HI.out.F, .inl ⟨HC0.out, rfl⟩⟩
    · have t2 : decide (good < ((findF s num).f1.size : Int)) = false := decide_eq_false c2'
      have e : ((s, (0 : Int)) : DS × Int) = (s1, e1) := by rw [← C1.out]; unfold cutO; rw [if_neg (fun h => c2' h.2)]
      injection e with ea eb
      subst ea eb
      clear c2'
      go_upto_region 19 with ((with_reducible refine gate_callee (f := 26) rfl ?_); refine goesL_ (some 57) rfl rfl Tryz.func26 (by kernel_rfl) rfl #[.pointer (some ⟨q, 0, none⟩), .int .i64 num] rfl My.gx ?_; (refine (ref_Read.calls HI.out.R num).mono ?_); rintro e W57 ⟨rfl, hb⟩; refine ⟨_, rfl, ?_⟩; clear hz; replace HI := Aside0.mk (HI.out.up hb); clear hb; have hz := cz4' (My.am HI.out.Y))
      clear hz
      have hz := cz4' (My.am HI.out.Y)
      have C2' := Aside0.mk (show dropS s drop = (s2, e2) by rw [← C2.out]; unfold dropO; rw [if_pos rfl])
      by_cases c0 : e2 = 0
      · subst c0
        go_upto_region 22 with ((with_reducible refine gate_callee (f := 24) rfl ?_); refine goesL_ (some 77) rfl rfl Tryz.func24 (by kernel_rfl) rfl #[.pointer (some ⟨q, 0, none⟩), .slice A3 drop.length c3] rfl My.gx ?_; (refine (ref_drop.calls HI.out.R A3 c3 drop HLN.out (fun W hf => (Kd.R_reads' (row_frQ HI.out.D HI.out.R hf (by decide))).2.2)).mono ?_); rintro e W77 ⟨rfl, hD, hF⟩; refine ⟨_, rfl, ?_⟩; rw [C2'.out] at hD ⊢; dsimp only at hD ⊢; clear hz; replace HI := Aside0.mk (HI.out.fr hD hF); clear hD hF; have hz := cz4' (My.am HI.out.Y))
        clear hz
        refine start_ (n := 12) (S := fun w' => RoI w0 w w' q s2 g7 num good A2 c2 bodies A3 c3 drop) (ds := []) #[false, false, false, false, false, false, false, false, false, false, false, false] (by kernel_rfl) rfl rfl (HI.out.up (Below.drew (Below.refl W77.heap.size W77))) (fun hHeld => ?_); refine with_tabW ro.tab22 ro.bits22 (fun HT_ HW_ => ?_)
        clear HI
        generalize W77.drew = W6 at hHeld ⊢
        refine My.pv_ 0 81 12 1 HT_.out ?_
        refine My.pv_ 1 82 12 3 HT_.out ?_
        refine My.tv_ 2 83 12 7 HT_.out HW_.out hHeld rfl rfl (by rintro w' hS; have hz := cz4' (My.am hS.Y); go_simp; with_reducible rfl) ?_
        refine My.pv_ 3 84 12 15 HT_.out ?_
        refine My.tv_ 4 85 12 31 HT_.out HW_.out hHeld rfl rfl (by rintro w' hS; have hz := cz4' (My.am hS.Y); go_simp; with_reducible rfl) ?_
        refine My.pv_ 5 86 12 63 HT_.out ?_
        refine My.pv_ 7 88 12 191 HT_.out ?_
        refine My.tv_ 8 89 12 447 HT_.out HW_.out hHeld rfl rfl (by rintro w' hS; have hz := cz4' (My.am hS.Y); go_simp; with_reducible rfl) ?_
        refine one_ (i := 6) (N := some 87) (My.Mb 12 511) rfl rfl (one_of HT_.out (by kernel_rfl)) (by decide) (fun K hK => ?_)
        refine box_step ?hg (N := 87) ?hd (cs := #[.pointer (some ⟨q, 0, none⟩), .int .i64 num, .int .i64 good, .bool false]) (t := 75) ?hr ?_; (case hd => rfl); (case hg => rfl); (case hr => first | (go_simp; done) | (go_simp; rfl))
        intro qb hg w15 hbox hb
        refine hK.out _ _ (hHeld.up hb) (fun hHeld => ?_)
        clear hK K hbox hg hb
        refine My.nm 87 ?_
        refine My.pv_ 9 4 12 1023 HT_.out ?_
        refine My.pv_ 10 5 12 2047 HT_.out ?_
        refine My.pv_ 11 6 12 4095 HT_.out ?_
        refine done_ (done_of HT_.out (by kernel_rfl)) ?_
        clear HT_ HW_
        go_wp2
        go_ret3
        exact ⟨hHeld.R, hHeld.F, .inr ⟨rfl, _, _, _, rfl, hHeld.B⟩⟩
      · have m1 : decide (e2 = 0) = false := decide_eq_false c0
        have m2 : (e2 == 0) = false := beq_eq_false_iff_ne.2 c0
        have m3 : (e2 != 0) = true := by simp [bne, m2]
        have HC0 := Aside0.mk c0
        clear c0
        go_wp2_with ((with_reducible refine gate_callee (f := 24) rfl ?_); refine goesL_ (some 77) rfl rfl Tryz.func24 (by kernel_rfl) rfl #[.pointer (some ⟨q, 0, none⟩), .slice A3 drop.length c3] rfl My.gx ?_; (refine (ref_drop.calls HI.out.R A3 c3 drop HLN.out (fun W hf => (Kd.R_reads' (row_frQ HI.out.D HI.out.R hf (by decide))).2.2)).mono ?_); rintro e W77 ⟨rfl, hD, hF⟩; refine ⟨_, rfl, ?_⟩; rw [C2'.out] at hD ⊢; dsimp only at hD ⊢; clear hz; replace HI := Aside0.mk (HI.out.fr hD hF); clear hD hF; have hz := cz4' (My.am HI.out.Y))
        go_ret3
        exact ⟨HI.out.R, HI.out.F, .inl ⟨HC0.out, rfl⟩⟩
end

end Go.Proofs.YtkcpgaplpmbmoaaGreat.PA
