-- Written by a program of this session (wip/tools/mp.py over the kit's printer); Lean checks it.
import Derived.Test.YtcgmoeiknkdljaaPAx0
import Derived.Test.YtcgmoeiknkdljaaPAx1
import Derived.Test.YtcgmoeiknkdljaaPAx7
import Derived.Test.YtcgmoeiknkdljaaPAx8
import Derived.Test.YtcgmoeiknkdljaaPAx9
namespace Go.Proofs.Ytcgmoeiknkdljaa.PA
open Go.RowKit Go.Proofs.YtcgmoeiknkdljaaW.PrintWords Go.Proofs.YtcgmoeiknkdljaaW.PrintLast Go.Proofs.YtcgmoeiknkdljaaW.PrintMore
attribute [local go_sem] max2_int min2_int max_two min_two max_three min_three max_four min_four   -- for this text's walks alone
set_option linter.unusedVariables false
set_option maxHeartbeats 8000000
set_option maxRecDepth 100000
set_option linter.unusedSimpArgs false

/-! ### ententelaw19_OutboxDue: function 4 -/
/-! ententelaw19.OutboxDue: on its true way -/
def ententelaw19_OutboxDue.go : Nat → S37 → Int → List S46 → Int → Int → Int → Option Bool
  | 0, _, _, _, _, _, _ => none
  | k + 1, n, now, l, nx, s, t => if t < wrap64 (now + 60) then ((outbox_Due.f k l t).bind fun p => if t = nx then ((backoff_Delay.f k (wrap64 (s + 1))).bind fun d => if p.2.length = 1 ∧ (rd_T46 p.2 0).f2 = wrap64 (s + 1) ∧ (rd_T46 p.2 0).f1 = wrap64 (t + d) ∧ (rd_T46 p.2 0).f0 = 1 then ((outbox_May.f k p.1).bind fun e => (outbox_Has.f k p.1 n.f0 n.f1.f0 n.f1.f1 n.f1.f2 n.f2 n.f3).bind fun b => if e = 0 ∧ b = true then ententelaw19_OutboxDue.go k n now p.1 (wrap64 (t + d)) (wrap64 (s + 1)) (wrap64 (t + 1)) else none) else none) else if p.2.length = 0 then ((outbox_May.f k p.1).bind fun e => (outbox_Has.f k p.1 n.f0 n.f1.f0 n.f1.f1 n.f1.f2 n.f2 n.f3).bind fun b => if e = 0 ∧ b = true then ententelaw19_OutboxDue.go k n now p.1 nx s (wrap64 (t + 1)) else none) else none) else ententelaw19_awake.f k
def ententelaw19_OutboxDue.f (k : Nat) (a0_0 : Int) (a0_1 : Int) (a0_2 : Int) (l0_3 : List S62) (a0_4 : ByteArray) (a0_5 : Int) (a1 : Int) : Option Bool :=
  if (l0_3.length : Int) > 100 ∨ a1 < 0 ∨ a1 > 999999000 then ententelaw19_awake.f k else (outbox_Push.f k [] 1 a1 [⟨a0_0, ⟨a0_1, a0_2, l0_3⟩, a0_4, a0_5⟩]).bind fun p => if p.2 = 0 then ententelaw19_OutboxDue.go k ⟨a0_0, ⟨a0_1, a0_2, l0_3⟩, a0_4, a0_5⟩ a1 p.1 a1 0 a1 else if p.1.length = 0 ∧ p.2 = 130 then ententelaw19_awake.f k else none
theorem one_note {W : World} (x : S37) (A : Option Addr) (c : Nat) (hl : x.f1.f2.length ≤ c) (hr : Kd.C k62 W A x.f1.f2.length x.f1.f2) :
    Kd.C k37 (W.alloc (.cells #[.int .i64 x.f0, .int .i64 x.f1.f0, .int .i64 x.f1.f1, .slice A x.f1.f2.length c, .string x.f2, .int .i64 x.f3] 37)) (some ⟨W.heap.size, 0, none⟩) 1 [x] := by
  refine ⟨rfl, by omega, fun _ => ⟨_, rfl, fun j p hj => ?_⟩⟩
  cases j with
  | zero =>
    obtain rfl : x = p := by simpa using hj
    refine ⟨[.int .i64 x.f0, .int .i64 x.f1.f0, .int .i64 x.f1.f1, .slice A x.f1.f2.length c, .string x.f2, .int .i64 x.f3], rfl, k37_mk _ x hl (Kd.C_alloc hr _), fun i u hi => ?_⟩
    have ha : (⟨W.heap.size, 0, none⟩ : Addr).add (0 * k37.sz + i) = ⟨W.heap.size, i, none⟩ := by simp [Addr.add]; exact fun h => h.symm
    rw [ha, blk_cell (blk_new W _) i]
    simpa using hi
  | succ j => simp at hj
set_option maxHeartbeats 8000000 in
set_option maxRecDepth 100000 in
theorem ententelaw19_OutboxDue.calls (k : Nat) (a0_0 : Int) (a0_1 : Int) (a0_2 : Int) (A0_3 : Option Addr) (c0_3 : Nat) (l0_3 : List S62) (a0_4 : ByteArray) (a0_5 : Int) (a1 : Int) (r : Bool) (w : World) (hr0_3 : Kd.C k62 w A0_3 l0_3.length l0_3) (hc0_3 : l0_3.length ≤ c0_3) (ht : r = true) (h : ententelaw19_OutboxDue.f k a0_0 a0_1 a0_2 l0_3 a0_4 a0_5 a1 = some r) :
    Calls Try.prog 4 #[.agg #[.int .i64 a0_0, .int .i64 a0_1, .int .i64 a0_2, .slice A0_3 l0_3.length c0_3, .string a0_4, .int .i64 a0_5], .int .i64 a1] w fun e w' => e = .returned (.bool r) ∧ Below w.heap.size w w' := by
  have hu46 := Try.underlying46
  have hu37 := Try.underlying37
  have hu35 := Try.underlying35
  have HR0 := My.am hr0_3
  have HC0 := My.am hc0_3
  have HB := My.am (Below.refl w.heap.size w)
  clear hr0_3 hc0_3 ht
  unfold ententelaw19_OutboxDue.f at h
  by_cases c1 : (l0_3.length : Int) > 100
  · rw [if_pos (Or.inl c1)] at h
    have A1 := My.am h
    have b1 : decide ((l0_3.length : Int) > 100) = true := decide_eq_true c1
    have b2 : decide (100 < (l0_3.length : Int)) = true := decide_eq_true c1
    clear h c1
    go_enter Try.func4, Try.ntmps4
    go_wp2_with (first | ((with_reducible refine gate_dst (N := 2) rfl ?_); refine My.bx 2 #[.int .i64 a0_0, .int .i64 a0_1, .int .i64 a0_2, .slice A0_3 l0_3.length c0_3, .string a0_4, .int .i64 a0_5] 37 ?_; intro gn hg w5 hbox hb; have BN := My.am hbox; replace HB := My.st HB hb; clear hb hbox hg; have hqn := My.cz6 BN) | ((with_reducible refine gate_callee (f := 8) rfl ?_); refine goesL_ (some 25) rfl rfl Try.func8 (by kernel_rfl) rfl #[] rfl My.gx ?_; (with_reducible refine (ententelaw19_awake.calls k r _ A1.out).mono ?_); rintro e w6 ⟨rfl, hb⟩; refine ⟨_, rfl, ?_⟩; replace HB := My.st HB hb; clear hb))
    go_ret
    exact ⟨My.r2, HB.out⟩
  have b1 : decide ((l0_3.length : Int) > 100) = false := decide_eq_false c1
  have b2 : decide (100 < (l0_3.length : Int)) = false := decide_eq_false c1
  by_cases c2 : a1 < 0
  · rw [if_pos (Or.inr (Or.inl c2))] at h
    have A1 := My.am h
    have b3 : decide (a1 < 0) = true := decide_eq_true c2
    clear h c1 c2
    go_enter Try.func4, Try.ntmps4
    go_wp2_with (first | ((with_reducible refine gate_dst (N := 2) rfl ?_); refine My.bx 2 #[.int .i64 a0_0, .int .i64 a0_1, .int .i64 a0_2, .slice A0_3 l0_3.length c0_3, .string a0_4, .int .i64 a0_5] 37 ?_; intro gn hg w5 hbox hb; have BN := My.am hbox; replace HB := My.st HB hb; clear hb hbox hg; have hqn := My.cz6 BN) | ((with_reducible refine gate_callee (f := 8) rfl ?_); refine goesL_ (some 25) rfl rfl Try.func8 (by kernel_rfl) rfl #[] rfl My.gx ?_; (with_reducible refine (ententelaw19_awake.calls k r _ A1.out).mono ?_); rintro e w6 ⟨rfl, hb⟩; refine ⟨_, rfl, ?_⟩; replace HB := My.st HB hb; clear hb))
    go_ret
    exact ⟨My.r2, HB.out⟩
  have b3 : decide (a1 < 0) = false := decide_eq_false c2
  by_cases c3 : a1 > 999999000
  · rw [if_pos (Or.inr (Or.inr c3))] at h
    have A1 := My.am h
    have b4 : decide (a1 > 999999000) = true := decide_eq_true c3
    have b5 : decide (999999000 < a1) = true := decide_eq_true c3
    clear h c1 c2 c3
    go_enter Try.func4, Try.ntmps4
    go_wp2_with (first | ((with_reducible refine gate_dst (N := 2) rfl ?_); refine My.bx 2 #[.int .i64 a0_0, .int .i64 a0_1, .int .i64 a0_2, .slice A0_3 l0_3.length c0_3, .string a0_4, .int .i64 a0_5] 37 ?_; intro gn hg w5 hbox hb; have BN := My.am hbox; replace HB := My.st HB hb; clear hb hbox hg; have hqn := My.cz6 BN) | ((with_reducible refine gate_callee (f := 8) rfl ?_); refine goesL_ (some 25) rfl rfl Try.func8 (by kernel_rfl) rfl #[] rfl My.gx ?_; (with_reducible refine (ententelaw19_awake.calls k r _ A1.out).mono ?_); rintro e w6 ⟨rfl, hb⟩; refine ⟨_, rfl, ?_⟩; replace HB := My.st HB hb; clear hb))
    go_ret
    exact ⟨My.r2, HB.out⟩
  have b4 : decide (a1 > 999999000) = false := decide_eq_false c3
  have b5 : decide (999999000 < a1) = false := decide_eq_false c3
  rw [if_neg (by omega)] at h
  obtain ⟨⟨l, e⟩, hp, h⟩ := Option.bind_eq_some_iff.1 h
  have AP := My.am hp
  dsimp only at h
  clear hp c1 c2 c3
  by_cases e0 : e = 0
  · subst e0
    rw [if_pos rfl] at h
    have HG := My.am h
    clear h
    go_enter Try.func4, Try.ntmps4
    go_wp2_with (first | ((with_reducible refine gate_dst (N := 2) rfl ?_); refine My.bx 2 #[.int .i64 a0_0, .int .i64 a0_1, .int .i64 a0_2, .slice A0_3 l0_3.length c0_3, .string a0_4, .int .i64 a0_5] 37 ?_; intro gn hg w5 hbox hb; have BN := My.am hbox; replace HB := My.st HB hb; clear hb hbox hg; have hqn := My.cz6 BN) | ((with_reducible refine gate_callee (f := 9) rfl ?_); refine goesL_ (some 30) rfl rfl Try.func9 (by kernel_rfl) rfl #[.slice none 0 0, .int .i64 1, .int .i64 a1, .slice (some ⟨_, 0, none⟩) 1 1] rfl My.gx ?_; (refine (outbox_Push.calls k _ _ ([] : List S46) 1 a1 _ _ [⟨a0_0, ⟨a0_1, a0_2, l0_3⟩, a0_4, a0_5⟩] l 0 _ ?side1 ?side2 ?side3 ?side4 AP.out).mono ?_); (case side1 => exact Kd.C_nil _ _); (case side2 => exact Nat.le_refl _); (case side3 => exact one_note ⟨a0_0, ⟨a0_1, a0_2, l0_3⟩, a0_4, a0_5⟩ A0_3 c0_3 HC0.out (Kd.C_below HR0.out (My.bl_ HB))); (case side4 => exact Nat.le_refl _); rintro e w7 ⟨vo, rfl, ho, hb⟩; refine ⟨_, rfl, ?_⟩; have HO := My.am (Kd.R_lower ho (Nat.le_trans (below_size (My.bl_ HB)) (below_size (below_alloc (Below.refl _ _) _)))); clear hqn; replace BN := My.ab BN (below_step (below_alloc (Below.refl _ _) _) hb); replace HB := My.st HB hb; clear hb ho))
    clear AP b1 b2 b3 b4 b5
    go_loopg [5, 7, 8, 9] k (fun kq v5 v7 v8 v9 w' => ∃ (ys : List S46) (nx s t : Int), v7 = .int .i64 nx ∧ v8 = .int .i64 s ∧ v9 = .int .i64 t ∧ Aside0 (ententelaw19_OutboxDue.go kq ⟨a0_0, ⟨a0_1, a0_2, l0_3⟩, a0_4, a0_5⟩ a1 ys nx s t = some r) ∧ Aside0 (Kd.R k46 46 w' w.heap.size (fun _ => True) v5 ys) ∧ Aside0 (w'.heap[gn]? = some (.cells #[.int .i64 a0_0, .int .i64 a0_1, .int .i64 a0_2, .slice A0_3 l0_3.length c0_3, .string a0_4, .int .i64 a0_5] 37 (0, 0))) ∧ Aside0 (Below w.heap.size w w'))
    case atStart => exact ⟨l, a1, 0, a1, rfl, rfl, rfl, HG, HO, BN, ⟨(My.bl_ HB)⟩⟩
    case round =>
      clear HG HO HB BN
      obtain ⟨ys, nx, s, t, rfl, rfl, rfl, HG, HO, BN, HB⟩ := hrel
      obtain ⟨Ao, co, eo⟩ := Kd.R_slice HO.out
      subst eo
      cases gk with
      | zero => exact absurd HG.out (by simp [ententelaw19_OutboxDue.go])
      | succ k2 =>
        have hg := HG.out
        rw [ententelaw19_OutboxDue.go] at hg
        clear HG
        by_cases c : t < wrap64 (a1 + 60)
        · have b1 : decide (t < wrap64 (a1 + 60)) = true := decide_eq_true c
          rw [if_pos c] at hg
          obtain ⟨⟨m, due⟩, hd, hg1⟩ := Option.bind_eq_some_iff.1 hg
          clear hg
          have hg := hg1
          clear hg1
          dsimp only at hg
          have AD := My.am hd
          clear hd c
          by_cases q : t = nx
          · have b2 : (t == nx) = true := beq_iff_eq.2 q
            rw [if_pos q] at hg
            obtain ⟨d, hdl, hg1⟩ := Option.bind_eq_some_iff.1 hg
            clear hg
            have hg := hg1
            clear hg1
            by_cases g : due.length = 1 ∧ (rd_T46 due 0).f2 = wrap64 (s + 1) ∧ (rd_T46 due 0).f1 = wrap64 (t + d) ∧ (rd_T46 due 0).f0 = 1
            · rw [if_pos g] at hg
              obtain ⟨x, rfl⟩ : ∃ x, due = [x] := List.length_eq_one_iff.1 g.1
              obtain ⟨_, g2, g1, g0⟩ := g
              obtain ⟨e, he, hg2⟩ := Option.bind_eq_some_iff.1 hg
              obtain ⟨b, hb, hg3⟩ := Option.bind_eq_some_iff.1 hg2
              clear hg hg2
              by_cases z : e = 0 ∧ b = true
              · rw [if_pos z] at hg3
                obtain ⟨rfl, rfl⟩ := z
                have HG := My.am hg3
                have AL := My.am hdl
                have AM := My.am he
                have AH := My.am hb
                have f2 : ((rd_T46 [x] 0).f2 != wrap64 (s + 1)) = false := bne_eq_false_iff_eq.2 g2
                have f1 : ((rd_T46 [x] 0).f1 != wrap64 (t + d)) = false := bne_eq_false_iff_eq.2 g1
                have f0 : ((rd_T46 [x] 0).f0 != 1) = false := bne_eq_false_iff_eq.2 g0
                clear hg3 hdl he hb g2 g1 g0 q
                go_wp2_with (first | ((with_reducible refine gate_callee (f := 16) rfl ?_); refine goesL_ (some 56) rfl rfl Try.func16 (by kernel_rfl) rfl #[.slice Ao ys.length co, .int .i64 t] rfl My.gx ?_; (with_reducible refine (outbox_Due.calls k2 _ _ ys t m [x] _ ?side1 ?side2 AD.out).mono ?_); (case side1 => exact (Kd.R_reads' HO.out).2.2); (case side2 => exact (Kd.R_reads' HO.out).2.1); rintro e w7 ⟨vm, vd, rfl, hm, hdu, hb⟩; refine ⟨_, rfl, ?_⟩; have HM := My.am (Kd.R_lower (Kd.R_mono (ok' := fun _ => True) hm (fun _ _ => trivial)) (below_size (My.bl_ HB))); have HD := My.am (Kd.R_lower (Kd.R_mono (ok' := fun _ => True) hdu (fun _ _ => trivial)) (below_size (My.bl_ HB))); replace BN := My.ab BN hb; replace HB := My.st HB hb; clear hb hm hdu; obtain ⟨Am, cm, em⟩ := Kd.R_slice HM.out; subst em; obtain ⟨Ad, cd, ed⟩ := Kd.R_slice HD.out; subst ed) | ((with_reducible refine gate_callee (f := 17) rfl ?_); refine goesL_ (some 66) rfl rfl Try.func17 (by kernel_rfl) rfl #[.int .i64 (wrap64 (s + 1))] rfl My.gx ?_; (with_reducible refine (backoff_Delay.calls k2 (wrap64 (s + 1)) d _ AL.out).mono ?_); rintro e w8 ⟨rfl, hb⟩; refine ⟨_, rfl, ?_⟩; replace HM := My.am (Kd.R_below HM.out hb); replace HD := My.am (Kd.R_below HD.out hb); replace BN := My.ab BN hb; replace HB := My.st HB hb; clear hb; obtain ⟨ad, Ay, cy, ey, y0, y1, y2, _, _, _, _, _, _, _, _⟩ := at_T46 (Kd.R_reads' HD.out).2.2 0 (Int.le_refl 0) (by show (0 : Int) < ((1 : Nat) : Int); decide); cases ey; have ea : ad.add (Int.toNat 0 * 9) = ad := (by cases ad; first | rfl | simp [Addr.add]); rw [ea] at y0 y1 y2; clear ea) | ((with_reducible refine gate_callee (f := 13) rfl ?_); refine goesL_ (some 98) rfl rfl Try.func13 (by kernel_rfl) rfl #[.slice Am m.length cm] rfl My.gx ?_; (with_reducible refine (outbox_May.calls k2 _ _ m 0 _ ?side1 ?side2 AM.out).mono ?_); (case side1 => exact (Kd.R_reads' HM.out).2.2); (case side2 => exact (Kd.R_reads' HM.out).2.1); rintro e w9 ⟨rfl, hb⟩; refine ⟨_, rfl, ?_⟩; clear y0 y1 y2; replace HM := My.am (Kd.R_below HM.out hb); replace BN := My.ab BN hb; replace HB := My.st HB hb; clear hb; have hqn := My.cz6 BN) | ((with_reducible refine gate_callee (f := 11) rfl ?_); (try (refine gate_guard (by rfl) ?_; dsimp only)); refine goesL_ (some 103) rfl rfl Try.func11 (by kernel_rfl) rfl #[.slice Am m.length cm, .agg #[.int .i64 a0_0, .int .i64 a0_1, .int .i64 a0_2, .slice A0_3 l0_3.length c0_3, .string a0_4, .int .i64 a0_5]] rfl My.gx ?_; (with_reducible refine (outbox_Has.calls k2 _ _ m _ _ _ A0_3 c0_3 l0_3 _ _ true _ ?side1 ?side2 ?side3 ?side4 AH.out).mono ?_); (case side1 => exact (Kd.R_reads' HM.out).2.2); (case side2 => exact (Kd.R_reads' HM.out).2.1); (case side3 => exact Kd.C_below HR0.out (My.bl_ HB)); (case side4 => exact HC0.out); rintro e w10 ⟨rfl, hb⟩; refine ⟨_, rfl, ?_⟩; clear hqn; replace HM := My.am (Kd.R_below HM.out hb); replace BN := My.ab BN hb; replace HB := My.st HB hb; clear hb))
                go_roundg k2
                case measure => omega
                case rel => exact ⟨m, wrap64 (t + d), wrap64 (s + 1), wrap64 (t + 1), rfl, rfl, rfl, HG, HM, BN, ⟨My.bl_ HB⟩⟩
              · rw [if_neg z] at hg3
                cases hg3
            · rw [if_neg g] at hg
              cases hg
          · have b2 : (t == nx) = false := beq_eq_false_iff_ne.2 q
            rw [if_neg q] at hg
            by_cases g : due.length = 0
            · rw [if_pos g] at hg
              obtain rfl : due = [] := List.eq_nil_of_length_eq_zero g
              obtain ⟨e, he, hg2⟩ := Option.bind_eq_some_iff.1 hg
              obtain ⟨b, hb, hg3⟩ := Option.bind_eq_some_iff.1 hg2
              clear hg hg2
              by_cases z : e = 0 ∧ b = true
              · rw [if_pos z] at hg3
                obtain ⟨rfl, rfl⟩ := z
                have HG := My.am hg3
                have AM := My.am he
                have AH := My.am hb
                clear hg3 he hb g q
                go_wp2_with (first | ((with_reducible refine gate_callee (f := 16) rfl ?_); refine goesL_ (some 56) rfl rfl Try.func16 (by kernel_rfl) rfl #[.slice Ao ys.length co, .int .i64 t] rfl My.gx ?_; (with_reducible refine (outbox_Due.calls k2 _ _ ys t m [] _ ?side1 ?side2 AD.out).mono ?_); (case side1 => exact (Kd.R_reads' HO.out).2.2); (case side2 => exact (Kd.R_reads' HO.out).2.1); rintro e w7 ⟨vm, vd, rfl, hm, hdu, hb⟩; refine ⟨_, rfl, ?_⟩; have HM := My.am (Kd.R_lower (Kd.R_mono (ok' := fun _ => True) hm (fun _ _ => trivial)) (below_size (My.bl_ HB))); obtain ⟨Ad, cd, ed⟩ := Kd.R_slice hdu; subst ed; replace BN := My.ab BN hb; replace HB := My.st HB hb; clear hb hm hdu; obtain ⟨Am, cm, em⟩ := Kd.R_slice HM.out; subst em) | ((with_reducible refine gate_callee (f := 13) rfl ?_); refine goesL_ (some 98) rfl rfl Try.func13 (by kernel_rfl) rfl #[.slice Am m.length cm] rfl My.gx ?_; (with_reducible refine (outbox_May.calls k2 _ _ m 0 _ ?side1 ?side2 AM.out).mono ?_); (case side1 => exact (Kd.R_reads' HM.out).2.2); (case side2 => exact (Kd.R_reads' HM.out).2.1); rintro e w9 ⟨rfl, hb⟩; refine ⟨_, rfl, ?_⟩; replace HM := My.am (Kd.R_below HM.out hb); replace BN := My.ab BN hb; replace HB := My.st HB hb; clear hb; have hqn := My.cz6 BN) | ((with_reducible refine gate_callee (f := 11) rfl ?_); (try (refine gate_guard (by rfl) ?_; dsimp only)); refine goesL_ (some 103) rfl rfl Try.func11 (by kernel_rfl) rfl #[.slice Am m.length cm, .agg #[.int .i64 a0_0, .int .i64 a0_1, .int .i64 a0_2, .slice A0_3 l0_3.length c0_3, .string a0_4, .int .i64 a0_5]] rfl My.gx ?_; (with_reducible refine (outbox_Has.calls k2 _ _ m _ _ _ A0_3 c0_3 l0_3 _ _ true _ ?side1 ?side2 ?side3 ?side4 AH.out).mono ?_); (case side1 => exact (Kd.R_reads' HM.out).2.2); (case side2 => exact (Kd.R_reads' HM.out).2.1); (case side3 => exact Kd.C_below HR0.out (My.bl_ HB)); (case side4 => exact HC0.out); rintro e w10 ⟨rfl, hb⟩; refine ⟨_, rfl, ?_⟩; clear hqn; replace HM := My.am (Kd.R_below HM.out hb); replace BN := My.ab BN hb; replace HB := My.st HB hb; clear hb))
                go_roundg k2
                case measure => omega
                case rel => exact ⟨m, nx, s, wrap64 (t + 1), rfl, rfl, rfl, HG, HM, BN, ⟨My.bl_ HB⟩⟩
              · rw [if_neg z] at hg3
                cases hg3
            · rw [if_neg g] at hg
              cases hg
        · have b1 : decide (t < wrap64 (a1 + 60)) = false := decide_eq_false c
          rw [if_neg c] at hg
          have A1 := My.am hg
          clear hg c
          go_wp2_with (first | ((with_reducible refine gate_callee (f := 8) rfl ?_); refine goesL_ (some 107) rfl rfl Try.func8 (by kernel_rfl) rfl #[] rfl My.gx ?_; (with_reducible refine (ententelaw19_awake.calls k2 r _ A1.out).mono ?_); rintro e w6 ⟨rfl, hb⟩; refine ⟨_, rfl, ?_⟩; replace HB := My.st HB hb; clear hb))
          go_ret
          exact ⟨My.r2, HB.out⟩
  · rw [if_neg e0] at h
    by_cases g : l.length = 0 ∧ e = 130
    · rw [if_pos g] at h
      obtain ⟨g1, rfl⟩ := g
      obtain rfl : l = [] := List.eq_nil_of_length_eq_zero g1
      have A1 := My.am h
      clear h g1 e0
      go_enter Try.func4, Try.ntmps4
      go_wp2_with (first | ((with_reducible refine gate_dst (N := 2) rfl ?_); refine My.bx 2 #[.int .i64 a0_0, .int .i64 a0_1, .int .i64 a0_2, .slice A0_3 l0_3.length c0_3, .string a0_4, .int .i64 a0_5] 37 ?_; intro gn hg w5 hbox hb; have BN := My.am hbox; replace HB := My.st HB hb; clear hb hbox hg; have hqn := My.cz6 BN) | ((with_reducible refine gate_callee (f := 9) rfl ?_); refine goesL_ (some 30) rfl rfl Try.func9 (by kernel_rfl) rfl #[.slice none 0 0, .int .i64 1, .int .i64 a1, .slice (some ⟨_, 0, none⟩) 1 1] rfl My.gx ?_; (refine (outbox_Push.calls k _ _ ([] : List S46) 1 a1 _ _ [⟨a0_0, ⟨a0_1, a0_2, l0_3⟩, a0_4, a0_5⟩] [] 130 _ ?side1 ?side2 ?side3 ?side4 AP.out).mono ?_); (case side1 => exact Kd.C_nil _ _); (case side2 => exact Nat.le_refl _); (case side3 => exact one_note ⟨a0_0, ⟨a0_1, a0_2, l0_3⟩, a0_4, a0_5⟩ A0_3 c0_3 HC0.out (Kd.C_below HR0.out (My.bl_ HB))); (case side4 => exact Nat.le_refl _); rintro e w7 ⟨vo, rfl, ho, hb⟩; refine ⟨_, rfl, ?_⟩; obtain ⟨Ao, co, eo⟩ := Kd.R_slice ho; subst eo; clear hqn; replace HB := My.st HB hb; clear hb ho) | ((with_reducible refine gate_callee (f := 8) rfl ?_); (try (refine gate_guard (by rfl) ?_; dsimp only)); refine goesL_ (some 43) rfl rfl Try.func8 (by kernel_rfl) rfl #[] rfl My.gx ?_; (with_reducible refine (ententelaw19_awake.calls k r _ A1.out).mono ?_); rintro e w6 ⟨rfl, hb⟩; refine ⟨_, rfl, ?_⟩; replace HB := My.st HB hb; clear hb))
      go_ret
      exact ⟨My.r2, HB.out⟩
    · rw [if_neg g] at h
      cases h

/-- THE ONE PURE STATEMENT of ententelaw19_OutboxDue. -/
def Q62 (x : S62) : Prop := (Lit.int .i64 x.f0).wf = true ∧ (Lit.int .i64 x.f1).wf = true
def ententelaw19_OutboxDue.Pure : Prop := ∀ (a0_0 : Int) (a0_1 : Int) (a0_2 : Int) (l0_3 : List S62) (a0_4 : ByteArray) (a0_5 : Int) (a1 : Int), (Lit.int .i64 a0_0).wf = true → (Lit.int .i64 a0_1).wf = true → (Lit.int .i64 a0_2).wf = true → (l0_3.length ≤ 9223372036854775807 ∧ l0_3.length * 16 ≤ 140737488351232 ∧ ∀ y_ ∈ l0_3, Q62 y_) → a0_4.size ≤ 140737488351232 → (Lit.int .i64 a0_5).wf = true → (Lit.int .i64 a1).wf = true → ∃ k, ententelaw19_OutboxDue.f k a0_0 a0_1 a0_2 l0_3 a0_4 a0_5 a1 = some true


end Go.Proofs.Ytcgmoeiknkdljaa.PA
