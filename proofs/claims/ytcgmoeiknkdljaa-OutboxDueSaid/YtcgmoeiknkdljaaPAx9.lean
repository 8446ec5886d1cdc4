-- Written by a program of this session (wip/tools/mp.py over the kit's printer); Lean checks it.
import Derived.Test.YtcgmoeiknkdljaaPAx0
import Derived.Test.YtcgmoeiknkdljaaPAx6
import Derived.Test.YtcgmoeiknkdljaaPAx7
import Derived.Test.YtcgmoeiknkdljaaPAx8
namespace Go.Proofs.Ytcgmoeiknkdljaa.PA
open Go.RowKit Go.Proofs.YtcgmoeiknkdljaaW.PrintWords Go.Proofs.YtcgmoeiknkdljaaW.PrintLast Go.Proofs.YtcgmoeiknkdljaaW.PrintMore
attribute [local go_sem] max2_int min2_int max_two min_two max_three min_three max_four min_four   -- for this text's walks alone
set_option linter.unusedVariables false
set_option maxHeartbeats 8000000
set_option maxRecDepth 100000
set_option linter.unusedSimpArgs false

/-! ### outbox_Due: function 16 -/
/-! outbox.Due -/
def outbox_Due.sent (s : Int) : Int := if 1000000 < wrap64 (s + 1) then 1000000 else wrap64 (s + 1)
def outbox_Due.go (k : Nat) (now : Int) : List S46 → List S46 → List S46 → Option (List S46 × List S46)
 | [], acc, ds => some (acc, ds)
 | x :: r, acc, ds => if x.f1 > now then outbox_Due.go k now r (acc ++ [x]) ds else (backoff_Next.f k now (outbox_Due.sent x.f2)).bind fun t => if ds.length < 1000000 then outbox_Due.go k now r (acc ++ [⟨x.f0, t.1, outbox_Due.sent x.f2, x.f3⟩]) (ds ++ [⟨x.f0, t.1, outbox_Due.sent x.f2, x.f3⟩]) else none
def outbox_Due.f (k : Nat) (l0 : List S46) (a1 : Int) : Option (List S46 × List S46) :=
 (outbox_May.f k l0).bind fun e => (outbox_time.f a1).bind fun t => if e = 0 ∧ t = true then ((outbox_copied.f k l0).bind fun out => (outbox_Due.go k a1 out [] []).bind fun p => (outbox_copied.f k p.2).bind fun d => some (p.1, d)) else some ([], [])
theorem outbox_Due.go_mono (k : Nat) (now : Int) : ∀ (l acc ds : List S46), LeO (outbox_Due.go k now l acc ds) (outbox_Due.go (k + 1) now l acc ds)
 | [], acc, ds => LeO.refl _
 | x :: r, acc, ds => by
  unfold outbox_Due.go
  exact LeO.ite (outbox_Due.go_mono k now r _ _) (LeO.bind (backoff_Next.mono _ _ _) (fun _ => LeO.ite (outbox_Due.go_mono k now r _ _) (LeO.refl _)))
theorem outbox_Due.mono : ∀ a0 a1 k, LeO (outbox_Due.f k a0 a1) (outbox_Due.f (k + 1) a0 a1) := by
 intro a0 a1 k
 unfold outbox_Due.f
 exact LeO.bind (outbox_May.mono _ _) (fun _ => LeO.bind (LeO.refl _) (fun _ => LeO.ite (LeO.bind (outbox_copied.mono _ _) (fun _ => LeO.bind (outbox_Due.go_mono _ _ _ _ _) (fun _ => LeO.bind (outbox_copied.mono _ _) (fun _ => LeO.refl _)))) (LeO.refl _)))
theorem due_set {ys acc rest : List S46} {x y : S46} {i : Nat} (e : ys = acc ++ rest) (hr : rest = x :: rest.tail) (hi : i = acc.length) : ys.set i y = (acc ++ [y]) ++ rest.tail := by
 subst hi
 rw [e, List.set_append_right _ _ (Nat.le_refl _), Nat.sub_self, hr, List.append_assoc]
 rfl
attribute [local go_sem] max2_int min2_int max_two min_two max_three min_three max_four min_four
theorem outbox_Due.calls (k : Nat) (A0 : Option Addr) (c0 : Nat) (l0 : List S46) (a1 : Int) (r1 : List S46) (r2 : List S46) (w : World) (hr0 : Kd.C k46 w A0 l0.length l0) (hc0 : l0.length ≤ c0) (h : outbox_Due.f k l0 a1 = some (r1, r2)) :
  Calls Try.prog 16 #[.slice A0 l0.length c0, .int .i64 a1] w fun e w' => ∃ v0_ v1_ : Value, e = .returned (.tuple #[v0_, v1_]) ∧ Kd.R k46 46 w' w.heap.size (fun k_ => some k_ ≠ (v1_ : Value).ownBlock) v0_ r1 ∧ Kd.R k46 46 w' w.heap.size (fun k_ => some k_ ≠ (v0_ : Value).ownBlock) v1_ r2 ∧ Below w.heap.size w w' := by
 have hu46 := Try.underlying46
 have hu37 := Try.underlying37
 have hu35 := Try.underlying35
 have HR0 := My.am hr0
 have HC0 := My.am hc0
 have HB := My.am (Below.refl w.heap.size w)
 clear hr0 hc0
 unfold outbox_Due.f at h
 obtain ⟨e, he, h⟩ := Option.bind_eq_some_iff.1 h
 obtain ⟨t, ht, h⟩ := Option.bind_eq_some_iff.1 h
 have A1 := My.am he
 have A2 := My.am ht
 have H := My.am h
 clear he ht h
 go_enter Try.func16, Try.ntmps16
 go_upto_region 1 with (fail)
 go_cut [17] (fun v17 wc => v17 = .bool (!(decide (e = 0 ∧ t = true))) ∧ Aside0 (Below w.heap.size w wc))
 case first =>
  by_cases e0 : e = 0
  ·subst e0
   cases t with
   | true =>
    go_wp2_with (first | ((with_reducible refine gate_callee (f := 13) rfl ?_); refine goesL_ (some 11) rfl rfl Try.func13 (by kernel_rfl) rfl #[.slice A0 l0.length c0] rfl My.gx ?_; (with_reducible refine (outbox_May.calls k _ _ l0 0 _ ?side1 ?side2 A1.out).mono ?_); (case side1 => exact HR0.out); (case side2 => exact HC0.out); rintro e w3 ⟨rfl, hb⟩; refine ⟨_, rfl, ?_⟩; replace HB := My.st HB hb; clear hb) | ((with_reducible refine gate_callee (f := 24) rfl ?_); (try (refine gate_guard (by rfl) ?_; dsimp only)); refine goesL_ (some 15) rfl rfl Try.func24 (by kernel_rfl) rfl #[.int .i64 a1] rfl My.gx ?_; (with_reducible refine (outbox_time.calls a1 true _ A2.out).mono ?_); rintro e w4 ⟨rfl, hb⟩; refine ⟨_, rfl, ?_⟩; replace HB := My.st HB hb.below; clear hb))
    go_meet
    case rel => exact ⟨by simp, HB⟩
   | false =>
    go_wp2_with (first | ((with_reducible refine gate_callee (f := 13) rfl ?_); refine goesL_ (some 11) rfl rfl Try.func13 (by kernel_rfl) rfl #[.slice A0 l0.length c0] rfl My.gx ?_; (with_reducible refine (outbox_May.calls k _ _ l0 0 _ ?side1 ?side2 A1.out).mono ?_); (case side1 => exact HR0.out); (case side2 => exact HC0.out); rintro e w3 ⟨rfl, hb⟩; refine ⟨_, rfl, ?_⟩; replace HB := My.st HB hb; clear hb) | ((with_reducible refine gate_callee (f := 24) rfl ?_); (try (refine gate_guard (by rfl) ?_; dsimp only)); refine goesL_ (some 15) rfl rfl Try.func24 (by kernel_rfl) rfl #[.int .i64 a1] rfl My.gx ?_; (with_reducible refine (outbox_time.calls a1 false _ A2.out).mono ?_); rintro e w4 ⟨rfl, hb⟩; refine ⟨_, rfl, ?_⟩; replace HB := My.st HB hb.below; clear hb))
    go_meet
    case rel => exact ⟨by simp, HB⟩
  ·have b1 : (e == 0) = false := beq_eq_false_iff_ne.2 e0
   have b2 : (e != 0) = true := bne_iff_ne.2 e0
   have b3 : decide (e = 0) = false := decide_eq_false e0
   go_wp2_with (first | ((with_reducible refine gate_callee (f := 13) rfl ?_); refine goesL_ (some 11) rfl rfl Try.func13 (by kernel_rfl) rfl #[.slice A0 l0.length c0] rfl My.gx ?_; (with_reducible refine (outbox_May.calls k _ _ l0 e _ ?side1 ?side2 A1.out).mono ?_); (case side1 => exact HR0.out); (case side2 => exact HC0.out); rintro e w3 ⟨rfl, hb⟩; refine ⟨_, rfl, ?_⟩; replace HB := My.st HB hb; clear hb))
   go_meet
   case rel => exact ⟨by simp [e0], HB⟩
 case rest =>
  obtain ⟨rfl, HB1⟩ := hcut
  clear HB
  have HB := HB1
  clear HB1
  by_cases c : e = 0 ∧ t = true
  rotate_left
  ·rw [decide_eq_false c]
   have h1 := H.out
   rw [if_neg c] at h1
   obtain ⟨rfl, rfl⟩ := Prod.mk.inj (Option.some.inj h1)
   clear h1 c
   go_wp2
   go_ret2
   exact ⟨_, _, My.r2, Kd.R_nil _ _ _ _ _, Kd.R_nil _ _ _ _ _, HB.out⟩


  rw [decide_eq_true c]
  have h1 := H.out
  rw [if_pos c] at h1
  obtain ⟨out, ho, h1⟩ := Option.bind_eq_some_iff.1 h1
  obtain ⟨⟨p1, p2⟩, hg, h1⟩ := Option.bind_eq_some_iff.1 h1
  obtain ⟨d, hd, h1⟩ := Option.bind_eq_some_iff.1 h1
  obtain ⟨rfl, rfl⟩ := Prod.mk.inj (Option.some.inj h1)
  have A3' := My.am ho
  have HG := My.am hg
  have AD := My.am hd
  clear h1 ho hg hd c H
  go_wp2_with (first | ((with_reducible refine gate_callee (f := 25) rfl ?_); refine goesL_ (some 19) rfl rfl Try.func25 (by kernel_rfl) rfl #[.slice A0 l0.length c0] rfl My.gx ?_; (with_reducible refine (outbox_copied.calls k _ _ l0 out _ ?side1 ?side2 A3'.out).mono ?_); (case side1 => exact Kd.C_below HR0.out (My.bl_ HB)); (case side2 => exact HC0.out); rintro e w5 ⟨vo, rfl, ho, hb⟩; refine ⟨_, rfl, ?_⟩; obtain ⟨N0, hN0⟩ : ∃ N, N = w5.heap.size := ⟨_, rfl⟩; have HO := My.am (Kd.R_mono (ok' := fun k_ => k_ < N0) (Kd.R_bound (Kd.R_lower (Kd.S_R ho) (below_size (My.bl_ HB)))) (fun k_ hk => by have := hk.2.2.1; omega)); replace HB := My.st HB hb; have HN0 := My.am hN0; clear hb ho hN0; obtain ⟨Ao, co, eo⟩ := Kd.R_slice HO.out; subst eo))
  have hlen : out.length ≤ 9223372036854775807 := (Kd.R_reads' HO.out).2.2.2.1
  clear A3'
  go_loopg [22, 7] (out.length + 1) (fun kq v22 v7 w' => ∃ (i : Nat) (x : Int) (ys acc rest ds : List S46), v22 = .int .i64 x ∧ Aside0 (x = (i : Int)) ∧ Aside0 (kq + i = out.length + 1) ∧ Aside0 (ys = acc ++ rest ∧ acc.length = i ∧ ys.length = out.length) ∧ Aside0 (outbox_Due.go k a1 rest acc ds = some (p1, p2)) ∧ Aside0 (Kd.R k46 46 w' w.heap.size (fun k_ => k_ < N0) (.slice Ao out.length co) ys) ∧ Aside0 (Kd.R k46 46 w' w.heap.size (fun k_ => some k_ ≠ (Value.slice Ao out.length co).ownBlock) v7 ds) ∧ Aside0 (∀ q, v7.ownBlock = some q → N0 ≤ q) ∧ Aside0 (Below w.heap.size w w') ∧ Aside0 (N0 ≤ w'.heap.size))
  case atStart => exact ⟨0, _, out, [], out, [], rfl, ⟨rfl⟩, ⟨rfl⟩, ⟨rfl, rfl, rfl⟩, HG, HO, ⟨Kd.R_nil _ _ _ _ _⟩, ⟨fun q hq => by cases hq⟩, ⟨(My.bl_ HB)⟩, ⟨Nat.le_of_eq HN0.out⟩⟩
  case round =>
   clear HG HO HB HN0
   obtain ⟨i, x, ys, acc, rest, ds, rfl, hx, hk, hY, HG, HO, HD, HV, HB, HN⟩ := hrel
   by_cases c : i < out.length
   rotate_left
   ·have hx1 := hx.out
    have cc : decide (x < (out.length : Int)) = false := decide_eq_false (by omega)
    have hY1 := hY.out
    have hr : rest = [] := by
     have h1 := congrArg List.length hY1.1
     rw [List.length_append] at h1
     exact List.eq_nil_of_length_eq_zero (by omega)
    subst hr
    have hg := HG.out
    rw [outbox_Due.go] at hg
    obtain ⟨rfl, rfl⟩ := Prod.mk.inj (Option.some.inj hg)
    have hye : ys = acc := by rw [hY1.1, List.append_nil]
    subst hye
    clear hg hx1 hY1 c
    obtain ⟨Ad, cd, ed⟩ := Kd.R_slice HD.out
    subst ed
    go_wp2_with (first | ((with_reducible refine gate_callee (f := 25) rfl ?_); refine goesL_ (some 55) rfl rfl Try.func25 (by kernel_rfl) rfl #[.slice Ad ds.length cd] rfl My.gx ?_; (with_reducible refine (outbox_copied.calls k _ _ ds d _ ?side1 ?side2 AD.out).mono ?_); (case side1 => exact (Kd.R_reads' HD.out).2.2); (case side2 => exact (Kd.R_reads' HD.out).2.1); rintro e w12 ⟨vd, rfl, ho, hb⟩; refine ⟨_, rfl, ?_⟩; have HF := My.am (Kd.R_lower (Kd.R_mono (ok' := fun k_ => some k_ ≠ (Value.slice Ao out.length co).ownBlock) (Kd.R_bound (Kd.S_R ho)) (fun k_ hk_ => Kd.fresh' (Kd.R_lt HO.out) k_ hk_.2.1)) (below_size HB.out)); have HVD := My.am (fun q e_ => Nat.le_trans HN.out (Kd.S_base ho q e_)); have HO2 := My.am (Kd.R_below HO.out hb); have HB2 := My.am (below_step HB.out hb); clear ho hb))
    go_ret2
    exact ⟨_, _, My.r2, Kd.R_mono HO2.out (fun k_ hk_ e_ => Nat.not_le.2 hk_ (HVD.out k_ e_.symm)), HF.out, HB2.out⟩
   have hyl := hY.out.2.2
   have q1 : x < (out.length : Int) := by have := hx.out; omega
   have p1' : (0 : Int) ≤ x := by have := hx.out; omega
   have cc : decide (x < (out.length : Int)) = true := decide_eq_true q1
   obtain ⟨g, cap, eg, hgb, hglt, _⟩ := Kd.R_form HO.out (by omega)
   have hAo : Ao = some ⟨g, 0, none⟩ := by injection eg
   subst hAo
   have HGR := My.am hglt
   have HGB := My.am hgb
   clear eg hglt hgb
   obtain ⟨A6, c6, hcell, h6, hfz, hgl, hgN⟩ := R_item HO.out x p1' (by omega)
   have H6 := My.am h6
   have HFZ := My.am hfz
   have HGN := My.am hgN
   have HCI := My.am c
   obtain ⟨hrx, hrl⟩ : rest = rd_T46 ys x :: rest.tail ∧ ys = acc ++ rest := by
    have e1 := hY.out.1
    have e2 := hY.out.2.1
    refine ⟨?_, e1⟩
    have h3 : ys.drop i = rest := by rw [e1, ← e2, List.drop_left]
    have h4 := drop46 ys i (by omega)
    rw [h3, ← hx.out] at h4
    rw [h4]
    rfl
   have hg := HG.out
   rw [hrx, outbox_Due.go] at hg
   have HE := My.am hg
   have HRX := My.am hrx
   have HW := My.am (Below.refl wr.heap.size wr)
   clear hg c h6 hfz hgN hgl hrx hrl HG
   have p2' := eq_true p1'
   have q2 := eq_true q1
   go_upto_region 8 with (first | ((with_reducible refine gate_dst (N := 9) rfl ?_); refine My.bx 9 #[.int .i64 0, .int .i64 0, .int .i64 0, .int .i64 0, .int .i64 0, .int .i64 0, .slice none 0 0, .string (⟨#[]⟩ : ByteArray), .int .i64 0] 46 ?_; intro gx hg w6 hbox hb; have BX := My.am hbox; have GX := My.nge hg (My.bl_ HW); replace HW := My.st HW hb; clear hb hbox hg; have hq0 := My.b_ BX 0; have hq1 := My.b_ BX 1; have hq2 := My.b_ BX 2; have hq3 := My.b_ BX 3; have hq4 := My.b_ BX 4; have hq5 := My.b_ BX 5; have hq6 := My.b_ BX 6; have hq7 := My.b_ BX 7; have hq8 := My.b_ BX 8; have hqf := blk_frozen BX.out))
   refine at_world (J := fun W => Below wr.heap.size wr W ∧ W.heap[gx]? = some (.cells #[.int .i64 (rd_T46 ys x).f0, .int .i64 (rd_T46 ys x).f1, .int .i64 (rd_T46 ys x).f2, .int .i64 (rd_T46 ys x).f3.f0, .int .i64 (rd_T46 ys x).f3.f1.f0, .int .i64 (rd_T46 ys x).f3.f1.f1, .slice A6 (rd_T46 ys x).f3.f1.f2.length c6, .string (rd_T46 ys x).f3.f2, .int .i64 (rd_T46 ys x).f3.f3] 46 (0, 0))) ⟨(My.bl_ HW), put9_blk BX.out⟩ ?_
   rintro w6' ⟨hw6, hb6⟩
   clear HW BX hq0 hq1 hq2 hq3 hq4 hq5 hq6 hq7 hq8 hqf hcell
   have HW := My.am hw6
   have BX := My.am hb6
   clear hw6 hb6
   have hz1 := My.b_ BX 1
   have hz2 := My.b_ BX 2
   have hqf := blk_frozen BX.out
   by_cases d1 : (rd_T46 ys x).f1 > a1
   ·have b1 : decide ((rd_T46 ys x).f1 > a1) = true := decide_eq_true d1
    have b2 : decide (a1 < (rd_T46 ys x).f1) = true := decide_eq_true d1
    have hh := HE.out
    rw [if_pos d1] at hh
    have HG := My.am hh
    clear hh HE d1
    have hw : IntKind.i64.wrap (x + 1) = x + 1 := by have := hx.out; have := hlen; rw [IntKind.wrap_i64]; omega
    go_wp2
    have hx1 := hx.out
    have hk1 := hk.out
    have hci := HCI.out
    have hY1 := hY.out
    go_roundg (out.length - i)
    case measure => omega
    case rel => exact ⟨i + 1, x + 1, ys, acc ++ [rd_T46 ys x], rest.tail, ds, by first | rfl | rw [hw], ⟨by omega⟩, ⟨by omega⟩, ⟨by rw [List.append_assoc]; rw [HRX.out] at hY1; exact hY1.1, by rw [List.length_append, hY1.2.1]; rfl, hY1.2.2⟩, HG, ⟨Kd.R_below HO.out HW.out⟩, ⟨Kd.R_below HD.out HW.out⟩, HV, ⟨below_step HB.out HW.out⟩, ⟨Nat.le_trans HN.out (below_size HW.out)⟩⟩
   have b1 : decide ((rd_T46 ys x).f1 > a1) = false := decide_eq_false d1
   have b2 : decide (a1 < (rd_T46 ys x).f1) = false := decide_eq_false d1
   have hh := HE.out
   rw [if_neg d1] at hh
   obtain ⟨⟨t1, t2⟩, hn, hh⟩ := Option.bind_eq_some_iff.1 hh
   have AN := My.am hn
   have HH := My.am hh
   clear hn hh HE d1
   by_cases m : 1000000 < wrap64 ((rd_T46 ys x).f2 + 1)
   ·have hs : outbox_Due.sent (rd_T46 ys x).f2 = 1000000 := by unfold outbox_Due.sent; rw [if_pos m]
    have m1 := eq_true m
    have HS := My.am hs
    clear hs
    go_upto_region 10 with (fail)
    refine at_world (J := fun W => Below wr.heap.size wr W ∧ W.heap[gx]? = some (.cells #[.int .i64 (rd_T46 ys x).f0, .int .i64 (rd_T46 ys x).f1, .int .i64 (outbox_Due.sent (rd_T46 ys x).f2), .int .i64 (rd_T46 ys x).f3.f0, .int .i64 (rd_T46 ys x).f3.f1.f0, .int .i64 (rd_T46 ys x).f3.f1.f1, .slice A6 (rd_T46 ys x).f3.f1.f2.length c6, .string (rd_T46 ys x).f3.f2, .int .i64 (rd_T46 ys x).f3.f3] 46 (0, 0))) ⟨(My.bl_ HW), by rw [HS.out]; exact blk_put (cs' := #[.int .i64 (rd_T46 ys x).f0, .int .i64 (rd_T46 ys x).f1, .int .i64 1000000, .int .i64 (rd_T46 ys x).f3.f0, .int .i64 (rd_T46 ys x).f3.f1.f0, .int .i64 (rd_T46 ys x).f3.f1.f1, .slice A6 (rd_T46 ys x).f3.f1.f2.length c6, .string (rd_T46 ys x).f3.f2, .int .i64 (rd_T46 ys x).f3.f3]) BX.out 2 _ rfl⟩ ?_
    rintro w7 ⟨hw7, hb7⟩
    clear HW BX hz1 hz2 hqf m m1
    have HW := My.am hw7
    have BX := My.am hb7
    clear hw7 hb7
    have hz2 := My.b_ BX 2
    have hz1 := My.b_ BX 1
    have hqf := blk_frozen BX.out
    go_upto_region 11 with (first | ((with_reducible refine gate_callee (f := 32) rfl ?_); refine goesL_ (some 40) rfl rfl Try.func32 (by kernel_rfl) rfl #[.int .i64 a1, .int .i64 (outbox_Due.sent (rd_T46 ys x).f2)] rfl My.gx ?_; (with_reducible refine (backoff_Next.calls k a1 _ t1 t2 _ AN.out).mono ?_); rintro e w8 ⟨rfl, hb⟩; refine ⟨_, rfl, ?_⟩; clear hz1 hz2 hqf; replace BX := My.ab BX hb; replace HW := My.st HW hb; clear hb; have hz1 := My.b_ BX 1; have hqf := blk_frozen BX.out))
    refine at_world (J := fun W => Below wr.heap.size wr W ∧ W.heap[gx]? = some (.cells #[.int .i64 (rd_T46 ys x).f0, .int .i64 t1, .int .i64 (outbox_Due.sent (rd_T46 ys x).f2), .int .i64 (rd_T46 ys x).f3.f0, .int .i64 (rd_T46 ys x).f3.f1.f0, .int .i64 (rd_T46 ys x).f3.f1.f1, .slice A6 (rd_T46 ys x).f3.f1.f2.length c6, .string (rd_T46 ys x).f3.f2, .int .i64 (rd_T46 ys x).f3.f3] 46 (0, 0))) ⟨(My.bl_ HW), blk_put (cs' := #[.int .i64 (rd_T46 ys x).f0, .int .i64 t1, .int .i64 (outbox_Due.sent (rd_T46 ys x).f2), .int .i64 (rd_T46 ys x).f3.f0, .int .i64 (rd_T46 ys x).f3.f1.f0, .int .i64 (rd_T46 ys x).f3.f1.f1, .slice A6 (rd_T46 ys x).f3.f1.f2.length c6, .string (rd_T46 ys x).f3.f2, .int .i64 (rd_T46 ys x).f3.f3]) BX.out 1 _ rfl⟩ ?_
    rintro w9 ⟨hw9, hb9⟩
    clear HW BX hz1 hqf
    have HW := My.am hw9
    have BX := My.am hb9
    clear hw9 hb9
    have hq0 := My.b_ BX 0
    have hq1 := My.b_ BX 1
    have hq2 := My.b_ BX 2
    have hq3 := My.b_ BX 3
    have hq4 := My.b_ BX 4
    have hq5 := My.b_ BX 5
    have hq6 := My.b_ BX 6
    have hq7 := My.b_ BX 7
    have hq8 := My.b_ BX 8
    replace HO := My.am (Kd.R_below HO.out HW.out)
    replace HD := My.am (Kd.R_below HD.out HW.out)
    replace H6 := My.am (Kd.R_below H6.out HW.out)
    replace HB := My.am (below_step HB.out HW.out)
    replace HN := My.am (Nat.le_trans HN.out (below_size HW.out))
    have hyl2 := hY.out.2.2
    obtain ⟨_, _, hcell, _, hfz, hgs, _⟩ := R_item HO.out x p1' (by omega)
    have HGS := My.am hgs
    have hgx : gx ≠ g := by have h1 := GX.out; have h2 := HGR.out; omega
    have HGX := My.am hgx
    clear hgs hgx HW
    go_upto_region 12 with (fail)
    have hW1 : ∀ k_, k_ ≠ g → (put9 w9 g (x.toNat * 9) (.int .i64 (rd_T46 ys x).f0) (.int .i64 t1) (.int .i64 (outbox_Due.sent (rd_T46 ys x).f2)) (.int .i64 (rd_T46 ys x).f3.f0) (.int .i64 (rd_T46 ys x).f3.f1.f0) (.int .i64 (rd_T46 ys x).f3.f1.f1) (.slice A6 (rd_T46 ys x).f3.f1.f2.length c6) (.string (rd_T46 ys x).f3.f2) (.int .i64 (rd_T46 ys x).f3.f3)).heap[k_]? = w9.heap[k_]? := put9_far w9 g (x.toNat * 9) _ _ _ _ _ _ _ _ _
    refine at_world (J := fun W => Kd.R k46 46 W w.heap.size (fun k_ => k_ < N0) (.slice (some ⟨g, 0, none⟩) out.length co) (ys.set x.toNat (⟨(rd_T46 ys x).f0, t1, outbox_Due.sent (rd_T46 ys x).f2, (rd_T46 ys x).f3⟩ : S46)) ∧ Kd.R k46 46 W w.heap.size (fun k_ => some k_ ≠ (Value.slice (some ⟨g, 0, none⟩) out.length co).ownBlock) _ ds ∧ W.heap[gx]? = some (.cells #[.int .i64 (rd_T46 ys x).f0, .int .i64 t1, .int .i64 (outbox_Due.sent (rd_T46 ys x).f2), .int .i64 (rd_T46 ys x).f3.f0, .int .i64 (rd_T46 ys x).f3.f1.f0, .int .i64 (rd_T46 ys x).f3.f1.f1, .slice A6 (rd_T46 ys x).f3.f1.f2.length c6, .string (rd_T46 ys x).f3.f2, .int .i64 (rd_T46 ys x).f3.f3] 46 (0, 0)) ∧ Below w.heap.size w W ∧ N0 ≤ W.heap.size ∧ g < W.heap.size ∧ Kd.R k62 62 W w.heap.size (fun k_ => k_ < N0 ∧ k_ ≠ g) (.slice A6 (rd_T46 ys x).f3.f1.f2.length c6) (rd_T46 ys x).f3.f1.f2)
     ⟨R_put9 HO.out x.toNat (by omega) (⟨(rd_T46 ys x).f0, t1, outbox_Due.sent (rd_T46 ys x).f2, (rd_T46 ys x).f3⟩ : S46) _ H6.out, Kd.R_step HD.out (fun k_ hk _ => hW1 k_ (fun e_ => hk (by rw [e_]; rfl))), (hW1 gx HGX.out).trans BX.out, below_set (below_set (below_set (below_set (below_set (below_set (below_set (below_set (below_set HB.out HGB.out) HGB.out) HGB.out) HGB.out) HGB.out) HGB.out) HGB.out) HGB.out) HGB.out, by simp only [World.size_setCell]; exact HN.out, by simp only [World.size_setCell]; exact HGS.out, Kd.R_step H6.out (fun k_ hk _ => hW1 k_ hk.2)⟩ ?_
    rintro w10 ⟨j1, j2, j3, j4, j5, j6, j7⟩
    clear HO HD BX HB HN HGS H6 hq0 hq1 hq2 hq3 hq4 hq5 hq6 hq7 hq8 hcell hfz hW1
    have HO := My.am j1
    have HD := My.am j2
    have BX := My.am j3
    have HB := My.am j4
    have HN := My.am j5
    have HGS := My.am j6
    have H6 := My.am j7
    clear j1 j2 j3 j4 j5 j6 j7
    have hq0 := My.b_ BX 0
    have hq1 := My.b_ BX 1
    have hq2 := My.b_ BX 2
    have hq3 := My.b_ BX 3
    have hq4 := My.b_ BX 4
    have hq5 := My.b_ BX 5
    have hq6 := My.b_ BX 6
    have hq7 := My.b_ BX 7
    have hq8 := My.b_ BX 8
    have hh := HH.out
    dsimp only at hh
    by_cases d3 : ds.length < 1000000
    ·rw [if_pos d3] at hh
     have HG := My.am hh
     have D3 := My.am d3
     clear hh HH d3
     have hw : IntKind.i64.wrap (x + 1) = x + 1 := by have := hx.out; have := hlen; rw [IntKind.wrap_i64]; omega
     go_wp2_with (first | (at_builtin; refine Kd.R_append k46 (w0 := w) w.heap.size rfl _ _ 22 46 (.agg #[(.int .i64 0), (.int .i64 0), (.int .i64 0), (.int .i64 0), (.int .i64 0), (.int .i64 0), (.slice none 0 0), (.string ⟨#[]⟩), (.int .i64 0)]) 96 rfl Try.underlying22 info46 rfl (by decide) (by decide) u7 ds (⟨(rd_T46 ys x).f0, t1, outbox_Due.sent (rd_T46 ys x).f2, (rd_T46 ys x).f3⟩ : S46) [.int .i64 (rd_T46 ys x).f0, .int .i64 t1, .int .i64 (outbox_Due.sent (rd_T46 ys x).f2), .int .i64 (rd_T46 ys x).f3.f0, .int .i64 (rd_T46 ys x).f3.f1.f0, .int .i64 (rd_T46 ys x).f3.f1.f1, .slice A6 (rd_T46 ys x).f3.f1.f2.length c6, .string (rd_T46 ys x).f3.f2, .int .i64 (rd_T46 ys x).f3.f3] (fun k_ => some k_ ≠ (Value.slice (some ⟨g, 0, none⟩) out.length co).ownBlock) (fun k_ => k_ < N0 ∧ k_ ≠ g) rfl rfl (k46_mkM _ _ _ (⟨(rd_T46 ys x).f0, t1, outbox_Due.sent (rd_T46 ys x).f2, (rd_T46 ys x).f3⟩ : S46) H6.out) (fun k_ hk => ⟨fun e_ => hk.2 (own_some e_), fun e_ => by have h1 := HV.out k_ e_.symm; have h2 := hk.1; omega⟩) (fun k_ hk e_ => by have h1 := own_some e_; have h2 := HGS.out; omega) HD.out HB.out (below_size HB.out) (by have h1 := D3.out; omega) ?_; rintro v1 w1 hr1 hb1 hg1 hat1; have HO2 := My.am (Kd.R_grown HO.out hg1 (fun k_ hk e_ => by have h1 := HV.out k_ e_.symm; omega)); have HD2 := My.am hr1; have HV2 : Aside0 (∀ q, v1.ownBlock = some q → N0 ≤ q) := ⟨fun q hq => by have h2 := HN.out; rcases hat1 with h1 | ⟨b, h1, h3⟩; exact HV.out q (by rw [← h1]; exact hq); rw [hq] at h1; injection h1 with h1; omega⟩; have HB2 := My.am hb1; have HN2 : Aside0 (N0 ≤ w1.heap.size) := ⟨Nat.le_trans HN.out (grown_size hg1)⟩; clear hr1 hb1 hg1 hat1))
     have hx1 := hx.out
     have hk1 := hk.out
     have hci := HCI.out
     have hY1 := hY.out
     go_roundg (out.length - i)
     case measure => omega
     case rel => exact ⟨i + 1, x + 1, ys.set x.toNat ⟨(rd_T46 ys x).f0, t1, outbox_Due.sent (rd_T46 ys x).f2, (rd_T46 ys x).f3⟩, acc ++ [⟨(rd_T46 ys x).f0, t1, outbox_Due.sent (rd_T46 ys x).f2, (rd_T46 ys x).f3⟩], rest.tail, ds ++ [⟨(rd_T46 ys x).f0, t1, outbox_Due.sent (rd_T46 ys x).f2, (rd_T46 ys x).f3⟩], by first | rfl | rw [hw], ⟨by omega⟩, ⟨by omega⟩, ⟨due_set hY1.1 HRX.out (by omega), by rw [List.length_append, hY1.2.1]; rfl, by rw [List.length_set]; exact hY1.2.2⟩, HG, HO2, HD2, HV2, HB2, HN2⟩
    rw [if_neg d3] at hh
    cases hh
   have hs : outbox_Due.sent (rd_T46 ys x).f2 = wrap64 ((rd_T46 ys x).f2 + 1) := by unfold outbox_Due.sent; rw [if_neg m]
   have m1 := eq_false m
   have HS := My.am hs
   clear hs
   go_upto_region 10 with (fail)
   refine at_world (J := fun W => Below wr.heap.size wr W ∧ W.heap[gx]? = some (.cells #[.int .i64 (rd_T46 ys x).f0, .int .i64 (rd_T46 ys x).f1, .int .i64 (outbox_Due.sent (rd_T46 ys x).f2), .int .i64 (rd_T46 ys x).f3.f0, .int .i64 (rd_T46 ys x).f3.f1.f0, .int .i64 (rd_T46 ys x).f3.f1.f1, .slice A6 (rd_T46 ys x).f3.f1.f2.length c6, .string (rd_T46 ys x).f3.f2, .int .i64 (rd_T46 ys x).f3.f3] 46 (0, 0))) ⟨(My.bl_ HW), by rw [HS.out]; exact blk_put (cs' := #[.int .i64 (rd_T46 ys x).f0, .int .i64 (rd_T46 ys x).f1, .int .i64 (wrap64 ((rd_T46 ys x).f2 + 1)), .int .i64 (rd_T46 ys x).f3.f0, .int .i64 (rd_T46 ys x).f3.f1.f0, .int .i64 (rd_T46 ys x).f3.f1.f1, .slice A6 (rd_T46 ys x).f3.f1.f2.length c6, .string (rd_T46 ys x).f3.f2, .int .i64 (rd_T46 ys x).f3.f3]) BX.out 2 _ rfl⟩ ?_
   rintro w7 ⟨hw7, hb7⟩
   clear HW BX hz1 hz2 hqf m m1
   have HW := My.am hw7
   have BX := My.am hb7
   clear hw7 hb7
   have hz2 := My.b_ BX 2
   have hz1 := My.b_ BX 1
   have hqf := blk_frozen BX.out
   go_upto_region 11 with (first | ((with_reducible refine gate_callee (f := 32) rfl ?_); refine goesL_ (some 40) rfl rfl Try.func32 (by kernel_rfl) rfl #[.int .i64 a1, .int .i64 (outbox_Due.sent (rd_T46 ys x).f2)] rfl My.gx ?_; (with_reducible refine (backoff_Next.calls k a1 _ t1 t2 _ AN.out).mono ?_); rintro e w8 ⟨rfl, hb⟩; refine ⟨_, rfl, ?_⟩; clear hz1 hz2 hqf; replace BX := My.ab BX hb; replace HW := My.st HW hb; clear hb; have hz1 := My.b_ BX 1; have hqf := blk_frozen BX.out))
   refine at_world (J := fun W => Below wr.heap.size wr W ∧ W.heap[gx]? = some (.cells #[.int .i64 (rd_T46 ys x).f0, .int .i64 t1, .int .i64 (outbox_Due.sent (rd_T46 ys x).f2), .int .i64 (rd_T46 ys x).f3.f0, .int .i64 (rd_T46 ys x).f3.f1.f0, .int .i64 (rd_T46 ys x).f3.f1.f1, .slice A6 (rd_T46 ys x).f3.f1.f2.length c6, .string (rd_T46 ys x).f3.f2, .int .i64 (rd_T46 ys x).f3.f3] 46 (0, 0))) ⟨(My.bl_ HW), blk_put (cs' := #[.int .i64 (rd_T46 ys x).f0, .int .i64 t1, .int .i64 (outbox_Due.sent (rd_T46 ys x).f2), .int .i64 (rd_T46 ys x).f3.f0, .int .i64 (rd_T46 ys x).f3.f1.f0, .int .i64 (rd_T46 ys x).f3.f1.f1, .slice A6 (rd_T46 ys x).f3.f1.f2.length c6, .string (rd_T46 ys x).f3.f2, .int .i64 (rd_T46 ys x).f3.f3]) BX.out 1 _ rfl⟩ ?_
   rintro w9 ⟨hw9, hb9⟩
   clear HW BX hz1 hqf
   have HW := My.am hw9
   have BX := My.am hb9
   clear hw9 hb9
   have hq0 := My.b_ BX 0
   have hq1 := My.b_ BX 1
   have hq2 := My.b_ BX 2
   have hq3 := My.b_ BX 3
   have hq4 := My.b_ BX 4
   have hq5 := My.b_ BX 5
   have hq6 := My.b_ BX 6
   have hq7 := My.b_ BX 7
   have hq8 := My.b_ BX 8
   replace HO := My.am (Kd.R_below HO.out HW.out)
   replace HD := My.am (Kd.R_below HD.out HW.out)
   replace H6 := My.am (Kd.R_below H6.out HW.out)
   replace HB := My.am (below_step HB.out HW.out)
   replace HN := My.am (Nat.le_trans HN.out (below_size HW.out))
   have hyl2 := hY.out.2.2
   obtain ⟨_, _, hcell, _, hfz, hgs, _⟩ := R_item HO.out x p1' (by omega)
   have HGS := My.am hgs
   have hgx : gx ≠ g := by have h1 := GX.out; have h2 := HGR.out; omega
   have HGX := My.am hgx
   clear hgs hgx HW
   go_upto_region 12 with (fail)
   have hW1 : ∀ k_, k_ ≠ g → (put9 w9 g (x.toNat * 9) (.int .i64 (rd_T46 ys x).f0) (.int .i64 t1) (.int .i64 (outbox_Due.sent (rd_T46 ys x).f2)) (.int .i64 (rd_T46 ys x).f3.f0) (.int .i64 (rd_T46 ys x).f3.f1.f0) (.int .i64 (rd_T46 ys x).f3.f1.f1) (.slice A6 (rd_T46 ys x).f3.f1.f2.length c6) (.string (rd_T46 ys x).f3.f2) (.int .i64 (rd_T46 ys x).f3.f3)).heap[k_]? = w9.heap[k_]? := put9_far w9 g (x.toNat * 9) _ _ _ _ _ _ _ _ _
   refine at_world (J := fun W => Kd.R k46 46 W w.heap.size (fun k_ => k_ < N0) (.slice (some ⟨g, 0, none⟩) out.length co) (ys.set x.toNat (⟨(rd_T46 ys x).f0, t1, outbox_Due.sent (rd_T46 ys x).f2, (rd_T46 ys x).f3⟩ : S46)) ∧ Kd.R k46 46 W w.heap.size (fun k_ => some k_ ≠ (Value.slice (some ⟨g, 0, none⟩) out.length co).ownBlock) _ ds ∧ W.heap[gx]? = some (.cells #[.int .i64 (rd_T46 ys x).f0, .int .i64 t1, .int .i64 (outbox_Due.sent (rd_T46 ys x).f2), .int .i64 (rd_T46 ys x).f3.f0, .int .i64 (rd_T46 ys x).f3.f1.f0, .int .i64 (rd_T46 ys x).f3.f1.f1, .slice A6 (rd_T46 ys x).f3.f1.f2.length c6, .string (rd_T46 ys x).f3.f2, .int .i64 (rd_T46 ys x).f3.f3] 46 (0, 0)) ∧ Below w.heap.size w W ∧ N0 ≤ W.heap.size ∧ g < W.heap.size ∧ Kd.R k62 62 W w.heap.size (fun k_ => k_ < N0 ∧ k_ ≠ g) (.slice A6 (rd_T46 ys x).f3.f1.f2.length c6) (rd_T46 ys x).f3.f1.f2)
    ⟨R_put9 HO.out x.toNat (by omega) (⟨(rd_T46 ys x).f0, t1, outbox_Due.sent (rd_T46 ys x).f2, (rd_T46 ys x).f3⟩ : S46) _ H6.out, Kd.R_step HD.out (fun k_ hk _ => hW1 k_ (fun e_ => hk (by rw [e_]; rfl))), (hW1 gx HGX.out).trans BX.out, below_set (below_set (below_set (below_set (below_set (below_set (below_set (below_set (below_set HB.out HGB.out) HGB.out) HGB.out) HGB.out) HGB.out) HGB.out) HGB.out) HGB.out) HGB.out, by simp only [World.size_setCell]; exact HN.out, by simp only [World.size_setCell]; exact HGS.out, Kd.R_step H6.out (fun k_ hk _ => hW1 k_ hk.2)⟩ ?_
   rintro w10 ⟨j1, j2, j3, j4, j5, j6, j7⟩
   clear HO HD BX HB HN HGS H6 hq0 hq1 hq2 hq3 hq4 hq5 hq6 hq7 hq8 hcell hfz hW1
   have HO := My.am j1
   have HD := My.am j2
   have BX := My.am j3
   have HB := My.am j4
   have HN := My.am j5
   have HGS := My.am j6
   have H6 := My.am j7
   clear j1 j2 j3 j4 j5 j6 j7
   have hq0 := My.b_ BX 0
   have hq1 := My.b_ BX 1
   have hq2 := My.b_ BX 2
   have hq3 := My.b_ BX 3
   have hq4 := My.b_ BX 4
   have hq5 := My.b_ BX 5
   have hq6 := My.b_ BX 6
   have hq7 := My.b_ BX 7
   have hq8 := My.b_ BX 8
   have hh := HH.out
   dsimp only at hh
   by_cases d3 : ds.length < 1000000
   ·rw [if_pos d3] at hh
    have HG := My.am hh
    have D3 := My.am d3
    clear hh HH d3
    have hw : IntKind.i64.wrap (x + 1) = x + 1 := by have := hx.out; have := hlen; rw [IntKind.wrap_i64]; omega
    go_wp2_with (first | (at_builtin; refine Kd.R_append k46 (w0 := w) w.heap.size rfl _ _ 22 46 (.agg #[(.int .i64 0), (.int .i64 0), (.int .i64 0), (.int .i64 0), (.int .i64 0), (.int .i64 0), (.slice none 0 0), (.string ⟨#[]⟩), (.int .i64 0)]) 96 rfl Try.underlying22 info46 rfl (by decide) (by decide) u7 ds (⟨(rd_T46 ys x).f0, t1, outbox_Due.sent (rd_T46 ys x).f2, (rd_T46 ys x).f3⟩ : S46) [.int .i64 (rd_T46 ys x).f0, .int .i64 t1, .int .i64 (outbox_Due.sent (rd_T46 ys x).f2), .int .i64 (rd_T46 ys x).f3.f0, .int .i64 (rd_T46 ys x).f3.f1.f0, .int .i64 (rd_T46 ys x).f3.f1.f1, .slice A6 (rd_T46 ys x).f3.f1.f2.length c6, .string (rd_T46 ys x).f3.f2, .int .i64 (rd_T46 ys x).f3.f3] (fun k_ => some k_ ≠ (Value.slice (some ⟨g, 0, none⟩) out.length co).ownBlock) (fun k_ => k_ < N0 ∧ k_ ≠ g) rfl rfl (k46_mkM _ _ _ (⟨(rd_T46 ys x).f0, t1, outbox_Due.sent (rd_T46 ys x).f2, (rd_T46 ys x).f3⟩ : S46) H6.out) (fun k_ hk => ⟨fun e_ => hk.2 (own_some e_), fun e_ => by have h1 := HV.out k_ e_.symm; have h2 := hk.1; omega⟩) (fun k_ hk e_ => by have h1 := own_some e_; have h2 := HGS.out; omega) HD.out HB.out (below_size HB.out) (by have h1 := D3.out; omega) ?_; rintro v1 w1 hr1 hb1 hg1 hat1; have HO2 := My.am (Kd.R_grown HO.out hg1 (fun k_ hk e_ => by have h1 := HV.out k_ e_.symm; omega)); have HD2 := My.am hr1; have HV2 : Aside0 (∀ q, v1.ownBlock = some q → N0 ≤ q) := ⟨fun q hq => by have h2 := HN.out; rcases hat1 with h1 | ⟨b, h1, h3⟩; exact HV.out q (by rw [← h1]; exact hq); rw [hq] at h1; injection h1 with h1; omega⟩; have HB2 := My.am hb1; have HN2 : Aside0 (N0 ≤ w1.heap.size) := ⟨Nat.le_trans HN.out (grown_size hg1)⟩; clear hr1 hb1 hg1 hat1))
    have hx1 := hx.out
    have hk1 := hk.out
    have hci := HCI.out
    have hY1 := hY.out
    go_roundg (out.length - i)
    case measure => omega
    case rel => exact ⟨i + 1, x + 1, ys.set x.toNat ⟨(rd_T46 ys x).f0, t1, outbox_Due.sent (rd_T46 ys x).f2, (rd_T46 ys x).f3⟩, acc ++ [⟨(rd_T46 ys x).f0, t1, outbox_Due.sent (rd_T46 ys x).f2, (rd_T46 ys x).f3⟩], rest.tail, ds ++ [⟨(rd_T46 ys x).f0, t1, outbox_Due.sent (rd_T46 ys x).f2, (rd_T46 ys x).f3⟩], by first | rfl | rw [hw], ⟨by omega⟩, ⟨by omega⟩, ⟨due_set hY1.1 HRX.out (by omega), by rw [List.length_append, hY1.2.1]; rfl, by rw [List.length_set]; exact hY1.2.2⟩, HG, HO2, HD2, HV2, HB2, HN2⟩
   rw [if_neg d3] at hh
   cases hh
/-! ### api_Item_34: function 34 -/


/-! ### outbox_Answered_1: function 35 -/


/-! ### outbox_Answered: function 19 -/
/-! DeleteFunc: what is kept moves down, what is behind is cleared -/
theorem R_tail_set {W : World} {base g m c : Nat} {ok : Nat → Prop} {zs : List S46} (h : Kd.R k46 46 W base ok (.slice (some ⟨g, 0, none⟩) m c) zs) (o : Nat) (ho : m * 9 ≤ o) (v : Value) :
  Kd.R k46 46 (W.setCell ⟨g, o, none⟩ v) base ok (.slice (some ⟨g, 0, none⟩) m c) zs := by
 obtain ⟨h0, inner, ⟨hl, hv⟩, hr⟩ := h
 rcases hv with ⟨hv, _⟩ | ⟨g', cap, cur, hv, hb, hc, hn, hm, hs, ht⟩
 ·cases hv
 ·have hg : g' = g ∧ m = zs.length ∧ c = cap := by
   injection hv with e1 e2 e3
   injection e1 with e1
   injection e1 with e1 _ _
   exact ⟨e1.symm, e2, e3⟩
  obtain ⟨rfl, rfl, rfl⟩ := hg
  have hsz : k46.sz = 9 := rfl
  refine ⟨h0, inner, ⟨hl, Or.inr ⟨g', c, _, rfl, hb, blk_put hc o v rfl, hn, hm, by rw [Array.size_setIfInBounds]; exact hs, ?_⟩⟩, hr.imp_ (fun p cs hp => k46.M_move (fun k hk => Below.heap_setCell W ⟨g', o, none⟩ v k (fun e => hk.2 (by rw [e]; rfl))) hp)⟩
  rw [Array.toList_setIfInBounds, List.take_set, List.set_eq_of_length_le, ht]
  rw [List.length_take, hsz]
  omega
theorem R_tail_sets {base g m c : Nat} {ok : Nat → Prop} {zs : List S46} : ∀ (vs : List Value) (o : Nat) (W : World), Kd.R k46 46 W base ok (.slice (some ⟨g, 0, none⟩) m c) zs → m * 9 ≤ o → Kd.R k46 46 (W.setCells g o vs) base ok (.slice (some ⟨g, 0, none⟩) m c) zs
 | [], o, W, h, ho => h
 | v :: r, o, W, h, ho => R_tail_sets r (o + 1) _ (R_tail_set h o ho v) (by omega)
theorem far_sets {g k : Nat} (hk : k ≠ g) : ∀ (vs : List Value) (o : Nat) (W : World), (W.setCells g o vs).heap[k]? = W.heap[k]?
 | [], o, W => rfl
 | v :: r, o, W => (far_sets hk r (o + 1) _).trans (Below.heap_setCell W ⟨g, o, none⟩ v k hk)
theorem below_sets {w0 : World} {g : Nat} (hg : w0.heap.size ≤ g) : ∀ (vs : List Value) (o : Nat) (W : World), Below w0.heap.size w0 W → Below w0.heap.size w0 (W.setCells g o vs)
 | [], o, W, h => h
 | v :: r, o, W, h => below_sets hg r (o + 1) _ (below_set h hg)
theorem zero46 : ∀ w : World, (zeroValue 46).run Try.prog w = .ok (.agg #[.int .i64 0, .int .i64 0, .int .i64 0, .int .i64 0, .int .i64 0, .int .i64 0, .slice none 0 0, .string ⟨#[]⟩, .int .i64 0]) w := by
 intro w
 kernel_rfl
theorem run_clear46 (W : World) (ty : TypeId) (g o m c : Nat) (cur : Array Value) (hc : W.heap[g]? = some (.cells cur 46 (0, 0))) (hs : o + m * 9 ≤ cur.size) (hm : 0 < m) :
  ∃ vs, (Builtin.clear_ #[22] ty #[.slice (some ⟨g, o, none⟩) m c]).run Try.prog W = .ok (.tuple #[]) (W.setCells g o vs) := by
 refine ⟨(Builtin.zeroCells #[.int .i64 0, .int .i64 0, .int .i64 0, .int .i64 0, .int .i64 0, .int .i64 0, .slice none 0 0, .string ⟨#[]⟩, .int .i64 0] m).toList, ?_⟩
 have hlen : (Builtin.zeroCells #[.int .i64 0, .int .i64 0, .int .i64 0, .int .i64 0, .int .i64 0, .int .i64 0, .slice none 0 0, .string ⟨#[]⟩, .int .i64 0] m).toList.length = m * 9 := by simp [Builtin.zeroCells]
 have h1 := run_storeCells_cells (P := Try.prog) g o (Builtin.zeroCells #[.int .i64 0, .int .i64 0, .int .i64 0, .int .i64 0, .int .i64 0, .int .i64 0, .slice none 0 0, .string ⟨#[]⟩, .int .i64 0] m).toList 0 W
  (fun j hj => by
   rw [Nat.add_zero, blk_cell hc (o + j)]
   rw [hlen] at hj
   rw [Array.getElem?_eq_getElem (by omega)]
   rfl) (fun j hj => blk_frozen hc _) (fun v hv => by
   simp only [Builtin.zeroCells, Array.toList_map, List.mem_map] at hv
   obtain ⟨i, _, rfl⟩ := hv
   have h9 : i % 9 < 9 := Nat.mod_lt _ (by decide)
   have : ∀ j : Fin 9, (#[Value.int .i64 0, .int .i64 0, .int .i64 0, .int .i64 0, .int .i64 0, .int .i64 0, .slice none 0 0, .string ⟨#[]⟩, .int .i64 0][j.val]!).oneCell' = true := by decide +kernel
   exact this ⟨i % 9, h9⟩)
 rw [Nat.add_zero] at h1
 obtain ⟨m, rfl⟩ : ∃ n, m = n + 1 := ⟨m - 1, by omega⟩
 have hu := Try.underlying22
 simp [Builtin.clear_, run_underlying hu, zero46, h1, Value.cells]
theorem fidx_spec (P : S46 → Bool) : ∀ (l : List S46) (s : Nat), (fidx P l s = -1 ∧ l.filter (fun x => !P x) = l) ∨ ∃ m, m < l.length ∧ fidx P l s = ((s + m : Nat) : Int) ∧ (l.take (m + 1)).filter (fun x => !P x) = l.take m
 | [], s => Or.inl ⟨rfl, rfl⟩
 | x :: r, s => by
  rw [fidx]
  cases hp : P x with
  | true =>
   refine Or.inr ⟨0, by simp, by rw [if_pos rfl]; rfl, ?_⟩
   simp [hp]
  | false =>
   rw [if_neg Bool.false_ne_true]
   rcases fidx_spec P r (s + 1) with ⟨h1, h2⟩ | ⟨m, h1, h2, h3⟩
   ·refine Or.inl ⟨h1, ?_⟩
    rw [List.filter_cons, hp]
    simp [h2]
   refine Or.inr ⟨m + 1, by simp; omega, by rw [h2]; congr 1; omega, ?_⟩
   rw [List.take_succ_cons, List.filter_cons, hp, List.take_succ_cons]
   simp [h3]
theorem del_rd {xs ys F : List S46} {i j : Nat} (hy : ys = F ++ xs.drop i) (hF : F.length = i) (hij : i ≤ j) (hj : j < xs.length) : rd_T46 ys (j : Int) = rd_T46 xs (j : Int) := by
 unfold rd_T46
 rw [Int.toNat_natCast, List.getD_eq_getElem?_getD, List.getD_eq_getElem?_getD, hy, List.getElem?_append_right (by omega), List.getElem?_drop, hF, show i + (j - i) = j by omega]
theorem del_take {xs : List S46} (P : S46 → Bool) {j : Nat} (hj : j < xs.length) : (xs.take (j + 1)).filter P = (xs.take j).filter P ++ (if P (rd_T46 xs (j : Int)) = true then [rd_T46 xs (j : Int)] else []) := by
 have e : xs.take (j + 1) = xs.take j ++ [rd_T46 xs (j : Int)] := by
  rw [List.take_add_one, List.getElem?_eq_getElem hj]
  have := drop46 xs j hj
  rw [List.drop_eq_getElem_cons hj] at this
  injection this with h1 _
  rw [h1]
  rfl
 rw [e, List.filter_append]
 congr 1
 cases hp : P (rd_T46 xs (j : Int)) <;> simp [hp]
theorem del_set {xs ys F : List S46} {i : Nat} {x : S46} (hy : ys = F ++ xs.drop i) (hF : F.length = i) (hi : i < xs.length) : ys.set i x = (F ++ [x]) ++ xs.drop (i + 1) := by
 subst hF
 rw [hy, List.set_append_right _ _ (Nat.le_refl _), Nat.sub_self, drop46 xs F.length hi, List.append_assoc]
 rfl
theorem answ1.calls (x : S46) (A : Option Addr) (c : Nat) (gl : Nat) (low : Int) (W : World) (hb0 : W.heap[gl]? = some (.cells #[.int .i64 low] 3 (0, 0))) :
  Calls Try.prog 35 #[.agg #[.int .i64 x.f0, .int .i64 x.f1, .int .i64 x.f2, .int .i64 x.f3.f0, .int .i64 x.f3.f1.f0, .int .i64 x.f3.f1.f1, .slice A x.f3.f1.f2.length c, .string x.f3.f2, .int .i64 x.f3.f3], .pointer (some ⟨gl, 0, none⟩)] W fun e W' => e = .returned (.bool (decide (x.f0 ≤ low))) ∧ Below W.heap.size W W' := by
 have hu46 := Try.underlying46
 have BL := My.am hb0
 have HB := My.am (Below.refl W.heap.size W)
 clear hb0
 go_enter Try.func35, Try.ntmps35
 go_wp2_with (first | ((with_reducible refine gate_dst (N := 2) rfl ?_); refine My.bx 2 #[.int .i64 x.f0, .int .i64 x.f1, .int .i64 x.f2, .int .i64 x.f3.f0, .int .i64 x.f3.f1.f0, .int .i64 x.f3.f1.f1, .slice A x.f3.f1.f2.length c, .string x.f3.f2, .int .i64 x.f3.f3] 46 ?_; intro gx hg w2 hbox hb; have BX := My.am hbox; have BN2 := My.ab BL hb; replace HB := My.st HB hb; clear hb hbox hg; have hq1 := My.cz1 BN2; have hq2 := My.b_ BX 0))
 go_ret
 exact ⟨My.r1, (My.bl_ HB)⟩
theorem R_cells {W : World} {base g n c : Nat} {ok : Nat → Prop} {ys : List S46} (h : Kd.R k46 46 W base ok (.slice (some ⟨g, 0, none⟩) n c) ys) : ∃ cur, W.heap[g]? = some (.cells cur 46 (0, 0)) ∧ cur.size = c * 9 := by
 obtain ⟨h0, inner, ⟨hl, hv⟩, hr⟩ := h
 rcases hv with ⟨hv, _⟩ | ⟨g', cap, cur, hv, hb, hc, hn, hm, hs, ht⟩
 ·cases hv
 have hg : g' = g ∧ c = cap := by
  injection hv with e1 e2 e3
  injection e1 with e1
  injection e1 with e1 _ _
  exact ⟨e1.symm, e3⟩
 obtain ⟨rfl, rfl⟩ := hg
 exact ⟨cur, hc, hs⟩
theorem item_delete (w0 : World) (Ao : Option Addr) (co : Nat) (xs : List S46) (gl : Nat) (low : Int) (ok : Nat → Prop) (w : World) (hr : Kd.R k46 46 w w0.heap.size ok (.slice Ao xs.length co) xs) (h0 : Below w0.heap.size w0 w) (hb0 : w.heap[gl]? = some (.cells #[.int .i64 low] 3 (0, 0))) :
  Calls Try.prog 34 #[.slice Ao xs.length co, .func (.func 35) #[] #[.pointer (some ⟨gl, 0, none⟩)]] w fun e w' => ∃ v : Value, e = .returned v ∧ Kd.R k46 46 w' w0.heap.size ok v (xs.filter fun x => !decide (x.f0 ≤ low)) ∧ Below w0.heap.size w0 w' := by
 have hu46 := Try.underlying46
 have hu37 := Try.underlying37
 have hu35 := Try.underlying35
 have hgl : ∀ q, (Value.slice Ao xs.length co).ownBlock = some q → gl ≠ q := fun q hq e => by
  obtain ⟨cells, hc⟩ := Kd.R_typed hr q hq
  rw [← e, hb0] at hc
  injection hc with hc
  injection hc with _ hc _
  exact absurd hc (by decide)
 have HO := My.am hr
 have HB := My.am h0
 have BL := My.am hb0
 have HGL := My.am hgl
 have hlen : xs.length ≤ 9223372036854775807 := (Kd.R_reads' hr).2.2.2.1
 clear hr h0 hb0 hgl
 go_enter Try.func34, Try.ntmps34
 rcases fidx_spec (fun x => decide (x.f0 ≤ low)) xs 0 with ⟨h1, h2⟩ | ⟨m, h1, h2, h3⟩
 ·have HI := My.am h1
  have HF := My.am h2
  clear h1 h2
  go_wp2_with (first | ((with_reducible refine gate_callee (f := 45) rfl ?_); refine goesL_ (some 10) rfl rfl Try.func45 (by kernel_rfl) rfl #[.slice Ao xs.length co, .func (.func 35) #[] #[.pointer (some ⟨gl, 0, none⟩)]] rfl My.gx ?_; (refine (item_index.calls 35 _ Try.func35 (by kernel_rfl) rfl #[.pointer (some ⟨gl, 0, none⟩)] (fun x => decide (x.f0 ≤ low)) Ao co xs _ (Kd.R_reads' HO.out).2.2 ?side2).mono ?_); (case side2 => intro x A c W hx hw _ _; exact answ1.calls x A c gl low W (blk_below BL.out hw)); rintro e w3 ⟨rfl, hb⟩; refine ⟨_, rfl, ?_⟩; replace HO := My.am (Kd.R_below HO.out hb); replace BL := My.ab BL hb; replace HB := My.am (below_step HB.out hb); clear hb; rw [HI.out]))
  go_ret
  exact ⟨_, rfl, by rw [HF.out]; exact HO.out, HB.out⟩
 ·rw [Nat.zero_add] at h2
  have HI := My.am h2
  have HF := My.am h3
  have HM := My.am h1
  have hm1 : ((m : Int) == -1) = false := beq_eq_false_iff_ne.2 (by omega)
  have hm2 : decide ((m : Int) = -1) = false := decide_eq_false (by omega)
  have hw1 : IntKind.i64.wrap ((m : Int) + 1) = (m : Int) + 1 := by rw [IntKind.wrap_i64]; omega
  clear h1 h2 h3
  go_wp2_with (first | ((with_reducible refine gate_callee (f := 45) rfl ?_); refine goesL_ (some 10) rfl rfl Try.func45 (by kernel_rfl) rfl #[.slice Ao xs.length co, .func (.func 35) #[] #[.pointer (some ⟨gl, 0, none⟩)]] rfl My.gx ?_; (refine (item_index.calls 35 _ Try.func35 (by kernel_rfl) rfl #[.pointer (some ⟨gl, 0, none⟩)] (fun x => decide (x.f0 ≤ low)) Ao co xs _ (Kd.R_reads' HO.out).2.2 ?side2).mono ?_); (case side2 => intro x A c W hx hw _ _; exact answ1.calls x A c gl low W (blk_below BL.out hw)); rintro e w3 ⟨rfl, hb⟩; refine ⟨_, rfl, ?_⟩; replace HO := My.am (Kd.R_below HO.out hb); replace BL := My.ab BL hb; replace HB := My.am (below_step HB.out hb); clear hb; rw [HI.out]))
  go_loopg [6, 5] (xs.length + 1) (fun kq v6 v5 w' => ∃ (j i : Nat) (x xi : Int) (ys F : List S46), v6 = .int .i64 x ∧ v5 = .int .i64 xi ∧ Aside0 (x = (j : Int) ∧ xi = (i : Int)) ∧ Aside0 (xs.length < kq + j ∧ i < j ∧ j ≤ xs.length) ∧ Aside0 (ys = F ++ xs.drop i ∧ F.length = i ∧ F = (xs.take j).filter (fun x => !decide (x.f0 ≤ low))) ∧ Aside0 (Kd.R k46 46 w' w0.heap.size ok (.slice Ao xs.length co) ys) ∧ Aside0 (w'.heap[gl]? = some (.cells #[.int .i64 low] 3 (0, 0))) ∧ Aside0 (Below w0.heap.size w0 w'))
  case atStart =>
   have hm := HM.out
   exact ⟨m + 1, m, _, _, xs, xs.take m, rfl, rfl, ⟨by omega, rfl⟩, ⟨by omega, by omega, by omega⟩, ⟨(List.take_append_drop m xs).symm, by rw [List.length_take]; omega, HF.out.symm⟩, HO, BL, HB⟩
  case round =>
   clear HO BL HB hm1 hm2 hw1 HI HF HM
   obtain ⟨j, i, x, xi, ys, F, rfl, rfl, hx, hk, hY, HO, BL, HB⟩ := hrel
   have hyl : ys.length = xs.length := by
    have h1 := hY.out
    have h2 := hk.out
    rw [h1.1, List.length_append, List.length_drop]
    omega
   have HYL := My.am hyl
   clear hyl
   by_cases c : j < xs.length
   rotate_left
   ·have hx1 := hx.out
    have hk1 := hk.out
    have hyl := HYL.out
    have hj : j = xs.length := by omega
    subst hj
    have cc : decide (x < (xs.length : Int)) = false := decide_eq_false (by omega)
    obtain ⟨g, cap, eg, hgb, hglt, cells, hcells⟩ := Kd.R_form HO.out (by omega)
    have hAo : Ao = some ⟨g, 0, none⟩ := by injection eg
    subst hAo
    have HGB := My.am hgb
    clear eg hglt hcells hgb
    have hco := (Kd.R_reads' HO.out).2.1
    obtain ⟨cur, hc1, hc2⟩ := R_cells HO.out
    have hxi : xi = (i : Int) := hx1.2
    have hik : i < xs.length := hk1.2.1
    subst hxi
    have q3 : (i : Int) < (xs.length : Int) := by omega
    have p3 : (0 : Int) ≤ (i : Int) := by omega
    have q5 : (i : Int) ≤ (xs.length : Int) := by omega
    have q6 : (i : Int) ≤ (co : Int) := by omega
    have n1 : (i = co) = False := eq_false (by omega)
    have n2 : (co = i) = False := eq_false (by omega)
    have n3 : i ≤ xs.length := by omega
    have n4 : i ≤ co := by omega
    have n5 : i < co := by omega
    have p4 := eq_true p3
    have q4 := eq_true q3
    have q7 := eq_true q5
    have q8 := eq_true q6
    obtain ⟨vs, hcl⟩ := run_clear46 wr 0 g (i * 9) (xs.length - i) (co - i) cur hc1 (by rw [hc2]; omega) (by omega)
    have HK := My.am hk1
    clear hk1 hyl hc1 hc2
    go_upto_region 12 with (fail)
    have hF : ys.take i = xs.filter (fun x => !decide (x.f0 ≤ low)) := by
     have hY1 := hY.out
     rw [hY1.1, ← hY1.2.1, List.take_left, hY1.2.2, List.take_length]
    have hT := Kd.R_take HO.out (m := i) (by rw [HYL.out]; omega)
    rw [hF] at hT
    refine at_world (J := fun W => Kd.R k46 46 W w0.heap.size ok (.slice (some ⟨g, 0, none⟩) i co) (xs.filter fun x => !decide (x.f0 ≤ low)) ∧ Below w0.heap.size w0 W) ⟨R_tail_sets vs (i * 9) wr hT (Nat.le_refl _), below_sets HGB.out vs (i * 9) wr HB.out⟩ ?_
    rintro w11 ⟨j1, j2⟩
    have HO2 := My.am j1
    have HB2 := My.am j2
    clear j1 j2 hT hF hcl
    go_wp2
    go_ret
    exact ⟨_, My.r2, HO2.out, HB2.out⟩
   have hx1 := hx.out
   have hk1 := hk.out
   have hyl := HYL.out
   have q1 : x < (xs.length : Int) := by omega
   have p1 : (0 : Int) ≤ x := by omega
   have q3 : xi < (xs.length : Int) := by omega
   have p3 : (0 : Int) ≤ xi := by omega
   have cc : decide (x < (xs.length : Int)) = true := decide_eq_true q1
   obtain ⟨g, cap, eg, hgb, hglt, _⟩ := Kd.R_form HO.out (by omega)
   have hAo : Ao = some ⟨g, 0, none⟩ := by injection eg
   subst hAo
   clear eg
   obtain ⟨A6, c6, hcell, h6, hfz, hgs, _⟩ := R_item HO.out x p1 (by omega)
   have hrd : rd_T46 ys x = rd_T46 xs (j : Int) := by rw [hx1.1]; exact del_rd hY.out.1 hY.out.2.1 (by omega) c
   have H6 := My.am h6
   have HGR := My.am hgs
   have HGB := My.am hgb
   have HRD := My.am hrd
   have HCI := My.am c
   have hggl : gl ≠ g := HGL.out g rfl
   have HGG := My.am hggl
   have HW := My.am (Below.refl wr.heap.size wr)
   have hw1 : IntKind.i64.wrap (x + 1) = x + 1 := by rw [IntKind.wrap_i64]; omega
   have hw2 : IntKind.i64.wrap (xi + 1) = xi + 1 := by rw [IntKind.wrap_i64]; omega
   clear c h6 hgs hgb hglt hrd hggl hx1 hk1 hyl
   have p2 := eq_true p1
   have q2 := eq_true q1
   have p4 := eq_true p3
   have q4 := eq_true q3
   go_upto_region 8 with (first | ((with_reducible refine gate_dst (N := 7) rfl ?_); refine My.bx 7 #[.int .i64 0, .int .i64 0, .int .i64 0, .int .i64 0, .int .i64 0, .int .i64 0, .slice none 0 0, .string (⟨#[]⟩ : ByteArray), .int .i64 0] 46 ?_; intro gx hg w6 hbox hb; have BX := My.am hbox; have GX := My.nge hg (My.bl_ HW); replace HW := My.st HW hb; clear hb hbox hg; have hq0 := My.b_ BX 0; have hq1 := My.b_ BX 1; have hq2 := My.b_ BX 2; have hq3 := My.b_ BX 3; have hq4 := My.b_ BX 4; have hq5 := My.b_ BX 5; have hq6 := My.b_ BX 6; have hq7 := My.b_ BX 7; have hq8 := My.b_ BX 8; have hqf := blk_frozen BX.out))
   refine at_world (J := fun W => Below wr.heap.size wr W ∧ W.heap[gx]? = some (.cells #[.int .i64 (rd_T46 ys x).f0, .int .i64 (rd_T46 ys x).f1, .int .i64 (rd_T46 ys x).f2, .int .i64 (rd_T46 ys x).f3.f0, .int .i64 (rd_T46 ys x).f3.f1.f0, .int .i64 (rd_T46 ys x).f3.f1.f1, .slice A6 (rd_T46 ys x).f3.f1.f2.length c6, .string (rd_T46 ys x).f3.f2, .int .i64 (rd_T46 ys x).f3.f3] 46 (0, 0))) ⟨(My.bl_ HW), put9_blk BX.out⟩ ?_
   rintro w6' ⟨hw6, hb6⟩
   clear HW BX hq0 hq1 hq2 hq3 hq4 hq5 hq6 hq7 hq8 hqf hcell hfz
   have HW := My.am hw6
   have BX := My.am hb6
   clear hw6 hb6
   have hq0 := My.b_ BX 0
   have hq1 := My.b_ BX 1
   have hq2 := My.b_ BX 2
   have hq3 := My.b_ BX 3
   have hq4 := My.b_ BX 4
   have hq5 := My.b_ BX 5
   have hq6 := My.b_ BX 6
   have hq7 := My.b_ BX 7
   have hq8 := My.b_ BX 8
   have hqf := blk_frozen BX.out
   cases hp : decide ((rd_T46 ys x).f0 ≤ low) with
   | true =>
    have HP := My.am hp
    clear hp
    go_wp2_with (first | ((with_reducible refine gate_dst (N := 28) rfl ?_); refine My.goesV_ (f := 35) (first := #[]) (cap := #[.pointer (some ⟨gl, 0, none⟩)]) (some 28) rfl rfl Try.func35 (by kernel_rfl) rfl #[.agg #[.int .i64 (rd_T46 ys x).f0, .int .i64 (rd_T46 ys x).f1, .int .i64 (rd_T46 ys x).f2, .int .i64 (rd_T46 ys x).f3.f0, .int .i64 (rd_T46 ys x).f3.f1.f0, .int .i64 (rd_T46 ys x).f3.f1.f1, .slice A6 (rd_T46 ys x).f3.f1.f2.length c6, .string (rd_T46 ys x).f3.f2, .int .i64 (rd_T46 ys x).f3.f3], .pointer (some ⟨gl, 0, none⟩)] rfl rfl My.gx ?_; (with_reducible refine (answ1.calls (rd_T46 ys x) A6 c6 gl low _ (My.ab BL HW.out).out).mono ?_); (try rw [HP.out]); rintro e w8 ⟨rfl, hb⟩; refine ⟨_, rfl, ?_⟩; clear hq0 hq1 hq2 hq3 hq4 hq5 hq6 hq7 hq8 hqf; replace BX := My.ab BX hb; replace HW := My.st HW hb; clear hb; have hq0 := My.b_ BX 0; have hq1 := My.b_ BX 1; have hq2 := My.b_ BX 2; have hq3 := My.b_ BX 3; have hq4 := My.b_ BX 4; have hq5 := My.b_ BX 5; have hq6 := My.b_ BX 6; have hq7 := My.b_ BX 7; have hq8 := My.b_ BX 8))
    have hx1 := hx.out
    have hk1 := hk.out
    have hY1 := hY.out
    have hci := HCI.out
    go_roundg (xs.length - j)
    case measure => omega
    case rel => exact ⟨j + 1, i, x + 1, xi, ys, F, by first | rfl | rw [hw1], rfl, ⟨by omega, hx1.2⟩, ⟨by omega, by omega, by omega⟩, ⟨hY1.1, hY1.2.1, by rw [del_take _ hci, ← hY1.2.2, ← HRD.out, HP.out]; simp⟩, ⟨Kd.R_below HO.out HW.out⟩, My.ab BL HW.out, ⟨below_step HB.out HW.out⟩⟩
   | false =>
    have HP := My.am hp
    clear hp
    go_upto_region 9 with (first | ((with_reducible refine gate_dst (N := 28) rfl ?_); refine My.goesV_ (f := 35) (first := #[]) (cap := #[.pointer (some ⟨gl, 0, none⟩)]) (some 28) rfl rfl Try.func35 (by kernel_rfl) rfl #[.agg #[.int .i64 (rd_T46 ys x).f0, .int .i64 (rd_T46 ys x).f1, .int .i64 (rd_T46 ys x).f2, .int .i64 (rd_T46 ys x).f3.f0, .int .i64 (rd_T46 ys x).f3.f1.f0, .int .i64 (rd_T46 ys x).f3.f1.f1, .slice A6 (rd_T46 ys x).f3.f1.f2.length c6, .string (rd_T46 ys x).f3.f2, .int .i64 (rd_T46 ys x).f3.f3], .pointer (some ⟨gl, 0, none⟩)] rfl rfl My.gx ?_; (with_reducible refine (answ1.calls (rd_T46 ys x) A6 c6 gl low _ (My.ab BL HW.out).out).mono ?_); (try rw [HP.out]); rintro e w8 ⟨rfl, hb⟩; refine ⟨_, rfl, ?_⟩; clear hq0 hq1 hq2 hq3 hq4 hq5 hq6 hq7 hq8 hqf; replace BX := My.ab BX hb; replace HW := My.st HW hb; clear hb; have hq0 := My.b_ BX 0; have hq1 := My.b_ BX 1; have hq2 := My.b_ BX 2; have hq3 := My.b_ BX 3; have hq4 := My.b_ BX 4; have hq5 := My.b_ BX 5; have hq6 := My.b_ BX 6; have hq7 := My.b_ BX 7; have hq8 := My.b_ BX 8))
    replace HO := My.am (Kd.R_below HO.out HW.out)
    replace H6 := My.am (Kd.R_below H6.out HW.out)
    replace BL := My.ab BL HW.out
    replace HB := My.am (below_step HB.out HW.out)
    have hyl := HYL.out
    obtain ⟨_, _, hcell, _, hfz, _, _⟩ := R_item HO.out xi p3 (by omega)
    have hgx : gx ≠ g := by have h1 := GX.out; have h2 := HGR.out; omega
    have HGX := My.am hgx
    clear hgx HW hyl
    go_upto_region 10 with (fail)
    have hW1 : ∀ k_, k_ ≠ g → (put9 w8 g (xi.toNat * 9) (.int .i64 (rd_T46 ys x).f0) (.int .i64 (rd_T46 ys x).f1) (.int .i64 (rd_T46 ys x).f2) (.int .i64 (rd_T46 ys x).f3.f0) (.int .i64 (rd_T46 ys x).f3.f1.f0) (.int .i64 (rd_T46 ys x).f3.f1.f1) (.slice A6 (rd_T46 ys x).f3.f1.f2.length c6) (.string (rd_T46 ys x).f3.f2) (.int .i64 (rd_T46 ys x).f3.f3)).heap[k_]? = w8.heap[k_]? := put9_far w8 g (xi.toNat * 9) _ _ _ _ _ _ _ _ _
    have hxi := hx.out
    have hyl := HYL.out
    have hki := hk.out
    refine at_world (J := fun W => Kd.R k46 46 W w0.heap.size ok (.slice (some ⟨g, 0, none⟩) xs.length co) (ys.set xi.toNat (rd_T46 ys x)) ∧ W.heap[gl]? = some (.cells #[.int .i64 low] 3 (0, 0)) ∧ Below w0.heap.size w0 W)
     ⟨R_put9 HO.out xi.toNat (by omega) (rd_T46 ys x) _ H6.out, (hW1 gl HGG.out).trans BL.out, below_set (below_set (below_set (below_set (below_set (below_set (below_set (below_set (below_set HB.out HGB.out) HGB.out) HGB.out) HGB.out) HGB.out) HGB.out) HGB.out) HGB.out) HGB.out⟩ ?_
    rintro w10 ⟨j1, j2, j3⟩
    clear HO BL HB hq0 hq1 hq2 hq3 hq4 hq5 hq6 hq7 hq8 hcell hfz hW1 hxi hyl hki
    have HO := My.am j1
    have BL := My.am j2
    have HB := My.am j3
    clear j1 j2 j3
    go_wp2
    have hx1 := hx.out
    have hk1 := hk.out
    have hY1 := hY.out
    have hci := HCI.out
    go_roundg (xs.length - j)
    case measure => omega
    case rel => exact ⟨j + 1, i + 1, x + 1, xi + 1, ys.set xi.toNat (rd_T46 ys x), F ++ [rd_T46 ys x], by first | rfl | rw [hw1], by first | rfl | rw [hw2], ⟨by omega, by omega⟩, ⟨by omega, by omega, by omega⟩, ⟨by rw [show xi.toNat = i by omega]; exact del_set hY1.1 hY1.2.1 (by omega), by rw [List.length_append, hY1.2.1]; rfl, by rw [del_take _ hci, ← hY1.2.2, ← HRD.out, HP.out]; simp⟩, HO, BL, HB⟩
def outbox_Answered.f (k : Nat) (l0 : List S46) (a1 : Int) : Option (List S46) := (outbox_May.f k l0).bind fun e => if e = 0 then ((outbox_copied.f k l0).bind fun out => some (out.filter fun x => !decide (x.f0 ≤ a1))) else some []
theorem outbox_Answered.mono : ∀ a0 a1 k, LeO (outbox_Answered.f k a0 a1) (outbox_Answered.f (k + 1) a0 a1) := by
 intro a0 a1 k
 unfold outbox_Answered.f
 exact LeO.bind (outbox_May.mono _ _) (fun _ => LeO.ite (LeO.bind (outbox_copied.mono _ _) (fun _ => LeO.refl _)) (LeO.refl _))
theorem outbox_Answered.calls (k : Nat) (A0 : Option Addr) (c0 : Nat) (l0 : List S46) (a1 : Int) (r : List S46) (w : World) (hr0 : Kd.C k46 w A0 l0.length l0) (hc0 : l0.length ≤ c0) (h : outbox_Answered.f k l0 a1 = some r) :
  Calls Try.prog 19 #[.slice A0 l0.length c0, .int .i64 a1] w fun e w' => ∃ v0_ : Value, e = .returned v0_ ∧ Kd.R k46 46 w' w.heap.size (fun _ => True) v0_ r ∧ Below w.heap.size w w' := by
 have HR0 := My.am hr0
 have HC0 := My.am hc0
 have HB := My.am (Below.refl w.heap.size w)
 clear hr0 hc0
 unfold outbox_Answered.f at h
 obtain ⟨e, he, h⟩ := Option.bind_eq_some_iff.1 h
 have A1 := My.am he
 clear he
 by_cases e0 : e = 0
 ·subst e0
  rw [if_pos rfl] at h
  obtain ⟨out, ho, h⟩ := Option.bind_eq_some_iff.1 h
  obtain rfl := Option.some.inj h
  have A2 := My.am ho
  clear h ho
  go_enter Try.func19, Try.ntmps19
  go_wp2_with (first | ((with_reducible refine gate_dst (N := 3) rfl ?_); refine My.bx 3 #[.int .i64 a1] 3 ?_; intro gl hg w2 hbox hb; have BL := My.am hbox; replace HB := My.st HB hb; clear hb hbox hg) | ((with_reducible refine gate_callee (f := 13) rfl ?_); refine goesL_ (some 6) rfl rfl Try.func13 (by kernel_rfl) rfl #[.slice A0 l0.length c0] rfl My.gx ?_; (with_reducible refine (outbox_May.calls k _ _ l0 0 _ ?side1 ?side2 A1.out).mono ?_); (case side1 => exact Kd.C_below HR0.out (My.bl_ HB)); (case side2 => exact HC0.out); rintro e w3 ⟨rfl, hb⟩; refine ⟨_, rfl, ?_⟩; replace BL := My.ab BL hb; replace HB := My.st HB hb; clear hb) | ((with_reducible refine gate_callee (f := 25) rfl ?_); refine goesL_ (some 9) rfl rfl Try.func25 (by kernel_rfl) rfl #[.slice A0 l0.length c0] rfl My.gx ?_; (with_reducible refine (outbox_copied.calls k _ _ l0 out _ ?side1 ?side2 A2.out).mono ?_); (case side1 => exact Kd.C_below HR0.out (My.bl_ HB)); (case side2 => exact HC0.out); rintro e w5 ⟨vo, rfl, ho, hb⟩; refine ⟨_, rfl, ?_⟩; have HO := My.am (Kd.R_lower (Kd.S_R ho) (below_size (My.bl_ HB))); replace BL := My.ab BL hb; replace HB := My.st HB hb; clear hb ho; obtain ⟨Ao, co, eo⟩ := Kd.R_slice HO.out; subst eo) | ((with_reducible refine gate_callee (f := 34) rfl ?_); refine goesL_ (some 11) rfl rfl Try.func34 (by kernel_rfl) rfl #[.slice Ao out.length co, .func (.func 35) #[] #[.pointer (some ⟨gl, 0, none⟩)]] rfl My.gx ?_; (refine (item_delete w Ao co out gl a1 (fun _ => True) _ HO.out HB.out BL.out).mono ?_); rintro e w6 ⟨v, rfl, hr, hb⟩; refine ⟨_, rfl, ?_⟩; have HF := My.am hr; have HB2 := My.am hb; clear hr hb))
  go_ret
  exact ⟨_, My.r2, HF.out, HB2.out⟩
 ·rw [if_neg e0] at h
  obtain rfl := Option.some.inj h
  have b1 : (e == 0) = false := beq_eq_false_iff_ne.2 e0
  have b2 : (e != 0) = true := bne_iff_ne.2 e0
  have b3 : decide (e = 0) = false := decide_eq_false e0
  clear h
  go_enter Try.func19, Try.ntmps19
  go_wp2_with (first | ((with_reducible refine gate_dst (N := 3) rfl ?_); refine My.bx 3 #[.int .i64 a1] 3 ?_; intro gl hg w2 hbox hb; have BL := My.am hbox; replace HB := My.st HB hb; clear hb hbox hg) | ((with_reducible refine gate_callee (f := 13) rfl ?_); refine goesL_ (some 6) rfl rfl Try.func13 (by kernel_rfl) rfl #[.slice A0 l0.length c0] rfl My.gx ?_; (with_reducible refine (outbox_May.calls k _ _ l0 e _ ?side1 ?side2 A1.out).mono ?_); (case side1 => exact Kd.C_below HR0.out (My.bl_ HB)); (case side2 => exact HC0.out); rintro e w3 ⟨rfl, hb⟩; refine ⟨_, rfl, ?_⟩; replace BL := My.ab BL hb; replace HB := My.st HB hb; clear hb))
  go_ret
  exact ⟨_, My.r2, Kd.R_nil _ _ _ _ _, HB.out⟩


/-! ### ententelaw19_note: function 23 -/
def ententelaw19_note.f (a0 : Int) : Option (Int × Int × Int × (List (S62)) × ByteArray × Int) := some (2, 0, 1, (([(⟨a0, 1⟩ : S62)] : List (S62))), (⟨#[]⟩ : ByteArray), 0)
theorem ententelaw19_note.calls (a0 : Int) (r1 : Int) (r2 : Int) (r3 : Int) (r4 : List (S62)) (r5 : ByteArray) (r6 : Int) (w : World) (h : ententelaw19_note.f a0 = some (r1, r2, r3, r4, r5, r6)) :
  Calls Try.prog 23 #[.int .i64 a0] w fun e w' => ∃ v3_ : Value, e = .returned (.agg #[.int .i64 r1, .int .i64 r2, .int .i64 r3, v3_, .string r5, .int .i64 r6]) ∧ Kd.R k62 62 w' w.heap.size (fun _ => True) v3_ r4 ∧ Below w.heap.size w w' := by
 have hu37 := Try.underlying37
 have hu62 := Try.underlying62
 have hu35 := Try.underlying35
 have HB := My.am (Below.refl w.heap.size w)
 unfold ententelaw19_note.f at h
 have H := h
 clear h
 obtain ⟨y186, hy186⟩ : ∃ y_ : List (S62), y_ = (([(⟨a0, 1⟩ : S62)] : List (S62))) := ⟨_, rfl⟩
 replace H : (some (2, 0, 1, y186, (⟨#[]⟩ : ByteArray), 0)) = some (r1, r2, r3, r4, r5, r6) := by first | (rw [hy186]; with_reducible exact H) | (have H2_ := (Option.bind_some _ _).symm.trans H; rw [hy186]; with_reducible exact H2_) | (have H2_ := (Option.bind_some _ _).symm.trans H; with_reducible exact H2_) | with_reducible exact H | (rw [hy186]; exact H) | exact H
 have Ny186 := My.am hy186
 clear hy186
 simp only [Option.some.injEq, Prod.mk.injEq] at H
 obtain ⟨rfl, rfl, rfl, rfl, rfl, rfl⟩ := H
 go_enter Try.func23, Try.ntmps23
 go_wp2_with (first | ((with_reducible refine gate_dst (N := 2) rfl ?_); refine My.bx 2 #[.int .i64 0, .int .i64 0, .int .i64 0, .slice none 0 0, .string (⟨#[]⟩ : ByteArray), .int .i64 0] 37 ?_; intro gb185 hg w2 hbox hb; have BK185 := My.am (hbox); have GE185 := My.nge hg (My.bl_ HB); replace HB := My.st HB hb; clear hb hbox hg) | ((with_reducible refine gate_dst (N := 5) rfl ?_); refine Kd.R_lit k62 _ 62 ?hg (N := 5) ?hd (xs := ([(⟨a0, 1⟩ : S62)] : List (S62))) (inner := [.int .i64 a0, .int .i64 1]) (ok := fun _ => True) (okp := fun _ => True) ?hr ?hp (fun _ hk => hk) trivial (Below.refl _ _) (Nat.le_refl _) (by simp) ?_; (case hd => rfl); (case hg => rfl); (case hr => first | (go_simp; done) | (go_simp; rfl)); (case hp => exact (Reps.c2 (show Kd.M k62 _ _ _ (⟨a0, 1⟩ : S62) [.int .i64 a0, .int .i64 1] from (k62_mkM _ _ _ (⟨a0, 1⟩ : S62) )) (Reps.none _ _))); intro v187 w3 ho4 hb hg_ hnew_; clear hg_ hnew_; (first | rw [← Ny186.out] at ho4 | (simp only [Int.reduceToNat] at ho4; rw [← Ny186.out] at ho4)); have HO188 := My.am (Kd.R_lower ho4 (below_size (My.bl_ HB))); replace BK185 := My.ab BK185 hb; replace HB := My.st HB hb; clear hb ho4; obtain ⟨Ao5, co5, eo5⟩ := Kd.R_slice HO188.out; subst eo5; have hq6 := My.cz6 BK185))
 refine bodyPost_ret (results_cell_row rfl _ _ gb185 37 #[.int .i64 2, .int .i64 0, .int .i64 1, .slice Ao5 y186.length co5, .string (⟨#[]⟩ : ByteArray), .int .i64 0] (0, 0) _ rfl ((My.sv_ BK185)) Try.underlying37 rfl (by kernel_rfl)) rfl ?_
 exact ⟨_, My.r2, My.dR (Kd.R_mono (Kd.R_far (p := ⟨gb185, 5, none⟩) (Kd.R_far (p := ⟨gb185, 4, none⟩) (Kd.R_far (p := ⟨gb185, 3, none⟩) (Kd.R_far (p := ⟨gb185, 2, none⟩) (Kd.R_far (p := ⟨gb185, 1, none⟩) (Kd.R_far (p := ⟨gb185, 0, none⟩) (Kd.R_types HO188.out BK185.out (by decide)) (fun _ hk => hk.2) (.int .i64 2)) (fun _ hk => hk.2) (.int .i64 0)) (fun _ hk => hk.2) (.int .i64 1)) (fun _ hk => hk.2) (.slice Ao5 y186.length co5)) (fun _ hk => hk.2) (.string (⟨#[]⟩ : ByteArray))) (fun _ hk => hk.2) (.int .i64 0)) (fun _ hk => trivial)), (My.bl_ HB)⟩

/-! ### ententelaw19_awake: function 8 -/
def ententelaw19_awake.f (k : Nat)  : Option (Bool) := (ententelaw19_note.f 0).bind fun bt189 => ((ententelaw19_note.f 1).bind fun bt197 => ((ententelaw19_note.f 0).bind fun bt205 => ((outbox_Push.f k ([] : List (S46)) 1 5 (([(⟨bt189.1, (⟨bt189.2.1, bt189.2.2.1, bt189.2.2.2.1⟩ : S35), bt189.2.2.2.2.1, bt189.2.2.2.2.2⟩ : S37), (⟨bt197.1, (⟨bt197.2.1, bt197.2.2.1, bt197.2.2.2.1⟩ : S35), bt197.2.2.2.2.1, bt197.2.2.2.2.2⟩ : S37), (⟨bt205.1, (⟨bt205.2.1, bt205.2.2.1, bt205.2.2.2.1⟩ : S35), bt205.2.2.2.2.1, bt205.2.2.2.2.2⟩ : S37)] : List (S37)))).bind fun bt216 => ((outbox_Due.f k bt216.1 5).bind fun bt220 => ((outbox_Push.f k bt216.1 1 5 (([(⟨0, (⟨0, 0, ([] : List (S62))⟩ : S35), (⟨#[]⟩ : ByteArray), 0⟩ : S37)] : List (S37)))).bind fun bt229 => (if bt216.2 = 0 then (if (bt216.1.length : Int) = 2 then (if 1 < (bt216.1.length : Int) then (if ((rd_T46 bt216.1 1).f0) = 2 then (if ((rd_T46 bt216.1 1).f1) = 5 then (if (bt220.2.length : Int) = 2 then (if 0 < (bt220.1.length : Int) then (if ((rd_T46 bt220.1 0).f1) = 7 then (if ((rd_T46 bt220.1 0).f2) = 1 then (if bt229.2 = 130 then ((ententelaw19_note.f 1).bind fun bt237 => ((outbox_Has.f k bt216.1 bt237.1 bt237.2.1 bt237.2.2.1 bt237.2.2.2.1 bt237.2.2.2.2.1 bt237.2.2.2.2.2).bind fun t245 => (if t245 = true then ((outbox_Answered.f k bt216.1 1).bind fun t246 => (if (t246.length : Int) = 1 then ((outbox_May.f k (([(⟨0, 0, 0, (⟨0, (⟨0, 0, ([] : List (S62))⟩ : S35), (⟨#[]⟩ : ByteArray), 0⟩ : S37)⟩ : S46)] : List (S46)))).bind fun t252 => (some (t252 == 2))) else (none))) else (none)))) else (none)) else (none)) else (none)) else (none)) else (none)) else (none)) else (none)) else (none)) else (none)) else (none)))))))
theorem ententelaw19_awake.mono : ∀ k, LeO (ententelaw19_awake.f k ) (ententelaw19_awake.f (k + 1) ) := by
 intro  k
 unfold ententelaw19_awake.f
 repeat' (with_reducible first | exact outbox_Answered.mono _ _ _ | exact outbox_Due.mono _ _ _ | exact outbox_Has.mono _ _ _ _ _ _ _ _ | exact outbox_May.mono _ _ | exact outbox_Push.mono _ _ _ _ _ | exact LeO.refl _ | exact LeO.none _ | apply LeO.ite | refine LeO.bind ?_ (fun _ => ?_))
theorem ententelaw19_awake.calls (k : Nat)  (r : Bool) (w : World) (h : ententelaw19_awake.f k  = some r) :
  Calls Try.prog 8 #[] w fun e w' => e = .returned (.bool r) ∧ Below w.heap.size w w' := by
 have hu37 := Try.underlying37
 have hu46 := Try.underlying46
 have HB := My.am (Below.refl w.heap.size w)
 unfold ententelaw19_awake.f at h
 have H := h
 clear h
 replace H := Option.bind_eq_some_iff.mp H
 obtain ⟨⟨t189, t190, t191, t192, t195, t196⟩, A10, H⟩ := H
 try dsimp only at H
 have A1 := My.am A10
 clear A10
 replace H := Option.bind_eq_some_iff.mp H
 obtain ⟨⟨t197, t198, t199, t200, t203, t204⟩, A20, H⟩ := H
 try dsimp only at H
 have A2 := My.am A20
 clear A20
 replace H := Option.bind_eq_some_iff.mp H
 obtain ⟨⟨t205, t206, t207, t208, t211, t212⟩, A30, H⟩ := H
 try dsimp only at H
 have A3 := My.am A30
 clear A30
 obtain ⟨y213, hy213⟩ : ∃ y_ : List (S37), y_ = (([(⟨t189, (⟨t190, t191, t192⟩ : S35), t195, t196⟩ : S37), (⟨t197, (⟨t198, t199, t200⟩ : S35), t203, t204⟩ : S37), (⟨t205, (⟨t206, t207, t208⟩ : S35), t211, t212⟩ : S37)] : List (S37))) := ⟨_, rfl⟩
 replace H : ((outbox_Push.f k ([] : List (S46)) 1 5 y213).bind fun bt216 => ((outbox_Due.f k bt216.1 5).bind fun bt220 => ((outbox_Push.f k bt216.1 1 5 (([(⟨0, (⟨0, 0, ([] : List (S62))⟩ : S35), (⟨#[]⟩ : ByteArray), 0⟩ : S37)] : List (S37)))).bind fun bt229 => (if bt216.2 = 0 then (if (bt216.1.length : Int) = 2 then (if 1 < (bt216.1.length : Int) then (if ((rd_T46 bt216.1 1).f0) = 2 then (if ((rd_T46 bt216.1 1).f1) = 5 then (if (bt220.2.length : Int) = 2 then (if 0 < (bt220.1.length : Int) then (if ((rd_T46 bt220.1 0).f1) = 7 then (if ((rd_T46 bt220.1 0).f2) = 1 then (if bt229.2 = 130 then ((ententelaw19_note.f 1).bind fun bt237 => ((outbox_Has.f k bt216.1 bt237.1 bt237.2.1 bt237.2.2.1 bt237.2.2.2.1 bt237.2.2.2.2.1 bt237.2.2.2.2.2).bind fun t245 => (if t245 = true then ((outbox_Answered.f k bt216.1 1).bind fun t246 => (if (t246.length : Int) = 1 then ((outbox_May.f k (([(⟨0, 0, 0, (⟨0, (⟨0, 0, ([] : List (S62))⟩ : S35), (⟨#[]⟩ : ByteArray), 0⟩ : S37)⟩ : S46)] : List (S46)))).bind fun t252 => (some (t252 == 2))) else (none))) else (none)))) else (none)) else (none)) else (none)) else (none)) else (none)) else (none)) else (none)) else (none)) else (none)) else (none))))) = some r := by first | (rw [hy213]; with_reducible exact H) | (have H2_ := (Option.bind_some _ _).symm.trans H; rw [hy213]; with_reducible exact H2_) | (have H2_ := (Option.bind_some _ _).symm.trans H; with_reducible exact H2_) | with_reducible exact H | (rw [hy213]; exact H) | exact H
 have Ny213 := My.am hy213
 clear hy213
 replace H := Option.bind_eq_some_iff.mp H
 obtain ⟨⟨t216, t217⟩, A40, H⟩ := H
 try dsimp only at H
 have A4 := My.am A40
 clear A40
 replace H := Option.bind_eq_some_iff.mp H
 obtain ⟨⟨t220, t221⟩, A50, H⟩ := H
 try dsimp only at H
 have A5 := My.am A50
 clear A50
 obtain ⟨y226, hy226⟩ : ∃ y_ : List (S37), y_ = (([(⟨0, (⟨0, 0, ([] : List (S62))⟩ : S35), (⟨#[]⟩ : ByteArray), 0⟩ : S37)] : List (S37))) := ⟨_, rfl⟩
 replace H : ((outbox_Push.f k t216 1 5 y226).bind fun bt229 => (if t217 = 0 then (if (t216.length : Int) = 2 then (if 1 < (t216.length : Int) then (if ((rd_T46 t216 1).f0) = 2 then (if ((rd_T46 t216 1).f1) = 5 then (if (t221.length : Int) = 2 then (if 0 < (t220.length : Int) then (if ((rd_T46 t220 0).f1) = 7 then (if ((rd_T46 t220 0).f2) = 1 then (if bt229.2 = 130 then ((ententelaw19_note.f 1).bind fun bt237 => ((outbox_Has.f k t216 bt237.1 bt237.2.1 bt237.2.2.1 bt237.2.2.2.1 bt237.2.2.2.2.1 bt237.2.2.2.2.2).bind fun t245 => (if t245 = true then ((outbox_Answered.f k t216 1).bind fun t246 => (if (t246.length : Int) = 1 then ((outbox_May.f k (([(⟨0, 0, 0, (⟨0, (⟨0, 0, ([] : List (S62))⟩ : S35), (⟨#[]⟩ : ByteArray), 0⟩ : S37)⟩ : S46)] : List (S46)))).bind fun t252 => (some (t252 == 2))) else (none))) else (none)))) else (none)) else (none)) else (none)) else (none)) else (none)) else (none)) else (none)) else (none)) else (none)) else (none))) = some r := by first | (rw [hy226]; with_reducible exact H) | (have H2_ := (Option.bind_some _ _).symm.trans H; rw [hy226]; with_reducible exact H2_) | (have H2_ := (Option.bind_some _ _).symm.trans H; with_reducible exact H2_) | with_reducible exact H | (rw [hy226]; exact H) | exact H
 have Ny226 := My.am hy226
 clear hy226
 replace H := Option.bind_eq_some_iff.mp H
 obtain ⟨⟨t229, t230⟩, A60, H⟩ := H
 try dsimp only at H
 have A6 := My.am A60
 clear A60
 by_cases c7 : t217 = 0
 ·rw [if_pos c7] at H
  have c7b0 : (t217 == 0) = true := beq_iff_eq.mpr c7
  have c7b1 : (t217 != 0) = false := bne_eq_false_iff_eq.mpr c7
  clear c7
  by_cases c8 : (t216.length : Int) = 2
  ·rw [if_pos c8] at H
   have c8b0 : ((t216.length : Int) == 2) = true := beq_iff_eq.mpr c8
   have c8b1 : ((t216.length : Int) != 2) = false := bne_eq_false_iff_eq.mpr c8
   clear c8
   by_cases c9 : 1 < (t216.length : Int)
   rotate_left
   ·exact My.nn c9 H
   rw [if_pos c9] at H
   have c9b0 := decide_eq_true c9
   have c9b1 : decide (1 < t216.length) = true := decide_eq_true (by omega)
   clear c9
   by_cases c10 : ((rd_T46 t216 1).f0) = 2
   rotate_left
   ·exact My.nn c10 H
   rw [if_pos c10] at H
   have c10b0 : (((rd_T46 t216 1).f0) == 2) = true := beq_iff_eq.mpr c10
   have c10b1 : (((rd_T46 t216 1).f0) != 2) = false := bne_eq_false_iff_eq.mpr c10
   clear c10
   by_cases c11 : ((rd_T46 t216 1).f1) = 5
   rotate_left
   ·exact My.nn c11 H
   rw [if_pos c11] at H
   have c11b0 : (((rd_T46 t216 1).f1) == 5) = true := beq_iff_eq.mpr c11
   have c11b1 : (((rd_T46 t216 1).f1) != 5) = false := bne_eq_false_iff_eq.mpr c11
   clear c11
   by_cases c12 : (t221.length : Int) = 2
   rotate_left
   ·exact My.nn c12 H
   rw [if_pos c12] at H
   have c12b0 : ((t221.length : Int) == 2) = true := beq_iff_eq.mpr c12
   have c12b1 : ((t221.length : Int) != 2) = false := bne_eq_false_iff_eq.mpr c12
   clear c12
   by_cases c13 : 0 < (t220.length : Int)
   rotate_left
   ·exact My.nn c13 H
   rw [if_pos c13] at H
   have c13b0 := decide_eq_true c13
   have c13b1 : decide (0 < t220.length) = true := decide_eq_true (by omega)
   clear c13
   by_cases c14 : ((rd_T46 t220 0).f1) = 7
   rotate_left
   ·exact My.nn c14 H
   rw [if_pos c14] at H
   have c14b0 : (((rd_T46 t220 0).f1) == 7) = true := beq_iff_eq.mpr c14
   have c14b1 : (((rd_T46 t220 0).f1) != 7) = false := bne_eq_false_iff_eq.mpr c14
   clear c14
   by_cases c15 : ((rd_T46 t220 0).f2) = 1
   rotate_left
   ·exact My.nn c15 H
   rw [if_pos c15] at H
   have c15b0 : (((rd_T46 t220 0).f2) == 1) = true := beq_iff_eq.mpr c15
   have c15b1 : (((rd_T46 t220 0).f2) != 1) = false := bne_eq_false_iff_eq.mpr c15
   clear c15
   by_cases c16 : t230 = 130
   rotate_left
   ·exact My.nn c16 H
   rw [if_pos c16] at H
   have c16b0 : (t230 == 130) = true := beq_iff_eq.mpr c16
   have c16b1 : (t230 != 130) = false := bne_eq_false_iff_eq.mpr c16
   clear c16
   replace H := Option.bind_eq_some_iff.mp H
   obtain ⟨⟨t237, t238, t239, t240, t243, t244⟩, A170, H⟩ := H
   try dsimp only at H
   have A17 := My.am A170
   clear A170
   replace H := Option.bind_eq_some_iff.mp H
   obtain ⟨t245, A180, H⟩ := H
   try dsimp only at H
   have A18 := My.am A180
   clear A180
   by_cases c19 : t245 = true
   rotate_left
   ·replace c19 := Bool.eq_false_iff.mpr c19
    subst c19
    rw [if_neg (show ¬ (false = true) by decide)] at H
    exact absurd H (by simp)
   subst c19
   rw [if_pos rfl] at H
   replace H := Option.bind_eq_some_iff.mp H
   obtain ⟨t246, A200, H⟩ := H
   try dsimp only at H
   have A20 := My.am A200
   clear A200
   by_cases c21 : (t246.length : Int) = 1
   ·rw [if_pos c21] at H
    have c21b0 : ((t246.length : Int) == 1) = true := beq_iff_eq.mpr c21
    have c21b1 : ((t246.length : Int) != 1) = false := bne_eq_false_iff_eq.mpr c21
    clear c21
    obtain ⟨y249, hy249⟩ : ∃ y_ : List (S46), y_ = (([(⟨0, 0, 0, (⟨0, (⟨0, 0, ([] : List (S62))⟩ : S35), (⟨#[]⟩ : ByteArray), 0⟩ : S37)⟩ : S46)] : List (S46))) := ⟨_, rfl⟩
    replace H : ((outbox_May.f k y249).bind fun t252 => (some (t252 == 2))) = some r := by first | (rw [hy249]; with_reducible exact H) | (have H2_ := (Option.bind_some _ _).symm.trans H; rw [hy249]; with_reducible exact H2_) | (have H2_ := (Option.bind_some _ _).symm.trans H; with_reducible exact H2_) | with_reducible exact H | (rw [hy249]; exact H) | exact H
    have Ny249 := My.am hy249
    clear hy249
    replace H := Option.bind_eq_some_iff.mp H
    obtain ⟨t252, A220, H⟩ := H
    try dsimp only at H
    have A22 := My.am A220
    clear A220
    obtain rfl := Option.some.inj H
    go_enter Try.func8, Try.ntmps8
    go_wp2_with (first | ((with_reducible refine gate_callee (f := 23) rfl ?_); refine goesL_ (some 8) rfl rfl Try.func23 (by kernel_rfl) rfl #[.int .i64 0] rfl My.gx ?_; (with_reducible refine (ententelaw19_note.calls 0 t189 t190 t191 t192 t195 t196 _ A1.out).mono ?_); rintro e w23 ⟨v193, rfl, ho0, hb⟩; refine ⟨_, rfl, ?_⟩; have HO194 := My.am (Kd.R_lower ho0 (below_size (My.bl_ HB))); replace HB := My.st HB hb; (try clear hb); (try clear ho0)) | ((with_reducible refine gate_callee (f := 23) rfl ?_); refine goesL_ (some 9) rfl rfl Try.func23 (by kernel_rfl) rfl #[.int .i64 1] rfl My.gx ?_; (with_reducible refine (ententelaw19_note.calls 1 t197 t198 t199 t200 t203 t204 _ A2.out).mono ?_); rintro e w24 ⟨v201, rfl, ho0, hb⟩; refine ⟨_, rfl, ?_⟩; have HO202 := My.am (Kd.R_lower (Kd.R_new' ho0 (Kd.R_lt (My.dr HO194.out))) (below_size (My.bl_ HB))); replace HO194 := My.am (Kd.R_elder' (My.dr HO194.out) (Kd.R_base ho0) hb); replace HB := My.st HB hb; (try clear hb); (try clear ho0)) | ((with_reducible refine gate_callee (f := 23) rfl ?_); refine goesL_ (some 10) rfl rfl Try.func23 (by kernel_rfl) rfl #[.int .i64 0] rfl My.gx ?_; (with_reducible refine (ententelaw19_note.calls 0 t205 t206 t207 t208 t211 t212 _ A3.out).mono ?_); rintro e w25 ⟨v209, rfl, ho0, hb⟩; refine ⟨_, rfl, ?_⟩; have HO210 := My.am (Kd.R_lower (Kd.R_new' (Kd.R_new' ho0 (Kd.R_lt (My.dr HO194.out))) (Kd.R_lt (My.dr HO202.out))) (below_size (My.bl_ HB))); replace HO194 := My.am (Kd.R_elder' (My.dr HO194.out) (Kd.R_base ho0) hb); replace HO202 := My.am (Kd.R_elder' (My.dr HO202.out) (Kd.R_base ho0) hb); replace HB := My.st HB hb; (try clear hb); (try clear ho0); obtain ⟨Ao26, co26, eo26⟩ := Kd.R_slice HO194.out; subst eo26; obtain ⟨Ao27, co27, eo27⟩ := Kd.R_slice HO202.out; subst eo27; obtain ⟨Ao28, co28, eo28⟩ := Kd.R_slice HO210.out; subst eo28) | ((with_reducible refine gate_dst (N := 11) rfl ?_); (try (refine gate_guard (by rfl) ?_; dsimp only)); refine Kd.N_lit k37 _ 37 ?hg (N' := 11) ?hd (xs := ([(⟨t189, (⟨t190, t191, t192⟩ : S35), t195, t196⟩ : S37), (⟨t197, (⟨t198, t199, t200⟩ : S35), t203, t204⟩ : S37), (⟨t205, (⟨t206, t207, t208⟩ : S35), t211, t212⟩ : S37)] : List (S37))) (inner := [.int .i64 t189, .int .i64 t190, .int .i64 t191, .slice Ao26 t192.length co26, .string t195, .int .i64 t196, .int .i64 t197, .int .i64 t198, .int .i64 t199, .slice Ao27 t200.length co27, .string t203, .int .i64 t204, .int .i64 t205, .int .i64 t206, .int .i64 t207, .slice Ao28 t208.length co28, .string t211, .int .i64 t212]) (ok := (fun _ => True)) (okp := (fun _ => True)) ?hr ?hp (fun _ hk => hk) ((show ∀ k_, w25.heap.size ≤ k_ → (fun _ => True) k_ from fun k_ hk => trivial) _ (Nat.le_refl _)) (Below.refl _ _) (Nat.le_refl _) (by simp) ?_; (case hd => rfl); (case hg => rfl); (case hr => first | (go_simp; done) | (go_simp; rfl)); (case hp => exact (Reps.c6 (show Kd.FK k37 _ _ (⟨t189, (⟨t190, t191, t192⟩ : S35), t195, t196⟩ : S37) [.int .i64 t189, .int .i64 t190, .int .i64 t191, .slice Ao26 t192.length co26, .string t195, .int .i64 t196] from (k37_mkF _ _ (⟨t189, (⟨t190, t191, t192⟩ : S35), t195, t196⟩ : S37) (Kd.R_reads' (Kd.R_mono (ok' := (fun _ => True)) (HO194.out) (fun k_ hk => trivial))).2.1 (Kd.R_F (Kd.R_mono (ok' := (fun _ => True)) (HO194.out) (fun k_ hk => trivial))))) (Reps.c6 (show Kd.FK k37 _ _ (⟨t197, (⟨t198, t199, t200⟩ : S35), t203, t204⟩ : S37) [.int .i64 t197, .int .i64 t198, .int .i64 t199, .slice Ao27 t200.length co27, .string t203, .int .i64 t204] from (k37_mkF _ _ (⟨t197, (⟨t198, t199, t200⟩ : S35), t203, t204⟩ : S37) (Kd.R_reads' (Kd.R_mono (ok' := (fun _ => True)) (HO202.out) (fun k_ hk => trivial))).2.1 (Kd.R_F (Kd.R_mono (ok' := (fun _ => True)) (HO202.out) (fun k_ hk => trivial))))) (Reps.c6 (show Kd.FK k37 _ _ (⟨t205, (⟨t206, t207, t208⟩ : S35), t211, t212⟩ : S37) [.int .i64 t205, .int .i64 t206, .int .i64 t207, .slice Ao28 t208.length co28, .string t211, .int .i64 t212] from (k37_mkF _ _ (⟨t205, (⟨t206, t207, t208⟩ : S35), t211, t212⟩ : S37) (Kd.R_reads' (Kd.R_mono (ok' := (fun _ => True)) (HO210.out) (fun k_ hk => trivial))).2.1 (Kd.R_F (Kd.R_mono (ok' := (fun _ => True)) (HO210.out) (fun k_ hk => trivial))))) (Reps.none _ _))))); intro v214 w29 ho30 hb hg_ hnew_; clear hg_ hnew_; (first | rw [← Ny213.out] at ho30 | (simp only [Int.reduceToNat] at ho30; rw [← Ny213.out] at ho30)); have HO215 := My.am (Kd.N_lower ho30 (below_size (My.bl_ HB))); replace HB := My.st HB hb; (try clear HO194); (try clear HO202); (try clear HO210); clear hb ho30; obtain ⟨Ao31, co31, eo31⟩ := Kd.N_slice HO215.out; subst eo31) | ((with_reducible refine gate_callee (f := 9) rfl ?_); refine goesL_ (some 12) rfl rfl Try.func9 (by kernel_rfl) rfl #[.slice none 0 0, .int .i64 1, .int .i64 5, .slice Ao31 y213.length co31] rfl My.gx ?_; (refine (outbox_Push.calls k _ _ ([] : List (S46)) 1 5 _ _ y213 t216 t217 _ ?side1 ?side2 ?side3 ?side4 A4.out).mono ?_); (case side1 => exact Kd.C_nil _ _); (case side2 => exact Nat.le_refl _); (case side3 => repeat (first | exact (Kd.N_reads' HO215.out).2.2 | (with_reducible refine Kd.C_alloc ?_ _) | (with_reducible refine Kd.C_drewN ?_ _) | (with_reducible refine Kd.C_drew ?_))); (case side4 => exact (Kd.N_reads' HO215.out).2.1); rintro e w32 ⟨v218, rfl, ho0, hb⟩; refine ⟨_, rfl, ?_⟩; have HO219 := My.am (Kd.N_lower (Kd.N_mono (ok' := fun k_ => some k_ ≠ (.slice Ao31 y213.length co31 : Value).ownBlock) (Kd.R_N (Kd.R_bound ho0)) (fun k_ hk_ => (Kd.fresh' (Kd.N_lt (by (with_reducible repeat (first | apply Kd.N_alloc | apply Kd.N_drewN | apply Kd.N_drew)); exact HO215.out)) k_ hk_.2.1))) (below_size (My.bl_ HB))); replace HO215 := My.am (Kd.N_elder' (by (with_reducible repeat (first | apply Kd.N_alloc | apply Kd.N_drewN | apply Kd.N_drew)); exact HO215.out) (Kd.R_base ho0) hb); replace HB := My.st HB hb; (try clear hb); (try clear ho0); obtain ⟨Ao33, co33, eo33⟩ := Kd.N_slice HO219.out; subst eo33) | ((with_reducible refine gate_callee (f := 16) rfl ?_); refine goesL_ (some 17) rfl rfl Try.func16 (by kernel_rfl) rfl #[.slice Ao33 t216.length co33, .int .i64 5] rfl My.gx ?_; (with_reducible refine (outbox_Due.calls k _ _ t216 5 t220 t221 _ ?side1 ?side2 A5.out).mono ?_); (case side1 => repeat (first | exact (Kd.N_reads' HO219.out).2.2 | (with_reducible refine Kd.C_alloc ?_ _) | (with_reducible refine Kd.C_drewN ?_ _) | (with_reducible refine Kd.C_drew ?_))); (case side2 => exact (Kd.N_reads' HO219.out).2.1); rintro e w34 ⟨v222, v224, rfl, ho0, ho1, hb⟩; refine ⟨_, rfl, ?_⟩; have HO223 := My.am (Kd.N_lower (Kd.N_mono (ok' := fun k_ => some k_ ≠ (v224 : Value).ownBlock ∧ some k_ ≠ (.slice Ao31 y213.length co31 : Value).ownBlock ∧ some k_ ≠ (.slice Ao33 t216.length co33 : Value).ownBlock) (Kd.R_N (Kd.R_bound ho0)) (fun k_ hk_ => ⟨hk_.1, (Kd.fresh' (Kd.N_lt (by (with_reducible repeat (first | apply Kd.N_alloc | apply Kd.N_drewN | apply Kd.N_drew)); exact HO215.out)) k_ hk_.2.1), (Kd.fresh' (Kd.N_lt (by (with_reducible repeat (first | apply Kd.N_alloc | apply Kd.N_drewN | apply Kd.N_drew)); exact HO219.out)) k_ hk_.2.1)⟩)) (below_size (My.bl_ HB))); have HO225 := My.am (Kd.N_lower (Kd.N_mono (ok' := fun k_ => some k_ ≠ (v222 : Value).ownBlock ∧ some k_ ≠ (.slice Ao31 y213.length co31 : Value).ownBlock ∧ some k_ ≠ (.slice Ao33 t216.length co33 : Value).ownBlock) (Kd.R_N (Kd.R_bound ho1)) (fun k_ hk_ => ⟨hk_.1, (Kd.fresh' (Kd.N_lt (by (with_reducible repeat (first | apply Kd.N_alloc | apply Kd.N_drewN | apply Kd.N_drew)); exact HO215.out)) k_ hk_.2.1), (Kd.fresh' (Kd.N_lt (by (with_reducible repeat (first | apply Kd.N_alloc | apply Kd.N_drewN | apply Kd.N_drew)); exact HO219.out)) k_ hk_.2.1)⟩)) (below_size (My.bl_ HB))); replace HO215 := My.am (Kd.N_mono (Kd.N_told (Kd.N_told (Kd.N_old (by (with_reducible repeat (first | apply Kd.N_alloc | apply Kd.N_drewN | apply Kd.N_drew)); exact HO215.out) hb) (Kd.R_base ho0)) (Kd.R_base ho1)) (fun _ h_ => h_.1)); replace HO219 := My.am (Kd.N_mono (Kd.N_told (Kd.N_told (Kd.N_old (by (with_reducible repeat (first | apply Kd.N_alloc | apply Kd.N_drewN | apply Kd.N_drew)); exact HO219.out) hb) (Kd.R_base ho0)) (Kd.R_base ho1)) (fun _ h_ => h_.1)); replace HB := My.st HB hb; (try clear hb); (try clear ho0); (try clear ho1)) | ((with_reducible refine gate_dst (N := 23) rfl ?_); (try (refine gate_guard (by rfl) ?_; dsimp only)); refine Kd.N_lit k37 _ 37 ?hg (N' := 23) ?hd (xs := ([(⟨0, (⟨0, 0, ([] : List (S62))⟩ : S35), (⟨#[]⟩ : ByteArray), 0⟩ : S37)] : List (S37))) (inner := [.int .i64 0, .int .i64 0, .int .i64 0, .slice none 0 0, .string (⟨#[]⟩ : ByteArray), .int .i64 0]) (ok := (fun k_ => some k_ ≠ (.slice Ao31 y213.length co31 : Value).ownBlock ∧ some k_ ≠ (.slice Ao33 t216.length co33 : Value).ownBlock ∧ some k_ ≠ (v222 : Value).ownBlock ∧ some k_ ≠ (v224 : Value).ownBlock)) (okp := (fun k_ => some k_ ≠ (.slice Ao31 y213.length co31 : Value).ownBlock ∧ some k_ ≠ (.slice Ao33 t216.length co33 : Value).ownBlock ∧ some k_ ≠ (v222 : Value).ownBlock ∧ some k_ ≠ (v224 : Value).ownBlock)) ?hr ?hp (fun _ hk => hk) ((show ∀ k_, w34.heap.size ≤ k_ → (fun k_ => some k_ ≠ (.slice Ao31 y213.length co31 : Value).ownBlock ∧ some k_ ≠ (.slice Ao33 t216.length co33 : Value).ownBlock ∧ some k_ ≠ (v222 : Value).ownBlock ∧ some k_ ≠ (v224 : Value).ownBlock) k_ from fun k_ hk => ⟨Kd.fresh' (Kd.N_lt (by (with_reducible repeat (first | apply Kd.N_alloc | apply Kd.N_drewN | apply Kd.N_drew)); exact HO215.out)) k_ hk, Kd.fresh' (Kd.N_lt (by (with_reducible repeat (first | apply Kd.N_alloc | apply Kd.N_drewN | apply Kd.N_drew)); exact HO219.out)) k_ hk, Kd.fresh' (Kd.N_lt (by (with_reducible repeat (first | apply Kd.N_alloc | apply Kd.N_drewN | apply Kd.N_drew)); exact HO223.out)) k_ hk, Kd.fresh' (Kd.N_lt (by (with_reducible repeat (first | apply Kd.N_alloc | apply Kd.N_drewN | apply Kd.N_drew)); exact HO225.out)) k_ hk⟩) _ (Nat.le_refl _)) (Below.refl _ _) (Nat.le_refl _) (by simp) ?_; (case hd => rfl); (case hg => rfl); (case hr => first | (go_simp; done) | (go_simp; rfl)); (case hp => exact (Reps.c6 (show Kd.FK k37 _ _ (⟨0, (⟨0, 0, ([] : List (S62))⟩ : S35), (⟨#[]⟩ : ByteArray), 0⟩ : S37) [.int .i64 0, .int .i64 0, .int .i64 0, .slice none 0 0, .string (⟨#[]⟩ : ByteArray), .int .i64 0] from (k37_mkF _ _ (⟨0, (⟨0, 0, ([] : List (S62))⟩ : S35), (⟨#[]⟩ : ByteArray), 0⟩ : S37) (Nat.le_refl _) (Kd.F_nil _ _ _))) (Reps.none _ _))); intro v227 w35 ho36 hb hg_ hnew_; clear hg_ hnew_; (first | rw [← Ny226.out] at ho36 | (simp only [Int.reduceToNat] at ho36; rw [← Ny226.out] at ho36)); replace HO215 := My.am (Kd.N_elder' (by (with_reducible repeat (first | apply Kd.N_alloc | apply Kd.N_drewN | apply Kd.N_drew)); exact HO215.out) (Kd.N_base ho36) hb); replace HO219 := My.am (Kd.N_elder' (by (with_reducible repeat (first | apply Kd.N_alloc | apply Kd.N_drewN | apply Kd.N_drew)); exact HO219.out) (Kd.N_base ho36) hb); replace HO223 := My.am (Kd.N_elder' (by (with_reducible repeat (first | apply Kd.N_alloc | apply Kd.N_drewN | apply Kd.N_drew)); exact HO223.out) (Kd.N_base ho36) hb); replace HO225 := My.am (Kd.N_elder' (by (with_reducible repeat (first | apply Kd.N_alloc | apply Kd.N_drewN | apply Kd.N_drew)); exact HO225.out) (Kd.N_base ho36) hb); have HO228 := My.am (Kd.N_lower ho36 (below_size (My.bl_ HB))); replace HB := My.st HB hb; clear hb ho36; obtain ⟨Ao37, co37, eo37⟩ := Kd.N_slice HO228.out; subst eo37) | ((with_reducible refine gate_callee (f := 9) rfl ?_); refine goesL_ (some 24) rfl rfl Try.func9 (by kernel_rfl) rfl #[.slice Ao33 t216.length co33, .int .i64 1, .int .i64 5, .slice Ao37 y226.length co37] rfl My.gx ?_; (with_reducible refine (outbox_Push.calls k _ _ t216 1 5 _ _ y226 t229 t230 _ ?side1 ?side2 ?side3 ?side4 A6.out).mono ?_); (case side1 => repeat (first | exact (Kd.N_reads' HO219.out).2.2 | (with_reducible refine Kd.C_alloc ?_ _) | (with_reducible refine Kd.C_drewN ?_ _) | (with_reducible refine Kd.C_drew ?_))); (case side2 => exact (Kd.N_reads' HO219.out).2.1); (case side3 => repeat (first | exact (Kd.N_reads' HO228.out).2.2 | (with_reducible refine Kd.C_alloc ?_ _) | (with_reducible refine Kd.C_drewN ?_ _) | (with_reducible refine Kd.C_drew ?_))); (case side4 => exact (Kd.N_reads' HO228.out).2.1); rintro e w38 ⟨v231, rfl, ho0, hb⟩; refine ⟨_, rfl, ?_⟩; have HO232 := My.am (Kd.N_lower (Kd.N_mono (ok' := fun k_ => some k_ ≠ (.slice Ao31 y213.length co31 : Value).ownBlock ∧ some k_ ≠ (.slice Ao33 t216.length co33 : Value).ownBlock ∧ some k_ ≠ (v222 : Value).ownBlock ∧ some k_ ≠ (v224 : Value).ownBlock ∧ some k_ ≠ (.slice Ao37 y226.length co37 : Value).ownBlock) (Kd.R_N (Kd.R_bound ho0)) (fun k_ hk_ => ⟨(Kd.fresh' (Kd.N_lt (by (with_reducible repeat (first | apply Kd.N_alloc | apply Kd.N_drewN | apply Kd.N_drew)); exact HO215.out)) k_ hk_.2.1), (Kd.fresh' (Kd.N_lt (by (with_reducible repeat (first | apply Kd.N_alloc | apply Kd.N_drewN | apply Kd.N_drew)); exact HO219.out)) k_ hk_.2.1), (Kd.fresh' (Kd.N_lt (by (with_reducible repeat (first | apply Kd.N_alloc | apply Kd.N_drewN | apply Kd.N_drew)); exact HO223.out)) k_ hk_.2.1), (Kd.fresh' (Kd.N_lt (by (with_reducible repeat (first | apply Kd.N_alloc | apply Kd.N_drewN | apply Kd.N_drew)); exact HO225.out)) k_ hk_.2.1), (Kd.fresh' (Kd.N_lt (by (with_reducible repeat (first | apply Kd.N_alloc | apply Kd.N_drewN | apply Kd.N_drew)); exact HO228.out)) k_ hk_.2.1)⟩)) (below_size (My.bl_ HB))); replace HO215 := My.am (Kd.N_elder' (by (with_reducible repeat (first | apply Kd.N_alloc | apply Kd.N_drewN | apply Kd.N_drew)); exact HO215.out) (Kd.R_base ho0) hb); replace HO219 := My.am (Kd.N_elder' (by (with_reducible repeat (first | apply Kd.N_alloc | apply Kd.N_drewN | apply Kd.N_drew)); exact HO219.out) (Kd.R_base ho0) hb); replace HO223 := My.am (Kd.N_elder' (by (with_reducible repeat (first | apply Kd.N_alloc | apply Kd.N_drewN | apply Kd.N_drew)); exact HO223.out) (Kd.R_base ho0) hb); replace HO225 := My.am (Kd.N_elder' (by (with_reducible repeat (first | apply Kd.N_alloc | apply Kd.N_drewN | apply Kd.N_drew)); exact HO225.out) (Kd.R_base ho0) hb); replace HO228 := My.am (Kd.N_elder' (by (with_reducible repeat (first | apply Kd.N_alloc | apply Kd.N_drewN | apply Kd.N_drew)); exact HO228.out) (Kd.R_base ho0) hb); replace HB := My.st HB hb; (try clear hb); (try clear ho0); have p233 : 0 ≤ (1 : Int) := (by omega); have q233 : 1 < (t216.length : Int) := My.as_; obtain ⟨ad233, A233_6, c233_6, e233, hx233_0, hx233_1, hx233_2, hx233_3, hx233_4, hx233_5, hx233_6, hx233_7, hx233_8, hl233_6, hi233_6⟩ := at_T46 (Kd.N_reads' HO219.out).2.2 1 p233 q233; cases e233; obtain ⟨ce233, hce233, hMe233, hcc233⟩ := Kd.N_get HO219.out z46 1 p233 (by first | exact q233 | exact My.as_ | (have e_ := (Kd.N_reads' HO219.out).1; omega)); obtain ⟨ua233_6, uc233_6, rfl, ul233_6, ge233_6⟩ := k46_openF hMe233; have hv233_6 := hcc233 6 _ rfl; rw [add_field _ _ 6 (by omega)] at hv233_6; replace hv233_6 := Option.some.inj (hv233_6.symm.trans hx233_6); injection hv233_6 with hva_ hvn_ hvc_; rw [hva_] at ge233_6; rw [hvc_] at ul233_6; have HL233_6 := My.am (show Kd.V k62 62 _ w.heap.size _ _ ((rd_T46 t216 1).f3.f1.f2) from Kd.V_mk ul233_6 ge233_6); clear hva_ hvn_ hvc_ ge233_6 ul233_6; clear hcc233 hce233; (try simp only [show (1 : Int).toNat = 1 from rfl, Nat.reduceMul, Nat.reduceEqDiff, Go.Addr.add, ↓reduceIte] at hx233_0); (try simp only [show (1 : Int).toNat = 1 from rfl, Nat.reduceMul, Nat.reduceEqDiff, Go.Addr.add, ↓reduceIte] at hx233_1); (try simp only [show (1 : Int).toNat = 1 from rfl, Nat.reduceMul, Nat.reduceEqDiff, Go.Addr.add, ↓reduceIte] at hx233_2); (try simp only [show (1 : Int).toNat = 1 from rfl, Nat.reduceMul, Nat.reduceEqDiff, Go.Addr.add, ↓reduceIte] at hx233_3); (try simp only [show (1 : Int).toNat = 1 from rfl, Nat.reduceMul, Nat.reduceEqDiff, Go.Addr.add, ↓reduceIte] at hx233_4); (try simp only [show (1 : Int).toNat = 1 from rfl, Nat.reduceMul, Nat.reduceEqDiff, Go.Addr.add, ↓reduceIte] at hx233_5); (try simp only [show (1 : Int).toNat = 1 from rfl, Nat.reduceMul, Nat.reduceEqDiff, Go.Addr.add, ↓reduceIte] at hx233_6); (try simp only [show (1 : Int).toNat = 1 from rfl, Nat.reduceMul, Nat.reduceEqDiff, Go.Addr.add, ↓reduceIte] at hx233_7); (try simp only [show (1 : Int).toNat = 1 from rfl, Nat.reduceMul, Nat.reduceEqDiff, Go.Addr.add, ↓reduceIte] at hx233_8); have qi233 : (1 < t216.length) = True := eq_true (by omega); (try rw [show ((1 : Int)).toNat = 1 from rfl] at hx233_0); (try rw [show 1 * 9 = 9 from rfl] at hx233_0); (try rw [show ((1 : Int)).toNat = 1 from rfl] at hx233_1); (try rw [show 1 * 9 = 9 from rfl] at hx233_1); (try rw [show ((1 : Int)).toNat = 1 from rfl] at hx233_2); (try rw [show 1 * 9 = 9 from rfl] at hx233_2); (try rw [show ((1 : Int)).toNat = 1 from rfl] at hx233_3); (try rw [show 1 * 9 = 9 from rfl] at hx233_3); (try rw [show ((1 : Int)).toNat = 1 from rfl] at hx233_4); (try rw [show 1 * 9 = 9 from rfl] at hx233_4); (try rw [show ((1 : Int)).toNat = 1 from rfl] at hx233_5); (try rw [show 1 * 9 = 9 from rfl] at hx233_5); (try rw [show ((1 : Int)).toNat = 1 from rfl] at hx233_6); (try rw [show 1 * 9 = 9 from rfl] at hx233_6); (try rw [show ((1 : Int)).toNat = 1 from rfl] at hx233_7); (try rw [show 1 * 9 = 9 from rfl] at hx233_7); (try rw [show ((1 : Int)).toNat = 1 from rfl] at hx233_8); (try rw [show 1 * 9 = 9 from rfl] at hx233_8); have HR233_6 := My.am hi233_6; have HC233_6 := My.am hl233_6; clear hi233_6 hl233_6; replace p233 := eq_true p233; replace q233 := eq_true q233; have p234 : 0 ≤ (1 : Int) := (by omega); have q234 : 1 < (t216.length : Int) := My.as_; obtain ⟨ad234, A234_6, c234_6, e234, hx234_0, hx234_1, hx234_2, hx234_3, hx234_4, hx234_5, hx234_6, hx234_7, hx234_8, hl234_6, hi234_6⟩ := at_T46 (Kd.N_reads' HO219.out).2.2 1 p234 q234; obtain rfl : ad233 = ad234 := (by injection e234); obtain ⟨ce234, hce234, hMe234, hcc234⟩ := Kd.N_get HO219.out z46 1 p234 (by first | exact q234 | exact My.as_ | (have e_ := (Kd.N_reads' HO219.out).1; omega)); obtain ⟨ua234_6, uc234_6, rfl, ul234_6, ge234_6⟩ := k46_openF hMe234; have hv234_6 := hcc234 6 _ rfl; rw [add_field _ _ 6 (by omega)] at hv234_6; replace hv234_6 := Option.some.inj (hv234_6.symm.trans hx234_6); injection hv234_6 with hva_ hvn_ hvc_; rw [hva_] at ge234_6; rw [hvc_] at ul234_6; have HL234_6 := My.am (show Kd.V k62 62 _ w.heap.size _ _ ((rd_T46 t216 1).f3.f1.f2) from Kd.V_mk ul234_6 ge234_6); clear hva_ hvn_ hvc_ ge234_6 ul234_6; clear hcc234 hce234; (try simp only [show (1 : Int).toNat = 1 from rfl, Nat.reduceMul, Nat.reduceEqDiff, Go.Addr.add, ↓reduceIte] at hx234_0); (try simp only [show (1 : Int).toNat = 1 from rfl, Nat.reduceMul, Nat.reduceEqDiff, Go.Addr.add, ↓reduceIte] at hx234_1); (try simp only [show (1 : Int).toNat = 1 from rfl, Nat.reduceMul, Nat.reduceEqDiff, Go.Addr.add, ↓reduceIte] at hx234_2); (try simp only [show (1 : Int).toNat = 1 from rfl, Nat.reduceMul, Nat.reduceEqDiff, Go.Addr.add, ↓reduceIte] at hx234_3); (try simp only [show (1 : Int).toNat = 1 from rfl, Nat.reduceMul, Nat.reduceEqDiff, Go.Addr.add, ↓reduceIte] at hx234_4); (try simp only [show (1 : Int).toNat = 1 from rfl, Nat.reduceMul, Nat.reduceEqDiff, Go.Addr.add, ↓reduceIte] at hx234_5); (try simp only [show (1 : Int).toNat = 1 from rfl, Nat.reduceMul, Nat.reduceEqDiff, Go.Addr.add, ↓reduceIte] at hx234_6); (try simp only [show (1 : Int).toNat = 1 from rfl, Nat.reduceMul, Nat.reduceEqDiff, Go.Addr.add, ↓reduceIte] at hx234_7); (try simp only [show (1 : Int).toNat = 1 from rfl, Nat.reduceMul, Nat.reduceEqDiff, Go.Addr.add, ↓reduceIte] at hx234_8); have qi234 : (1 < t216.length) = True := eq_true (by omega); (try rw [show ((1 : Int)).toNat = 1 from rfl] at hx234_0); (try rw [show 1 * 9 = 9 from rfl] at hx234_0); (try rw [show ((1 : Int)).toNat = 1 from rfl] at hx234_1); (try rw [show 1 * 9 = 9 from rfl] at hx234_1); (try rw [show ((1 : Int)).toNat = 1 from rfl] at hx234_2); (try rw [show 1 * 9 = 9 from rfl] at hx234_2); (try rw [show ((1 : Int)).toNat = 1 from rfl] at hx234_3); (try rw [show 1 * 9 = 9 from rfl] at hx234_3); (try rw [show ((1 : Int)).toNat = 1 from rfl] at hx234_4); (try rw [show 1 * 9 = 9 from rfl] at hx234_4); (try rw [show ((1 : Int)).toNat = 1 from rfl] at hx234_5); (try rw [show 1 * 9 = 9 from rfl] at hx234_5); (try rw [show ((1 : Int)).toNat = 1 from rfl] at hx234_6); (try rw [show 1 * 9 = 9 from rfl] at hx234_6); (try rw [show ((1 : Int)).toNat = 1 from rfl] at hx234_7); (try rw [show 1 * 9 = 9 from rfl] at hx234_7); (try rw [show ((1 : Int)).toNat = 1 from rfl] at hx234_8); (try rw [show 1 * 9 = 9 from rfl] at hx234_8); have HR234_6 := My.am hi234_6; have HC234_6 := My.am hl234_6; clear hi234_6 hl234_6; replace p234 := eq_true p234; replace q234 := eq_true q234; have ea_ := Option.some.inj (hx233_6.symm.trans hx234_6); injection ea_ with ea_ en_ ec_; subst ea_; subst ec_; clear en_; obtain ⟨Ao39, co39, eo39⟩ := Kd.N_slice HO225.out; subst eo39; obtain ⟨Ao40, co40, eo40⟩ := Kd.N_slice HO223.out; subst eo40; have p235 : 0 ≤ (0 : Int) := (by omega); have q235 : 0 < (t220.length : Int) := My.as_; obtain ⟨ad235, A235_6, c235_6, e235, hx235_0, hx235_1, hx235_2, hx235_3, hx235_4, hx235_5, hx235_6, hx235_7, hx235_8, hl235_6, hi235_6⟩ := at_T46 (Kd.N_reads' HO223.out).2.2 0 p235 q235; cases e235; obtain ⟨ce235, hce235, hMe235, hcc235⟩ := Kd.N_get HO223.out z46 0 p235 (by first | exact q235 | exact My.as_ | (have e_ := (Kd.N_reads' HO223.out).1; omega)); obtain ⟨ua235_6, uc235_6, rfl, ul235_6, ge235_6⟩ := k46_openF hMe235; have hv235_6 := hcc235 6 _ rfl; rw [add_field _ _ 6 (by omega)] at hv235_6; replace hv235_6 := Option.some.inj (hv235_6.symm.trans hx235_6); injection hv235_6 with hva_ hvn_ hvc_; rw [hva_] at ge235_6; rw [hvc_] at ul235_6; have HL235_6 := My.am (show Kd.V k62 62 _ w.heap.size _ _ ((rd_T46 t220 0).f3.f1.f2) from Kd.V_mk ul235_6 ge235_6); clear hva_ hvn_ hvc_ ge235_6 ul235_6; clear hcc235 hce235; have qi235 : (0 < t220.length) = True := eq_true (by omega); (try rw [show ((0 : Int)).toNat = 0 from rfl] at hx235_0); (try rw [show 0 * 9 = 0 from rfl] at hx235_0); (try rw [Addr.add_zero'] at hx235_0); (try rw [show ((0 : Int)).toNat = 0 from rfl] at hx235_1); (try rw [show 0 * 9 = 0 from rfl] at hx235_1); (try rw [Addr.add_zero'] at hx235_1); (try rw [show ((0 : Int)).toNat = 0 from rfl] at hx235_2); (try rw [show 0 * 9 = 0 from rfl] at hx235_2); (try rw [Addr.add_zero'] at hx235_2); (try rw [show ((0 : Int)).toNat = 0 from rfl] at hx235_3); (try rw [show 0 * 9 = 0 from rfl] at hx235_3); (try rw [Addr.add_zero'] at hx235_3); (try rw [show ((0 : Int)).toNat = 0 from rfl] at hx235_4); (try rw [show 0 * 9 = 0 from rfl] at hx235_4); (try rw [Addr.add_zero'] at hx235_4); (try rw [show ((0 : Int)).toNat = 0 from rfl] at hx235_5); (try rw [show 0 * 9 = 0 from rfl] at hx235_5); (try rw [Addr.add_zero'] at hx235_5); (try rw [show ((0 : Int)).toNat = 0 from rfl] at hx235_6); (try rw [show 0 * 9 = 0 from rfl] at hx235_6); (try rw [Addr.add_zero'] at hx235_6); (try rw [show ((0 : Int)).toNat = 0 from rfl] at hx235_7); (try rw [show 0 * 9 = 0 from rfl] at hx235_7); (try rw [Addr.add_zero'] at hx235_7); (try rw [show ((0 : Int)).toNat = 0 from rfl] at hx235_8); (try rw [show 0 * 9 = 0 from rfl] at hx235_8); (try rw [Addr.add_zero'] at hx235_8); have HR235_6 := My.am hi235_6; have HC235_6 := My.am hl235_6; clear hi235_6 hl235_6; replace p235 := eq_true p235; replace q235 := eq_true q235; have p236 : 0 ≤ (0 : Int) := (by omega); have q236 : 0 < (t220.length : Int) := My.as_; obtain ⟨ad236, A236_6, c236_6, e236, hx236_0, hx236_1, hx236_2, hx236_3, hx236_4, hx236_5, hx236_6, hx236_7, hx236_8, hl236_6, hi236_6⟩ := at_T46 (Kd.N_reads' HO223.out).2.2 0 p236 q236; obtain rfl : ad235 = ad236 := (by injection e236); obtain ⟨ce236, hce236, hMe236, hcc236⟩ := Kd.N_get HO223.out z46 0 p236 (by first | exact q236 | exact My.as_ | (have e_ := (Kd.N_reads' HO223.out).1; omega)); obtain ⟨ua236_6, uc236_6, rfl, ul236_6, ge236_6⟩ := k46_openF hMe236; have hv236_6 := hcc236 6 _ rfl; rw [add_field _ _ 6 (by omega)] at hv236_6; replace hv236_6 := Option.some.inj (hv236_6.symm.trans hx236_6); injection hv236_6 with hva_ hvn_ hvc_; rw [hva_] at ge236_6; rw [hvc_] at ul236_6; have HL236_6 := My.am (show Kd.V k62 62 _ w.heap.size _ _ ((rd_T46 t220 0).f3.f1.f2) from Kd.V_mk ul236_6 ge236_6); clear hva_ hvn_ hvc_ ge236_6 ul236_6; clear hcc236 hce236; have qi236 : (0 < t220.length) = True := eq_true (by omega); (try rw [show ((0 : Int)).toNat = 0 from rfl] at hx236_0); (try rw [show 0 * 9 = 0 from rfl] at hx236_0); (try rw [Addr.add_zero'] at hx236_0); (try rw [show ((0 : Int)).toNat = 0 from rfl] at hx236_1); (try rw [show 0 * 9 = 0 from rfl] at hx236_1); (try rw [Addr.add_zero'] at hx236_1); (try rw [show ((0 : Int)).toNat = 0 from rfl] at hx236_2); (try rw [show 0 * 9 = 0 from rfl] at hx236_2); (try rw [Addr.add_zero'] at hx236_2); (try rw [show ((0 : Int)).toNat = 0 from rfl] at hx236_3); (try rw [show 0 * 9 = 0 from rfl] at hx236_3); (try rw [Addr.add_zero'] at hx236_3); (try rw [show ((0 : Int)).toNat = 0 from rfl] at hx236_4); (try rw [show 0 * 9 = 0 from rfl] at hx236_4); (try rw [Addr.add_zero'] at hx236_4); (try rw [show ((0 : Int)).toNat = 0 from rfl] at hx236_5); (try rw [show 0 * 9 = 0 from rfl] at hx236_5); (try rw [Addr.add_zero'] at hx236_5); (try rw [show ((0 : Int)).toNat = 0 from rfl] at hx236_6); (try rw [show 0 * 9 = 0 from rfl] at hx236_6); (try rw [Addr.add_zero'] at hx236_6); (try rw [show ((0 : Int)).toNat = 0 from rfl] at hx236_7); (try rw [show 0 * 9 = 0 from rfl] at hx236_7); (try rw [Addr.add_zero'] at hx236_7); (try rw [show ((0 : Int)).toNat = 0 from rfl] at hx236_8); (try rw [show 0 * 9 = 0 from rfl] at hx236_8); (try rw [Addr.add_zero'] at hx236_8); have HR236_6 := My.am hi236_6; have HC236_6 := My.am hl236_6; clear hi236_6 hl236_6; replace p236 := eq_true p236; replace q236 := eq_true q236; have ea_ := Option.some.inj (hx235_6.symm.trans hx236_6); injection ea_ with ea_ en_ ec_; subst ea_; subst ec_; clear en_) | (go_at_call 23; (with_reducible refine (ententelaw19_note.calls 1 t237 t238 t239 t240 t243 t244 _ A17.out).mono ?_); rintro e w41 ⟨v241, rfl, ho0, hb⟩; replace HO215 := My.am (Kd.N_elder' (by (with_reducible repeat (first | apply Kd.N_alloc | apply Kd.N_drewN | apply Kd.N_drew)); exact HO215.out) (Kd.R_base ho0) hb); replace HO219 := My.am (Kd.N_elder' (by (with_reducible repeat (first | apply Kd.N_alloc | apply Kd.N_drewN | apply Kd.N_drew)); exact HO219.out) (Kd.R_base ho0) hb); replace HO223 := My.am (Kd.N_elder' (by (with_reducible repeat (first | apply Kd.N_alloc | apply Kd.N_drewN | apply Kd.N_drew)); exact HO223.out) (Kd.R_base ho0) hb); replace HO225 := My.am (Kd.N_elder' (by (with_reducible repeat (first | apply Kd.N_alloc | apply Kd.N_drewN | apply Kd.N_drew)); exact HO225.out) (Kd.R_base ho0) hb); replace HO228 := My.am (Kd.N_elder' (by (with_reducible repeat (first | apply Kd.N_alloc | apply Kd.N_drewN | apply Kd.N_drew)); exact HO228.out) (Kd.R_base ho0) hb); replace HO232 := My.am (Kd.N_elder' (by (with_reducible repeat (first | apply Kd.N_alloc | apply Kd.N_drewN | apply Kd.N_drew)); exact HO232.out) (Kd.R_base ho0) hb); replace HL233_6 := My.am (Kd.V_elder' (My.dV HL233_6.out) (Kd.R_base ho0) hb); replace HL234_6 := My.am (Kd.V_elder' (My.dV HL234_6.out) (Kd.R_base ho0) hb); replace HL235_6 := My.am (Kd.V_elder' (My.dV HL235_6.out) (Kd.R_base ho0) hb); replace HL236_6 := My.am (Kd.V_elder' (My.dV HL236_6.out) (Kd.R_base ho0) hb); have HO242 := My.am (Kd.R_lower ho0 (below_size (My.bl_ HB))); replace HR233_6 := My.am (Kd.C_below (by repeat (first | (with_reducible exact HR233_6.out) | (with_reducible refine Kd.C_alloc ?_ _) | (with_reducible refine Kd.C_drewN ?_ _) | (with_reducible refine Kd.C_drew ?_) | exact HR233_6.out)) hb); replace HR234_6 := My.am (Kd.C_below (by repeat (first | (with_reducible exact HR234_6.out) | (with_reducible refine Kd.C_alloc ?_ _) | (with_reducible refine Kd.C_drewN ?_ _) | (with_reducible refine Kd.C_drew ?_) | exact HR234_6.out)) hb); replace HR235_6 := My.am (Kd.C_below (by repeat (first | (with_reducible exact HR235_6.out) | (with_reducible refine Kd.C_alloc ?_ _) | (with_reducible refine Kd.C_drewN ?_ _) | (with_reducible refine Kd.C_drew ?_) | exact HR235_6.out)) hb); replace HR236_6 := My.am (Kd.C_below (by repeat (first | (with_reducible exact HR236_6.out) | (with_reducible refine Kd.C_alloc ?_ _) | (with_reducible refine Kd.C_drewN ?_ _) | (with_reducible refine Kd.C_drew ?_) | exact HR236_6.out)) hb); replace HB := My.st HB hb; (try clear hb); (try clear ho0); obtain ⟨Ao42, co42, eo42⟩ := Kd.R_slice HO242.out; subst eo42) | (go_at_call 11; (with_reducible refine (outbox_Has.calls k _ _ t216 t237 t238 t239 _ _ t240 t243 t244 true _ ?side1 ?side2 ?side3 ?side4 A18.out).mono ?_); (case side1 => repeat (first | exact (Kd.N_reads' HO219.out).2.2 | (with_reducible refine Kd.C_alloc ?_ _) | (with_reducible refine Kd.C_drewN ?_ _) | (with_reducible refine Kd.C_drew ?_))); (case side2 => exact (Kd.N_reads' HO219.out).2.1); (case side3 => repeat (first | exact (Kd.R_reads' HO242.out).2.2 | (with_reducible refine Kd.C_alloc ?_ _) | (with_reducible refine Kd.C_drewN ?_ _) | (with_reducible refine Kd.C_drew ?_))); (case side4 => exact (Kd.R_reads' HO242.out).2.1); rintro e w43 ⟨rfl, hb⟩; replace HO215 := My.am (Kd.N_below (by (with_reducible repeat (first | apply Kd.N_alloc | apply Kd.N_drewN | apply Kd.N_drew)); exact HO215.out) hb); replace HO219 := My.am (Kd.N_below (by (with_reducible repeat (first | apply Kd.N_alloc | apply Kd.N_drewN | apply Kd.N_drew)); exact HO219.out) hb); replace HO223 := My.am (Kd.N_below (by (with_reducible repeat (first | apply Kd.N_alloc | apply Kd.N_drewN | apply Kd.N_drew)); exact HO223.out) hb); replace HO225 := My.am (Kd.N_below (by (with_reducible repeat (first | apply Kd.N_alloc | apply Kd.N_drewN | apply Kd.N_drew)); exact HO225.out) hb); replace HO228 := My.am (Kd.N_below (by (with_reducible repeat (first | apply Kd.N_alloc | apply Kd.N_drewN | apply Kd.N_drew)); exact HO228.out) hb); replace HO232 := My.am (Kd.N_below (by (with_reducible repeat (first | apply Kd.N_alloc | apply Kd.N_drewN | apply Kd.N_drew)); exact HO232.out) hb); replace HL233_6 := My.am (Kd.V_below (My.dV HL233_6.out) hb); replace HL234_6 := My.am (Kd.V_below (My.dV HL234_6.out) hb); replace HL235_6 := My.am (Kd.V_below (My.dV HL235_6.out) hb); replace HL236_6 := My.am (Kd.V_below (My.dV HL236_6.out) hb); replace HO242 := My.am (Kd.R_below (My.dr HO242.out) hb); replace HR233_6 := My.am (Kd.C_below (by repeat (first | (with_reducible exact HR233_6.out) | (with_reducible refine Kd.C_alloc ?_ _) | (with_reducible refine Kd.C_drewN ?_ _) | (with_reducible refine Kd.C_drew ?_) | exact HR233_6.out)) hb); replace HR234_6 := My.am (Kd.C_below (by repeat (first | (with_reducible exact HR234_6.out) | (with_reducible refine Kd.C_alloc ?_ _) | (with_reducible refine Kd.C_drewN ?_ _) | (with_reducible refine Kd.C_drew ?_) | exact HR234_6.out)) hb); replace HR235_6 := My.am (Kd.C_below (by repeat (first | (with_reducible exact HR235_6.out) | (with_reducible refine Kd.C_alloc ?_ _) | (with_reducible refine Kd.C_drewN ?_ _) | (with_reducible refine Kd.C_drew ?_) | exact HR235_6.out)) hb); replace HR236_6 := My.am (Kd.C_below (by repeat (first | (with_reducible exact HR236_6.out) | (with_reducible refine Kd.C_alloc ?_ _) | (with_reducible refine Kd.C_drewN ?_ _) | (with_reducible refine Kd.C_drew ?_) | exact HR236_6.out)) hb); replace HB := My.st HB hb; (try clear hb)) | (go_at_call 19; (with_reducible refine (outbox_Answered.calls k _ _ t216 1 t246 _ ?side1 ?side2 A20.out).mono ?_); (case side1 => repeat (first | exact (Kd.N_reads' HO219.out).2.2 | (with_reducible refine Kd.C_alloc ?_ _) | (with_reducible refine Kd.C_drewN ?_ _) | (with_reducible refine Kd.C_drew ?_))); (case side2 => exact (Kd.N_reads' HO219.out).2.1); rintro e w44 ⟨v247, rfl, ho0, hb⟩; replace HL233_6 := My.am (Kd.V_elder' (My.dV HL233_6.out) (Kd.R_base ho0) hb); replace HL234_6 := My.am (Kd.V_elder' (My.dV HL234_6.out) (Kd.R_base ho0) hb); replace HL235_6 := My.am (Kd.V_elder' (My.dV HL235_6.out) (Kd.R_base ho0) hb); replace HL236_6 := My.am (Kd.V_elder' (My.dV HL236_6.out) (Kd.R_base ho0) hb); have HO248 := My.am (Kd.N_lower (Kd.N_mono (ok' := fun k_ => some k_ ≠ (.slice Ao31 y213.length co31 : Value).ownBlock ∧ some k_ ≠ (.slice (some ad233) t216.length co33 : Value).ownBlock ∧ some k_ ≠ (.slice (some ad235) t220.length co40 : Value).ownBlock ∧ some k_ ≠ (.slice Ao39 t221.length co39 : Value).ownBlock ∧ some k_ ≠ (.slice Ao37 y226.length co37 : Value).ownBlock ∧ some k_ ≠ (v231 : Value).ownBlock ∧ some k_ ≠ (.slice Ao42 t240.length co42 : Value).ownBlock) (Kd.R_N (Kd.R_bound ho0)) (fun k_ hk_ => ⟨(Kd.fresh' (Kd.N_lt (by (with_reducible repeat (first | apply Kd.N_alloc | apply Kd.N_drewN | apply Kd.N_drew)); exact HO215.out)) k_ hk_.2.1), (Kd.fresh' (Kd.N_lt (by (with_reducible repeat (first | apply Kd.N_alloc | apply Kd.N_drewN | apply Kd.N_drew)); exact HO219.out)) k_ hk_.2.1), (Kd.fresh' (Kd.N_lt (by (with_reducible repeat (first | apply Kd.N_alloc | apply Kd.N_drewN | apply Kd.N_drew)); exact HO223.out)) k_ hk_.2.1), (Kd.fresh' (Kd.N_lt (by (with_reducible repeat (first | apply Kd.N_alloc | apply Kd.N_drewN | apply Kd.N_drew)); exact HO225.out)) k_ hk_.2.1), (Kd.fresh' (Kd.N_lt (by (with_reducible repeat (first | apply Kd.N_alloc | apply Kd.N_drewN | apply Kd.N_drew)); exact HO228.out)) k_ hk_.2.1), (Kd.fresh' (Kd.N_lt (by (with_reducible repeat (first | apply Kd.N_alloc | apply Kd.N_drewN | apply Kd.N_drew)); exact HO232.out)) k_ hk_.2.1), (Kd.fresh' (Kd.R_lt (My.dr HO242.out)) k_ hk_.2.1)⟩)) (below_size (My.bl_ HB))); replace HO215 := My.am (Kd.N_elder' (by (with_reducible repeat (first | apply Kd.N_alloc | apply Kd.N_drewN | apply Kd.N_drew)); exact HO215.out) (Kd.R_base ho0) hb); replace HO219 := My.am (Kd.N_elder' (by (with_reducible repeat (first | apply Kd.N_alloc | apply Kd.N_drewN | apply Kd.N_drew)); exact HO219.out) (Kd.R_base ho0) hb); replace HO223 := My.am (Kd.N_elder' (by (with_reducible repeat (first | apply Kd.N_alloc | apply Kd.N_drewN | apply Kd.N_drew)); exact HO223.out) (Kd.R_base ho0) hb); replace HO225 := My.am (Kd.N_elder' (by (with_reducible repeat (first | apply Kd.N_alloc | apply Kd.N_drewN | apply Kd.N_drew)); exact HO225.out) (Kd.R_base ho0) hb); replace HO228 := My.am (Kd.N_elder' (by (with_reducible repeat (first | apply Kd.N_alloc | apply Kd.N_drewN | apply Kd.N_drew)); exact HO228.out) (Kd.R_base ho0) hb); replace HO232 := My.am (Kd.N_elder' (by (with_reducible repeat (first | apply Kd.N_alloc | apply Kd.N_drewN | apply Kd.N_drew)); exact HO232.out) (Kd.R_base ho0) hb); replace HO242 := My.am (Kd.R_below (My.dr HO242.out) hb); replace HR233_6 := My.am (Kd.C_below (by repeat (first | (with_reducible exact HR233_6.out) | (with_reducible refine Kd.C_alloc ?_ _) | (with_reducible refine Kd.C_drewN ?_ _) | (with_reducible refine Kd.C_drew ?_) | exact HR233_6.out)) hb); replace HR234_6 := My.am (Kd.C_below (by repeat (first | (with_reducible exact HR234_6.out) | (with_reducible refine Kd.C_alloc ?_ _) | (with_reducible refine Kd.C_drewN ?_ _) | (with_reducible refine Kd.C_drew ?_) | exact HR234_6.out)) hb); replace HR235_6 := My.am (Kd.C_below (by repeat (first | (with_reducible exact HR235_6.out) | (with_reducible refine Kd.C_alloc ?_ _) | (with_reducible refine Kd.C_drewN ?_ _) | (with_reducible refine Kd.C_drew ?_) | exact HR235_6.out)) hb); replace HR236_6 := My.am (Kd.C_below (by repeat (first | (with_reducible exact HR236_6.out) | (with_reducible refine Kd.C_alloc ?_ _) | (with_reducible refine Kd.C_drewN ?_ _) | (with_reducible refine Kd.C_drew ?_) | exact HR236_6.out)) hb); replace HB := My.st HB hb; (try clear hb); (try clear ho0); obtain ⟨Ao45, co45, eo45⟩ := Kd.N_slice HO248.out; subst eo45) | ((with_reducible refine gate_dst (N := 84) rfl ?_); (try (refine gate_guard (by rfl) ?_; dsimp only)); refine Kd.N_lit k46 _ 46 ?hg (N' := 84) ?hd (xs := ([(⟨0, 0, 0, (⟨0, (⟨0, 0, ([] : List (S62))⟩ : S35), (⟨#[]⟩ : ByteArray), 0⟩ : S37)⟩ : S46)] : List (S46))) (inner := [.int .i64 0, .int .i64 0, .int .i64 0, .int .i64 0, .int .i64 0, .int .i64 0, .slice none 0 0, .string (⟨#[]⟩ : ByteArray), .int .i64 0]) (ok := (fun k_ => some k_ ≠ (.slice Ao31 y213.length co31 : Value).ownBlock ∧ some k_ ≠ (.slice (some ad233) t216.length co33 : Value).ownBlock ∧ some k_ ≠ (.slice (some ad235) t220.length co40 : Value).ownBlock ∧ some k_ ≠ (.slice Ao39 t221.length co39 : Value).ownBlock ∧ some k_ ≠ (.slice Ao37 y226.length co37 : Value).ownBlock ∧ some k_ ≠ (v231 : Value).ownBlock ∧ some k_ ≠ (.slice Ao42 t240.length co42 : Value).ownBlock ∧ some k_ ≠ (.slice Ao45 t246.length co45 : Value).ownBlock)) (okp := (fun k_ => some k_ ≠ (.slice Ao31 y213.length co31 : Value).ownBlock ∧ some k_ ≠ (.slice (some ad233) t216.length co33 : Value).ownBlock ∧ some k_ ≠ (.slice (some ad235) t220.length co40 : Value).ownBlock ∧ some k_ ≠ (.slice Ao39 t221.length co39 : Value).ownBlock ∧ some k_ ≠ (.slice Ao37 y226.length co37 : Value).ownBlock ∧ some k_ ≠ (v231 : Value).ownBlock ∧ some k_ ≠ (.slice Ao42 t240.length co42 : Value).ownBlock ∧ some k_ ≠ (.slice Ao45 t246.length co45 : Value).ownBlock)) ?hr ?hp (fun _ hk => hk) ((show ∀ k_, w44.heap.size ≤ k_ → (fun k_ => some k_ ≠ (.slice Ao31 y213.length co31 : Value).ownBlock ∧ some k_ ≠ (.slice (some ad233) t216.length co33 : Value).ownBlock ∧ some k_ ≠ (.slice (some ad235) t220.length co40 : Value).ownBlock ∧ some k_ ≠ (.slice Ao39 t221.length co39 : Value).ownBlock ∧ some k_ ≠ (.slice Ao37 y226.length co37 : Value).ownBlock ∧ some k_ ≠ (v231 : Value).ownBlock ∧ some k_ ≠ (.slice Ao42 t240.length co42 : Value).ownBlock ∧ some k_ ≠ (.slice Ao45 t246.length co45 : Value).ownBlock) k_ from fun k_ hk => ⟨Kd.fresh' (Kd.N_lt (by (with_reducible repeat (first | apply Kd.N_alloc | apply Kd.N_drewN | apply Kd.N_drew)); exact HO215.out)) k_ hk, Kd.fresh' (Kd.N_lt (by (with_reducible repeat (first | apply Kd.N_alloc | apply Kd.N_drewN | apply Kd.N_drew)); exact HO219.out)) k_ hk, Kd.fresh' (Kd.N_lt (by (with_reducible repeat (first | apply Kd.N_alloc | apply Kd.N_drewN | apply Kd.N_drew)); exact HO223.out)) k_ hk, Kd.fresh' (Kd.N_lt (by (with_reducible repeat (first | apply Kd.N_alloc | apply Kd.N_drewN | apply Kd.N_drew)); exact HO225.out)) k_ hk, Kd.fresh' (Kd.N_lt (by (with_reducible repeat (first | apply Kd.N_alloc | apply Kd.N_drewN | apply Kd.N_drew)); exact HO228.out)) k_ hk, Kd.fresh' (Kd.N_lt (by (with_reducible repeat (first | apply Kd.N_alloc | apply Kd.N_drewN | apply Kd.N_drew)); exact HO232.out)) k_ hk, Kd.fresh' (Kd.R_lt (My.dr HO242.out)) k_ hk, Kd.fresh' (Kd.N_lt (by (with_reducible repeat (first | apply Kd.N_alloc | apply Kd.N_drewN | apply Kd.N_drew)); exact HO248.out)) k_ hk⟩) _ (Nat.le_refl _)) (Below.refl _ _) (Nat.le_refl _) (by simp) ?_; (case hd => rfl); (case hg => rfl); (case hr => first | (go_simp; done) | (go_simp; rfl)); (case hp => exact (Reps.c9 (show Kd.FK k46 _ _ (⟨0, 0, 0, (⟨0, (⟨0, 0, ([] : List (S62))⟩ : S35), (⟨#[]⟩ : ByteArray), 0⟩ : S37)⟩ : S46) [.int .i64 0, .int .i64 0, .int .i64 0, .int .i64 0, .int .i64 0, .int .i64 0, .slice none 0 0, .string (⟨#[]⟩ : ByteArray), .int .i64 0] from (k46_mkF _ _ (⟨0, 0, 0, (⟨0, (⟨0, 0, ([] : List (S62))⟩ : S35), (⟨#[]⟩ : ByteArray), 0⟩ : S37)⟩ : S46) (Nat.le_refl _) (Kd.F_nil _ _ _))) (Reps.none _ _))); intro v250 w46 ho47 hb hg_ hnew_; clear hg_ hnew_; (first | rw [← Ny249.out] at ho47 | (simp only [Int.reduceToNat] at ho47; rw [← Ny249.out] at ho47)); replace HL233_6 := My.am (Kd.V_elder' (My.dV HL233_6.out) (Kd.N_base ho47) hb); replace HL234_6 := My.am (Kd.V_elder' (My.dV HL234_6.out) (Kd.N_base ho47) hb); replace HL235_6 := My.am (Kd.V_elder' (My.dV HL235_6.out) (Kd.N_base ho47) hb); replace HL236_6 := My.am (Kd.V_elder' (My.dV HL236_6.out) (Kd.N_base ho47) hb); have HO251 := My.am (Kd.N_lower ho47 (below_size (My.bl_ HB))); replace HR233_6 := My.am (Kd.C_below (by repeat (first | (with_reducible exact HR233_6.out) | (with_reducible refine Kd.C_alloc ?_ _) | (with_reducible refine Kd.C_drewN ?_ _) | (with_reducible refine Kd.C_drew ?_) | exact HR233_6.out)) hb); replace HR234_6 := My.am (Kd.C_below (by repeat (first | (with_reducible exact HR234_6.out) | (with_reducible refine Kd.C_alloc ?_ _) | (with_reducible refine Kd.C_drewN ?_ _) | (with_reducible refine Kd.C_drew ?_) | exact HR234_6.out)) hb); replace HR235_6 := My.am (Kd.C_below (by repeat (first | (with_reducible exact HR235_6.out) | (with_reducible refine Kd.C_alloc ?_ _) | (with_reducible refine Kd.C_drewN ?_ _) | (with_reducible refine Kd.C_drew ?_) | exact HR235_6.out)) hb); replace HR236_6 := My.am (Kd.C_below (by repeat (first | (with_reducible exact HR236_6.out) | (with_reducible refine Kd.C_alloc ?_ _) | (with_reducible refine Kd.C_drewN ?_ _) | (with_reducible refine Kd.C_drew ?_) | exact HR236_6.out)) hb); replace HB := My.st HB hb; clear hb ho47; obtain ⟨Ao48, co48, eo48⟩ := Kd.N_slice HO251.out; subst eo48) | (go_at_call 13; (with_reducible refine (outbox_May.calls k _ _ y249 t252 _ ?side1 ?side2 A22.out).mono ?_); (case side1 => repeat (first | exact (Kd.N_reads' HO251.out).2.2 | (with_reducible refine Kd.C_alloc ?_ _) | (with_reducible refine Kd.C_drewN ?_ _) | (with_reducible refine Kd.C_drew ?_))); (case side2 => exact (Kd.N_reads' HO251.out).2.1); rintro e w49 ⟨rfl, hb⟩; replace HL233_6 := My.am (Kd.V_below (My.dV HL233_6.out) hb); replace HL234_6 := My.am (Kd.V_below (My.dV HL234_6.out) hb); replace HL235_6 := My.am (Kd.V_below (My.dV HL235_6.out) hb); replace HL236_6 := My.am (Kd.V_below (My.dV HL236_6.out) hb); replace HR233_6 := My.am (Kd.C_below (by repeat (first | (with_reducible exact HR233_6.out) | (with_reducible refine Kd.C_alloc ?_ _) | (with_reducible refine Kd.C_drewN ?_ _) | (with_reducible refine Kd.C_drew ?_) | exact HR233_6.out)) hb); replace HR234_6 := My.am (Kd.C_below (by repeat (first | (with_reducible exact HR234_6.out) | (with_reducible refine Kd.C_alloc ?_ _) | (with_reducible refine Kd.C_drewN ?_ _) | (with_reducible refine Kd.C_drew ?_) | exact HR234_6.out)) hb); replace HR235_6 := My.am (Kd.C_below (by repeat (first | (with_reducible exact HR235_6.out) | (with_reducible refine Kd.C_alloc ?_ _) | (with_reducible refine Kd.C_drewN ?_ _) | (with_reducible refine Kd.C_drew ?_) | exact HR235_6.out)) hb); replace HR236_6 := My.am (Kd.C_below (by repeat (first | (with_reducible exact HR236_6.out) | (with_reducible refine Kd.C_alloc ?_ _) | (with_reducible refine Kd.C_drewN ?_ _) | (with_reducible refine Kd.C_drew ?_) | exact HR236_6.out)) hb); replace HB := My.st HB hb; (try clear hb)))
    go_ret
    exact ⟨My.r2, (My.bl_ HB)⟩
   rw [if_neg c21] at H
   exact absurd H (by simp)
  ·exact My.nn c8 H
 ·exact My.nn c7 H

end Go.Proofs.Ytcgmoeiknkdljaa.PA
