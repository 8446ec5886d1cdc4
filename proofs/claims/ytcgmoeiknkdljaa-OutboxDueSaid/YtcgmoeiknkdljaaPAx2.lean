-- Written by a program of this session (wip/tools/mp.py over the kit's printer); Lean checks it.
import Derived.Test.YtcgmoeiknkdljaaPAx0
import Derived.Test.YtcgmoeiknkdljaaPAx1
namespace Go.Proofs.Ytcgmoeiknkdljaa.PA
open Go.RowKit Go.Proofs.YtcgmoeiknkdljaaW.PrintWords Go.Proofs.YtcgmoeiknkdljaaW.PrintLast Go.Proofs.YtcgmoeiknkdljaaW.PrintMore
attribute [local go_sem] max2_int min2_int max_two min_two max_three min_three max_four min_four   -- for this text's walks alone
set_option linter.unusedVariables false
set_option maxHeartbeats 8000000
set_option maxRecDepth 100000
set_option linter.unusedSimpArgs false

/-! ### ident_Check: function 46 -/
/-! ident.Check: an array of what was met -/
def ident_Check.go : List Int → List Int → Bool
 | [], _ => true
 | o :: r, seen => if o < 0 ∨ o ≥ 16 ∨ o ∈ seen then false else ident_Check.go r (o :: seen)
def ident_Check.f (k : Nat) (a0_0 : Int) (a0_1 : Int) (l0_2 : List S62) : Option Int :=
 if a0_1 < 1 ∨ a0_1 > 999999 ∨ (l0_2.length : Int) > 4 then some 30 else (ident_path.f k a0_0 a0_1 l0_2).bind fun p => if ident_Check.go p [] = true then ((api_Hop_50.f k l0_2 51).bind fun t => if t = true then some 30 else some 0) else some 30
theorem ident_Check.mono : ∀ a0 a1 a2 k, LeO (ident_Check.f k a0 a1 a2) (ident_Check.f (k + 1) a0 a1 a2) := by
 intro a0 a1 a2 k
 unfold ident_Check.f
 exact LeO.ite (LeO.refl _) (LeO.bind (ident_path.mono _ _ _ _) (fun _ => LeO.ite (LeO.bind (api_Hop_50.mono _ _ _) (fun _ => LeO.refl _)) (LeO.refl _)))
/-- The cells of what was met. -/
def metA (seen : List Int) : Array Value := ((List.range 16).map fun (j : Nat) => Value.bool (decide ((j : Int) ∈ seen))).toArray
theorem metA_at (seen : List Int) (o : Int) (h0 : 0 ≤ o) (h1 : o < 16) : (metA seen)[o.toNat]? = some (.bool (decide (o ∈ seen))) := by
 unfold metA
 obtain ⟨n, rfl⟩ := Int.eq_ofNat_of_zero_le h0
 simp only [Int.toNat_natCast, List.getElem?_toArray, List.getElem?_map]
 rw [List.getElem?_range (by omega)]
 rfl
theorem metA_set (seen : List Int) (o : Int) (h0 : 0 ≤ o) (h1 : o < 16) : (metA seen).setIfInBounds o.toNat (.bool true) = metA (o :: seen) := by
 obtain ⟨n, rfl⟩ := Int.eq_ofNat_of_zero_le h0
 unfold metA
 simp only [Int.toNat_natCast, List.setIfInBounds_toArray]
 congr 1
 refine List.ext_getElem? (fun j => ?_)
 rw [List.getElem?_set, List.getElem?_map, List.getElem?_map]
 by_cases c : n = j
 ·subst c
  have hn : n < 16 := by omega
  rw [if_pos rfl, List.getElem?_range hn]
  simp [hn]
 rw [if_neg c]
 by_cases d : j < 16
 ·rw [List.getElem?_range d]
  have : ((j : Int) = (n : Int)) = False := eq_false (by omega)
  simp [List.mem_cons, this]
 rw [List.getElem?_eq_none (by simp; omega)]
 rfl
theorem rd_drop (l : List Int) (i : Nat) (h : i < l.length) : l.drop i = rd l (i : Int) :: l.drop (i + 1) := by
 rw [List.drop_eq_getElem_cons h]
 congr 1
 unfold rd
 rw [Int.toNat_natCast, List.getD_eq_getElem?_getD, List.getElem?_eq_getElem h]
 rfl
theorem ident_Check.calls (k : Nat) (a0_0 : Int) (a0_1 : Int) (A0_2 : Option Addr) (c0_2 : Nat) (l0_2 : List S62) (r : Int) (w : World) (hr0_2 : Kd.C k62 w A0_2 l0_2.length l0_2) (hc0_2 : l0_2.length ≤ c0_2) (h : ident_Check.f k a0_0 a0_1 l0_2 = some r) :
  Calls Try.prog 46 #[.agg #[.int .i64 a0_0, .int .i64 a0_1, .slice A0_2 l0_2.length c0_2]] w fun e w' => e = .returned (.int .i64 r) ∧ Below w.heap.size w w' := by
 have hu35 := Try.underlying35
 have hu73 := Try.underlying73
 have HR0 := My.am hr0_2
 have HC0 := My.am hc0_2
 have HB := My.am (Below.refl w.heap.size w)
 have H := My.am h
 clear hr0_2 hc0_2 h
 by_cases d1 : a0_1 < 1
 ·have c1 : decide (a0_1 < 1) = true := decide_eq_true d1
  have HE := H.out
  unfold ident_Check.f at HE
  rw [if_pos (Or.inl d1)] at HE
  obtain rfl := Option.some.inj HE
  clear HE d1
  go_enter Try.func46, Try.ntmps46
  go_wp2_with (first | ((with_reducible refine gate_dst (N := 1) rfl ?_); refine My.bx 1 #[.int .i64 a0_0, .int .i64 a0_1, .slice A0_2 l0_2.length c0_2] 35 ?_; intro gb hg w2 hbox hb; have BK := My.am hbox; replace HB := My.st HB hb; clear hb hbox hg; have hq1 := My.cz3 BK))
  go_ret
  exact ⟨My.r1, (My.bl_ HB)⟩
 have c1 : decide (a0_1 < 1) = false := decide_eq_false d1
 by_cases d2 : a0_1 > 999999
 ·have c2 : decide (a0_1 > 999999) = true := decide_eq_true d2
  have HE := H.out
  unfold ident_Check.f at HE
  rw [if_pos (Or.inr (Or.inl d2))] at HE
  obtain rfl := Option.some.inj HE
  clear HE d1 d2
  go_enter Try.func46, Try.ntmps46
  go_wp2_with (first | ((with_reducible refine gate_dst (N := 1) rfl ?_); refine My.bx 1 #[.int .i64 a0_0, .int .i64 a0_1, .slice A0_2 l0_2.length c0_2] 35 ?_; intro gb hg w2 hbox hb; have BK := My.am hbox; replace HB := My.st HB hb; clear hb hbox hg; have hq1 := My.cz3 BK))
  go_ret
  exact ⟨My.r1, (My.bl_ HB)⟩
 have c2 : decide (a0_1 > 999999) = false := decide_eq_false d2
 by_cases d3 : (l0_2.length : Int) > 4
 ·have c3 : decide ((l0_2.length : Int) > 4) = true := decide_eq_true d3
  have HE := H.out
  unfold ident_Check.f at HE
  rw [if_pos (Or.inr (Or.inr d3))] at HE
  obtain rfl := Option.some.inj HE
  clear HE d1 d2 d3
  go_enter Try.func46, Try.ntmps46
  go_wp2_with (first | ((with_reducible refine gate_dst (N := 1) rfl ?_); refine My.bx 1 #[.int .i64 a0_0, .int .i64 a0_1, .slice A0_2 l0_2.length c0_2] 35 ?_; intro gb hg w2 hbox hb; have BK := My.am hbox; replace HB := My.st HB hb; clear hb hbox hg; have hq1 := My.cz3 BK))
  go_ret
  exact ⟨My.r1, (My.bl_ HB)⟩
 have c3 : decide ((l0_2.length : Int) > 4) = false := decide_eq_false d3
 have HE := H.out
 unfold ident_Check.f at HE
 rw [if_neg (by rintro (g | g | g); exact d1 g; exact d2 g; exact d3 g)] at HE
 obtain ⟨p, hp, HE⟩ := Option.bind_eq_some_iff.1 HE
 have HP := My.am hp
 have HF := My.am HE
 clear HE hp d1 d2 d3
 go_enter Try.func46, Try.ntmps46
 go_wp2_with (first | ((with_reducible refine gate_dst (N := 1) rfl ?_); refine My.bx 1 #[.int .i64 a0_0, .int .i64 a0_1, .slice A0_2 l0_2.length c0_2] 35 ?_; intro gb hg w2 hbox hb; have BK := My.am hbox; replace HB := My.st HB hb; clear hb hbox hg; have hq1 := My.cz3 BK) | ((with_reducible refine gate_dst (N := 3) rfl ?_); refine My.bx 3 (metA []) 73 ?_; intro gm hm w3 hbox hb; have BM := My.am hbox; obtain ⟨NB1, NB2, BK⟩ := My.nb hm hb BK; have GM := My.nge hm (My.bl_ HB); replace HB := My.st HB hb; clear hb hbox hm hq1; have hq2 := My.cz3 BK) | ((with_reducible refine gate_callee (f := 49) rfl ?_); refine goesL_ (some 21) rfl rfl Try.func49 (by kernel_rfl) rfl #[.agg #[.int .i64 a0_0, .int .i64 a0_1, .slice A0_2 l0_2.length c0_2]] rfl My.gx ?_; (with_reducible refine (ident_path.calls k a0_0 a0_1 A0_2 c0_2 l0_2 p _ ?side1 ?side2 HP.out).mono ?_); (case side1 => exact Kd.C_below HR0.out (My.bl_ HB)); (case side2 => exact HC0.out); rintro e w4 ⟨v0, rfl, ho, hb⟩; refine ⟨_, rfl, ?_⟩; have HO := My.am ho; have HLT := My.am (blk_lt BM.out); replace BK := My.ab BK hb; replace BM := My.ab BM hb; replace HB := My.st HB hb; clear hb ho hq2; obtain ⟨Ap, cp, ep⟩ := Kd.R_slice HO.out; subst ep))
 have hcell : ∀ x : Int, 0 ≤ x → x < (p.length : Int) → ∃ ad, Ap = some ad ∧ (ad.add x.toNat).block ≠ gm ∧ w4.cell? (ad.add x.toNat) = some (.int .i64 (rd p x)) := by
  intro x h0 h1
  obtain ⟨ad, e1, h2⟩ := Kd.at_int (Kd.R_reads' HO.out).2.2 x h0 h1
  refine ⟨ad, e1, ?_, h2⟩
  obtain ⟨g, cap, e2, hb, _⟩ := Kd.R_form HO.out (by omega)
  injection e2 with e3 _ _
  rw [e1] at e3
  injection e3 with e3
  have hl := HLT.out
  rw [add_block, e3]
  show g ≠ gm
  omega
 have HCELL := My.am hcell
 have hne : gb ≠ gm := NB1.out
 have hq3 : w4.cell? ⟨gb, 2, none⟩ = some (.slice A0_2 l0_2.length c0_2) := My.b_ BK 2
 have HQ := My.am hq3
 have HNE := My.am hne
 have hmax : p.length ≤ 9223372036854775807 := (Kd.R_reads' HO.out).2.2.2.1
 clear hcell hne hq3
 go_loopg [23] (p.length + 1) (fun kq v23 w' => ∃ (i : Nat) (x : Int) (seen : List Int), v23 = .int .i64 x ∧ Aside0 (x = (i : Int)) ∧ Aside0 (kq + i = p.length + 1) ∧ Aside0 (i ≤ p.length) ∧ Aside0 (ident_Check.go (p.drop i) seen = ident_Check.go p []) ∧ Aside0 (Below w.heap.size w w') ∧ Aside0 (∀ a v, a.block ≠ gm → w4.cell? a = some v → w'.cell? a = some v) ∧ Aside0 (w'.heap[gm]? = some (.cells (metA seen) 73 (0, 0))))
 case atStart => exact ⟨0, _, [], rfl, ⟨rfl⟩, ⟨rfl⟩, ⟨Nat.zero_le _⟩, ⟨rfl⟩, ⟨(My.bl_ HB)⟩, ⟨fun a v _ h => h⟩, ⟨(My.at_ BM)⟩⟩
 case round =>
  clear HB BM
  obtain ⟨i, x, seen, rfl, hx, hk, hi, HD, HB, HK, BM⟩ := hrel
  by_cases c : i < p.length
  rotate_left
  ·have hd := HD.out
   have hi1 := hi.out
   have hx1 := hx.out
   have cc : decide (x < (p.length : Int)) = false := decide_eq_false (by omega)
   rw [List.drop_eq_nil_of_le (by omega), ident_Check.go] at hd
   have hf := HF.out
   rw [← hd, if_pos rfl] at hf
   obtain ⟨b, hb, hf⟩ := Option.bind_eq_some_iff.1 hf
   have HH := My.am hb
   have HF2 := My.am hf
   have hq := HK.out _ _ HNE.out HQ.out
   clear hd hb hf hi1 hx1 c
   cases b with
   | true =>
    have hf := HF2.out
    rw [if_pos rfl] at hf
    obtain rfl := Option.some.inj hf
    clear hf
    go_wp2_with (first | ((with_reducible refine gate_callee (f := 50) rfl ?_); refine goesL_ (some 43) rfl rfl Try.func50 (by kernel_rfl) rfl #[.slice A0_2 l0_2.length c0_2, .func (.func 51) #[] #[]] rfl My.gx ?_; (with_reducible refine (api_Hop_50.calls k A0_2 c0_2 l0_2 51 true _ ?side1 ?side2 HH.out).mono ?_); (case side1 => exact Kd.C_below HR0.out (My.bl_ HB)); (case side2 => exact HC0.out); rintro e w5 ⟨rfl, hb⟩; refine ⟨_, rfl, ?_⟩; replace HB := My.st HB hb; clear hb))
    go_ret
    exact ⟨My.r1, HB.out⟩
   | false =>
    have hf := HF2.out
    rw [if_neg Bool.false_ne_true] at hf
    obtain rfl := Option.some.inj hf
    clear hf
    go_wp2_with (first | ((with_reducible refine gate_callee (f := 50) rfl ?_); refine goesL_ (some 43) rfl rfl Try.func50 (by kernel_rfl) rfl #[.slice A0_2 l0_2.length c0_2, .func (.func 51) #[] #[]] rfl My.gx ?_; (with_reducible refine (api_Hop_50.calls k A0_2 c0_2 l0_2 51 false _ ?side1 ?side2 HH.out).mono ?_); (case side1 => exact Kd.C_below HR0.out (My.bl_ HB)); (case side2 => exact HC0.out); rintro e w5 ⟨rfl, hb⟩; refine ⟨_, rfl, ?_⟩; replace HB := My.st HB hb; clear hb))
    go_ret
    exact ⟨My.r1, HB.out⟩


  have q1 : x < (p.length : Int) := by have := hx.out; omega
  have p1 : (0 : Int) ≤ x := by have := hx.out; omega
  have cc : decide (x < (p.length : Int)) = true := decide_eq_true q1
  obtain ⟨ad, e1, hbk, hc⟩ := HCELL.out x p1 q1
  have hx0 := HK.out _ _ hbk hc
  have hd := HD.out
  rw [rd_drop p i c, ident_Check.go, ← hx.out] at hd
  have HE := My.am hd
  have HCI := My.am c
  clear hd c hbk hc HD
  subst e1
  have p2 := eq_true p1
  have q2 := eq_true q1
  by_cases o1 : rd p x < 0
  ·have ob1 : decide (rd p x < 0) = true := decide_eq_true o1
   have hg := HE.out
   rw [if_pos (Or.inl o1)] at hg
   have hf := HF.out
   rw [← hg, if_neg Bool.false_ne_true] at hf
   obtain rfl := Option.some.inj hf
   clear hg hf o1
   go_wp2
   go_ret
   exact ⟨My.r1, HB.out⟩
  have ob1 : decide (rd p x < 0) = false := decide_eq_false o1
  by_cases o2 : rd p x ≥ 16
  ·have ob2 : decide (rd p x ≥ 16) = true := decide_eq_true o2
   have hg := HE.out
   rw [if_pos (Or.inr (Or.inl o2))] at hg
   have hf := HF.out
   rw [← hg, if_neg Bool.false_ne_true] at hf
   obtain rfl := Option.some.inj hf
   clear hg hf o1 o2
   go_wp2
   go_ret
   exact ⟨My.r1, HB.out⟩
  have ob2 : decide (rd p x ≥ 16) = false := decide_eq_false o2
  have r0 : 0 ≤ rd p x := by omega
  have r1 : rd p x < 16 := by omega
  have hm := (blk_cell BM.out (rd p x).toNat).trans (metA_at seen _ r0 r1)
  have r2 := eq_true r0
  have r3 := eq_true r1
  by_cases o3 : rd p x ∈ seen
  ·rw [decide_eq_true o3] at hm
   have hg := HE.out
   rw [if_pos (Or.inr (Or.inr o3))] at hg
   have hf := HF.out
   rw [← hg, if_neg Bool.false_ne_true] at hf
   obtain rfl := Option.some.inj hf
   clear hg hf o1 o2 o3
   go_wp2
   go_ret
   exact ⟨My.r1, HB.out⟩
  rw [decide_eq_false o3] at hm
  have hg := HE.out
  rw [if_neg (by rintro (g | g | g); exact o1 g; exact o2 g; exact o3 g)] at hg
  have HG := My.am hg
  have HR := My.am r0
  have HS := My.am r1
  have hw : IntKind.i64.wrap (x + 1) = x + 1 := by have := hx.out; have := hi.out; rw [IntKind.wrap_i64]; omega
  have hfz := blk_frozen BM.out
  clear hg o1 o2 o3
  go_wp2
  have hx1 := hx.out
  have hi1 := hi.out
  have hk1 := hk.out
  have hci := HCI.out
  go_roundg (p.length - i)
  case measure => omega
  case rel => exact ⟨i + 1, x + 1, rd p x :: seen, by first | rfl | rw [hw], ⟨by omega⟩, ⟨by omega⟩, ⟨by omega⟩, HG, ⟨below_set HB.out GM.out⟩, ⟨fun a v ha h => (cell_far (p := ⟨gm, _, none⟩) ha _).trans (HK.out a v ha h)⟩, ⟨blk_put BM.out _ _ (metA_set seen _ HR.out HS.out)⟩⟩
/-! ### ident_Parent: function 37 -/
def ident_Parent.f (k : Nat) (a0_0 : Int) (a0_1 : Int) (l0_2 : List (S62)) : Option (Int × Int × (List (S62)) × Int × Bool) := (ident_Check.f k a0_0 a0_1 l0_2).bind fun t118 => (if t118 = 0 then (if (wrap64 ((l0_2.length : Int) - 1)) < 0 then (some (0, 0, ([] : List (S62)), 0, false)) else (if 0 ≤ (wrap64 ((l0_2.length : Int) - 1)) then (if (wrap64 ((l0_2.length : Int) - 1)) ≤ (l0_2.length : Int) then ((api_Hop_36.f (l0_2.take ((wrap64 ((l0_2.length : Int) - 1)) : Int).toNat)).bind fun t123 => (if (wrap64 ((l0_2.length : Int) - 1)) < (l0_2.length : Int) then (some (a0_0, a0_1, t123, (rd_T62 l0_2 (wrap64 ((l0_2.length : Int) - 1))).f0, true)) else (none))) else (none)) else (none))) else (some (0, 0, ([] : List (S62)), 0, false)))
theorem ident_Parent.mono : ∀ a0 a1 a2 k, LeO (ident_Parent.f k a0 a1 a2) (ident_Parent.f (k + 1) a0 a1 a2) := by
 intro a0 a1 a2 k
 unfold ident_Parent.f
 repeat' (with_reducible first | exact ident_Check.mono _ _ _ _ | exact LeO.refl _ | exact LeO.none _ | apply LeO.ite | refine LeO.bind ?_ (fun _ => ?_))
def ident_Parent.T4 : Bool × List (List Nat × List Nat) := (true, [([], []), ([0], [0]), ([], []), ([2], [2]), ([], []), ([4], [4]), ([], []), ([5, 6], [5, 6]), ([7], [7]), ([1, 3, 8], [1, 3, 8]), ([], []), ([10], [10]), ([], []), ([11, 12], [11, 12]), ([13], [13]), ([14], [14]), ([9, 8, 0, 1, 2, 3, 4, 5, 6, 7, 8, 9], [9]), ([15, 16, 0, 1, 2, 3, 4, 5, 6, 7, 8, 9, 10, 11, 12, 13, 14, 15, 16], [15]), ([17, 0, 1, 2, 3, 4, 5, 6, 7, 8, 9, 10, 11, 12, 13, 14, 15, 16, 17], [])])
def ident_Parent.B4 : List Nat := [0, 1, 0, 4, 0, 16, 0, 112, 240, 511, 0, 1024, 0, 7168, 15360, 31744, 1023, 131071, 262143]
theorem ident_Parent.tab4 : rtab .any (opsOf Try.f37 4) = ident_Parent.T4 := by kernel_rfl
theorem ident_Parent.bits4 : waitsOk ident_Parent.T4.2 ident_Parent.B4 = true := by kernel_rfl
theorem ident_Parent.calls (k : Nat) (a0_0 : Int) (a0_1 : Int) (A0_2 : Option Addr) (c0_2 : Nat) (l0_2 : List (S62)) (r1 : Int) (r2 : Int) (r3 : List (S62)) (r4 : Int) (r5 : Bool) (w : World) (hr0_2 : Kd.C k62 w A0_2 l0_2.length l0_2) (hc0_2 : l0_2.length ≤ c0_2) (h : ident_Parent.f k a0_0 a0_1 l0_2 = some (r1, r2, r3, r4, r5)) :
  Calls Try.prog 37 #[.agg #[.int .i64 a0_0, .int .i64 a0_1, .slice A0_2 l0_2.length c0_2]] w fun e w' => ∃ v2_ : Value, e = .returned (.tuple #[.agg #[.int .i64 r1, .int .i64 r2, v2_], .int .i64 r4, .bool r5]) ∧ Kd.R k62 62 w' w.heap.size (fun _ => True) v2_ r3 ∧ Below w.heap.size w w' := by
 have hu35 := Try.underlying35
 have HR0_2 := My.am hr0_2
 have HC0_2 := My.am hc0_2
 clear hr0_2 hc0_2
 have HB := My.am (Below.refl w.heap.size w)
 unfold ident_Parent.f at h
 have H := h
 clear h
 replace H := Option.bind_eq_some_iff.mp H
 obtain ⟨t118, A20, H⟩ := H
 try dsimp only at H
 have A2 := My.am A20
 clear A20
 by_cases c3 : t118 = 0
 ·rw [if_pos c3] at H
  have c3b0 : (t118 == 0) = true := beq_iff_eq.mpr c3
  have c3b1 : (t118 != 0) = false := bne_eq_false_iff_eq.mpr c3
  clear c3
  by_cases c4 : (wrap64 ((l0_2.length : Int) - 1)) < 0
  ·rw [if_pos c4] at H
   have c4b0 := decide_eq_true c4
   clear c4
   simp only [Option.some.injEq, Prod.mk.injEq] at H
   obtain ⟨rfl, rfl, rfl, rfl, rfl⟩ := H
   go_enter Try.func37, Try.ntmps37
   go_wp2_with (first | ((with_reducible refine gate_dst (N := 1) rfl ?_); refine My.bx 1 #[.int .i64 a0_0, .int .i64 a0_1, .slice A0_2 l0_2.length c0_2] 35 ?_; intro gb116 hg w5 hbox hb; have BK116 := My.am (hbox); have GE116 := My.nge hg (My.bl_ HB); replace HB := My.st HB hb; clear hb hbox hg) | ((with_reducible refine gate_dst (N := 2) rfl ?_); refine My.bx 2 #[.int .i64 0, .int .i64 0, .slice none 0 0] 35 ?_; intro gb117 hg w6 hbox hb; have BK117 := My.am (hbox); have GW117 := My.nge hg (My.bl_ HB); have GE117 := GW117; replace HB := My.st HB hb; obtain ⟨NB116_117, NB117_116, BK116⟩ := My.nb hg hb BK116; clear hb hbox hg; have hnb7 := NB116_117.out; have hnc7 := NB117_116.out; have hq8 := My.cz3 BK116) | ((with_reducible refine gate_callee (f := 46) rfl ?_); refine goesL_ (some 11) rfl rfl Try.func46 (by kernel_rfl) rfl #[.agg #[.int .i64 a0_0, .int .i64 a0_1, .slice A0_2 l0_2.length c0_2]] rfl My.gx ?_; (with_reducible refine (ident_Check.calls k a0_0 a0_1 _ _ l0_2 t118 _ ?side1 ?side2 A2.out).mono ?_); (case side1 => exact My.sd_ HR0_2 HB); (case side2 => exact HC0_2.out); rintro e w9 ⟨rfl, hb⟩; refine ⟨_, rfl, ?_⟩; replace BK116 := My.ab BK116 hb; replace BK117 := My.ab BK117 hb; replace HB := My.st HB hb; (try clear hb); have hq10 := My.cz3 BK117))
   refine bodyPost_ret (results_ctt rfl _ _ gb117 35 #[.int .i64 0, .int .i64 0, .slice none 0 0] (0, 0) _ rfl ((My.sv_ BK117)) Try.underlying35 rfl (by kernel_rfl)) rfl ?_
   exact ⟨_, My.r2, My.r3, (My.bl_ HB)⟩
  ·rw [if_neg c4] at H
   have c4b0 := decide_eq_false c4
   clear c4
   obtain ⟨ji11, hji11⟩ : ∃ j_ : Int, (wrap64 ((l0_2.length : Int) - 1)) = j_ := ⟨_, rfl⟩
   replace H : (if 0 ≤ (ji11) then (if (ji11) ≤ (l0_2.length : Int) then ((api_Hop_36.f (l0_2.take ((ji11) : Int).toNat)).bind fun t123 => (if (ji11) < (l0_2.length : Int) then (some (a0_0, a0_1, t123, (rd_T62 l0_2 (ji11)).f0, true)) else (none))) else (none)) else (none)) = some (r1, r2, r3, r4, r5) := by first | (rw [hji11] at H; exact H) | (simp only [hji11] at H ⊢; exact H)
   (try rw [hji11] at c4b0)
   (try rw [hji11] at A2)
   have hji11w : (IntKind.i64.wrap ((l0_2.length : Int) - 1)) = ji11 := (i64_w _).trans hji11
   by_cases c12 : 0 ≤ (ji11)
   rotate_left
   ·exact My.nn c12 H
   rw [if_pos c12] at H
   have c12b0 := eq_true c12
   have c12b1 := decide_eq_true c12
   clear c12
   by_cases c13 : (ji11) ≤ (l0_2.length : Int)
   rotate_left
   ·exact My.nn c13 H
   rw [if_pos c13] at H
   have c13b0 := eq_true c13
   have c13b1 := decide_eq_true c13
   clear c13
   obtain ⟨y119, hy119⟩ : ∃ y_ : List (S62), y_ = (l0_2.take ((ji11) : Int).toNat) := ⟨_, rfl⟩
   replace H : ((api_Hop_36.f y119).bind fun t123 => (if (ji11) < (l0_2.length : Int) then (some (a0_0, a0_1, t123, (rd_T62 l0_2 (ji11)).f0, true)) else (none))) = some (r1, r2, r3, r4, r5) := by first | (rw [hy119]; with_reducible exact H) | (have H2_ := (Option.bind_some _ _).symm.trans H; rw [hy119]; with_reducible exact H2_) | (have H2_ := (Option.bind_some _ _).symm.trans H; with_reducible exact H2_) | with_reducible exact H | (rw [hy119]; exact H) | exact H
   have Ny119 := My.am hy119
   clear hy119
   replace H := Option.bind_eq_some_iff.mp H
   obtain ⟨t123, A140, H⟩ := H
   try dsimp only at H
   have A14 := My.am A140
   clear A140
   replace H := My.ds H
   obtain ⟨c15b0, H⟩ := H
   simp only [Option.some.injEq, Prod.mk.injEq] at H
   obtain ⟨rfl, rfl, rfl, rfl, rfl⟩ := H
   go_enter Try.func37, Try.ntmps37
   try go_wp2_with (first | ((with_reducible refine gate_dst (N := 1) rfl ?_); refine My.bx 1 #[.int .i64 a0_0, .int .i64 a0_1, .slice A0_2 l0_2.length c0_2] 35 ?_; intro gb116 hg w16 hbox hb; have BK116 := My.am (hbox); have GE116 := My.nge hg (My.bl_ HB); replace HB := My.st HB hb; clear hb hbox hg) | ((with_reducible refine gate_dst (N := 2) rfl ?_); refine My.bx 2 #[.int .i64 0, .int .i64 0, .slice none 0 0] 35 ?_; intro gb117 hg w17 hbox hb; have BK117 := My.am (hbox); have GW117 := My.nge hg (My.bl_ HB); have GE117 := GW117; replace HB := My.st HB hb; obtain ⟨NB116_117, NB117_116, BK116⟩ := My.nb hg hb BK116; clear hb hbox hg; have hnb18 := NB116_117.out; have hnc18 := NB117_116.out; have hq19 := My.cz3 BK116) | ((with_reducible refine gate_callee (f := 46) rfl ?_); refine goesL_ (some 11) rfl rfl Try.func46 (by kernel_rfl) rfl #[.agg #[.int .i64 a0_0, .int .i64 a0_1, .slice A0_2 l0_2.length c0_2]] rfl My.gx ?_; (with_reducible refine (ident_Check.calls k a0_0 a0_1 _ _ l0_2 t118 _ ?side1 ?side2 A2.out).mono ?_); (case side1 => exact My.sd_ HR0_2 HB); (case side2 => exact HC0_2.out); rintro e w20 ⟨rfl, hb⟩; refine ⟨_, rfl, ?_⟩; replace BK116 := My.ab BK116 hb; replace BK117 := My.ab BK117 hb; replace HB := My.st HB hb; (try clear hb)))
   replace BK116 := My.am (blk_drew BK116.out)
   replace BK117 := My.am (blk_drew BK117.out)
   replace HB := My.am (below_drew1 HB.out)
   have q22 : ((ji11) : Int) ≤ ((l0_2.length : Int) : Int) := My.as_
   obtain ⟨i022, hi022, _, hsz22, _⟩ := info_parts info62
   have hroom22 : l0_2.length ≤ c0_2 := HC0_2.out
   have hC22 : Kd.C k62 _ A0_2 l0_2.length l0_2 := HR0_2.out
   have hcut22 := cut_to (P := Try.prog) 33 62 .i64 Try.underlying33 hi022 A0_2 l0_2.length c0_2 (ji11) (My.as_) q22 hroom22
   have hr22 := Kd.C_take (m := ((ji11) : Int).toNat) hC22 (by omega)
   have hy22 : y119.length = ((ji11) : Int).toNat := (by rw [Ny119.out, List.length_take]; omega)
   rw [← Ny119.out] at hr22
   rw [← hy22] at hcut22
   have HR122 := My.am hr22
   have HC122 := My.am (show y119.length ≤ c0_2 from by omega)
   clear hr22 hC22 hroom22 hi022 hsz22
   have KY22 := My.am hy22
   clear hy22
   replace q22 := eq_true q22
   have p126 : 0 ≤ ((ji11) : Int) := My.as_
   have q126 : (ji11) < (l0_2.length : Int) := My.as_
   obtain ⟨ad126, e126, hx126_0, hx126_1⟩ := at_T62 HR0_2.out (ji11) p126 q126
   have hw126_1 := hx126_1
   have hw126_0 := hx126_0
   cases e126
   replace hx126_0 := My.up HB hx126_0
   replace hx126_1 := My.up HB hx126_1
   replace p126 := eq_true p126
   replace q126 := eq_true q126
   refine start_ (n := 19) (S := fun w' => w'.cell? ⟨gb116, 0, none⟩ = some (.int .i64 a0_0) ∧ w'.cell? ⟨gb116, 1, none⟩ = some (.int .i64 a0_1) ∧ w'.cell? ⟨gb116, 2, none⟩ = some (.slice (some ad126) l0_2.length c0_2) ∧ w'.cell? (ad126.add (((ji11)).toNat * 2)) = some (.int .i64 ((rd_T62 l0_2 (ji11)).f0)) ∧ w'.cell? ⟨(ad126.add (((ji11)).toNat * 2)).block, (ad126.add (((ji11)).toNat * 2)).off + 1, none⟩ = some (.int .i64 ((rd_T62 l0_2 (ji11)).f1))) (ds := []) #[false, false, false, false, false, false, false, false, false, false, false, false, false, false, false, false, false, false, false] (by kernel_rfl) rfl rfl ⟨My.b_ BK116 0, My.b_ BK116 1, My.b_ BK116 2, (My.up HB hw126_0), (My.up HB hw126_1)⟩ (fun hHeld => ?_); refine with_tabW ident_Parent.tab4 ident_Parent.bits4 (fun HT_ HW_ => ?_)
   generalize w20.drew = w21 at BK116 BK117 HB HR122 hx126_0 hx126_1 hHeld ⊢
   refine My.pu_ 0 18 19 HT_.out ?_
   refine My.pv_ 2 20 19 5 HT_.out ?_
   refine My.pv_ 4 22 19 21 HT_.out ?_
   refine My.pv_ 6 24 19 85 HT_.out ?_
   refine My.pv_ 10 28 19 1109 HT_.out ?_
   refine My.pv_ 12 30 19 5205 HT_.out ?_
   refine My.tv_ 1 19 19 5207 HT_.out HW_.out hHeld rfl rfl (by rintro w' ⟨s0, s1, s2, s3, s4⟩; go_simp; with_reducible rfl) ?_
   refine My.tv_ 3 21 19 5215 HT_.out HW_.out hHeld rfl rfl (by rintro w' ⟨s0, s1, s2, s3, s4⟩; go_simp; with_reducible rfl) ?_
   refine My.tv_ 5 23 19 5247 HT_.out HW_.out hHeld rfl rfl (by rintro w' ⟨s0, s1, s2, s3, s4⟩; go_simp; with_reducible rfl) ?_
   refine My.pv_ 7 25 19 5375 HT_.out ?_
   refine My.tv_ 11 29 19 7423 HT_.out HW_.out hHeld rfl rfl (by rintro w' ⟨s0, s1, s2, s3, s4⟩; go_simp; with_reducible rfl) ?_
   refine My.pv_ 13 31 19 15615 HT_.out ?_
   refine My.pv_ 14 32 19 31999 HT_.out ?_
   refine My.tv_ 15 33 19 64767 HT_.out HW_.out hHeld rfl rfl (by rintro w' ⟨s0, s1, s2, s3, s4⟩; go_simp; with_reducible rfl) ?_
   refine one_ (i := 8) (N := some 26) (My.Mb 19 65023) rfl rfl (one_of HT_.out (by kernel_rfl)) (by decide) (fun K hK => ?_)
   refine goes_ Try.func36 (by kernel_rfl) rfl #[.slice (some ad126) y119.length c0_2] (by rfl) rfl rfl My.gx ?_
   with_reducible refine (api_Hop_36.calls _ _ y119 t123 _ ?side1 ?side2 A14.out).mono ?_
   (case side1 => exact My.sd_ HR122 HB)
   (case side2 => exact HC122.out)
   rintro e w23 ⟨v124, rfl, ho0, hb⟩
   refine ⟨_, rfl, ?_⟩
   have HO125 := My.am (Kd.R_lower ho0 (below_size (My.bl_ HB)))
   replace BK116 := My.ab BK116 hb
   replace BK117 := My.ab BK117 hb
   replace HB := My.st HB hb
   (try clear hb)
   (try clear hb2)
   (try clear hk)
   (try clear hi)
   (try clear ho0)
   obtain ⟨Ao24, co24, eo24⟩ := Kd.R_slice HO125.out
   (first | subst eo24 | (injection eo24 with f1_ f2_ f3_; have f4_ := f1_.symm; have f5_ := f3_.symm; clear f1_ f2_ f3_; subst f4_; subst f5_))
   refine hK.out _ _ ⟨My.b_ BK116 0, My.b_ BK116 1, My.b_ BK116 2, (My.up HB hw126_0), (My.up HB hw126_1)⟩ (fun hHeld => ?_)
   clear hK K
   refine My.nm 26 ?_
   refine My.pv_ 9 27 19 65535 HT_.out ?_
   refine one_ (i := 16) (N := none) (My.Mb 19 131071) rfl rfl (one_of HT_.out (by kernel_rfl)) (by decide) (fun K hK => ?_)
   have hs25 : w23.cell? ⟨gb117, 0, none⟩ = some (.int .i64 0) := My.b_ BK117 0
   have hfs25 := blk_frozen BK117.out 0
   have hns25_0 := NB116_117.out
   have hms25_0 := NB117_116.out
   have hs26 : w23.cell? ⟨gb117, 1, none⟩ = some (.int .i64 0) := My.b_ BK117 1
   have hfs26 := blk_frozen BK117.out 1
   have hns26_0 := NB116_117.out
   have hms26_0 := NB117_116.out
   have hs27 : w23.cell? ⟨gb117, 2, none⟩ = some (.slice none 0 0) := My.b_ BK117 2
   have hfs27 := blk_frozen BK117.out 2
   have hns27_0 := NB116_117.out
   have hms27_0 := NB117_116.out
   refine skip_ (w1 := ?_) (by rfl) rfl ?_ ?_
   rotate_left
   ·go_simp
    rfl
   refine hK.out _ _ ⟨(My.c3 NB116_117.out hHeld.1), (My.c3 NB116_117.out hHeld.2.1), (My.c3 NB116_117.out hHeld.2.2.1), (My.c3 (My.nw hw126_0 GW117) hHeld.2.2.2.1), (My.c3 (My.nw hw126_1 GW117) hHeld.2.2.2.2)⟩ (fun hHeld => ?_)
   clear hK K
   refine My.pu_ 17 3 19 HT_.out ?_
   refine My.pu_ 18 4 19 HT_.out ?_
   refine done_ (done_of HT_.out (by kernel_rfl)) ?_
   try go_wp2
   refine bodyPost_ret (results_ctt rfl _ _ gb117 35 #[.int .i64 a0_0, .int .i64 a0_1, .slice Ao24 t123.length co24] (0, 0) _ rfl ((My.sv_ BK117)) Try.underlying35 rfl (by kernel_rfl)) rfl ?_
   exact ⟨_, by first | rfl | (simp [errW_none, errW_some] <;> rfl) | (simp only [← hji11]; first | rfl | (simp [errW_none, errW_some] <;> rfl)) | (simp [*, errW_none, errW_some] <;> rfl), My.dR (Kd.R_mono (Kd.R_far (p := ⟨gb117, 2, none⟩) (Kd.R_far (p := ⟨gb117, 1, none⟩) (Kd.R_far (p := ⟨gb117, 0, none⟩) (Kd.R_types HO125.out BK117.out (by decide)) (fun _ hk => hk.2) (.int .i64 a0_0)) (fun _ hk => hk.2) (.int .i64 a0_1)) (fun _ hk => hk.2) (.slice Ao24 t123.length co24)) (fun _ hk => trivial)), (My.bl_ HB)⟩
 ·rw [if_neg c3] at H
  have c3b0 : (t118 == 0) = false := beq_eq_false_iff_ne.mpr c3
  have c3b1 : (t118 != 0) = true := bne_iff_ne.mpr c3
  simp only [Option.some.injEq, Prod.mk.injEq] at H
  obtain ⟨rfl, rfl, rfl, rfl, rfl⟩ := H
  go_enter Try.func37, Try.ntmps37
  go_wp2_with (first | ((with_reducible refine gate_dst (N := 1) rfl ?_); refine My.bx 1 #[.int .i64 a0_0, .int .i64 a0_1, .slice A0_2 l0_2.length c0_2] 35 ?_; intro gb116 hg w28 hbox hb; have BK116 := My.am (hbox); have GE116 := My.nge hg (My.bl_ HB); replace HB := My.st HB hb; clear hb hbox hg) | ((with_reducible refine gate_dst (N := 2) rfl ?_); refine My.bx 2 #[.int .i64 0, .int .i64 0, .slice none 0 0] 35 ?_; intro gb117 hg w29 hbox hb; have BK117 := My.am (hbox); have GE117 := My.nge hg (My.bl_ HB); replace HB := My.st HB hb; obtain ⟨NB116_117, NB117_116, BK116⟩ := My.nb hg hb BK116; clear hb hbox hg; have hnb30 := NB116_117.out; have hnc30 := NB117_116.out; have hq31 := My.cz3 BK116) | ((with_reducible refine gate_callee (f := 46) rfl ?_); refine goesL_ (some 11) rfl rfl Try.func46 (by kernel_rfl) rfl #[.agg #[.int .i64 a0_0, .int .i64 a0_1, .slice A0_2 l0_2.length c0_2]] rfl My.gx ?_; (with_reducible refine (ident_Check.calls k a0_0 a0_1 _ _ l0_2 t118 _ ?side1 ?side2 A2.out).mono ?_); (case side1 => exact My.sd_ HR0_2 HB); (case side2 => exact HC0_2.out); rintro e w32 ⟨rfl, hb⟩; refine ⟨_, rfl, ?_⟩; replace BK117 := My.ab BK117 hb; replace HB := My.st HB hb; (try clear hb); have hq33 := My.cz3 BK117))
  refine bodyPost_ret (results_ctt rfl _ _ gb117 35 #[.int .i64 0, .int .i64 0, .slice none 0 0] (0, 0) _ rfl ((My.sv_ BK117)) Try.underlying35 rfl (by kernel_rfl)) rfl ?_
  exact ⟨_, My.r2, My.r3, (My.bl_ HB)⟩

end Go.Proofs.Ytcgmoeiknkdljaa.PA
