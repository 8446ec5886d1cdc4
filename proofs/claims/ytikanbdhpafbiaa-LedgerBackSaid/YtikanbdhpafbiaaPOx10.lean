-- Written by a program of this session (wip/tools/mp.py over the kit's printer); Lean checks it.
import Derived.Test.YtikanbdhpafbiaaPOx0
import Derived.Test.YtikanbdhpafbiaaPOx9
namespace Go.Proofs.Ytikanbdhpafbiaa.PO
open Go.RowKit Go.Proofs.YtikanbdhpafbiaaW.PrintWords Go.Proofs.YtikanbdhpafbiaaW.PrintLast Go.Proofs.YtikanbdhpafbiaaW.PrintMore
attribute [local go_sem] max2_int min2_int max_two min_two max_three min_three max_four min_four   -- for this text's walks alone
set_option linter.unusedVariables false
set_option maxHeartbeats 8000000
set_option maxRecDepth 100000
set_option linter.unusedSimpArgs false

/-! ### act_Do: function 42 -/
def act_Do.f (k : Nat) (a0_0 : ByteArray) (a0_1 : Int) (a0_2 : Int) (a0_3 : Int) (a0_4 : Int) (a0_5 : Int) (a0_6 : Int) (a1_0 : Int) (a1_1 : ByteArray) (a1_2 : Int) : Option (ByteArray × Int × Int × Int × Int × Int × Int × Int) := (act_each_pot_Do.f k a0_0 a0_1 a0_2 a0_3 a0_4 a0_5 a0_6 a1_0 a1_1 a1_2 0).bind fun bt210 => (some (bt210.1, bt210.2.1, bt210.2.2.1, bt210.2.2.2.1, bt210.2.2.2.2.1, bt210.2.2.2.2.2.1, bt210.2.2.2.2.2.2.1, bt210.2.2.2.2.2.2.2))
theorem act_Do.mono : ∀ a0 a1 a2 a3 a4 a5 a6 a7 a8 a9 k, LeO (act_Do.f k a0 a1 a2 a3 a4 a5 a6 a7 a8 a9) (act_Do.f (k + 1) a0 a1 a2 a3 a4 a5 a6 a7 a8 a9) := by
 intro a0 a1 a2 a3 a4 a5 a6 a7 a8 a9 k
 unfold act_Do.f
 repeat' (with_reducible first | exact act_each_pot_Do.mono _ _ _ _ _ _ _ _ _ _ _ _ | exact LeO.refl _ | exact LeO.none _ | apply LeO.ite | refine LeO.bind ?_ (fun _ => ?_))
theorem act_Do.calls (k : Nat) (a0_0 : ByteArray) (a0_1 : Int) (a0_2 : Int) (a0_3 : Int) (a0_4 : Int) (a0_5 : Int) (a0_6 : Int) (a1_0 : Int) (a1_1 : ByteArray) (a1_2 : Int) (r1 : ByteArray) (r2 : Int) (r3 : Int) (r4 : Int) (r5 : Int) (r6 : Int) (r7 : Int) (r8 : Int) (w : World) (h : act_Do.f k a0_0 a0_1 a0_2 a0_3 a0_4 a0_5 a0_6 a1_0 a1_1 a1_2 = some (r1, r2, r3, r4, r5, r6, r7, r8)) :
  Calls Try.prog 42 #[.agg #[.string a0_0, .int .i64 a0_1, .int .i64 a0_2, .int .i64 a0_3, .int .i64 a0_4, .int .i64 a0_5, .int .i64 a0_6], .agg #[.int .i64 a1_0, .string a1_1, .int .i64 a1_2]] w fun e w' => e = .returned (.tuple #[.agg #[.string r1, .int .i64 r2, .int .i64 r3, .int .i64 r4, .int .i64 r5, .int .i64 r6, .int .i64 r7], .int .i64 r8]) ∧ Below w.heap.size w w' := by
 have hu51 := Try.underlying51
 have hu27 := Try.underlying27
 have HB := My.am (Below.refl w.heap.size w)
 unfold act_Do.f at h
 have H := h
 clear h
 replace H := Option.bind_eq_some_iff.mp H
 obtain ⟨⟨t210, t211, t212, t213, t214, t215, t216, t217⟩, A30, H⟩ := H
 try dsimp only at H
 have A3 := My.am A30
 clear A30
 simp only [Option.some.injEq, Prod.mk.injEq] at H
 obtain ⟨rfl, rfl, rfl, rfl, rfl, rfl, rfl, rfl⟩ := H
 go_enter Try.func42, Try.ntmps42
 go_wp2_with (first | ((with_reducible refine gate_dst (N := 2) rfl ?_); refine My.bx 2 #[.string a0_0, .int .i64 a0_1, .int .i64 a0_2, .int .i64 a0_3, .int .i64 a0_4, .int .i64 a0_5, .int .i64 a0_6] 51 ?_; intro gb207 hg w4 hbox hb; have BK207 := My.am (hbox); have GE207 := My.nge hg (My.bl_ HB); replace HB := My.st HB hb; clear hb hbox hg) | ((with_reducible refine gate_dst (N := 3) rfl ?_); refine My.bx 3 #[.int .i64 a1_0, .string a1_1, .int .i64 a1_2] 27 ?_; intro gb208 hg w5 hbox hb; have BK208 := My.am (hbox); have GE208 := My.nge hg (My.bl_ HB); replace HB := My.st HB hb; obtain ⟨NB207_208, NB208_207, BK207⟩ := My.nb hg hb BK207; clear hb hbox hg) | ((with_reducible refine gate_dst (N := 4) rfl ?_); refine My.bx 4 #[.string (⟨#[]⟩ : ByteArray), .int .i64 0, .int .i64 0, .int .i64 0, .int .i64 0, .int .i64 0, .int .i64 0] 51 ?_; intro gb209 hg w6 hbox hb; have BK209 := My.am (hbox); have GE209 := My.nge hg (My.bl_ HB); replace HB := My.st HB hb; obtain ⟨NB207_209, NB209_207, BK207⟩ := My.nb hg hb BK207; obtain ⟨NB208_209, NB209_208, BK208⟩ := My.nb hg hb BK208; clear hb hbox hg; have hnb7 := NB207_208.out; have hnc7 := NB208_207.out; have hnb8 := NB207_209.out; have hnc8 := NB209_207.out; have hq9 := My.cz7 BK207; have hnb10 := NB208_209.out; have hnc10 := NB209_208.out; have hq11 := My.cz3 BK208) | ((with_reducible refine gate_callee (f := 71) rfl ?_); refine goesL_ (some 8) rfl rfl Try.func71 (by kernel_rfl) rfl #[.agg #[.string a0_0, .int .i64 a0_1, .int .i64 a0_2, .int .i64 a0_3, .int .i64 a0_4, .int .i64 a0_5, .int .i64 a0_6], .agg #[.int .i64 a1_0, .string a1_1, .int .i64 a1_2], .func (.func 72) #[] #[]] rfl My.gx ?_; (with_reducible refine (act_each_pot_Do.calls k a0_0 a0_1 a0_2 a0_3 a0_4 a0_5 a0_6 a1_0 a1_1 a1_2 0 t210 t211 t212 t213 t214 t215 t216 t217 _ A3.out).mono ?_); rintro e w12 ⟨rfl, hb⟩; refine ⟨_, rfl, ?_⟩; replace BK209 := My.ab BK209 hb; replace HB := My.st HB hb; (try clear hb); have hq13 := My.cz7 BK209))
 refine bodyPost_ret (results_ct rfl _ _ gb209 51 #[.string t210, .int .i64 t211, .int .i64 t212, .int .i64 t213, .int .i64 t214, .int .i64 t215, .int .i64 t216] (0, 0) _ rfl ((My.sv_ BK209)) Try.underlying51 rfl (by kernel_rfl)) rfl ?_
 exact ⟨My.r2, (My.bl_ HB)⟩

-- NOT PRINTED: function 83 (api_Mark_83)

/-! ### api_Mark_99: function 99 -/


/-! ### api_Mark_95: function 95 -/


/-! ### api_Mark_84: function 84 -/


/-! ### api_Mark_70: function 70 -/
theorem Ins_mark_info : (Try.prog.info? 64).map (fun i => (i.zero, i.size, i.bytes)) = some (some (.agg #[.string ⟨#[]⟩, .int .i64 0, .string ⟨#[]⟩, .int .i64 0, .int .i64 0]), 5, 56) := by kernel_rfl
/-- slices.Insert of one element, into a row of the call's own. -/
theorem Ins_mark_at (sv : Value) (n i base : Nat) (cs : List Value) (vb : Nat) (vs : List Value) (w : World) (hown : w.ownsRow base 64 5 sv n cs) (hcs : ∀ u ∈ cs, u.oneCell' = true) (hi : i ≤ n) (hbase : base ≤ w.heap.size) (hn : (n + 1) * 56 ≤ 140737488355328)
  (hvl : vs.length = 5) (hvb : w.heap[vb]? = some (.cells vs.toArray 64 (0, 0))) (hvs : ∀ u ∈ vs, u.oneCell' = true) (hne : some vb ≠ sv.ownBlock) (res : List Value) (hres : Aside0 (res = cs.take (i * 5) ++ vs ++ cs.drop (i * 5))) :
  Calls Try.prog 70 #[sv, .int .i64 (i : Int), .slice (some ⟨vb, 0, none⟩) 1 1] w fun e w' => ∃ v' : Value, e = .returned v' ∧ w'.ownsRow base 64 5 v' (n + 1) res ∧ w.grownBy w' sv.ownBlock := by
 obtain ⟨i0, hinfo, hz0, hz1, hz2⟩ := info_parts Ins_mark_info
 have hzz : (.agg #[.string ⟨#[]⟩, .int .i64 0, .string ⟨#[]⟩, .int .i64 0, .int .i64 0] : Value).cells.size = 5 := rfl
 have hcl : cs.length = n * 5 := hown.1
 have hvc : ∀ j u, vs[j]? = some u → w.cell? ((⟨vb, 0, none⟩ : Addr).add j) = some u := fun j u hj => by
  rw [Addr.add_lit, Nat.zero_add, blk_cell hvb]
  simpa using hj
 have HV := My.am hvc
 clear hvc
 by_cases hin : i = n
 ·subst hin
  have htk : cs.take (i * 5) ++ vs ++ cs.drop (i * 5) = cs ++ vs := by rw [← hcl, List.take_length, List.drop_length, List.append_nil]
  have HTK : Aside0 (res = cs ++ vs) := ⟨hres.out.trans htk⟩
  have HO := My.am hown
  rcases hown.2 with ⟨rfl, h0⟩ | ⟨g, cap, cur, rfl, hg, hh, hnc, hcm, hcsz, ht⟩
  ·subst h0
   clear hown hcl htk hcs
   go_enter Try.func70, Try.ntmps70
   go_wp2_with (at_builtin; refine wpList_append_own _ rfl _ _ 23 rfl base 64 i0 (.agg #[.string ⟨#[]⟩, .int .i64 0, .string ⟨#[]⟩, .int .i64 0, .int .i64 0]) 5 56 Try.underlying23 hinfo hz0 hz1 hz2 rfl (by decide) _ 0 cs rfl HO.out ⟨vb, 0, none⟩ 1 1 vs rfl (by rw [hvl]) HV.out hvs (by unfold maxLen; omega) (by omega) hbase ?_; intro v' w1 hown' hgrow hnil)
   go_ret
   exact ⟨_, rfl, by rw [HTK.out]; exact hown', hgrow⟩
  ·clear hown hcl htk hcs hh ht hcsz
   have hc63 : cap ≤ 9223372036854775807 := by unfold maxLen at hcm; exact hcm
   clear hcm
   by_cases hci : cap = i
   ·subst hci
    go_enter Try.func70, Try.ntmps70
    go_wp2_with (at_builtin; refine wpList_append_own _ rfl _ _ 23 rfl base 64 i0 (.agg #[.string ⟨#[]⟩, .int .i64 0, .string ⟨#[]⟩, .int .i64 0, .int .i64 0]) 5 56 Try.underlying23 hinfo hz0 hz1 hz2 rfl (by decide) _ cap cs rfl HO.out ⟨vb, 0, none⟩ 1 1 vs rfl (by rw [hvl]) HV.out hvs (by unfold maxLen; omega) (by omega) hbase ?_; intro v' w1 hown' hgrow hnil)
    go_ret
    exact ⟨_, rfl, by rw [HTK.out]; exact hown', hgrow⟩
   go_enter Try.func70, Try.ntmps70
   go_wp2_with (at_builtin; refine wpList_append_own _ rfl _ _ 23 rfl base 64 i0 (.agg #[.string ⟨#[]⟩, .int .i64 0, .string ⟨#[]⟩, .int .i64 0, .int .i64 0]) 5 56 Try.underlying23 hinfo hz0 hz1 hz2 rfl (by decide) _ i cs rfl HO.out ⟨vb, 0, none⟩ 1 1 vs rfl (by rw [hvl]) HV.out hvs (by unfold maxLen; omega) (by omega) hbase ?_; intro v' w1 hown' hgrow hnil)
   go_ret
   exact ⟨_, rfl, by rw [HTK.out]; exact hown', hgrow⟩
 ·obtain ⟨g, cap, cur, rfl, hg, hh, hnc, hcm, hcsz, ht⟩ : ∃ g cap cur, sv = .slice (some ⟨g, 0, none⟩) n cap ∧ base ≤ g ∧ w.heap[g]? = some (.cells cur 64 (0, 0)) ∧ n ≤ cap ∧ cap ≤ maxLen ∧ cur.size = cap * 5 ∧ cur.toList.take (n * 5) = cs := by
   rcases hown.2 with ⟨_, h0⟩ | h
   ·omega
   exact h
  have hc63 : cap ≤ 9223372036854775807 := by unfold maxLen at hcm; exact hcm
  have hsz : (Try.prog.info? 64).map (·.size) = some 5 := by rw [hinfo]; simp [hz1]
  have hsz2 : ∀ w, (Go.sizeOf 64).run Try.prog w = .ok 5 w := fun w => by simp [sizeOf, typeInfo, hinfo, hz1]
  have hilt : i < n := by omega
  have hgw : g < w.heap.size := (Array.getElem?_eq_some_iff.1 hh).1
  have hvw : vb < w.heap.size := (Array.getElem?_eq_some_iff.1 hvb).1
  have hgv : vb ≠ g := fun h => hne (by rw [h]; rfl)
  by_cases hroom : n + 1 ≤ cap
  ·have hov : ∀ o lb cb, (callFunc 83 #[.slice (some ⟨vb, 0, none⟩) 1 1, .slice (some ⟨g, o, none⟩) lb cb]).run Try.prog w = .ok (.value (.bool false)) w := fun o lb cb => by
    rw [run_callFunc_extern Try.func83 (by kernel_rfl) (by kernel_rfl) (by kernel_rfl) (e := Extern.SlicesOverlaps.overlaps #[23, 23] #[4]) (by kernel_rfl),
     Lib.run_overlaps_apart w 23 4 64 Try.underlying23 5 hsz2 ⟨vb, 0, none⟩ ⟨g, o, none⟩ 1 1 lb cb hgv 64 64 vs.toArray.size cur.size (by simp [World.shape?, hvb]) (by simp [World.shape?, hh]) (by rw [hcsz]; omega) (by simp [World.frozen?, hvb]) (by simp [World.frozen?, hvb])]
    rfl
   have HOV := My.am hov
   clear hov
   have hci : ¬ cap = i := by omega
   have hci1 : (i : Int) + 1 ≤ (cap : Int) := by omega
   have hci2 : ¬ cap = i + 1 := by omega
   have hci3 : ((i : Int) + 1).toNat = i + 1 := by omega
   have hn1 : n + 1 ≤ 9223372036854775807 := by omega
   have HC := My.am hcs
   have HT := My.am ht
   have HCM := My.am hcm
   clear hown hcs hcm hsz2 hin ht
   go_enter Try.func70, Try.ntmps70
   go_wp2_with (simp only [HOV.out])
   have hx1 : IntKind.i64.wrap ((i : Int) + 1) = (i : Int) + 1 := by rw [IntKind.wrap_i64]; omega
   have hx2 : (0 : Int) ≤ (i : Int) + 1 := by omega
   have hx3 : (i : Int) + 1 ≤ (n : Int) + 1 := by omega
   have hx4 : (i : Int) ≤ (n : Int) + 1 := by omega
   have hcur : ((cur.toList.drop (i * 5)).take ((n - i) * 5)).length = (n - i) * 5 := by
    rw [List.length_take, List.length_drop, Array.length_toList (xs := cur), hcsz, Nat.min_eq_left]
    omega
   have hmem : ∀ u ∈ (cur.toList.drop (i * 5)).take ((n - i) * 5), u.oneCell' = true := fun u hu => by
    refine HC.out u ?_
    rw [← HT.out, List.mem_take_iff_getElem] 
    obtain ⟨j, hj, rfl⟩ := List.mem_take_iff_getElem.1 hu
    rw [List.length_drop, Array.length_toList (xs := cur)] at hj
    refine ⟨i * 5 + j, by rw [Array.length_toList (xs := cur)]; omega, ?_⟩
    rw [List.getElem_drop]
   have HS : Aside0 (∀ (j : Nat) (v : Value), ((cur.toList.drop (i * 5)).take ((n - i) * 5))[j]? = some v → w.drew.cell? ((⟨g, i * 5, none⟩ : Addr).add j) = some v) := ⟨fun j v hj => by
    rw [Addr.add_lit]
    show w.cell? _ = _
    rw [blk_cell hh]
    rw [List.getElem?_take] at hj
    split at hj
    ·rw [List.getElem?_drop] at hj
     simpa using hj
    cases hj⟩
   have HM := My.am hmem
   have HU := My.am hcur
   clear hmem hcur
   go_region_law (refine My.step_copy_k rfl _ _ 23 23 rfl 64 5 Try.underlying23 hsz g ((i + 1) * 5) (n + 1 - (i + 1)) (cap - (i + 1)) ⟨g, i * 5, none⟩ (n + 1 - i) (cap - i) (by simp [Act.eval, Act.put]) (by simp [Act.eval, Act.put]) cur 64 hh ((cur.toList.drop (i * 5)).take ((n - i) * 5)) (by rw [HU.out]; simp only [Nat.min_def]; split <;> omega) HS.out (by rw [HU.out, hcsz]; omega) HM.out ?_; intro w2 hw2 hg2)
   have hg2' : w.grownBy w2 (some g) := My.gtrans (My.gdrew w (some g)) hg2 (fun j e => .inr e)
   have hvb2 : w2.heap[vb]? = some (.cells vs.toArray 64 (0, 0)) := (hg2'.block vb hvw (fun e => hgv (Option.some.inj e))).trans hvb
   have HV2 : Aside0 (∀ (j : Nat) (u : Value), vs[j]? = some u → w2.cell? ((⟨vb, 0, none⟩ : Addr).add j) = some u) := ⟨fun j u hj => by
    rw [Addr.add_lit, Nat.zero_add, blk_cell hvb2]
    simpa using hj⟩
   have hs1 : (splice cur.toList ((i + 1) * 5) ((cur.toList.drop (i * 5)).take ((n - i) * 5))).toArray.size = cap * 5 := by
    have e1 := My.splice_len cur.toList ((i + 1) * 5) ((cur.toList.drop (i * 5)).take ((n - i) * 5)) (by rw [HU.out, Array.length_toList (xs := cur), hcsz]; omega)
    rw [Array.length_toList (xs := cur), hcsz] at e1
    simpa using e1
   have HF2 : Aside0 (i * 5 + vs.length ≤ (splice cur.toList ((i + 1) * 5) ((cur.toList.drop (i * 5)).take ((n - i) * 5))).toArray.size) := ⟨by rw [hs1, hvl]; omega⟩
   clear hs1
   have HG2 := My.am hg2'
   have HW2 := My.am hw2
   have HH := My.am hh
   clear hg2 hg2' hvb2 hw2 hh hx1
   go_wp2_with ((with_reducible refine gate_dst (N := 82) rfl ?_); go_loud (refine My.wpList_copy_k rfl (.tmp 80) (.tmp 81) 23 23 rfl 64 5 Try.underlying23 hsz g (i * 5) (n + 1 - i) (cap - i) ⟨vb, 0, none⟩ 1 1 (by simp [Act.eval]) (by simp [Act.eval]) _ 64 HW2.out vs (by rw [hvl]; simp only [Nat.min_def]; split <;> omega) HV2.out HF2.out hvs ?_; intro w3 hw3 hg3; have HW3 := My.am hw3; have HG3 := My.am hg3; clear hw3 hg3))
   go_ret
   have hlen : (splice (splice cur.toList ((i + 1) * 5) ((cur.toList.drop (i * 5)).take ((n - i) * 5))) (i * 5) vs).length = cap * 5 := by
    have e1 : (splice cur.toList ((i + 1) * 5) ((cur.toList.drop (i * 5)).take ((n - i) * 5))).length = cur.toList.length := My.splice_len _ _ _ (by rw [HU.out, Array.length_toList (xs := cur), hcsz]; omega)
    rw [My.splice_len _ _ _ (by rw [e1, Array.length_toList (xs := cur), hcsz, hvl]; omega), e1, Array.length_toList (xs := cur), hcsz]
   have hfin : (splice (splice cur.toList ((i + 1) * 5) ((cur.toList.drop (i * 5)).take ((n - i) * 5))) (i * 5) vs).take ((n + 1) * 5) = cs.take (i * 5) ++ vs ++ cs.drop (i * 5) := by
    rw [← HT.out]
    exact My.ins_room cur.toList i n 5 vs hvl hi (by rw [Array.length_toList (xs := cur), hcsz]; omega)
   refine ⟨_, rfl, ⟨?_, .inr ⟨g, cap, _, rfl, hg, HW3.out, hroom, HCM.out, ?_, ?_⟩⟩, My.gtrans HG2.out HG3.out (fun j e => .inr e)⟩
   ·rw [hres.out, List.length_append, List.length_append, List.length_take, List.length_drop, hcl, hvl]
    omega
   ·rw [List.size_toArray]
    exact hlen
   rw [hres.out]
   exact hfin
  obtain rfl : cap = n := by omega
  have hsc : (cap + 1 - i : Nat) * 56 ≤ 281474976710656 := by omega
  have hold : (Builtin.firstCells i0.size i (.slice (some ⟨g, 0, none⟩) i cap)).run Try.prog w.drew = .ok (cs.take (i * 5)).toArray w.drew := by
   rw [hz1]
   refine run_firstCells_some w.drew 5 i ⟨g, 0, none⟩ i cap (cs.take (i * 5)) (by rw [List.length_take, hcl]; simp only [Nat.min_def]; split <;> omega) (fun j v hj => ?_)
   rw [Addr.add_lit, Nat.zero_add]
   show w.cell? _ = _
   rw [blk_cell hh]
   rw [List.getElem?_take] at hj
   split at hj
   ·rw [← ht, List.getElem?_take] at hj
    split at hj
    ·simpa using hj
    cases hj
   cases hj
  have hkk : (cap : Int) + 1 - (i : Int) = ((cap + 1 - i : Nat) : Int) := by omega
  have hik : i + (cap + 1 - i) = cap + 1 := by omega
  obtain ⟨G, hG⟩ : ∃ G, G = grownCap w (cap + 1) cap 64 := ⟨_, rfl⟩
  have hGn : cap + 1 ≤ G := by rw [hG]; exact grownCap_ge w _ _ _
  have hGM : G ≤ maxLen := by rw [hG]; exact grownCap_le_maxLen w (cap + 1) cap 64 (by unfold maxLen; omega)
  obtain ⟨ROW, hROW⟩ : ∃ ROW : Array Value, ROW = (cs.take (i * 5)).toArray ++ Builtin.zeroCells (.agg #[.string ⟨#[]⟩, .int .i64 0, .string ⟨#[]⟩, .int .i64 0, .int .i64 0] : Value).cells (cap + 1 - i) ++ Builtin.zeroCells (.agg #[.string ⟨#[]⟩, .int .i64 0, .string ⟨#[]⟩, .int .i64 0, .int .i64 0] : Value).cells (G - (cap + 1)) := ⟨_, rfl⟩
  have hrz : ∀ ty, (Builtin.append_ #[23, 3] ty #[.slice (some ⟨g, 0, none⟩) i cap, .int .i64 ((cap : Int) + 1 - (i : Int))]).run Try.prog w = .ok (.slice (some ⟨w.heap.size, 0, none⟩) (cap + 1) G) (w.drew.alloc (.cells ROW 64)) := fun ty => by
   have h := Lib.run_append_grow_zeros w 23 3 ty 64 i0 (.agg #[.string ⟨#[]⟩, .int .i64 0, .string ⟨#[]⟩, .int .i64 0, .int .i64 0]) .i64 .i64 Try.underlying23 Try.underlying3 hinfo hz0 (some ⟨g, 0, none⟩) i cap (cs.take (i * 5)) hold (cap + 1 - i) (by omega) (by rw [hz1]; decide) (by omega) (by omega) (by rw [hz2]; omega) (by rw [hz2, hik]; exact growslice_fits (by omega) hn)
   rw [hik, ← hG, ← hROW] at h
   rw [hkk]
   exact h
  have hRs : ROW.size = G * 5 := by
   rw [hROW, Array.size_append, Array.size_append, My.zc_size, My.zc_size, List.size_toArray, List.length_take, hcl, hzz]
   simp only [Nat.min_def]
   split <;> omega
  have hRt : ROW.toList.take (i * 5) = cs.take (i * 5) := by
   rw [hROW, Array.toList_append, Array.toList_append, List.append_assoc, List.take_append_of_le_length (by rw [List.length_take, hcl]; simp only [Nat.min_def]; split <;> omega)]
   rw [List.take_take, Nat.min_self]
  clear hROW hG hold hkk hik
  obtain ⟨W1, hW1⟩ : ∃ W1, W1 = w.drew.alloc (.cells ROW 64) := ⟨_, rfl⟩
  rw [← hW1] at hrz
  have hg1 : w.grownBy W1 none := by rw [hW1]; exact My.gtrans (My.gdrew w none) (World.grownBy_alloc _ _ none) (fun j e => by cases e)
  have hh1 : W1.heap[w.heap.size]? = some (.cells ROW 64 (0, 0)) := by rw [hW1]; exact blk_new w.drew _
  clear hW1
  have hvb1 : W1.heap[vb]? = some (.cells vs.toArray 64 (0, 0)) := (hg1.block vb hvw (by simp)).trans hvb
  have hgh1 : W1.heap[g]? = some (.cells cur 64 (0, 0)) := (hg1.block g hgw (by simp)).trans hh
  have HR1 := My.am hrz
  have HG1 := My.am hg1
  have HH1 := My.am hh1
  have HGH := My.am hgh1
  have HV1 : Aside0 (∀ (j : Nat) (u : Value), vs[j]? = some u → W1.cell? ((⟨vb, 0, none⟩ : Addr).add j) = some u) := ⟨fun j u hj => by
   rw [Addr.add_lit, Nat.zero_add, blk_cell hvb1]
   simpa using hj⟩
  have hGi : ¬ G = i := by omega
  have hGi1 : ¬ G = i + 1 := by omega
  have hci : ¬ cap = i := by omega
  have hG63 : G ≤ 9223372036854775807 := by unfold maxLen at hGM; exact hGM
  have hn1 : cap + 1 ≤ 9223372036854775807 := by omega
  have HC := My.am hcs
  have HT := My.am ht
  have HCM := My.am hGM
  have HRS := My.am hRs
  have HRT := My.am hRt
  have hlt1 : i * 5 + vs.length ≤ ROW.size := by rw [hRs, hvl]; omega
  clear hown hcs hcm hsz2 hin ht hgh1 hh1 hg1 hvb1 hRt hRs hrz hh hGM
  go_enter Try.func70, Try.ntmps70
  go_wp2_with (first
   | (at_builtin; refine Lib.wpList_append_run _ rfl _ _ _ _ rfl _ _ rfl rfl _ _ (HR1.out _) ?_)
   | ((with_reducible refine gate_dst (N := 45) rfl ?_); refine My.wpList_copy_k rfl (.tmp 43) (.tmp 44) 23 23 rfl 64 5 Try.underlying23 hsz w.heap.size (i * 5) (cap + 1 - i) (G - i) ⟨vb, 0, none⟩ 1 1 (by simp [Act.eval]) (by simp [Act.eval]) ROW 64 HH1.out vs (by rw [hvl]; simp only [Nat.min_def]; split <;> omega) HV1.out hlt1 hvs ?_; intro w2 hw2 hg2; have HW2 := My.am hw2; have HG2 := My.am hg2; clear hw2 hg2))
  have HGH2 : Aside0 (w2.heap[g]? = some (.cells cur 64 (0, 0))) := ⟨(HG2.out.block g (Nat.lt_of_lt_of_le hgw HG1.out.size) (fun e => by injection e with e; omega)).trans HGH.out⟩
  have HS : Aside0 (∀ (j : Nat) (v : Value), (cs.drop (i * 5))[j]? = some v → w2.drew.cell? ((⟨g, i * 5, none⟩ : Addr).add j) = some v) := ⟨fun j v hj => by
   rw [Addr.add_lit]
   show w2.cell? _ = _
   rw [blk_cell HGH2.out]
   rw [List.getElem?_drop, ← HT.out, List.getElem?_take] at hj
   split at hj
   ·simpa using hj
   cases hj⟩
  have HD : Aside0 ((cs.drop (i * 5)).length = (cap - i) * 5) := ⟨by rw [List.length_drop, hcl]; omega⟩
  have HM : Aside0 (∀ u ∈ cs.drop (i * 5), u.oneCell' = true) := ⟨fun u hu => HC.out u (List.mem_of_mem_drop hu)⟩
  have hs2 : (splice ROW.toList (i * 5) vs).length = G * 5 := by
   have e1 := My.splice_len ROW.toList (i * 5) vs (by rw [Array.length_toList (xs := ROW)]; exact hlt1)
   rw [e1, Array.length_toList (xs := ROW)]
   exact HRS.out
  have hs3 : (splice ROW.toList (i * 5) vs).toArray.size = G * 5 := by rw [List.size_toArray]; exact hs2
  have HF3 : Aside0 ((i + 1) * 5 + (cs.drop (i * 5)).length ≤ (splice ROW.toList (i * 5) vs).toArray.size) := ⟨by rw [hs3, HD.out]; omega⟩
  have HS2 := My.am hs2
  clear hs2 hs3
  have hx1 : IntKind.i64.wrap ((i : Int) + 1) = (i : Int) + 1 := by rw [IntKind.wrap_i64]; omega
  have hx2 : (0 : Int) ≤ (i : Int) + 1 := by omega
  have hx3 : (i : Int) + 1 ≤ (cap : Int) + 1 := by omega
  have hx4 : (i : Int) ≤ (cap : Int) := by omega
  have hx5 : ((i : Int) + 1).toNat = i + 1 := by omega
  go_region_law (refine My.step_copy_k rfl _ _ 23 23 rfl 64 5 Try.underlying23 hsz w.heap.size ((i + 1) * 5) (cap + 1 - (i + 1)) (G - (i + 1)) ⟨g, i * 5, none⟩ (cap - i) (cap - i) (by simp [Act.eval, Act.put]) (by simp [Act.eval, Act.put]) _ 64 HW2.out (cs.drop (i * 5)) (by rw [HD.out]; simp only [Nat.min_def]; split <;> omega) HS.out HF3.out HM.out ?_; intro w3 hw3 hg3)
  have HW3 := My.am hw3
  have HG3 := My.am hg3
  clear hw3 hg3 hx1 hx5
  go_wp2
  go_ret
  refine ⟨_, rfl, ⟨?_, .inr ⟨w.heap.size, G, _, rfl, hbase, HW3.out, by omega, HCM.out, ?_, ?_⟩⟩, ?_⟩
  ·rw [hres.out, List.length_append, List.length_append, List.length_take, List.length_drop, hcl, hvl]
   simp only [Nat.min_def]
   split <;> omega
  ·rw [List.size_toArray, My.splice_len _ _ _ (by rw [HS2.out, HD.out]; omega)]
   exact HS2.out
  ·rw [hres.out]
   exact My.ins_grow ROW.toList cs i cap 5 vs hvl hi (by rw [Array.length_toList (xs := ROW), HRS.out]; omega) hcl HRT.out
  exact My.gbut (My.gtrans (My.gtrans (My.gtrans HG1.out HG2.out (fun j e => .inl (by cases e; exact Nat.le_refl _))) (My.gdrew w2 none) (fun j e => by cases e)) HG3.out (fun j e => .inl (by cases e; exact Nat.le_refl _))) _

/-- slices.Insert of one element, into a row of the call's own: the row that it tells. -/
theorem Ins_mark_R (sv : Value) (xs : List S64) (j base : Nat) (ok : Nat → Prop) (x : S64) (vb : Nat) (w : World) (hR : Kd.R k64 64 w base ok sv xs) (hj : j ≤ xs.length) (hbase : base ≤ w.heap.size) (hn : xs.length ≤ 1000000)
  (hvb : w.heap[vb]? = some (.cells #[.string x.f0, .int .i64 x.f1.f0, .string x.f1.f1, .int .i64 x.f1.f2, .int .i64 x.f2] 64 (0, 0))) (hne : some vb ≠ sv.ownBlock) :
  Calls Try.prog 70 #[sv, .int .i64 (j : Int), .slice (some ⟨vb, 0, none⟩) 1 1] w fun e w' => ∃ v' : Value, e = .returned v' ∧ Kd.R k64 64 w' base (fun _ => True) v' (xs.take j ++ x :: xs.drop j) ∧ w.grownBy w' sv.ownBlock := by
 obtain ⟨_, inner, hown, hreps⟩ := hR
 refine (Ins_mark_at sv xs.length j base inner vb [.string x.f0, .int .i64 x.f1.f0, .string x.f1.f1, .int .i64 x.f1.f2, .int .i64 x.f2] w hown (My.reps_one1 hreps (by decide) (fun p c h u hu => by rw [k64_openM h] at hu; simp only [List.mem_cons, List.not_mem_nil, or_false] at hu; rcases hu with rfl | rfl | rfl | rfl | rfl <;> rfl)) hj hbase (by omega) rfl hvb (fun u hu => by simp only [List.mem_cons, List.not_mem_nil, or_false] at hu; rcases hu with rfl | rfl | rfl | rfl | rfl <;> rfl) hne _ ⟨rfl⟩).mono ?_
 rintro e w' ⟨v', rfl, ho, hg⟩
 have hl : (xs.take j ++ x :: xs.drop j).length = xs.length + 1 := by rw [List.length_append, List.length_cons, List.length_take, List.length_drop]; omega
 refine ⟨v', rfl, ⟨fun _ _ => trivial, _, by rw [hl]; exact ho, ?_⟩, hg⟩
 exact My.reps_insert (hreps.imp_ (fun p c h => by rw [k64_openM h]; exact k64_mkM _ _ _ p)) (k64_mkM _ _ _ x) rfl j hj

def ledger_changed_e (i : Int) (k0 : ByteArray) (k1 : Int) (k2 : ByteArray) (k3 k4 : Int) (xs : List S51) (ms : List S64) : Option (List S51 × List S64 × Int) := if 0 ≤ i ∧ i ≤ (ms.length : Int) ∧ ms.length ≤ 1000000 then some (xs, ms.take i.toNat ++ (⟨k0, ⟨k1, k2, k3⟩, k4⟩ : S64) :: ms.drop i.toNat, 0) else none
theorem ledger_changed_e_some {i : Int} {k0 : ByteArray} {k1 : Int} {k2 : ByteArray} {k3 k4 : Int} {xs : List S51} {ms : List S64} {r1 : List S51} {r2 : List S64} {r3 : Int} (h : ledger_changed_e i k0 k1 k2 k3 k4 xs ms = some (r1, r2, r3)) : 0 ≤ i ∧ i ≤ (ms.length : Int) ∧ ms.length ≤ 1000000 ∧ xs = r1 ∧ ms.take i.toNat ++ (⟨k0, ⟨k1, k2, k3⟩, k4⟩ : S64) :: ms.drop i.toNat = r2 ∧ 0 = r3 := by
 unfold ledger_changed_e at h
 split at h
 ·rename_i c
  simp only [Option.some.injEq, Prod.mk.injEq] at h
  exact ⟨c.1, c.2.1, c.2.2, h⟩
 cases h


end Go.Proofs.Ytikanbdhpafbiaa.PO
