-- Written by a program of this session (wip/tools/mp.py over the kit's printer); Lean checks it.
import Derived.Test.YtikanbdhpafbiaaPOx0
import Derived.Test.YtikanbdhpafbiaaPOx4
import Derived.Test.YtikanbdhpafbiaaPOx6
namespace Go.Proofs.Ytikanbdhpafbiaa.PO
open Go.RowKit Go.Proofs.YtikanbdhpafbiaaW.PrintWords Go.Proofs.YtikanbdhpafbiaaW.PrintLast Go.Proofs.YtikanbdhpafbiaaW.PrintMore
attribute [local go_sem] max2_int min2_int max_two min_two max_three min_three max_four min_four   -- for this text's walks alone
set_option linter.unusedVariables false
set_option maxHeartbeats 8000000
set_option maxRecDepth 100000
set_option linter.unusedSimpArgs false

/-! ### api_Account_64: function 64 -/

def api_Account_64.f (l0 : List S51) : Option (List S51) := if l0.length * 64 ≤ 140737488351232 then some l0 else none
theorem api_Account_64.info : (Try.prog.info? 51).map (fun i => (i.zero, i.size, i.bytes)) = some (some (.agg #[.string ⟨#[]⟩, .int .i64 0, .int .i64 0, .int .i64 0, .int .i64 0, .int .i64 0, .int .i64 0]), k51.sz, 64) := by kernel_rfl
set_option maxHeartbeats 4000000 in
theorem api_Account_64.calls (A0 : Option Addr) (c0 : Nat) (l0 : List S51) (r : List S51) (w : World) (hr0 : Kd.C k51 w A0 l0.length l0) (hc0 : l0.length ≤ c0) (h : api_Account_64.f l0 = some r) :
  Calls Try.prog 64 #[.slice A0 l0.length c0] w fun e w' => ∃ v0_ : Value, e = .returned v0_ ∧ Kd.R k51 51 w' w.heap.size (fun _ => True) v0_ r ∧ Below w.heap.size w w' := by
 unfold api_Account_64.f at h
 by_cases c : l0.length * 64 ≤ 140737488351232
 ·rw [if_pos c] at h
  obtain rfl := Option.some.inj h
  clear h
  have q22 : ∀ (w : World) (a : Option Addr) (n c n' c' : Nat), (binOp .eql 22 (.slice a n c) (.slice none n' c')).run Try.prog w = .ok (.bool a.isNone) w := fun w a n c n' c' => Lib.run_eql_slice_nil w _ _ a n c n' c' Try.underlying22
  have HC := My.am hr0
  rcases A0 with _ | ad
  ·have h0 : l0 = [] := by
    rcases l0 with _ | ⟨x, l⟩
    ·rfl
    obtain ⟨ad, e, _⟩ := hr0.2.2 (by simp)
    cases e
   clear hr0
   subst h0
   go_enter Try.func64, Try.ntmps64
   go_wp2
   go_ret
   exact ⟨_, rfl, Kd.R_nil _ _ _ _ _, Below.refl _ _⟩
  ·clear hr0
   have hr2 := Kd.R_nil k51 51 (w.alloc (.cells #[] 51)) w.heap.size (fun _ => True)
   have hm : Kd.R k51 51 (w.alloc (.cells #[] 51)) w.heap.size (fun _ => True) (.slice (some ⟨w.heap.size, 0, none⟩) 0 0) [] := ⟨fun _ _ => trivial, _, World.ownsRow_made w #[] 0 (Nat.le_refl _) (Nat.zero_le _) rfl, Reps.none _ _⟩
   have HM := My.am hm
   have HA := My.am (Kd.C_alloc HC.out (.cells #[] 51))
   have HB := My.am (below_alloc (Below.refl w.heap.size w) (.cells #[] 51))
   clear hm hr2
   go_enter Try.func64, Try.ntmps64
   go_wp2_with (at_builtin; refine Kd.R_append_rows k51 (w0 := w) w.heap.size rfl _ _ 22 51 (.agg #[.string ⟨#[]⟩, .int .i64 0, .int .i64 0, .int .i64 0, .int .i64 0, .int .i64 0, .int .i64 0]) 64 rfl Try.underlying22 api_Account_64.info rfl (by decide) (by decide) _ [] l0 _ _ _ (fun _ => True) (fun _ => False) rfl rfl HM.out HA.out (fun x cs h => by rw [k51_open h]; exact k51_mkM _ _ _ x) (fun _ h => h.elim) (fun _ _ => trivial) HB.out (by simp) (by simp; omega) ?_; intro v1 w1 hr1 hb1 hg1 hat1)
   go_ret
   exact ⟨_, rfl, by simpa using hr1, hb1⟩
 ·rw [if_neg c] at h
  cases h


/-! ### api_Mark_65: function 65 -/

def api_Mark_65.f (l0 : List S64) : Option (List S64) := if l0.length * 56 ≤ 140737488351232 then some l0 else none
theorem api_Mark_65.info : (Try.prog.info? 64).map (fun i => (i.zero, i.size, i.bytes)) = some (some (.agg #[.string ⟨#[]⟩, .int .i64 0, .string ⟨#[]⟩, .int .i64 0, .int .i64 0]), k64.sz, 56) := by kernel_rfl
set_option maxHeartbeats 4000000 in
theorem api_Mark_65.calls (A0 : Option Addr) (c0 : Nat) (l0 : List S64) (r : List S64) (w : World) (hr0 : Kd.C k64 w A0 l0.length l0) (hc0 : l0.length ≤ c0) (h : api_Mark_65.f l0 = some r) :
  Calls Try.prog 65 #[.slice A0 l0.length c0] w fun e w' => ∃ v0_ : Value, e = .returned v0_ ∧ Kd.R k64 64 w' w.heap.size (fun _ => True) v0_ r ∧ Below w.heap.size w w' := by
 unfold api_Mark_65.f at h
 by_cases c : l0.length * 56 ≤ 140737488351232
 ·rw [if_pos c] at h
  obtain rfl := Option.some.inj h
  clear h
  have q22 : ∀ (w : World) (a : Option Addr) (n c n' c' : Nat), (binOp .eql 23 (.slice a n c) (.slice none n' c')).run Try.prog w = .ok (.bool a.isNone) w := fun w a n c n' c' => Lib.run_eql_slice_nil w _ _ a n c n' c' Try.underlying23
  have HC := My.am hr0
  rcases A0 with _ | ad
  ·have h0 : l0 = [] := by
    rcases l0 with _ | ⟨x, l⟩
    ·rfl
    obtain ⟨ad, e, _⟩ := hr0.2.2 (by simp)
    cases e
   clear hr0
   subst h0
   go_enter Try.func65, Try.ntmps65
   go_wp2
   go_ret
   exact ⟨_, rfl, Kd.R_nil _ _ _ _ _, Below.refl _ _⟩
  ·clear hr0
   have hr2 := Kd.R_nil k64 64 (w.alloc (.cells #[] 64)) w.heap.size (fun _ => True)
   have hm : Kd.R k64 64 (w.alloc (.cells #[] 64)) w.heap.size (fun _ => True) (.slice (some ⟨w.heap.size, 0, none⟩) 0 0) [] := ⟨fun _ _ => trivial, _, World.ownsRow_made w #[] 0 (Nat.le_refl _) (Nat.zero_le _) rfl, Reps.none _ _⟩
   have HM := My.am hm
   have HA := My.am (Kd.C_alloc HC.out (.cells #[] 64))
   have HB := My.am (below_alloc (Below.refl w.heap.size w) (.cells #[] 64))
   clear hm hr2
   go_enter Try.func65, Try.ntmps65
   go_wp2_with (at_builtin; refine Kd.R_append_rows k64 (w0 := w) w.heap.size rfl _ _ 23 64 (.agg #[.string ⟨#[]⟩, .int .i64 0, .string ⟨#[]⟩, .int .i64 0, .int .i64 0]) 56 rfl Try.underlying23 api_Mark_65.info rfl (by decide) (by decide) _ [] l0 _ _ _ (fun _ => True) (fun _ => False) rfl rfl HM.out HA.out (fun x cs h => by rw [k64_open h]; exact k64_mkM _ _ _ x) (fun _ h => h.elim) (fun _ _ => trivial) HB.out (by simp) (by simp; omega) ?_; intro v1 w1 hr1 hb1 hg1 hat1)
   go_ret
   exact ⟨_, rfl, by simpa using hr1, hb1⟩
 ·rw [if_neg c] at h
  cases h


/-! ### ledger_copied: function 33 -/
def ledger_copied.f (l0_0 : List (S51)) (l0_1 : List (S64)) : Option ((List (S51)) × (List (S64))) := (api_Account_64.f l0_0).bind fun t140 => ((api_Mark_65.f l0_1).bind fun t143 => (some (t140, t143)))
def ledger_copied.T1 : Bool × List (List Nat × List Nat) := (true, [([], []), ([0], [0]), ([1], [1]), ([], []), ([3], [3]), ([4, 2], [4]), ([2, 5], [2, 5]), ([6, 5, 0, 1, 2, 3, 4, 5, 6], [6])])
def ledger_copied.B1 : List Nat := [0, 1, 3, 0, 8, 31, 63, 127]
theorem ledger_copied.tab1 : rtab .any (opsOf Try.f33 1) = ledger_copied.T1 := by kernel_rfl
theorem ledger_copied.bits1 : waitsOk ledger_copied.T1.2 ledger_copied.B1 = true := by kernel_rfl
theorem ledger_copied.calls (A0_0 : Option Addr) (c0_0 : Nat) (l0_0 : List (S51)) (A0_1 : Option Addr) (c0_1 : Nat) (l0_1 : List (S64)) (r1 : List (S51)) (r2 : List (S64)) (w : World) (hr0_0 : Kd.C k51 w A0_0 l0_0.length l0_0) (hc0_0 : l0_0.length ≤ c0_0) (hr0_1 : Kd.C k64 w A0_1 l0_1.length l0_1) (hc0_1 : l0_1.length ≤ c0_1) (h : ledger_copied.f l0_0 l0_1 = some (r1, r2)) :
  Calls Try.prog 33 #[.agg #[.slice A0_0 l0_0.length c0_0, .slice A0_1 l0_1.length c0_1]] w fun e w' => ∃ v0_ v1_ : Value, e = .returned (.agg #[v0_, v1_]) ∧ Kd.R k51 51 w' w.heap.size (fun _ => True) v0_ r1 ∧ Kd.R k64 64 w' w.heap.size (fun _ => True) v1_ r2 ∧ Below w.heap.size w w' := by
 have hu25 := Try.underlying25
 have HR0_0 := My.am hr0_0
 have HC0_0 := My.am hc0_0
 clear hr0_0 hc0_0
 have HR0_1 := My.am hr0_1
 have HC0_1 := My.am hc0_1
 clear hr0_1 hc0_1
 have HB := My.am (Below.refl w.heap.size w)
 unfold ledger_copied.f at h
 have H := h
 clear h
 replace H := Option.bind_eq_some_iff.mp H
 obtain ⟨t140, A20, H⟩ := H
 try dsimp only at H
 have A2 := My.am A20
 clear A20
 replace H := Option.bind_eq_some_iff.mp H
 obtain ⟨t143, A30, H⟩ := H
 try dsimp only at H
 have A3 := My.am A30
 clear A30
 simp only [Option.some.injEq, Prod.mk.injEq] at H
 obtain ⟨rfl, rfl⟩ := H
 go_enter Try.func33, Try.ntmps33
 try go_wp2_with (first | ((with_reducible refine gate_dst (N := 1) rfl ?_); refine My.bx 1 #[.slice A0_0 l0_0.length c0_0, .slice A0_1 l0_1.length c0_1] 25 ?_; intro gb138 hg w4 hbox hb; have BK138 := My.am (hbox); have GE138 := My.nge hg (My.bl_ HB); replace HB := My.st HB hb; clear hb hbox hg) | ((with_reducible refine gate_dst (N := 2) rfl ?_); refine My.bx 2 #[.slice none 0 0, .slice none 0 0] 25 ?_; intro gb139 hg w5 hbox hb; have BK139 := My.am (hbox); have GE139 := My.nge hg (My.bl_ HB); replace HB := My.st HB hb; obtain ⟨NB138_139, NB139_138, BK138⟩ := My.nb hg hb BK138; clear hb hbox hg))
 replace BK138 := My.am (blk_drew BK138.out)
 replace BK139 := My.am (blk_drew BK139.out)
 replace HB := My.am (below_drew1 HB.out)
 refine start_ (n := 8) (S := fun w' => w'.cell? ⟨gb138, 0, none⟩ = some (.slice A0_0 l0_0.length c0_0) ∧ w'.cell? ⟨gb138, 1, none⟩ = some (.slice A0_1 l0_1.length c0_1)) (ds := []) #[false, false, false, false, false, false, false, false] (by kernel_rfl) rfl rfl ⟨My.b_ BK138 0, My.b_ BK138 1⟩ (fun hHeld => ?_); refine with_tabW ledger_copied.tab1 ledger_copied.bits1 (fun HT_ HW_ => ?_)
 generalize w5.drew = w6 at BK138 BK139 HB hHeld ⊢
 refine My.pu_ 0 3 8 HT_.out ?_
 refine My.pv_ 3 6 8 9 HT_.out ?_
 refine My.tv_ 1 4 8 11 HT_.out HW_.out hHeld rfl rfl (by rintro w' ⟨s0, s1⟩; go_simp; with_reducible rfl) ?_
 refine My.tv_ 4 7 8 27 HT_.out HW_.out hHeld rfl rfl (by rintro w' ⟨s0, s1⟩; go_simp; with_reducible rfl) ?_
 refine one_ (i := 2) (N := some 5) (My.Mb 8 31) rfl rfl (one_of HT_.out (by kernel_rfl)) (by decide) (fun K hK => ?_)
 refine goes_ Try.func64 (by kernel_rfl) rfl #[.slice A0_0 l0_0.length c0_0] (by rfl) rfl rfl My.gx ?_
 with_reducible refine (api_Account_64.calls _ _ l0_0 t140 _ ?side1 ?side2 A2.out).mono ?_
 (case side1 => exact My.sd_ HR0_0 HB)
 (case side2 => exact HC0_0.out)
 rintro e w7 ⟨v141, rfl, ho0, hb⟩
 refine ⟨_, rfl, ?_⟩
 have HO142 := My.am (Kd.R_lower ho0 (below_size (My.bl_ HB)))
 replace BK138 := My.ab BK138 hb
 replace BK139 := My.ab BK139 hb
 replace HB := My.st HB hb
 (try clear hb)
 (try clear hb2)
 (try clear hk)
 (try clear hi)
 (try clear ho0)
 refine hK.out _ _ ⟨My.b_ BK138 0, My.b_ BK138 1⟩ (fun hHeld => ?_)
 clear hK K
 refine My.nm 5 ?_
 refine one_ (i := 5) (N := some 8) (My.Mb 8 63) rfl rfl (one_of HT_.out (by kernel_rfl)) (by decide) (fun K hK => ?_)
 refine goes_ Try.func65 (by kernel_rfl) rfl #[.slice A0_1 l0_1.length c0_1] (by rfl) rfl rfl My.gx ?_
 with_reducible refine (api_Mark_65.calls _ _ l0_1 t143 _ ?side1 ?side2 A3.out).mono ?_
 (case side1 => exact My.sd_ HR0_1 HB)
 (case side2 => exact HC0_1.out)
 rintro e w8 ⟨v144, rfl, ho0, hb⟩
 refine ⟨_, rfl, ?_⟩
 replace HO142 := My.am (Kd.R_below (My.dr HO142.out) hb)
 have HO145 := My.am (Kd.R_lower ho0 (below_size (My.bl_ HB)))
 replace BK138 := My.ab BK138 hb
 replace BK139 := My.ab BK139 hb
 replace HB := My.st HB hb
 (try clear hb)
 (try clear hb2)
 (try clear hk)
 (try clear hi)
 (try clear ho0)
 obtain ⟨Ao9, co9, eo9⟩ := Kd.R_slice HO145.out
 (first | subst eo9 | (injection eo9 with f1_ f2_ f3_; have f4_ := f1_.symm; have f5_ := f3_.symm; clear f1_ f2_ f3_; subst f4_; subst f5_))
 obtain ⟨Ao10, co10, eo10⟩ := Kd.R_slice HO142.out
 (first | subst eo10 | (injection eo10 with f1_ f2_ f3_; have f4_ := f1_.symm; have f5_ := f3_.symm; clear f1_ f2_ f3_; subst f4_; subst f5_))
 refine hK.out _ _ ⟨My.b_ BK138 0, My.b_ BK138 1⟩ (fun hHeld => ?_)
 clear hK K
 refine My.nm 8 ?_
 refine My.pu_ 6 9 8 HT_.out ?_
 refine one_ (i := 7) (N := none) (My.Mb 8 255) rfl rfl (one_of HT_.out (by kernel_rfl)) (by decide) (fun K hK => ?_)
 have hs11 : w8.cell? ⟨gb139, 0, none⟩ = some (.slice none 0 0) := My.b_ BK139 0
 have hfs11 := blk_frozen BK139.out 0
 have hns11_0 := NB138_139.out
 have hms11_0 := NB139_138.out
 have hs12 : w8.cell? ⟨gb139, 1, none⟩ = some (.slice none 0 0) := My.b_ BK139 1
 have hfs12 := blk_frozen BK139.out 1
 have hns12_0 := NB138_139.out
 have hms12_0 := NB139_138.out
 refine skip_ (w1 := ?_) (by rfl) rfl ?_ ?_
 rotate_left
 ·go_simp
  rfl
 refine hK.out _ _ ⟨(My.c2 NB138_139.out hHeld.1), (My.c2 NB138_139.out hHeld.2)⟩ (fun hHeld => ?_)
 clear hK K
 refine done_ (done_of HT_.out (by kernel_rfl)) ?_
 try go_wp2
 refine bodyPost_ret (results_cell_row rfl _ _ gb139 25 #[.slice Ao10 t140.length co10, .slice Ao9 t143.length co9] (0, 0) _ rfl ((My.sv_ BK139)) Try.underlying25 rfl (by kernel_rfl)) rfl ?_
 exact ⟨_, _, My.r2, My.dR (Kd.R_mono (Kd.R_far (p := ⟨gb139, 1, none⟩) (Kd.R_far (p := ⟨gb139, 0, none⟩) (Kd.R_types HO142.out BK139.out (by decide)) (fun _ hk => hk.2) (.slice Ao10 t140.length co10)) (fun _ hk => hk.2) (.slice Ao9 t143.length co9)) (fun _ hk => trivial)), My.dR (Kd.R_mono (Kd.R_far (p := ⟨gb139, 1, none⟩) (Kd.R_far (p := ⟨gb139, 0, none⟩) (Kd.R_types HO145.out BK139.out (by decide)) (fun _ hk => hk.2) (.slice Ao10 t140.length co10)) (fun _ hk => hk.2) (.slice Ao9 t143.length co9)) (fun _ hk => trivial)), (My.bl_ HB)⟩

-- NOT PRINTED: function 66 (api_Account_66)

/-! ### api_Account_94: function 94 -/


/-! ### api_Account_82: function 82 -/


/-! ### api_Account_67: function 67 -/


/-! ### api_Account_34: function 34 -/
theorem Ins_acc_info : (Try.prog.info? 51).map (fun i => (i.zero, i.size, i.bytes)) = some (some (.agg #[.string ⟨#[]⟩, .int .i64 0, .int .i64 0, .int .i64 0, .int .i64 0, .int .i64 0, .int .i64 0]), 7, 64) := by kernel_rfl
/-- slices.Insert of one element, into a row of the call's own. -/
theorem Ins_acc_at (sv : Value) (n i base : Nat) (cs : List Value) (vb : Nat) (vs : List Value) (w : World) (hown : w.ownsRow base 51 7 sv n cs) (hcs : ∀ u ∈ cs, u.oneCell' = true) (hi : i ≤ n) (hbase : base ≤ w.heap.size) (hn : (n + 1) * 64 ≤ 140737488355328)
  (hvl : vs.length = 7) (hvb : w.heap[vb]? = some (.cells vs.toArray 51 (0, 0))) (hvs : ∀ u ∈ vs, u.oneCell' = true) (hne : some vb ≠ sv.ownBlock) (res : List Value) (hres : Aside0 (res = cs.take (i * 7) ++ vs ++ cs.drop (i * 7))) :
  Calls Try.prog 34 #[sv, .int .i64 (i : Int), .slice (some ⟨vb, 0, none⟩) 1 1] w fun e w' => ∃ v' : Value, e = .returned v' ∧ w'.ownsRow base 51 7 v' (n + 1) res ∧ w.grownBy w' sv.ownBlock := by
 obtain ⟨i0, hinfo, hz0, hz1, hz2⟩ := info_parts Ins_acc_info
 have hzz : (.agg #[.string ⟨#[]⟩, .int .i64 0, .int .i64 0, .int .i64 0, .int .i64 0, .int .i64 0, .int .i64 0] : Value).cells.size = 7 := rfl
 have hcl : cs.length = n * 7 := hown.1
 have hvc : ∀ j u, vs[j]? = some u → w.cell? ((⟨vb, 0, none⟩ : Addr).add j) = some u := fun j u hj => by
  rw [Addr.add_lit, Nat.zero_add, blk_cell hvb]
  simpa using hj
 have HV := My.am hvc
 clear hvc
 by_cases hin : i = n
 ·subst hin
  have htk : cs.take (i * 7) ++ vs ++ cs.drop (i * 7) = cs ++ vs := by rw [← hcl, List.take_length, List.drop_length, List.append_nil]
  have HTK : Aside0 (res = cs ++ vs) := ⟨hres.out.trans htk⟩
  have HO := My.am hown
  rcases hown.2 with ⟨rfl, h0⟩ | ⟨g, cap, cur, rfl, hg, hh, hnc, hcm, hcsz, ht⟩
  ·subst h0
   clear hown hcl htk hcs
   go_enter Try.func34, Try.ntmps34
   go_wp2_with (at_builtin; refine wpList_append_own _ rfl _ _ 22 rfl base 51 i0 (.agg #[.string ⟨#[]⟩, .int .i64 0, .int .i64 0, .int .i64 0, .int .i64 0, .int .i64 0, .int .i64 0]) 7 64 Try.underlying22 hinfo hz0 hz1 hz2 rfl (by decide) _ 0 cs rfl HO.out ⟨vb, 0, none⟩ 1 1 vs rfl (by rw [hvl]) HV.out hvs (by unfold maxLen; omega) (by omega) hbase ?_; intro v' w1 hown' hgrow hnil)
   go_ret
   exact ⟨_, rfl, by rw [HTK.out]; exact hown', hgrow⟩
  ·clear hown hcl htk hcs hh ht hcsz
   have hc63 : cap ≤ 9223372036854775807 := by unfold maxLen at hcm; exact hcm
   clear hcm
   by_cases hci : cap = i
   ·subst hci
    go_enter Try.func34, Try.ntmps34
    go_wp2_with (at_builtin; refine wpList_append_own _ rfl _ _ 22 rfl base 51 i0 (.agg #[.string ⟨#[]⟩, .int .i64 0, .int .i64 0, .int .i64 0, .int .i64 0, .int .i64 0, .int .i64 0]) 7 64 Try.underlying22 hinfo hz0 hz1 hz2 rfl (by decide) _ cap cs rfl HO.out ⟨vb, 0, none⟩ 1 1 vs rfl (by rw [hvl]) HV.out hvs (by unfold maxLen; omega) (by omega) hbase ?_; intro v' w1 hown' hgrow hnil)
    go_ret
    exact ⟨_, rfl, by rw [HTK.out]; exact hown', hgrow⟩
   go_enter Try.func34, Try.ntmps34
   go_wp2_with (at_builtin; refine wpList_append_own _ rfl _ _ 22 rfl base 51 i0 (.agg #[.string ⟨#[]⟩, .int .i64 0, .int .i64 0, .int .i64 0, .int .i64 0, .int .i64 0, .int .i64 0]) 7 64 Try.underlying22 hinfo hz0 hz1 hz2 rfl (by decide) _ i cs rfl HO.out ⟨vb, 0, none⟩ 1 1 vs rfl (by rw [hvl]) HV.out hvs (by unfold maxLen; omega) (by omega) hbase ?_; intro v' w1 hown' hgrow hnil)
   go_ret
   exact ⟨_, rfl, by rw [HTK.out]; exact hown', hgrow⟩
 ·obtain ⟨g, cap, cur, rfl, hg, hh, hnc, hcm, hcsz, ht⟩ : ∃ g cap cur, sv = .slice (some ⟨g, 0, none⟩) n cap ∧ base ≤ g ∧ w.heap[g]? = some (.cells cur 51 (0, 0)) ∧ n ≤ cap ∧ cap ≤ maxLen ∧ cur.size = cap * 7 ∧ cur.toList.take (n * 7) = cs := by
   rcases hown.2 with ⟨_, h0⟩ | h
   ·omega
   exact h
  have hc63 : cap ≤ 9223372036854775807 := by unfold maxLen at hcm; exact hcm
  have hsz : (Try.prog.info? 51).map (·.size) = some 7 := by rw [hinfo]; simp [hz1]
  have hsz2 : ∀ w, (Go.sizeOf 51).run Try.prog w = .ok 7 w := fun w => by simp [sizeOf, typeInfo, hinfo, hz1]
  have hilt : i < n := by omega
  have hgw : g < w.heap.size := (Array.getElem?_eq_some_iff.1 hh).1
  have hvw : vb < w.heap.size := (Array.getElem?_eq_some_iff.1 hvb).1
  have hgv : vb ≠ g := fun h => hne (by rw [h]; rfl)
  by_cases hroom : n + 1 ≤ cap
  ·have hov : ∀ o lb cb, (callFunc 66 #[.slice (some ⟨vb, 0, none⟩) 1 1, .slice (some ⟨g, o, none⟩) lb cb]).run Try.prog w = .ok (.value (.bool false)) w := fun o lb cb => by
    rw [run_callFunc_extern Try.func66 (by kernel_rfl) (by kernel_rfl) (by kernel_rfl) (e := Extern.SlicesOverlaps.overlaps #[22, 22] #[4]) (by kernel_rfl),
     Lib.run_overlaps_apart w 22 4 51 Try.underlying22 7 hsz2 ⟨vb, 0, none⟩ ⟨g, o, none⟩ 1 1 lb cb hgv 51 51 vs.toArray.size cur.size (by simp [World.shape?, hvb]) (by simp [World.shape?, hh]) (by rw [hcsz]; omega) (by simp [World.frozen?, hvb]) (by simp [World.frozen?, hvb])]
    rfl
   have HOV := My.am hov
   clear hov
   have hci : ¬ cap = i := by omega
   have hci1 : (i : Int) + 1 ≤ (cap : Int) := by omega
   have hci2 : ¬ cap = i + 1 := by omega
   have hci3 : ((i : Int) + 1).toNat = i + 1 := by omega
   have hn1 : n + 1 ≤ 9223372036854775807 := by omega
   have HC := My.am hcs
   have HT := My.am ht
   have HCM := My.am hcm
   clear hown hcs hcm hsz2 hin ht
   go_enter Try.func34, Try.ntmps34
   go_wp2_with (simp only [HOV.out])
   have hx1 : IntKind.i64.wrap ((i : Int) + 1) = (i : Int) + 1 := by rw [IntKind.wrap_i64]; omega
   have hx2 : (0 : Int) ≤ (i : Int) + 1 := by omega
   have hx3 : (i : Int) + 1 ≤ (n : Int) + 1 := by omega
   have hx4 : (i : Int) ≤ (n : Int) + 1 := by omega
   have hcur : ((cur.toList.drop (i * 7)).take ((n - i) * 7)).length = (n - i) * 7 := by
    rw [List.length_take, List.length_drop, Array.length_toList (xs := cur), hcsz, Nat.min_eq_left]
    omega
   have hmem : ∀ u ∈ (cur.toList.drop (i * 7)).take ((n - i) * 7), u.oneCell' = true := fun u hu => by
    refine HC.out u ?_
    rw [← HT.out, List.mem_take_iff_getElem] 
    obtain ⟨j, hj, rfl⟩ := List.mem_take_iff_getElem.1 hu
    rw [List.length_drop, Array.length_toList (xs := cur)] at hj
    refine ⟨i * 7 + j, by rw [Array.length_toList (xs := cur)]; omega, ?_⟩
    rw [List.getElem_drop]
   have HS : Aside0 (∀ (j : Nat) (v : Value), ((cur.toList.drop (i * 7)).take ((n - i) * 7))[j]? = some v → w.drew.cell? ((⟨g, i * 7, none⟩ : Addr).add j) = some v) := ⟨fun j v hj => by
    rw [Addr.add_lit]
    show w.cell? _ = _
    rw [blk_cell hh]
    rw [List.getElem?_take] at hj
    split at hj
    ·rw [List.getElem?_drop] at hj
     simpa using hj
    cases hj⟩
   have HM := My.am hmem
   have HU := My.am hcur
   clear hmem hcur
   go_region_law (refine My.step_copy_k rfl _ _ 22 22 rfl 51 7 Try.underlying22 hsz g ((i + 1) * 7) (n + 1 - (i + 1)) (cap - (i + 1)) ⟨g, i * 7, none⟩ (n + 1 - i) (cap - i) (by simp [Act.eval, Act.put]) (by simp [Act.eval, Act.put]) cur 51 hh ((cur.toList.drop (i * 7)).take ((n - i) * 7)) (by rw [HU.out]; simp only [Nat.min_def]; split <;> omega) HS.out (by rw [HU.out, hcsz]; omega) HM.out ?_; intro w2 hw2 hg2)
   have hg2' : w.grownBy w2 (some g) := My.gtrans (My.gdrew w (some g)) hg2 (fun j e => .inr e)
   have hvb2 : w2.heap[vb]? = some (.cells vs.toArray 51 (0, 0)) := (hg2'.block vb hvw (fun e => hgv (Option.some.inj e))).trans hvb
   have HV2 : Aside0 (∀ (j : Nat) (u : Value), vs[j]? = some u → w2.cell? ((⟨vb, 0, none⟩ : Addr).add j) = some u) := ⟨fun j u hj => by
    rw [Addr.add_lit, Nat.zero_add, blk_cell hvb2]
    simpa using hj⟩
   have hs1 : (splice cur.toList ((i + 1) * 7) ((cur.toList.drop (i * 7)).take ((n - i) * 7))).toArray.size = cap * 7 := by
    have e1 := My.splice_len cur.toList ((i + 1) * 7) ((cur.toList.drop (i * 7)).take ((n - i) * 7)) (by rw [HU.out, Array.length_toList (xs := cur), hcsz]; omega)
    rw [Array.length_toList (xs := cur), hcsz] at e1
    simpa using e1
   have HF2 : Aside0 (i * 7 + vs.length ≤ (splice cur.toList ((i + 1) * 7) ((cur.toList.drop (i * 7)).take ((n - i) * 7))).toArray.size) := ⟨by rw [hs1, hvl]; omega⟩
   clear hs1
   have HG2 := My.am hg2'
   have HW2 := My.am hw2
   have HH := My.am hh
   clear hg2 hg2' hvb2 hw2 hh hx1
   go_wp2_with ((with_reducible refine gate_dst (N := 82) rfl ?_); go_loud (refine My.wpList_copy_k rfl (.tmp 80) (.tmp 81) 22 22 rfl 51 7 Try.underlying22 hsz g (i * 7) (n + 1 - i) (cap - i) ⟨vb, 0, none⟩ 1 1 (by simp [Act.eval]) (by simp [Act.eval]) _ 51 HW2.out vs (by rw [hvl]; simp only [Nat.min_def]; split <;> omega) HV2.out HF2.out hvs ?_; intro w3 hw3 hg3; have HW3 := My.am hw3; have HG3 := My.am hg3; clear hw3 hg3))
   go_ret
   have hlen : (splice (splice cur.toList ((i + 1) * 7) ((cur.toList.drop (i * 7)).take ((n - i) * 7))) (i * 7) vs).length = cap * 7 := by
    have e1 : (splice cur.toList ((i + 1) * 7) ((cur.toList.drop (i * 7)).take ((n - i) * 7))).length = cur.toList.length := My.splice_len _ _ _ (by rw [HU.out, Array.length_toList (xs := cur), hcsz]; omega)
    rw [My.splice_len _ _ _ (by rw [e1, Array.length_toList (xs := cur), hcsz, hvl]; omega), e1, Array.length_toList (xs := cur), hcsz]
   have hfin : (splice (splice cur.toList ((i + 1) * 7) ((cur.toList.drop (i * 7)).take ((n - i) * 7))) (i * 7) vs).take ((n + 1) * 7) = cs.take (i * 7) ++ vs ++ cs.drop (i * 7) := by
    rw [← HT.out]
    exact My.ins_room cur.toList i n 7 vs hvl hi (by rw [Array.length_toList (xs := cur), hcsz]; omega)
   refine ⟨_, rfl, ⟨?_, .inr ⟨g, cap, _, rfl, hg, HW3.out, hroom, HCM.out, ?_, ?_⟩⟩, My.gtrans HG2.out HG3.out (fun j e => .inr e)⟩
   ·rw [hres.out, List.length_append, List.length_append, List.length_take, List.length_drop, hcl, hvl]
    omega
   ·rw [List.size_toArray]
    exact hlen
   rw [hres.out]
   exact hfin
  obtain rfl : cap = n := by omega
  have hsc : (cap + 1 - i : Nat) * 64 ≤ 281474976710656 := by omega
  have hold : (Builtin.firstCells i0.size i (.slice (some ⟨g, 0, none⟩) i cap)).run Try.prog w.drew = .ok (cs.take (i * 7)).toArray w.drew := by
   rw [hz1]
   refine run_firstCells_some w.drew 7 i ⟨g, 0, none⟩ i cap (cs.take (i * 7)) (by rw [List.length_take, hcl]; simp only [Nat.min_def]; split <;> omega) (fun j v hj => ?_)
   rw [Addr.add_lit, Nat.zero_add]
   show w.cell? _ = _
   rw [blk_cell hh]
   rw [List.getElem?_take] at hj
   split at hj
   ·rw [← ht, List.getElem?_take] at hj
    split at hj
    ·simpa using hj
    cases hj
   cases hj
  have hkk : (cap : Int) + 1 - (i : Int) = ((cap + 1 - i : Nat) : Int) := by omega
  have hik : i + (cap + 1 - i) = cap + 1 := by omega
  obtain ⟨G, hG⟩ : ∃ G, G = grownCap w (cap + 1) cap 51 := ⟨_, rfl⟩
  have hGn : cap + 1 ≤ G := by rw [hG]; exact grownCap_ge w _ _ _
  have hGM : G ≤ maxLen := by rw [hG]; exact grownCap_le_maxLen w (cap + 1) cap 51 (by unfold maxLen; omega)
  obtain ⟨ROW, hROW⟩ : ∃ ROW : Array Value, ROW = (cs.take (i * 7)).toArray ++ Builtin.zeroCells (.agg #[.string ⟨#[]⟩, .int .i64 0, .int .i64 0, .int .i64 0, .int .i64 0, .int .i64 0, .int .i64 0] : Value).cells (cap + 1 - i) ++ Builtin.zeroCells (.agg #[.string ⟨#[]⟩, .int .i64 0, .int .i64 0, .int .i64 0, .int .i64 0, .int .i64 0, .int .i64 0] : Value).cells (G - (cap + 1)) := ⟨_, rfl⟩
  have hrz : ∀ ty, (Builtin.append_ #[22, 3] ty #[.slice (some ⟨g, 0, none⟩) i cap, .int .i64 ((cap : Int) + 1 - (i : Int))]).run Try.prog w = .ok (.slice (some ⟨w.heap.size, 0, none⟩) (cap + 1) G) (w.drew.alloc (.cells ROW 51)) := fun ty => by
   have h := Lib.run_append_grow_zeros w 22 3 ty 51 i0 (.agg #[.string ⟨#[]⟩, .int .i64 0, .int .i64 0, .int .i64 0, .int .i64 0, .int .i64 0, .int .i64 0]) .i64 .i64 Try.underlying22 Try.underlying3 hinfo hz0 (some ⟨g, 0, none⟩) i cap (cs.take (i * 7)) hold (cap + 1 - i) (by omega) (by rw [hz1]; decide) (by omega) (by omega) (by rw [hz2]; omega) (by rw [hz2, hik]; exact growslice_fits (by omega) hn)
   rw [hik, ← hG, ← hROW] at h
   rw [hkk]
   exact h
  have hRs : ROW.size = G * 7 := by
   rw [hROW, Array.size_append, Array.size_append, My.zc_size, My.zc_size, List.size_toArray, List.length_take, hcl, hzz]
   simp only [Nat.min_def]
   split <;> omega
  have hRt : ROW.toList.take (i * 7) = cs.take (i * 7) := by
   rw [hROW, Array.toList_append, Array.toList_append, List.append_assoc, List.take_append_of_le_length (by rw [List.length_take, hcl]; simp only [Nat.min_def]; split <;> omega)]
   rw [List.take_take, Nat.min_self]
  clear hROW hG hold hkk hik
  obtain ⟨W1, hW1⟩ : ∃ W1, W1 = w.drew.alloc (.cells ROW 51) := ⟨_, rfl⟩
  rw [← hW1] at hrz
  have hg1 : w.grownBy W1 none := by rw [hW1]; exact My.gtrans (My.gdrew w none) (World.grownBy_alloc _ _ none) (fun j e => by cases e)
  have hh1 : W1.heap[w.heap.size]? = some (.cells ROW 51 (0, 0)) := by rw [hW1]; exact blk_new w.drew _
  clear hW1
  have hvb1 : W1.heap[vb]? = some (.cells vs.toArray 51 (0, 0)) := (hg1.block vb hvw (by simp)).trans hvb
  have hgh1 : W1.heap[g]? = some (.cells cur 51 (0, 0)) := (hg1.block g hgw (by simp)).trans hh
  have HR1 := My.am hrz
  have HG1 := My.am hg1
  have HH1 := My.am hh1
  have HGH := My.am hgh1
  have HV1 : Aside0 (∀ (j : Nat) (u : Value), vs[j]? = some u → W1.cell? ((⟨vb, 0, none⟩ : Addr).add j) = some u) := ⟨fun j u hj => by
   rw [Addr.add_lit, Nat.zero_add, blk_cell hvb1]
   simpa using hj⟩
  have hGi : ¬ G = i := by omega
  have hGi1 : ¬ G = i + 1 := by omega
  have hci : ¬ cap = i := by omega
  have hG63 : G ≤ 9223372036854775807 := by unfold maxLen at hGM; exact hGM
  have hn1 : cap + 1 ≤ 9223372036854775807 := by omega
  have HC := My.am hcs
  have HT := My.am ht
  have HCM := My.am hGM
  have HRS := My.am hRs
  have HRT := My.am hRt
  have hlt1 : i * 7 + vs.length ≤ ROW.size := by rw [hRs, hvl]; omega
  clear hown hcs hcm hsz2 hin ht hgh1 hh1 hg1 hvb1 hRt hRs hrz hh hGM
  go_enter Try.func34, Try.ntmps34
  go_wp2_with (first
   | (at_builtin; refine Lib.wpList_append_run _ rfl _ _ _ _ rfl _ _ rfl rfl _ _ (HR1.out _) ?_)
   | ((with_reducible refine gate_dst (N := 45) rfl ?_); refine My.wpList_copy_k rfl (.tmp 43) (.tmp 44) 22 22 rfl 51 7 Try.underlying22 hsz w.heap.size (i * 7) (cap + 1 - i) (G - i) ⟨vb, 0, none⟩ 1 1 (by simp [Act.eval]) (by simp [Act.eval]) ROW 51 HH1.out vs (by rw [hvl]; simp only [Nat.min_def]; split <;> omega) HV1.out hlt1 hvs ?_; intro w2 hw2 hg2; have HW2 := My.am hw2; have HG2 := My.am hg2; clear hw2 hg2))
  have HGH2 : Aside0 (w2.heap[g]? = some (.cells cur 51 (0, 0))) := ⟨(HG2.out.block g (Nat.lt_of_lt_of_le hgw HG1.out.size) (fun e => by injection e with e; omega)).trans HGH.out⟩
  have HS : Aside0 (∀ (j : Nat) (v : Value), (cs.drop (i * 7))[j]? = some v → w2.drew.cell? ((⟨g, i * 7, none⟩ : Addr).add j) = some v) := ⟨fun j v hj => by
   rw [Addr.add_lit]
   show w2.cell? _ = _
   rw [blk_cell HGH2.out]
   rw [List.getElem?_drop, ← HT.out, List.getElem?_take] at hj
   split at hj
   ·simpa using hj
   cases hj⟩
  have HD : Aside0 ((cs.drop (i * 7)).length = (cap - i) * 7) := ⟨by rw [List.length_drop, hcl]; omega⟩
  have HM : Aside0 (∀ u ∈ cs.drop (i * 7), u.oneCell' = true) := ⟨fun u hu => HC.out u (List.mem_of_mem_drop hu)⟩
  have hs2 : (splice ROW.toList (i * 7) vs).length = G * 7 := by
   have e1 := My.splice_len ROW.toList (i * 7) vs (by rw [Array.length_toList (xs := ROW)]; exact hlt1)
   rw [e1, Array.length_toList (xs := ROW)]
   exact HRS.out
  have hs3 : (splice ROW.toList (i * 7) vs).toArray.size = G * 7 := by rw [List.size_toArray]; exact hs2
  have HF3 : Aside0 ((i + 1) * 7 + (cs.drop (i * 7)).length ≤ (splice ROW.toList (i * 7) vs).toArray.size) := ⟨by rw [hs3, HD.out]; omega⟩
  have HS2 := My.am hs2
  clear hs2 hs3
  have hx1 : IntKind.i64.wrap ((i : Int) + 1) = (i : Int) + 1 := by rw [IntKind.wrap_i64]; omega
  have hx2 : (0 : Int) ≤ (i : Int) + 1 := by omega
  have hx3 : (i : Int) + 1 ≤ (cap : Int) + 1 := by omega
  have hx4 : (i : Int) ≤ (cap : Int) := by omega
  have hx5 : ((i : Int) + 1).toNat = i + 1 := by omega
  go_region_law (refine My.step_copy_k rfl _ _ 22 22 rfl 51 7 Try.underlying22 hsz w.heap.size ((i + 1) * 7) (cap + 1 - (i + 1)) (G - (i + 1)) ⟨g, i * 7, none⟩ (cap - i) (cap - i) (by simp [Act.eval, Act.put]) (by simp [Act.eval, Act.put]) _ 51 HW2.out (cs.drop (i * 7)) (by rw [HD.out]; simp only [Nat.min_def]; split <;> omega) HS.out HF3.out HM.out ?_; intro w3 hw3 hg3)
  have HW3 := My.am hw3
  have HG3 := My.am hg3
  clear hw3 hg3 hx1 hx5
  go_wp2
  go_ret
  refine ⟨_, rfl, ⟨?_, .inr ⟨w.heap.size, G, _, rfl, hbase, HW3.out, by omega, HCM.out, ?_, ?_⟩⟩, ?_⟩
  ·rw [hres.out, List.length_append, List.length_append, List.length_take, List.length_drop, hcl, hvl]
   simp only [Nat.min_def]
   split <;> omega
  ·rw [List.size_toArray, My.splice_len _ _ _ (by rw [HS2.out, HD.out]; omega)]
   exact HS2.out
  ·rw [hres.out]
   exact My.ins_grow ROW.toList cs i cap 7 vs hvl hi (by rw [Array.length_toList (xs := ROW), HRS.out]; omega) hcl HRT.out
  exact My.gbut (My.gtrans (My.gtrans (My.gtrans HG1.out HG2.out (fun j e => .inl (by cases e; exact Nat.le_refl _))) (My.gdrew w2 none) (fun j e => by cases e)) HG3.out (fun j e => .inl (by cases e; exact Nat.le_refl _))) _

/-- slices.Insert of one element, into a row of the call's own: the row that it tells. -/
theorem Ins_acc_R (sv : Value) (xs : List S51) (j base : Nat) (ok : Nat → Prop) (x : S51) (vb : Nat) (w : World) (hR : Kd.R k51 51 w base ok sv xs) (hj : j ≤ xs.length) (hbase : base ≤ w.heap.size) (hn : xs.length ≤ 1000000)
  (hvb : w.heap[vb]? = some (.cells #[.string x.f0, .int .i64 x.f1.f0, .int .i64 x.f1.f1, .int .i64 x.f1.f2, .int .i64 x.f2.f0, .int .i64 x.f2.f1, .int .i64 x.f2.f2] 51 (0, 0))) (hne : some vb ≠ sv.ownBlock) :
  Calls Try.prog 34 #[sv, .int .i64 (j : Int), .slice (some ⟨vb, 0, none⟩) 1 1] w fun e w' => ∃ v' : Value, e = .returned v' ∧ Kd.R k51 51 w' base (fun _ => True) v' (xs.take j ++ x :: xs.drop j) ∧ w.grownBy w' sv.ownBlock := by
 obtain ⟨_, inner, hown, hreps⟩ := hR
 refine (Ins_acc_at sv xs.length j base inner vb [.string x.f0, .int .i64 x.f1.f0, .int .i64 x.f1.f1, .int .i64 x.f1.f2, .int .i64 x.f2.f0, .int .i64 x.f2.f1, .int .i64 x.f2.f2] w hown (My.reps_one1 hreps (by decide) (fun p c h u hu => by rw [k51_openM h] at hu; simp only [List.mem_cons, List.not_mem_nil, or_false] at hu; rcases hu with rfl | rfl | rfl | rfl | rfl | rfl | rfl <;> rfl)) hj hbase (by omega) rfl hvb (fun u hu => by simp only [List.mem_cons, List.not_mem_nil, or_false] at hu; rcases hu with rfl | rfl | rfl | rfl | rfl | rfl | rfl <;> rfl) hne _ ⟨rfl⟩).mono ?_
 rintro e w' ⟨v', rfl, ho, hg⟩
 have hl : (xs.take j ++ x :: xs.drop j).length = xs.length + 1 := by rw [List.length_append, List.length_cons, List.length_take, List.length_drop]; omega
 refine ⟨v', rfl, ⟨fun _ _ => trivial, _, by rw [hl]; exact ho, ?_⟩, hg⟩
 exact My.reps_insert (hreps.imp_ (fun p c h => by rw [k51_openM h]; exact k51_mkM _ _ _ p)) (k51_mkM _ _ _ x) rfl j hj


/-! ### ledger_Open: function 10 -/
def ledger_Open.e (at_ : Int) (n : ByteArray) (a : Int) (t : List S51 × List S64) : Option (List S51 × List S64 × Int) := if 0 ≤ at_ ∧ at_ ≤ (t.1.length : Int) ∧ t.1.length ≤ 1000000 then some (t.1.take at_.toNat ++ (⟨n, ⟨a, 0, 0⟩, ⟨0, 0, 0⟩⟩ : S51) :: t.1.drop at_.toNat, t.2, 0) else none
def ledger_Open.j0 : Nat → ByteArray → Int → Bool → List (S51) → List (S64) → Option ((List (S51)) × (List (S64)) × Int)
 | 0, _, _, _, _, _ => none
 | k + 1, x1, x2, x23, x147000, x147001 => if x23 = true then (some (([] : List (S51)), ([] : List (S64)), 2)) else ((ledger_book_account.f k x147000 x147001 x1).bind fun bt151 => (if bt151.2 = true then (some (([] : List (S51)), ([] : List (S64)), 71)) else (if (x147000.length : Int) = 12 then (some (([] : List (S51)), ([] : List (S64)), 3)) else ((ledger_copied.f x147000 x147001).bind fun bt153 => (ledger_Open.e bt151.1 x1 x2 bt153)))))
def ledger_Open.f (k : Nat) (l0_0 : List (S51)) (l0_1 : List (S64)) (a1 : ByteArray) (a2 : Int) : Option ((List (S51)) × (List (S64)) × Int) := (ledger_May.f k l0_0 l0_1).bind fun t148 => (if t148 = 0 then ((act_Name.f k a1).bind fun t149 => (if t149 = true then ((cash_Fits.f a2).bind fun t150 => (ledger_Open.j0 k a1 a2 (!t150) l0_0 l0_1)) else (ledger_Open.j0 k a1 a2 true l0_0 l0_1))) else (ledger_Open.j0 k a1 a2 true l0_0 l0_1))
theorem ledger_Open.mono_l : ∀ k, (∀ y0 y1 y2 y3 y4, LeO (ledger_Open.j0 k y0 y1 y2 y3 y4) (ledger_Open.j0 (k + 1) y0 y1 y2 y3 y4))
 | 0 => fun _ _ _ _ _ r h => by simp [ledger_Open.j0] at h
 | k + 1 => by
  have ih0 := ledger_Open.mono_l k
  intro y0 y1 y2 y3 y4
  unfold ledger_Open.j0
  repeat' (with_reducible first | exact ih0 _ _ _ _ _ | exact act_Name.mono _ _ | exact ledger_May.mono _ _ _ | exact ledger_book_account.mono _ _ _ _ | exact LeO.refl _ | exact LeO.none _ | apply LeO.ite | refine LeO.bind ?_ (fun _ => ?_))
theorem ledger_Open.mono : ∀ a0 a1 a2 a3 k, LeO (ledger_Open.f k a0 a1 a2 a3) (ledger_Open.f (k + 1) a0 a1 a2 a3) := by
 intro a0 a1 a2 a3 k
 have ih0 := ledger_Open.mono_l k
 unfold ledger_Open.f
 repeat' (with_reducible first | exact ih0 _ _ _ _ _ | exact act_Name.mono _ _ | exact ledger_May.mono _ _ _ | exact ledger_book_account.mono _ _ _ _ | exact LeO.refl _ | exact LeO.none _ | apply LeO.ite | refine LeO.bind ?_ (fun _ => ?_))
theorem ledger_Open.calls (k : Nat) (A0_0 : Option Addr) (c0_0 : Nat) (l0_0 : List (S51)) (A0_1 : Option Addr) (c0_1 : Nat) (l0_1 : List (S64)) (a1 : ByteArray) (a2 : Int) (r1 : List (S51)) (r2 : List (S64)) (r3 : Int) (w : World) (hr0_0 : Kd.C k51 w A0_0 l0_0.length l0_0) (hc0_0 : l0_0.length ≤ c0_0) (hr0_1 : Kd.C k64 w A0_1 l0_1.length l0_1) (hc0_1 : l0_1.length ≤ c0_1) (h : ledger_Open.f k l0_0 l0_1 a1 a2 = some (r1, r2, r3)) :
  Calls Try.prog 10 #[.agg #[.slice A0_0 l0_0.length c0_0, .slice A0_1 l0_1.length c0_1], .string a1, .int .i64 a2] w fun e w' => ∃ v0_ v1_ : Value, e = .returned (.tuple #[.agg #[v0_, v1_], .int .i64 r3]) ∧ Kd.R k51 51 w' w.heap.size (fun _ => True) v0_ r1 ∧ Kd.R k64 64 w' w.heap.size (fun _ => True) v1_ r2 ∧ Below w.heap.size w w' := by
 have hu25 := Try.underlying25
 have hu71 := Try.underlying71
 have HR0_0 := My.am hr0_0
 have HC0_0 := My.am hc0_0
 clear hr0_0 hc0_0
 have HR0_1 := My.am hr0_1
 have HC0_1 := My.am hc0_1
 clear hr0_1 hc0_1
 have HB := My.am (Below.refl w.heap.size w)
 unfold ledger_Open.f at h
 have H := h
 clear h
 have HC4 := My.am H
 clear H
 go_enter Try.func10, Try.ntmps10
 go_upto_region 1 with (first | ((with_reducible refine gate_dst (N := 3) rfl ?_); refine My.bx 3 #[.slice A0_0 l0_0.length c0_0, .slice A0_1 l0_1.length c0_1] 25 ?_; intro gb146 hg w5 hbox hb; have BK146 := My.am (hbox); have GE146 := My.nge hg (My.bl_ HB); replace HB := My.st HB hb; clear hb hbox hg) | ((with_reducible refine gate_dst (N := 6) rfl ?_); refine My.bx 6 #[.slice none 0 0, .slice none 0 0] 25 ?_; intro gb147 hg w6 hbox hb; have BK147 := My.am (hbox); have GE147 := My.nge hg (My.bl_ HB); replace HB := My.st HB hb; obtain ⟨NB146_147, NB147_146, BK146⟩ := My.nb hg hb BK146; clear hb hbox hg))
 (try simp only [Act.put, List.setIfInBounds_toArray, List.set_cons_zero, List.set_cons_succ])
 go_cut [23] (fun v23 wc => ∃ (kq : Nat) (x23_3 : Bool), v23 = .bool x23_3 ∧ Aside0 (ledger_Open.j0 kq a1 a2 x23_3 l0_0 l0_1 = some (r1, r2, r3)) ∧ Aside0 (kq ≤ k) ∧ Aside0 (wc.heap[gb146]? = some (.cells #[(.slice A0_0 l0_0.length c0_0), (.slice A0_1 l0_1.length c0_1)] 25 (0, 0))) ∧ Aside0 (wc.heap[gb147]? = some (.cells #[(.slice none 0 0), (.slice none 0 0)] 25 (0, 0))) ∧ Aside0 (Below w.heap.size w wc))
 case first =>
  have H := HC4.out
  clear HC4
  replace H := Option.bind_eq_some_iff.mp H
  obtain ⟨t148, A70, H⟩ := H
  try dsimp only at H
  have A7 := My.am A70
  clear A70
  by_cases c8 : t148 = 0
  ·rw [if_pos c8] at H
   have c8b0 : (t148 == 0) = true := beq_iff_eq.mpr c8
   have c8b1 : (t148 != 0) = false := bne_eq_false_iff_eq.mpr c8
   clear c8
   (first | rw [c8b0] | (simp only [i64_w, i32_w]; rw [c8b0]) | skip)
   replace H := Option.bind_eq_some_iff.mp H
   obtain ⟨t149, A90, H⟩ := H
   try dsimp only at H
   have A9 := My.am A90
   clear A90
   by_cases c10 : t149 = true
   ·subst c10
    rw [if_pos rfl] at H
    replace H := Option.bind_eq_some_iff.mp H
    obtain ⟨t150, A110, H⟩ := H
    try dsimp only at H
    have A11 := My.am A110
    clear A110
    have H' := My.am H
    clear H
    have hnb12 := NB146_147.out
    have hnc12 := NB147_146.out
    have hq13 := My.cz2 BK146
    go_wp2_with (first | ((with_reducible refine gate_callee (f := 20) rfl ?_); refine goesL_ (some 12) rfl rfl Try.func20 (by kernel_rfl) rfl #[.agg #[.slice A0_0 l0_0.length c0_0, .slice A0_1 l0_1.length c0_1]] rfl My.gx ?_; (with_reducible refine (ledger_May.calls k _ _ l0_0 _ _ l0_1 t148 _ ?side1 ?side2 ?side3 ?side4 A7.out).mono ?_); (case side1 => exact My.sd_ HR0_0 HB); (case side2 => exact HC0_0.out); (case side3 => exact My.sd_ HR0_1 HB); (case side4 => exact HC0_1.out); rintro e w14 ⟨rfl, hb⟩; refine ⟨_, rfl, ?_⟩; replace BK146 := My.ab BK146 hb; replace BK147 := My.ab BK147 hb; replace HB := My.st HB hb; (try clear hb)) | (go_at_call 30; (with_reducible refine (act_Name.calls k a1 true _ A9.out).mono ?_); rintro e w' ⟨rfl, ⟨nd, rfl⟩⟩) | (go_at_call 31; (with_reducible refine (cash_Fits.calls a2 t150 _ A11.out).mono ?_); rintro e w' ⟨rfl, ⟨nd, rfl⟩⟩))
    go_meet
    case rel => exact ⟨_, (!t150), My.r1, H', ⟨My.r4⟩, ⟨(My.at_ BK146)⟩, ⟨(My.at_ BK147)⟩, ⟨(My.bl_ HB)⟩⟩
   replace c10 := Bool.eq_false_iff.mpr c10
   subst c10
   rw [if_neg (show ¬ (false = true) by decide)] at H
   have H' := My.am H
   clear H
   have hnb15 := NB146_147.out
   have hnc15 := NB147_146.out
   have hq16 := My.cz2 BK146
   go_wp2_with (first | ((with_reducible refine gate_callee (f := 20) rfl ?_); refine goesL_ (some 12) rfl rfl Try.func20 (by kernel_rfl) rfl #[.agg #[.slice A0_0 l0_0.length c0_0, .slice A0_1 l0_1.length c0_1]] rfl My.gx ?_; (with_reducible refine (ledger_May.calls k _ _ l0_0 _ _ l0_1 t148 _ ?side1 ?side2 ?side3 ?side4 A7.out).mono ?_); (case side1 => exact My.sd_ HR0_0 HB); (case side2 => exact HC0_0.out); (case side3 => exact My.sd_ HR0_1 HB); (case side4 => exact HC0_1.out); rintro e w17 ⟨rfl, hb⟩; refine ⟨_, rfl, ?_⟩; replace BK146 := My.ab BK146 hb; replace BK147 := My.ab BK147 hb; replace HB := My.st HB hb; (try clear hb)) | (go_at_call 30; (with_reducible refine (act_Name.calls k a1 false _ A9.out).mono ?_); rintro e w' ⟨rfl, ⟨nd, rfl⟩⟩))
   go_meet
   case rel => exact ⟨_, (true), My.r1, H', ⟨My.r4⟩, ⟨(My.at_ BK146)⟩, ⟨(My.at_ BK147)⟩, ⟨(My.bl_ HB)⟩⟩
  ·rw [if_neg c8] at H
   have c8b0 : (t148 == 0) = false := beq_eq_false_iff_ne.mpr c8
   have c8b1 : (t148 != 0) = true := bne_iff_ne.mpr c8
   (first | rw [c8b0] | (simp only [i64_w, i32_w]; rw [c8b0]) | skip)
   have H' := My.am H
   clear H
   have hnb18 := NB146_147.out
   have hnc18 := NB147_146.out
   have hq19 := My.cz2 BK146
   go_wp2_with (first | ((with_reducible refine gate_callee (f := 20) rfl ?_); refine goesL_ (some 12) rfl rfl Try.func20 (by kernel_rfl) rfl #[.agg #[.slice A0_0 l0_0.length c0_0, .slice A0_1 l0_1.length c0_1]] rfl My.gx ?_; (with_reducible refine (ledger_May.calls k _ _ l0_0 _ _ l0_1 t148 _ ?side1 ?side2 ?side3 ?side4 A7.out).mono ?_); (case side1 => exact My.sd_ HR0_0 HB); (case side2 => exact HC0_0.out); (case side3 => exact My.sd_ HR0_1 HB); (case side4 => exact HC0_1.out); rintro e w20 ⟨rfl, hb⟩; refine ⟨_, rfl, ?_⟩; replace BK146 := My.ab BK146 hb; replace BK147 := My.ab BK147 hb; replace HB := My.st HB hb; (try clear hb)))
   go_meet
   case rel => exact ⟨_, (true), My.r1, H', ⟨My.r4⟩, ⟨(My.at_ BK146)⟩, ⟨(My.at_ BK147)⟩, ⟨(My.bl_ HB)⟩⟩
 case rest =>
  clear HC4
  obtain ⟨kq, x23_3, rfl, HA, HJ3, BK146, BK147, HB⟩ := hcut
  cases kq with
  | zero => exact absurd HA.out (by simp [ledger_Open.j0])
  | succ kj3 =>
   have H := HA.out
   clear HA
   simp only [ledger_Open.j0] at H
   by_cases c21 : x23_3 = true
   ·subst c21
    rw [if_pos rfl] at H
    simp only [Option.some.injEq, Prod.mk.injEq] at H
    obtain ⟨rfl, rfl, rfl⟩ := H
    have hnb22 := NB147_146.out
    have hnc22 := NB146_147.out
    have hq23 := My.cz2 BK147
    go_wp2
    refine bodyPost_ret (results_ct rfl _ _ gb147 25 #[.slice none 0 0, .slice none 0 0] (0, 0) _ rfl ((My.sv_ BK147)) Try.underlying25 rfl (by kernel_rfl)) rfl ?_
    exact ⟨_, _, My.r2, My.r3, My.r3, (My.bl_ HB)⟩
   replace c21 := Bool.eq_false_iff.mpr c21
   subst c21
   rw [if_neg (show ¬ (false = true) by decide)] at H
   replace H := Option.bind_eq_some_iff.mp H
   obtain ⟨⟨t151, t152⟩, A240, H⟩ := H
   try dsimp only at H
   have A24 := My.am A240
   clear A240
   by_cases c25 : t152 = true
   ·subst c25
    rw [if_pos rfl] at H
    simp only [Option.some.injEq, Prod.mk.injEq] at H
    obtain ⟨rfl, rfl, rfl⟩ := H
    have hnb26 := NB146_147.out
    have hnc26 := NB147_146.out
    have hq27 := My.cz2 BK146
    go_wp2_with (first | ((with_reducible refine gate_callee (f := 32) rfl ?_); refine goesL_ (some 29) rfl rfl Try.func32 (by kernel_rfl) rfl #[.agg #[.slice A0_0 l0_0.length c0_0, .slice A0_1 l0_1.length c0_1], .string a1] rfl My.gx ?_; (with_reducible refine (ledger_book_account.calls kj3 _ _ l0_0 _ _ l0_1 a1 t151 true _ ?side1 ?side2 ?side3 ?side4 A24.out).mono ?_); (case side1 => exact My.sd_ HR0_0 HB); (case side2 => exact HC0_0.out); (case side3 => exact My.sd_ HR0_1 HB); (case side4 => exact HC0_1.out); rintro e w28 ⟨rfl, hb⟩; refine ⟨_, rfl, ?_⟩; replace BK146 := My.ab BK146 hb; replace BK147 := My.ab BK147 hb; replace HB := My.st HB hb; (try clear hb); have hq29 := My.cz2 BK147))
    refine bodyPost_ret (results_ct rfl _ _ gb147 25 #[.slice none 0 0, .slice none 0 0] (0, 0) _ rfl ((My.sv_ BK147)) Try.underlying25 rfl (by kernel_rfl)) rfl ?_
    exact ⟨_, _, My.r2, My.r3, My.r3, (My.bl_ HB)⟩
   replace c25 := Bool.eq_false_iff.mpr c25
   subst c25
   rw [if_neg (show ¬ (false = true) by decide)] at H
   by_cases c30 : (l0_0.length : Int) = 12
   ·rw [if_pos c30] at H
    have c30b0 : ((l0_0.length : Int) == 12) = true := beq_iff_eq.mpr c30
    have c30b1 : ((l0_0.length : Int) != 12) = false := bne_eq_false_iff_eq.mpr c30
    clear c30
    simp only [Option.some.injEq, Prod.mk.injEq] at H
    obtain ⟨rfl, rfl, rfl⟩ := H
    have hnb31 := NB146_147.out
    have hnc31 := NB147_146.out
    have hq32 := My.cz2 BK146
    go_wp2_with (first | ((with_reducible refine gate_callee (f := 32) rfl ?_); refine goesL_ (some 29) rfl rfl Try.func32 (by kernel_rfl) rfl #[.agg #[.slice A0_0 l0_0.length c0_0, .slice A0_1 l0_1.length c0_1], .string a1] rfl My.gx ?_; (with_reducible refine (ledger_book_account.calls kj3 _ _ l0_0 _ _ l0_1 a1 t151 false _ ?side1 ?side2 ?side3 ?side4 A24.out).mono ?_); (case side1 => exact My.sd_ HR0_0 HB); (case side2 => exact HC0_0.out); (case side3 => exact My.sd_ HR0_1 HB); (case side4 => exact HC0_1.out); rintro e w33 ⟨rfl, hb⟩; refine ⟨_, rfl, ?_⟩; replace BK146 := My.ab BK146 hb; replace BK147 := My.ab BK147 hb; replace HB := My.st HB hb; (try clear hb); have hq34 := My.cz2 BK146; have hq35 := My.cz2 BK147))
    refine bodyPost_ret (results_ct rfl _ _ gb147 25 #[.slice none 0 0, .slice none 0 0] (0, 0) _ rfl ((My.sv_ BK147)) Try.underlying25 rfl (by kernel_rfl)) rfl ?_
    exact ⟨_, _, My.r2, My.r3, My.r3, (My.bl_ HB)⟩
   rw [if_neg c30] at H
   have c30b0 : ((l0_0.length : Int) == 12) = false := beq_eq_false_iff_ne.mpr c30
   have c30b1 : ((l0_0.length : Int) != 12) = true := bne_iff_ne.mpr c30
   replace H := Option.bind_eq_some_iff.mp H
   obtain ⟨⟨t153, t156⟩, A360, H⟩ := H
   try dsimp only at H
   have A36 := My.am A360
   clear A360
   unfold ledger_Open.e at H
   by_cases ce : 0 ≤ t151 ∧ t151 ≤ (t153.length : Int) ∧ t153.length ≤ 1000000
   rotate_left
   ·rw [if_neg ce] at H
    cases H

   rw [if_pos ce] at H
   obtain ⟨ce0, ce1, ce2⟩ := ce
   simp only [Option.some.injEq, Prod.mk.injEq] at H
   obtain ⟨rfl, rfl, rfl⟩ := H
   have hnb37 := NB146_147.out
   have hnc37 := NB147_146.out
   have hq38 := My.cz2 BK146
   go_upto_region 9 with (first | ((with_reducible refine gate_callee (f := 32) rfl ?_); refine goesL_ (some 29) rfl rfl Try.func32 (by kernel_rfl) rfl #[.agg #[.slice A0_0 l0_0.length c0_0, .slice A0_1 l0_1.length c0_1], .string a1] rfl My.gx ?_; (with_reducible refine (ledger_book_account.calls kj3 _ _ l0_0 _ _ l0_1 a1 t151 false _ ?side1 ?side2 ?side3 ?side4 A24.out).mono ?_); (case side1 => exact My.sd_ HR0_0 HB); (case side2 => exact HC0_0.out); (case side3 => exact My.sd_ HR0_1 HB); (case side4 => exact HC0_1.out); rintro e w39 ⟨rfl, hb⟩; refine ⟨_, rfl, ?_⟩; replace BK146 := My.ab BK146 hb; replace BK147 := My.ab BK147 hb; replace HB := My.st HB hb; (try clear hb); have hq40 := My.cz2 BK146) | ((with_reducible refine gate_callee (f := 33) rfl ?_); refine goesL_ (some 42) rfl rfl Try.func33 (by kernel_rfl) rfl #[.agg #[.slice A0_0 l0_0.length c0_0, .slice A0_1 l0_1.length c0_1]] rfl My.gx ?_; (with_reducible refine (ledger_copied.calls _ _ l0_0 _ _ l0_1 t153 t156 _ ?side1 ?side2 ?side3 ?side4 A36.out).mono ?_); (case side1 => exact My.sd_ HR0_0 HB); (case side2 => exact HC0_0.out); (case side3 => exact My.sd_ HR0_1 HB); (case side4 => exact HC0_1.out); rintro e w41 ⟨v154, v157, rfl, ho0, ho1, hb⟩; refine ⟨_, rfl, ?_⟩; have HO155 := My.am (Kd.R_lower ho0 (below_size (My.bl_ HB))); have HO158 := My.am (Kd.R_lower ho1 (below_size (My.bl_ HB))); replace BK146 := My.ab BK146 hb; replace BK147 := My.ab BK147 hb; replace HB := My.st HB hb; (try clear hb); (try clear ho0); (try clear ho1)) | ((with_reducible refine gate_dst (N := 10) rfl ?_); refine My.bx 10 #[.slice none 0 0, .slice none 0 0] 25 ?_; intro gb159 hg w42 hbox hb; replace HO155 := My.am (Kd.R_below (My.dr HO155.out) hb); replace HO158 := My.am (Kd.R_below (My.dr HO158.out) hb); have BK159 := My.am (hbox); have GE159 := My.nge hg (My.bl_ HB); replace HB := My.st HB hb; have NB146_159 := My.nlt hg (My.at_ BK146); have NB159_146 := My.ngt hg (My.at_ BK146); obtain ⟨NB147_159, NB159_147, BK147⟩ := My.nb hg hb BK147; clear hb hbox hg; obtain ⟨Ao43, co43, eo43⟩ := Kd.R_slice HO155.out; subst eo43; have hnb44 := NB159_146.out; have hnc44 := NB146_159.out; have hnb45 := NB159_147.out; have hnc45 := NB147_159.out; have hq46 := My.cz2 BK159; obtain ⟨Ao47, co47, eo47⟩ := Kd.R_slice HO158.out; subst eo47; have hq48 := My.cz2 BK147))
   obtain ⟨jn, hjn⟩ := Int.eq_ofNat_of_zero_le ce0
   subst hjn
   have hj1 : jn ≤ t153.length := by omega
   have R0 := My.am (Kd.R_mono (Kd.R_far (p := ⟨gb159, 1, none⟩) (Kd.R_far (p := ⟨gb159, 0, none⟩) (Kd.R_types (Kd.R_types HO155.out BK159.out (by decide)) BK147.out (by decide)) (fun _ hk => hk.1.2) (.slice Ao43 t153.length co43)) (fun _ hk => hk.1.2) (.slice Ao47 t156.length co47)) (fun k hk => (⟨hk.1.2, hk.2⟩ : k ≠ gb159 ∧ k ≠ gb147)))
   have R1 := My.am (Kd.R_mono (Kd.R_far (p := ⟨gb159, 1, none⟩) (Kd.R_far (p := ⟨gb159, 0, none⟩) (Kd.R_types (Kd.R_types HO158.out BK159.out (by decide)) BK147.out (by decide)) (fun _ hk => hk.1.2) (.slice Ao43 t153.length co43)) (fun _ hk => hk.1.2) (.slice Ao47 t156.length co47)) (fun k hk => (⟨hk.1.2, hk.2⟩ : k ≠ gb159 ∧ k ≠ gb147)))
   have KO := My.am (blk_put (cs' := #[.slice Ao43 t153.length co43, .slice Ao47 t156.length co47]) (blk_put (cs' := #[.slice Ao43 t153.length co43, .slice none 0 0]) BK159.out 0 (.slice Ao43 t153.length co43) rfl) 1 (.slice Ao47 t156.length co47) rfl)
   have KR : Aside0 (((w42.setCell ⟨gb159, 0, none⟩ (.slice Ao43 t153.length co43)).setCell ⟨gb159, 1, none⟩ (.slice Ao47 t156.length co47)).heap[gb147]? = some (.cells #[.slice none 0 0, .slice none 0 0] 25 (0, 0))) := ⟨by rw [Below.heap_setCell _ _ _ _ NB147_159.out, Below.heap_setCell _ _ _ _ NB147_159.out]; exact BK147.out⟩
   have HB9 := My.am ((HB.out.setCell (p := ⟨gb159, 0, none⟩) GE159.out (.slice Ao43 t153.length co43)).setCell (p := ⟨gb159, 1, none⟩) GE159.out (.slice Ao47 t156.length co47))
   generalize (w42.setCell ⟨gb159, 0, none⟩ (.slice Ao43 t153.length co43)).setCell ⟨gb159, 1, none⟩ (.slice Ao47 t156.length co47) = wz at R0 R1 KO KR HB9 ⊢
   clear HO155 HO158 BK159 BK147 HB
   have hcy0 := (blk_cell KO.out 0).trans rfl
   have CE2 := My.am ce2
   have CE1 := My.am hj1
   clear ce1 ce2 ce0 hj1
   go_upto_region 10 with ((go_at_call 34; refine (Ins_acc_R (.slice Ao43 t153.length co43) t153 jn w.heap.size _ ⟨a1, ⟨a2, 0, 0⟩, ⟨0, 0, 0⟩⟩ wz.heap.size _ (Kd.R_alloc R0.out _) CE1.out (by have := HB9.out.size; simp; omega) CE2.out (blk_new wz _) (fun e_ => by have h_ := own_lt (Kd.R_own R0.out).choose_spec _ e_.symm; omega)).mono ?_; rintro e w5 ⟨v5, rfl, hr5, hg5⟩; obtain ⟨zs, hzs⟩ : ∃ zs, zs = t153.take jn ++ (⟨a1, ⟨a2, 0, 0⟩, ⟨0, 0, 0⟩⟩ : S51) :: t153.drop jn := ⟨_, rfl⟩; rw [← hzs] at hr5; have HZS := My.am hzs; clear hzs; obtain ⟨A5, c5, rfl⟩ := Kd.R_slice hr5; have R5 := My.am hr5; have KO5 := My.am (blk_grown (blk_alloc KO.out _) hg5 (Kd.R_away R0.out (fun k hk => hk.1))); have KR5 := My.am (blk_grown (blk_alloc KR.out _) hg5 (Kd.R_away R0.out (fun k hk => hk.2))); have R15 := My.am (Kd.R_grown (Kd.R_alloc (My.R_apart R0.out R1.out (by decide)) _) hg5 (fun k hk => hk.2)); have HB5 := My.am ((below_alloc HB9.out _).grown hg5 (below_alloc HB9.out _).size (My.R_base R0.out)); clear hr5 hg5 hcy0; have hfy0 := blk_frozen KO5.out 0; have hcy5 : w5.cell? ⟨gb159, 0, none⟩ = some (.slice Ao43 t153.length co43) := (blk_cell KO5.out 0).trans rfl))
   have hcz0 := (blk_cell (blk_put (cs' := #[.slice A5 zs.length c5, .slice Ao47 t156.length co47]) KO5.out 0 (.slice A5 zs.length c5) rfl) 0).trans rfl
   have KO6 := My.am (blk_put (cs' := #[.slice A5 zs.length c5, .slice Ao47 t156.length co47]) KO5.out 0 (.slice A5 zs.length c5) rfl)
   have KR6 : Aside0 ((w5.setCell ⟨gb159, 0, none⟩ (.slice A5 zs.length c5)).heap[gb147]? = some (.cells #[.slice none 0 0, .slice none 0 0] 25 (0, 0))) := ⟨by rw [Below.heap_setCell _ _ _ _ NB147_159.out]; exact KR5.out⟩
   have R6 := My.am (Kd.R_far (p := ⟨gb159, 0, none⟩) (Kd.R_types (Kd.R_types R5.out KO5.out (by decide)) KR5.out (by decide)) (fun _ hk => hk.1.2) (.slice A5 zs.length c5))
   have R16 := My.am (Kd.R_far (p := ⟨gb159, 0, none⟩) R15.out (fun _ hk => hk.1.1) (.slice A5 zs.length c5))
   have HB6 := My.am (HB5.out.setCell (p := ⟨gb159, 0, none⟩) GE159.out (.slice A5 zs.length c5))
   generalize w5.setCell ⟨gb159, 0, none⟩ (.slice A5 zs.length c5) = w6 at hcz0 KO6 KR6 R6 R16 HB6 ⊢
   clear KO5 KR5 R5 R15 HB5 hfy0 hcy5
   have hcz1 := (blk_cell KO6.out 1).trans rfl
   have hcr0 := (blk_cell KR6.out 0).trans rfl
   have hcr1 := (blk_cell KR6.out 1).trans rfl
   have hfr0 := blk_frozen KR6.out 0
   have hfr1 := blk_frozen KR6.out 1
   go_wp2
   refine bodyPost_ret (results_ct rfl _ _ gb147 25 #[.slice A5 zs.length c5, .slice Ao47 t156.length co47] (0, 0) _ rfl (blk_put (cs := #[.slice A5 zs.length c5, .slice none 0 0]) (blk_put (cs := #[.slice none 0 0, .slice none 0 0]) KR6.out 0 (.slice A5 zs.length c5) rfl) 1 (.slice Ao47 t156.length co47) rfl) Try.underlying25 rfl (by kernel_rfl)) rfl ?_
   refine ⟨_, _, rfl, ?_, ?_, (HB6.out.setCell (p := ⟨gb147, 0, none⟩) GE147.out (.slice A5 zs.length c5)).setCell (p := ⟨gb147, 1, none⟩) GE147.out (.slice Ao47 t156.length co47)⟩
   ·show Kd.R k51 51 _ w.heap.size _ _ (t153.take jn ++ (⟨a1, ⟨a2, 0, 0⟩, ⟨0, 0, 0⟩⟩ : S51) :: t153.drop jn)
    rw [← HZS.out]
    exact Kd.R_mono (Kd.R_far (p := ⟨gb147, 1, none⟩) (Kd.R_far (p := ⟨gb147, 0, none⟩) R6.out (fun _ hk => hk.2) (.slice A5 zs.length c5)) (fun _ hk => hk.2) (.slice Ao47 t156.length co47)) (fun _ _ => trivial)
   exact Kd.R_mono (Kd.R_far (p := ⟨gb147, 1, none⟩) (Kd.R_far (p := ⟨gb147, 0, none⟩) R16.out (fun _ hk => hk.1.2) (.slice A5 zs.length c5)) (fun _ hk => hk.1.2) (.slice Ao47 t156.length co47)) (fun _ _ => trivial)
/-! ### ledger_book_mark_1: function 69 -/
def ledger_book_mark_1.f (a0_0 : ByteArray) (a0_1 : Int) (a0_2 : ByteArray) (a0_3 : Int) (a0_4 : Int) (a1 : ByteArray) : Option (Int) := (strings_Compare.f a0_0 a1).bind fun t161 => (some t161)
theorem ledger_book_mark_1.calls (a0_0 : ByteArray) (a0_1 : Int) (a0_2 : ByteArray) (a0_3 : Int) (a0_4 : Int) (a1 : ByteArray) (r : Int) (w : World) (h : ledger_book_mark_1.f a0_0 a0_1 a0_2 a0_3 a0_4 a1 = some r) :
  Calls Try.prog 69 #[.agg #[.string a0_0, .int .i64 a0_1, .string a0_2, .int .i64 a0_3, .int .i64 a0_4], .string a1] w fun e w' => e = .returned (.int .i64 r) ∧ Below w.heap.size w w' := by
 have hu64 := Try.underlying64
 have HB := My.am (Below.refl w.heap.size w)
 unfold ledger_book_mark_1.f at h
 have H := h
 clear h
 replace H := Option.bind_eq_some_iff.mp H
 obtain ⟨t161, A30, H⟩ := H
 try dsimp only at H
 have A3 := My.am A30
 clear A30
 obtain rfl := Option.some.inj H
 go_enter Try.func69, Try.ntmps69
 go_wp2_with (first | ((with_reducible refine gate_dst (N := 2) rfl ?_); refine My.bx 2 #[.string a0_0, .int .i64 a0_1, .string a0_2, .int .i64 a0_3, .int .i64 a0_4] 64 ?_; intro gb160 hg w4 hbox hb; have BK160 := My.am (hbox); have GE160 := My.nge hg (My.bl_ HB); replace HB := My.st HB hb; clear hb hbox hg; have hq5 := My.cz5 BK160) | ((with_reducible refine gate_callee (f := 63) rfl ?_); refine goesL_ (some 8) rfl rfl Try.func63 (by kernel_rfl) rfl #[.string a0_0, .string a1] rfl My.gx ?_; (with_reducible refine (strings_Compare.calls a0_0 a1 t161 _ A3.out).mono ?_); rintro e w6 ⟨rfl, hb⟩; refine ⟨_, rfl, ?_⟩; replace HB := My.st HB hb; (try clear hb)))
 go_ret
 exact ⟨My.r2, (My.bl_ HB)⟩

end Go.Proofs.Ytikanbdhpafbiaa.PO
