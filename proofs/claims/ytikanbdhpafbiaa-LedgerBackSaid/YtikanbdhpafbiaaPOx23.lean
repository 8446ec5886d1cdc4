-- Written by a program of this session (wip/tools/mp.py over the kit's printer); Lean checks it.
import Derived.Test.YtikanbdhpafbiaaNs
import Derived.Test.YtikanbdhpafbiaaPOx0
import Derived.Test.YtikanbdhpafbiaaPOx4
import Derived.Test.YtikanbdhpafbiaaPOx5
import Derived.Test.YtikanbdhpafbiaaPOx6
namespace Go.Proofs.Ytikanbdhpafbiaa.PO
open Go.RowKit Go.Proofs.YtikanbdhpafbiaaW.PrintWords Go.Proofs.YtikanbdhpafbiaaW.PrintLast Go.Proofs.YtikanbdhpafbiaaW.PrintMore
attribute [local go_sem] max2_int min2_int max_two min_two max_three min_three max_four min_four   -- for this text's walks alone
set_option linter.unusedVariables false
set_option maxHeartbeats 8000000
set_option maxRecDepth 100000
set_option linter.unusedSimpArgs false

/-! ### ledger_Net_1: function 53 -/
section
open Go.Proofs.Ytikanbdhpafbiaa.My
def ledger_Net1.T2 : Bool × List (List Nat × List Nat) := (true, [([], []), ([], []), ([1], [1]), ([0, 2], [0, 2]), ([], []), ([], []), ([5], [5]), ([4, 6, 3], [4, 6]), ([3, 7, 0, 1, 2, 3], [3]), ([7, 8, 0, 1, 2, 3, 4, 5, 6, 7, 8], [7])])
def ledger_Net1.B2 : List Nat := [0, 0, 2, 7, 0, 0, 32, 127, 255, 511]
theorem ledger_Net1.tab2 : rtab .any (opsOf Try.f53 2) = ledger_Net1.T2 := by kernel_rfl
theorem ledger_Net1.bits2 : waitsOk ledger_Net1.T2.2 ledger_Net1.B2 = true := by kernel_rfl
/-- The closure of Net: both variables' rows get one number more. -/
theorem ledger_Net1.calls (k : Nat) (m0 : ByteArray) (m1 : Int) (m2 : ByteArray) (m3 m4 : Int) (w0 w : World) (n0 bf bk : Nat) (vf vk : Value) (fs ks : List Int) (a b : Int) (hn : NS w0 w n0 bf bk vf vk vf vk fs ks) (hfk : bf ≠ bk) (h0f : n0 ≤ bf) (h0k : n0 ≤ bk)
  (hlA : fs.length ≤ 1000000) (hlB : ks.length ≤ 1000000) (h : act_Delta.f k m1 m2 m3 = some (a, b)) :
  Calls Try.prog 53 #[.agg #[.string m0, .int .i64 m1, .string m2, .int .i64 m3, .int .i64 m4], .pointer (some ⟨bf, 0, none⟩), .pointer (some ⟨bk, 0, none⟩)] w fun e w' => e = .returned (.tuple #[]) ∧ ∃ vf' vk', NS w0 w' n0 bf bk vf' vk' vf' vk' (fs ++ [a]) (ks ++ [b]) := by
 have hu64 := Try.underlying64
 have hu27 := Try.underlying27
 have HD := My.am h
 have HN0 := My.am hn
 have HLA := My.am hlA
 have HLB := My.am hlB
 clear h hn hlA hlB
 obtain ⟨Af, cf, ef⟩ := Kd.R_slice HN0.out.rf
 subst ef
 obtain ⟨Ak, ck, ek⟩ := Kd.R_slice HN0.out.rk
 subst ek
 go_enter Try.func53, Try.ntmps53
 have hb0 := My.am (blk_new w (.cells #[.string m0, .int .i64 m1, .string m2, .int .i64 m3, .int .i64 m4] 64))
 go_upto_region 2 with ((go_at_call 29; refine (act_Delta.calls k m1 m2 m3 a b _ HD.out).mono ?_; rintro e w3 ⟨rfl, hb⟩; have HN3 := My.am ((HN0.out.mv (below_alloc (Below.refl _ _) _)).mv hb); clear hb))
 have HN4 := My.am (HN3.out.mv (below_drew1 (Below.refl w3.heap.size w3)))
 clear HN0 HN3
 refine start_ (n := 10) (S := fun w' => w'.cell? ⟨bf, 0, none⟩ = some (.slice Af fs.length cf) ∧ w'.cell? ⟨bk, 0, none⟩ = some (.slice Ak ks.length ck)) (ds := [8, 9]) #[false, false, false, false, false, false, false, false, false, false] (by kernel_rfl) rfl rfl ⟨(blk_cell HN4.out.hf 0).trans rfl, (blk_cell HN4.out.hk 0).trans rfl⟩ (fun hHeld => ?_); refine with_tabW ledger_Net1.tab2 ledger_Net1.bits2 (fun HT_ HW_ => ?_)
 generalize w3.drew = w4 at HN4 hHeld ⊢
 refine My.ta_ 0 12 10 HT_.out HW_.out hHeld rfl rfl (by rintro w' ⟨s0, s1⟩; go_simp; with_reducible rfl) ?_
 refine My.pu_ 1 13 10 HT_.out ?_
 refine My.tv_ 4 16 10 19 HT_.out HW_.out hHeld rfl rfl (by rintro w' ⟨s0, s1⟩; go_simp; with_reducible rfl) ?_
 refine My.pv_ 5 17 10 51 HT_.out ?_
 refine two_ (i := 2) (j := 6) (Ni := some 14) (Nj := some 18) (My.Mb 10 55) (My.Mb 10 115) rfl rfl rfl rfl (two_of HT_.out (by kernel_rfl)) (by decide) (by decide) (fun K hK => ?_) (fun K hK => ?_)
 ·skip
  refine event_step (v := .slice (some ⟨w4.heap.size, 0, none⟩) 1 1) (w1 := w4.alloc (.cells #[.int .i64 a] 2)) (by rfl) (by go_simp; first | done | rfl) ?_
  have HN5 := My.am (HN4.out.mv (below_alloc (Below.refl _ _) (.cells #[.int .i64 a] 2)))
  have TA := My.am (blk_new w4 (.cells #[.int .i64 a] 2))
  have NA : Aside0 (some w4.heap.size ≠ ((.slice Af fs.length cf) : Value).ownBlock) := ⟨fun e_ => by have h_ := own_lt (Kd.R_own HN4.out.rf).choose_spec _ e_.symm; omega⟩
  generalize w4.alloc (.cells #[.int .i64 a] 2) = w5 at HN5 TA ⊢
  refine hK.out _ _ ⟨(blk_cell HN5.out.hf 0).trans rfl, (blk_cell HN5.out.hk 0).trans rfl⟩ (fun hHeld => ?_)
  clear hK K
  refine My.nm 14 ?_
  refine two_ (i := 3) (j := 6) (Ni := some 15) (Nj := some 18) (My.Mb 10 63) (My.Mb 10 119) rfl rfl rfl rfl (two_of HT_.out (by kernel_rfl)) (by decide) (by decide) (fun K hK => ?_) (fun K hK => ?_)
  ·skip
   refine app_step (by rfl) (.tmp 12) (.tmp 14) rfl (.slice Af fs.length cf) fs (w4.heap.size) a rfl rfl HN5.out.rf TA.out (Nat.le_trans HN5.out.n0l HN5.out.bl.size) (by have := HLA.out; omega) ?_
   intro v1_ w6 hR_ hg_ hat_
   have HN6 := My.am (HN5.out.appF hR_ hg_ hat_)
   obtain ⟨AA, cA, eA⟩ := Kd.R_slice hR_
   subst eA
   clear hR_ hg_ hat_
   refine hK.out _ _ ⟨(blk_cell HN6.out.hf 0).trans rfl, (blk_cell HN6.out.hk 0).trans rfl⟩ (fun hHeld => ?_)
   clear hK K
   refine My.nm 15 ?_
   refine one_ (i := 6) (N := some 18) (My.Mb 10 127) rfl rfl (one_of HT_.out (by kernel_rfl)) (by decide) (fun K hK => ?_)
   refine event_step (v := .slice (some ⟨w6.heap.size, 0, none⟩) 1 1) (w1 := w6.alloc (.cells #[.int .i64 b] 2)) (by rfl) (by go_simp; first | done | rfl) ?_
   have HN7 := My.am (HN6.out.mv (below_alloc (Below.refl _ _) (.cells #[.int .i64 b] 2)))
   have TB := My.am (blk_new w6 (.cells #[.int .i64 b] 2))
   have NB : Aside0 (some w6.heap.size ≠ ((.slice AA (fs ++ [a]).length cA) : Value).ownBlock) := ⟨fun e_ => by have h_ := own_lt (Kd.R_own HN6.out.rf).choose_spec _ e_.symm; omega⟩
   have TA := My.am (blk_alloc TA.out (.cells #[.int .i64 b] 2))
   generalize w6.alloc (.cells #[.int .i64 b] 2) = w7 at HN7 TB TA ⊢
   refine hK.out _ _ ⟨(blk_cell HN7.out.hf 0).trans rfl, (blk_cell HN7.out.hk 0).trans rfl⟩ (fun hHeld => ?_)
   clear hK K
   refine My.nm 18 ?_
   refine one_ (i := 7) (N := some 19) (My.Mb 10 255) rfl rfl (one_of HT_.out (by kernel_rfl)) (by decide) (fun K hK => ?_)
   refine app_step (by rfl) (.tmp 16) (.tmp 18) rfl (.slice Ak ks.length ck) ks (w6.heap.size) b rfl rfl HN7.out.rk TB.out (Nat.le_trans HN7.out.n0l HN7.out.bl.size) (by have := HLB.out; omega) ?_
   intro v1_ w8 hR_ hg_ hat_
   have HN8 := My.am (HN7.out.appK hR_ hg_ hat_)
   obtain ⟨AB, cB, eB⟩ := Kd.R_slice hR_
   subst eB
   clear hR_ hg_ hat_
   refine hK.out _ _ ⟨(blk_cell HN8.out.hf 0).trans rfl, (blk_cell HN8.out.hk 0).trans rfl⟩ (fun hHeld => ?_)
   clear hK K
   refine My.nm 19 ?_
   refine last_ (i := 8) (N := none) (My.Mb 10 511) rfl rfl (one_of HT_.out (by kernel_rfl)) (by decide) (fun K hK => ?_)
   have hs_ := (blk_cell HN8.out.hf 0).trans rfl
   have hz_ := blk_frozen HN8.out.hf 0
   refine skip_ (w1 := w8.setCell ⟨bf, 0, none⟩ (.slice AA (fs ++ [a]).length cA)) (by rfl) rfl (by go_simp; first | done | rfl) ?_
   have HN9 := My.am (HN8.out.setF hfk h0f h0k (.slice AA (fs ++ [a]).length cA))
   clear hs_ hz_
   generalize w8.setCell ⟨bf, 0, none⟩ (.slice AA (fs ++ [a]).length cA) = w9 at HN9 ⊢
   refine hK.out _ _ ?_
   clear hK K
   refine last_ (i := 9) (N := none) (My.Mb 10 1023) rfl rfl (one_of HT_.out (by kernel_rfl)) (by decide) (fun K hK => ?_)
   have hs_ := (blk_cell HN9.out.hk 0).trans rfl
   have hz_ := blk_frozen HN9.out.hk 0
   refine skip_ (w1 := w9.setCell ⟨bk, 0, none⟩ (.slice AB (ks ++ [b]).length cB)) (by rfl) rfl (by go_simp; first | done | rfl) ?_
   have HN10 := My.am (HN9.out.setK hfk h0f h0k (.slice AB (ks ++ [b]).length cB))
   clear hs_ hz_
   generalize w9.setCell ⟨bk, 0, none⟩ (.slice AB (ks ++ [b]).length cB) = w10 at HN10 ⊢
   refine hK.out _ _ ?_
   clear hK K
   refine done_ (done_of HT_.out (by kernel_rfl)) ?_
   go_wp2
   exact ⟨rfl, _, results_none rfl _ _ _, rfl, _, _, HN10.out⟩
  ·skip
   refine event_step (v := .slice (some ⟨w5.heap.size, 0, none⟩) 1 1) (w1 := w5.alloc (.cells #[.int .i64 b] 2)) (by rfl) (by go_simp; first | done | rfl) ?_
   have HN6 := My.am (HN5.out.mv (below_alloc (Below.refl _ _) (.cells #[.int .i64 b] 2)))
   have TB := My.am (blk_new w5 (.cells #[.int .i64 b] 2))
   have NB : Aside0 (some w5.heap.size ≠ ((.slice Af fs.length cf) : Value).ownBlock) := ⟨fun e_ => by have h_ := own_lt (Kd.R_own HN5.out.rf).choose_spec _ e_.symm; omega⟩
   have TA := My.am (blk_alloc TA.out (.cells #[.int .i64 b] 2))
   generalize w5.alloc (.cells #[.int .i64 b] 2) = w6 at HN6 TB TA ⊢
   refine hK.out _ _ ⟨(blk_cell HN6.out.hf 0).trans rfl, (blk_cell HN6.out.hk 0).trans rfl⟩ (fun hHeld => ?_)
   clear hK K
   refine My.nm 18 ?_
   refine one_ (i := 3) (N := some 15) (My.Mb 10 127) rfl rfl (one_of HT_.out (by kernel_rfl)) (by decide) (fun K hK => ?_)
   refine app_step (by rfl) (.tmp 12) (.tmp 14) rfl (.slice Af fs.length cf) fs (w4.heap.size) a rfl rfl HN6.out.rf TA.out (Nat.le_trans HN6.out.n0l HN6.out.bl.size) (by have := HLA.out; omega) ?_
   intro v1_ w7 hR_ hg_ hat_
   have HN7 := My.am (HN6.out.appF hR_ hg_ hat_)
   have TB := My.am (blk_grown TB.out hg_ NB.out)
   obtain ⟨AA, cA, eA⟩ := Kd.R_slice hR_
   subst eA
   clear hR_ hg_ hat_
   refine hK.out _ _ ⟨(blk_cell HN7.out.hf 0).trans rfl, (blk_cell HN7.out.hk 0).trans rfl⟩ (fun hHeld => ?_)
   clear hK K
   refine My.nm 15 ?_
   refine one_ (i := 7) (N := some 19) (My.Mb 10 255) rfl rfl (one_of HT_.out (by kernel_rfl)) (by decide) (fun K hK => ?_)
   refine app_step (by rfl) (.tmp 16) (.tmp 18) rfl (.slice Ak ks.length ck) ks (w5.heap.size) b rfl rfl HN7.out.rk TB.out (Nat.le_trans HN7.out.n0l HN7.out.bl.size) (by have := HLB.out; omega) ?_
   intro v1_ w8 hR_ hg_ hat_
   have HN8 := My.am (HN7.out.appK hR_ hg_ hat_)
   obtain ⟨AB, cB, eB⟩ := Kd.R_slice hR_
   subst eB
   clear hR_ hg_ hat_
   refine hK.out _ _ ⟨(blk_cell HN8.out.hf 0).trans rfl, (blk_cell HN8.out.hk 0).trans rfl⟩ (fun hHeld => ?_)
   clear hK K
   refine My.nm 19 ?_
   refine last_ (i := 8) (N := none) (My.Mb 10 511) rfl rfl (one_of HT_.out (by kernel_rfl)) (by decide) (fun K hK => ?_)
   have hs_ := (blk_cell HN8.out.hf 0).trans rfl
   have hz_ := blk_frozen HN8.out.hf 0
   refine skip_ (w1 := w8.setCell ⟨bf, 0, none⟩ (.slice AA (fs ++ [a]).length cA)) (by rfl) rfl (by go_simp; first | done | rfl) ?_
   have HN9 := My.am (HN8.out.setF hfk h0f h0k (.slice AA (fs ++ [a]).length cA))
   clear hs_ hz_
   generalize w8.setCell ⟨bf, 0, none⟩ (.slice AA (fs ++ [a]).length cA) = w9 at HN9 ⊢
   refine hK.out _ _ ?_
   clear hK K
   refine last_ (i := 9) (N := none) (My.Mb 10 1023) rfl rfl (one_of HT_.out (by kernel_rfl)) (by decide) (fun K hK => ?_)
   have hs_ := (blk_cell HN9.out.hk 0).trans rfl
   have hz_ := blk_frozen HN9.out.hk 0
   refine skip_ (w1 := w9.setCell ⟨bk, 0, none⟩ (.slice AB (ks ++ [b]).length cB)) (by rfl) rfl (by go_simp; first | done | rfl) ?_
   have HN10 := My.am (HN9.out.setK hfk h0f h0k (.slice AB (ks ++ [b]).length cB))
   clear hs_ hz_
   generalize w9.setCell ⟨bk, 0, none⟩ (.slice AB (ks ++ [b]).length cB) = w10 at HN10 ⊢
   refine hK.out _ _ ?_
   clear hK K
   refine done_ (done_of HT_.out (by kernel_rfl)) ?_
   go_wp2
   exact ⟨rfl, _, results_none rfl _ _ _, rfl, _, _, HN10.out⟩
 ·skip
  refine event_step (v := .slice (some ⟨w4.heap.size, 0, none⟩) 1 1) (w1 := w4.alloc (.cells #[.int .i64 b] 2)) (by rfl) (by go_simp; first | done | rfl) ?_
  have HN5 := My.am (HN4.out.mv (below_alloc (Below.refl _ _) (.cells #[.int .i64 b] 2)))
  have TB := My.am (blk_new w4 (.cells #[.int .i64 b] 2))
  have NB : Aside0 (some w4.heap.size ≠ ((.slice Af fs.length cf) : Value).ownBlock) := ⟨fun e_ => by have h_ := own_lt (Kd.R_own HN4.out.rf).choose_spec _ e_.symm; omega⟩
  generalize w4.alloc (.cells #[.int .i64 b] 2) = w5 at HN5 TB ⊢
  refine hK.out _ _ ⟨(blk_cell HN5.out.hf 0).trans rfl, (blk_cell HN5.out.hk 0).trans rfl⟩ (fun hHeld => ?_)
  clear hK K
  refine My.nm 18 ?_
  refine one_ (i := 2) (N := some 14) (My.Mb 10 119) rfl rfl (one_of HT_.out (by kernel_rfl)) (by decide) (fun K hK => ?_)
  refine event_step (v := .slice (some ⟨w5.heap.size, 0, none⟩) 1 1) (w1 := w5.alloc (.cells #[.int .i64 a] 2)) (by rfl) (by go_simp; first | done | rfl) ?_
  have HN6 := My.am (HN5.out.mv (below_alloc (Below.refl _ _) (.cells #[.int .i64 a] 2)))
  have TA := My.am (blk_new w5 (.cells #[.int .i64 a] 2))
  have NA : Aside0 (some w5.heap.size ≠ ((.slice Af fs.length cf) : Value).ownBlock) := ⟨fun e_ => by have h_ := own_lt (Kd.R_own HN5.out.rf).choose_spec _ e_.symm; omega⟩
  have TB := My.am (blk_alloc TB.out (.cells #[.int .i64 a] 2))
  generalize w5.alloc (.cells #[.int .i64 a] 2) = w6 at HN6 TA TB ⊢
  refine hK.out _ _ ⟨(blk_cell HN6.out.hf 0).trans rfl, (blk_cell HN6.out.hk 0).trans rfl⟩ (fun hHeld => ?_)
  clear hK K
  refine My.nm 14 ?_
  refine one_ (i := 3) (N := some 15) (My.Mb 10 127) rfl rfl (one_of HT_.out (by kernel_rfl)) (by decide) (fun K hK => ?_)
  refine app_step (by rfl) (.tmp 12) (.tmp 14) rfl (.slice Af fs.length cf) fs (w5.heap.size) a rfl rfl HN6.out.rf TA.out (Nat.le_trans HN6.out.n0l HN6.out.bl.size) (by have := HLA.out; omega) ?_
  intro v1_ w7 hR_ hg_ hat_
  have HN7 := My.am (HN6.out.appF hR_ hg_ hat_)
  have TB := My.am (blk_grown TB.out hg_ NB.out)
  obtain ⟨AA, cA, eA⟩ := Kd.R_slice hR_
  subst eA
  clear hR_ hg_ hat_
  refine hK.out _ _ ⟨(blk_cell HN7.out.hf 0).trans rfl, (blk_cell HN7.out.hk 0).trans rfl⟩ (fun hHeld => ?_)
  clear hK K
  refine My.nm 15 ?_
  refine one_ (i := 7) (N := some 19) (My.Mb 10 255) rfl rfl (one_of HT_.out (by kernel_rfl)) (by decide) (fun K hK => ?_)
  refine app_step (by rfl) (.tmp 16) (.tmp 18) rfl (.slice Ak ks.length ck) ks (w4.heap.size) b rfl rfl HN7.out.rk TB.out (Nat.le_trans HN7.out.n0l HN7.out.bl.size) (by have := HLB.out; omega) ?_
  intro v1_ w8 hR_ hg_ hat_
  have HN8 := My.am (HN7.out.appK hR_ hg_ hat_)
  obtain ⟨AB, cB, eB⟩ := Kd.R_slice hR_
  subst eB
  clear hR_ hg_ hat_
  refine hK.out _ _ ⟨(blk_cell HN8.out.hf 0).trans rfl, (blk_cell HN8.out.hk 0).trans rfl⟩ (fun hHeld => ?_)
  clear hK K
  refine My.nm 19 ?_
  refine last_ (i := 8) (N := none) (My.Mb 10 511) rfl rfl (one_of HT_.out (by kernel_rfl)) (by decide) (fun K hK => ?_)
  have hs_ := (blk_cell HN8.out.hf 0).trans rfl
  have hz_ := blk_frozen HN8.out.hf 0
  refine skip_ (w1 := w8.setCell ⟨bf, 0, none⟩ (.slice AA (fs ++ [a]).length cA)) (by rfl) rfl (by go_simp; first | done | rfl) ?_
  have HN9 := My.am (HN8.out.setF hfk h0f h0k (.slice AA (fs ++ [a]).length cA))
  clear hs_ hz_
  generalize w8.setCell ⟨bf, 0, none⟩ (.slice AA (fs ++ [a]).length cA) = w9 at HN9 ⊢
  refine hK.out _ _ ?_
  clear hK K
  refine last_ (i := 9) (N := none) (My.Mb 10 1023) rfl rfl (one_of HT_.out (by kernel_rfl)) (by decide) (fun K hK => ?_)
  have hs_ := (blk_cell HN9.out.hk 0).trans rfl
  have hz_ := blk_frozen HN9.out.hk 0
  refine skip_ (w1 := w9.setCell ⟨bk, 0, none⟩ (.slice AB (ks ++ [b]).length cB)) (by rfl) rfl (by go_simp; first | done | rfl) ?_
  have HN10 := My.am (HN9.out.setK hfk h0f h0k (.slice AB (ks ++ [b]).length cB))
  clear hs_ hz_
  generalize w9.setCell ⟨bk, 0, none⟩ (.slice AB (ks ++ [b]).length cB) = w10 at HN10 ⊢
  refine hK.out _ _ ?_
  clear hK K
  refine done_ (done_of HT_.out (by kernel_rfl)) ?_
  go_wp2
  exact ⟨rfl, _, results_none rfl _ _ _, rfl, _, _, HN10.out⟩
end


/-! ### stringslite_HasPrefix: function 77 -/
def stringslite_HasPrefix.f (a0 : ByteArray) (a1 : ByteArray) : Option (Bool) := if (a0.size : Int) ≥ (a1.size : Int) then (if 0 ≤ (a1.size : Int) then (if (a1.size : Int) ≤ (a0.size : Int) then (some ((a0.extract 0 ((a1.size : Int) : Int).toNat).toList == a1.toList)) else (none)) else (none)) else (some false)
theorem stringslite_HasPrefix.calls (a0 : ByteArray) (a1 : ByteArray) (r : Bool) (w : World) (h : stringslite_HasPrefix.f a0 a1 = some r) :
  Calls Try.prog 77 #[.string a0, .string a1] w fun e w' => e = .returned (.bool r) ∧ Drawn0 w w' := by
 unfold stringslite_HasPrefix.f at h
 have H := h
 clear h
 by_cases c3 : (a0.size : Int) ≥ (a1.size : Int)
 ·rw [if_pos c3] at H
  have c3b0 : decide ((a1.size : Int) ≤ (a0.size : Int)) = true := decide_eq_true c3
  have c3b1 : decide (a1.size ≤ a0.size) = true := decide_eq_true (Int.ofNat_le.mp c3)
  clear c3
  by_cases c4 : 0 ≤ (a1.size : Int)
  ·rw [if_pos c4] at H
   have c4b0 := eq_true c4
   have c4b1 := decide_eq_true c4
   clear c4
   by_cases c5 : (a1.size : Int) ≤ (a0.size : Int)
   ·rw [if_pos c5] at H
    have c5b0 := eq_true c5
    have c5b1 := decide_eq_true c5
    clear c5
    obtain rfl := Option.some.inj H
    go_enter Try.func77, Try.ntmps77
    go_wp2
    go_ret
    exact ⟨by first | rfl | (simp; done) | (simp [*]; done), by repeat (first | exact Drawn0.refl _ | apply Drawn0.step)⟩
   rw [if_neg c5] at H
   exact absurd H (by simp)
  ·exact My.nn c4 H
 ·rw [if_neg c3] at H
  have c3b0 : decide ((a1.size : Int) ≤ (a0.size : Int)) = false := decide_eq_false c3
  have c3b1 : decide (a1.size ≤ a0.size) = false := decide_eq_false (fun h => c3 (Int.ofNat_le.mpr h))
  clear c3
  obtain rfl := Option.some.inj H
  go_enter Try.func77, Try.ntmps77
  go_wp2
  go_ret
  exact ⟨by first | rfl | (simp; done) | (simp [*]; done), by repeat (first | exact Drawn0.refl _ | apply Drawn0.step)⟩

/-! ### strings_HasPrefix: function 54 -/
def strings_HasPrefix.f (a0 : ByteArray) (a1 : ByteArray) : Option (Bool) := (stringslite_HasPrefix.f a0 a1).bind fun t587 => (some t587)
theorem strings_HasPrefix.calls (a0 : ByteArray) (a1 : ByteArray) (r : Bool) (w : World) (h : strings_HasPrefix.f a0 a1 = some r) :
  Calls Try.prog 54 #[.string a0, .string a1] w fun e w' => e = .returned (.bool r) ∧ Drawn0 w w' := by
 unfold strings_HasPrefix.f at h
 have H := h
 clear h
 replace H := Option.bind_eq_some_iff.mp H
 obtain ⟨t587, A30, H⟩ := H
 try dsimp only at H
 have A3 := My.am A30
 clear A30
 obtain rfl := Option.some.inj H
 go_enter Try.func54, Try.ntmps54
 go_wp2_with (first | ((with_reducible refine gate_callee (f := 77) rfl ?_); refine goesL_ (some 7) rfl rfl Try.func77 (by kernel_rfl) rfl #[.string a0, .string a1] rfl My.gx ?_; (with_reducible refine (stringslite_HasPrefix.calls a0 a1 t587 _ A3.out).mono ?_); rintro e w' ⟨rfl, ⟨nd, rfl⟩⟩; refine ⟨_, rfl, ?_⟩))
 go_ret
 exact ⟨by first | rfl | (simp; done) | (simp [*]; done), by repeat (first | exact Drawn0.refl _ | apply Drawn0.step)⟩

-- NOT PRINTED: function 92 (bits_Add64)

/-! ### cash_wide_add: function 78 -/

def cash_wide_add.f (h lo a : Int) : Option (Int × Int) := if 0 ≤ lo then some (wrap64 (wrap64 (h + a / 9223372036854775808) + wrap64 ((lo + IntKind.u64.wrap a) / 18446744073709551616)), (lo + IntKind.u64.wrap a) % 18446744073709551616) else none
theorem cash_wide_add.carry (lo a : Int) (h0 : 0 ≤ lo) (w : World) : (callFunc 92 #[.int .u64 lo, .int .u64 (IntKind.u64.wrap a), .int .u64 0]).run Try.prog w =
  .ok (.value (.tuple #[.int .u64 ((lo + IntKind.u64.wrap a) % 18446744073709551616), .int .u64 ((lo + IntKind.u64.wrap a) / 18446744073709551616)])) w := by
 have h1 : 0 ≤ IntKind.u64.wrap a := by simp [IntKind.wrap, IntKind.bits, IntKind.signed]; omega
 rw [run_callFunc_extern Try.func92 (by kernel_rfl) (by kernel_rfl) (by kernel_rfl) (e := add64Entry) (by kernel_rfl)]
 rw [run_add64 lo (IntKind.u64.wrap a) 0 h0 h1 (by decide) (by decide)]
 simp only [Result.andThen, Int.add_zero]
set_option maxHeartbeats 2000000 in
theorem cash_wide_add.calls (a0_0 : Int) (a0_1 : Int) (a1 : Int) (r1 : Int) (r2 : Int) (w : World) (h : cash_wide_add.f a0_0 a0_1 a1 = some (r1, r2)) :
  Calls Try.prog 78 #[.agg #[.int .i64 a0_0, .int .u64 a0_1], .int .i64 a1] w fun e w' => e = .returned (.agg #[.int .i64 r1, .int .u64 r2]) ∧ Below w.heap.size w w' := by
 have hu := Try.underlying116
 have h' := h
 unfold cash_wide_add.f at h'
 by_cases h0 : 0 ≤ a0_1
 ·rw [if_pos h0] at h'
  obtain ⟨rfl, rfl⟩ := Prod.mk.inj (Option.some.inj h')
  clear h h'
  go_enter Try.func78, Try.ntmps78
  go_wp2_with (rw [cash_wide_add.carry a0_1 a1 h0])
  simp [bodyPost, results, Try.results78, go_sem]
  exact below_alloc (below_alloc (Below.refl w.heap.size w) _) _
 ·rw [if_neg h0] at h'
  exact absurd h' (by simp)


/-! ### cash_wide_narrow: function 79 -/
def cash_wide_narrow.f (a0_0 : Int) (a0_1 : Int) : Option (Int × Int) := if a0_0 = ((wrap64 (a0_1)) / 9223372036854775808) then (some (wrap64 (a0_1), 0)) else (some (0, 40))
theorem cash_wide_narrow.calls (a0_0 : Int) (a0_1 : Int) (r1 : Int) (r2 : Int) (w : World) (h : cash_wide_narrow.f a0_0 a0_1 = some (r1, r2)) :
  Calls Try.prog 79 #[.agg #[.int .i64 a0_0, .int .u64 a0_1]] w fun e w' => e = .returned (.tuple #[.int .i64 r1, .int .i64 r2]) ∧ Below w.heap.size w w' := by
 have hu116 := Try.underlying116
 have HB := My.am (Below.refl w.heap.size w)
 unfold cash_wide_narrow.f at h
 have H := h
 clear h
 by_cases c2 : a0_0 = ((wrap64 (a0_1)) / 9223372036854775808)
 ·rw [if_pos c2] at H
  have c2b0 : (a0_0 == ((wrap64 (a0_1)) / 9223372036854775808)) = true := beq_iff_eq.mpr c2
  have c2b1 : (a0_0 != ((wrap64 (a0_1)) / 9223372036854775808)) = false := bne_eq_false_iff_eq.mpr c2
  clear c2
  simp only [Option.some.injEq, Prod.mk.injEq] at H
  obtain ⟨rfl, rfl⟩ := H
  go_enter Try.func79, Try.ntmps79
  go_wp2_with (first | ((with_reducible refine gate_dst (N := 1) rfl ?_); refine My.bx 1 #[.int .i64 a0_0, .int .u64 a0_1] 116 ?_; intro gb588 hg w3 hbox hb; have BK588 := My.am (hbox); have GE588 := My.nge hg (My.bl_ HB); replace HB := My.st HB hb; clear hb hbox hg; have hq4 := My.cz2 BK588))
  go_ret2
  exact ⟨My.r2, (My.bl_ HB)⟩
 ·rw [if_neg c2] at H
  have c2b0 : (a0_0 == ((wrap64 (a0_1)) / 9223372036854775808)) = false := beq_eq_false_iff_ne.mpr c2
  have c2b1 : (a0_0 != ((wrap64 (a0_1)) / 9223372036854775808)) = true := bne_iff_ne.mpr c2
  simp only [Option.some.injEq, Prod.mk.injEq] at H
  obtain ⟨rfl, rfl⟩ := H
  go_enter Try.func79, Try.ntmps79
  go_wp2_with (first | ((with_reducible refine gate_dst (N := 1) rfl ?_); refine My.bx 1 #[.int .i64 a0_0, .int .u64 a0_1] 116 ?_; intro gb588 hg w5 hbox hb; have BK588 := My.am (hbox); have GE588 := My.nge hg (My.bl_ HB); replace HB := My.st HB hb; clear hb hbox hg; have hq6 := My.cz2 BK588))
  go_ret2
  exact ⟨My.r2, (My.bl_ HB)⟩

/-! ### cash_Sum: function 55 -/
def cash_Sum.l0 : Nat → List Int → Int → Int → Int → Int → Option (Int × Int)
 | 0, _, _, _, _, _ => none
 | k + 1, x7, x8, x9, x590000, x590001 => if x9 < x8 then (if 0 ≤ x9 then (if x9 < (x7.length : Int) then ((cash_wide_add.f x590000 x590001 (rd x7 x9)).bind fun bt591 => (cash_Sum.l0 k x7 x8 (wrap64 (x9 + 1)) bt591.1 bt591.2)) else (none)) else (none)) else ((cash_wide_narrow.f x590000 x590001).bind fun bt593 => (some (bt593.1, bt593.2)))
def cash_Sum.f (k : Nat) (l0 : List Int) : Option (Int × Int) := cash_Sum.l0 k l0 (l0.length : Int) 0 0 0
theorem cash_Sum.calls (k : Nat) (A0 : Option Addr) (c0 : Nat) (l0 : List Int) (r1 : Int) (r2 : Int) (w : World) (hr0 : Kd.C (Kd.int .i64) w A0 l0.length l0) (hc0 : l0.length ≤ c0) (h : cash_Sum.f k l0 = some (r1, r2)) :
  Calls Try.prog 55 #[.slice A0 l0.length c0] w fun e w' => e = .returned (.tuple #[.int .i64 r1, .int .i64 r2]) ∧ Below w.heap.size w w' := by
 have hu116 := Try.underlying116
 have HR0 := My.am hr0
 have HC0 := My.am hc0
 clear hr0 hc0
 have HB := My.am (Below.refl w.heap.size w)
 have H : (cash_Sum.l0 k l0 (l0.length : Int) 0 0 0) = some (r1, r2) := h
 clear h
 have H' := My.am H
 clear H
 go_enter Try.func55, Try.ntmps55
 go_wp2_with (first | ((with_reducible refine gate_dst (N := 4) rfl ?_); refine My.bx 4 #[.int .i64 0, .int .u64 0] 116 ?_; intro gb589 hg w2 hbox hb; have BK589 := My.am (hbox); have GE589 := My.nge hg (My.bl_ HB); replace HB := My.st HB hb; clear hb hbox hg))
 go_loopg [9] k (fun kq v9 w' => ∃ (x9_1 : Int) (x590000_1 : Int) (x590001_1 : Int), v9 = .int .i64 x9_1 ∧ Aside0 (cash_Sum.l0 kq l0 (l0.length : Int) x9_1 x590000_1 x590001_1 = some (r1, r2)) ∧ Aside0 (kq ≤ k) ∧ Aside0 (w'.heap[gb589]? = some (.cells #[.int .i64 x590000_1, .int .u64 x590001_1] 116 (0, 0))) ∧ Aside0 (Below w.heap.size w w'))
 case atStart => exact ⟨(0), (0), (0), My.r1, H', ⟨Nat.le_refl _⟩, ⟨(My.at_ BK589)⟩, ⟨(My.bl_ HB)⟩⟩
 case round =>
  clear H'
  obtain ⟨x9_1, x590000_1, x590001_1, rfl, HA, HK1, BK589, HB⟩ := hrel
  cases gk with
  | zero => exact absurd HA.out (by simp [cash_Sum.l0])
  | succ k1 =>
   have H := HA.out
   clear HA
   simp only [cash_Sum.l0] at H
   by_cases c3 : x9_1 < (l0.length : Int)
   rotate_left
   ·rw [if_neg c3] at H
    have c3b0 := decide_eq_false c3
    clear c3
    replace H := Option.bind_eq_some_iff.mp H
    obtain ⟨⟨t593, t594⟩, A100, H⟩ := H
    try dsimp only at H
    have A10 := My.am A100
    clear A100
    simp only [Option.some.injEq, Prod.mk.injEq] at H
    obtain ⟨rfl, rfl⟩ := H
    have hq11 := My.cz2 BK589
    go_wp2_with (first | ((with_reducible refine gate_callee (f := 79) rfl ?_); refine goesL_ (some 18) rfl rfl Try.func79 (by kernel_rfl) rfl #[.agg #[.int .i64 x590000_1, .int .u64 x590001_1]] rfl My.gx ?_; (with_reducible refine (cash_wide_narrow.calls x590000_1 x590001_1 t593 t594 _ A10.out).mono ?_); rintro e w12 ⟨rfl, hb⟩; refine ⟨_, rfl, ?_⟩; replace HB := My.st HB hb; (try clear hb)))
    go_ret2
    exact ⟨My.r2, (My.bl_ HB)⟩

   rw [if_pos c3] at H
   have c3b0 := decide_eq_true c3
   clear c3
   replace H := My.ds H
   obtain ⟨c4b0, H⟩ := H
   replace H := My.ds H
   obtain ⟨c5b0, H⟩ := H
   replace H := Option.bind_eq_some_iff.mp H
   obtain ⟨⟨t591, t592⟩, A60, H⟩ := H
   try dsimp only at H
   have A6 := My.am A60
   clear A60
   have H' := My.am H
   clear H
   have p590 : 0 ≤ (x9_1 : Int) := My.as_
   have q590 : x9_1 < (l0.length : Int) := My.as_
   obtain ⟨ad590, e590, hx590_0⟩ := Kd.at_int HR0.out x9_1 p590 q590
   cases e590
   replace hx590_0 := My.up HB hx590_0
   replace p590 := eq_true p590
   replace q590 := eq_true q590
   have hq7 := My.cz2 BK589
   go_wp2_with (first | ((with_reducible refine gate_callee (f := 78) rfl ?_); refine goesL_ (some 15) rfl rfl Try.func78 (by kernel_rfl) rfl #[.agg #[.int .i64 x590000_1, .int .u64 x590001_1], .int .i64 (rd l0 x9_1)] rfl My.gx ?_; (with_reducible refine (cash_wide_add.calls x590000_1 x590001_1 (rd l0 x9_1) t591 t592 _ A6.out).mono ?_); rintro e w8 ⟨rfl, hb⟩; refine ⟨_, rfl, ?_⟩; replace BK589 := My.ab BK589 hb; replace HB := My.st HB hb; (try clear hb); have hq9 := My.cz2 BK589))
   go_roundg k1
   case measure => have := HK1.out; omega
   case rel => exact ⟨(wrap64 (x9_1 + 1)), (t591), (t592), My.r1, H', ⟨by have := HK1.out; omega⟩, ⟨(My.sv_ BK589)⟩, ⟨(My.bl_ HB)⟩⟩
/-! ### ledger_Net: function 23 -/
def ledger_Net.g (k : Nat) (a1 a2 : ByteArray) : List S64 → List Int → List Int → Option (List Int × List Int)
 | [], fs, ks => some (fs, ks)
 | m :: r, fs, ks => if (m.f1.f1.toList == a1.toList) = true then (if m.f2 = 2 then ledger_Net.g k a1 a2 r fs ks else (strings_HasPrefix.f m.f0 a2).bind fun t => if t = true then ((act_Delta.f k m.f1.f0 m.f1.f1 m.f1.f2).bind fun d => ledger_Net.g k a1 a2 r (fs ++ [d.1]) (ks ++ [d.2])) else ledger_Net.g k a1 a2 r fs ks) else ledger_Net.g k a1 a2 r fs ks
def ledger_Net.e (k : Nat) (l1 : List S64) (a1 a2 : ByteArray) : Option (Int × Int × Int) := if l1.length ≤ 1000000 then (ledger_Net.g k a1 a2 l1 [] []).bind fun t => (cash_Sum.f k t.1).bind fun u => (cash_Sum.f k t.2).bind fun v => if u.2 = 0 then (if v.2 = 0 then some (u.1, v.1, 0) else some (0, 0, 40)) else some (0, 0, 40) else none
def ledger_Net.f (k : Nat) (l0_0 : List (S51)) (l0_1 : List (S64)) (a1 : ByteArray) (a2 : ByteArray) : Option (Int × Int × Int) := (ledger_May.f k l0_0 l0_1).bind fun t596 => (if t596 = 0 then ((ledger_book_account.f k l0_0 l0_1 a1).bind fun bt597 => (if bt597.2 = true then (ledger_Net.e k l0_1 a1 a2) else (some (0, 0, 70)))) else (some (0, 0, t596)))
theorem ledger_Net.calls (k : Nat) (A0_0 : Option Addr) (c0_0 : Nat) (l0_0 : List (S51)) (A0_1 : Option Addr) (c0_1 : Nat) (l0_1 : List (S64)) (a1 : ByteArray) (a2 : ByteArray) (r1 : Int) (r2 : Int) (r3 : Int) (w : World) (hr0_0 : Kd.C k51 w A0_0 l0_0.length l0_0) (hc0_0 : l0_0.length ≤ c0_0) (hr0_1 : Kd.C k64 w A0_1 l0_1.length l0_1) (hc0_1 : l0_1.length ≤ c0_1) (h : ledger_Net.f k l0_0 l0_1 a1 a2 = some (r1, r2, r3)) :
  Calls Try.prog 23 #[.agg #[.slice A0_0 l0_0.length c0_0, .slice A0_1 l0_1.length c0_1], .string a1, .string a2] w fun e w' => e = .returned (.tuple #[.int .i64 r1, .int .i64 r2, .int .i64 r3]) ∧ Below w.heap.size w w' := by
 have hu25 := Try.underlying25
 have hu71 := Try.underlying71
 have HR0_0 := My.am hr0_0
 have HC0_0 := My.am hc0_0
 clear hr0_0 hc0_0
 have HR0_1 := My.am hr0_1
 have HC0_1 := My.am hc0_1
 clear hr0_1 hc0_1
 have HB := My.am (Below.refl w.heap.size w)
 unfold ledger_Net.f at h
 have H := h
 clear h
 replace H := Option.bind_eq_some_iff.mp H
 obtain ⟨t596, A40, H⟩ := H
 try dsimp only at H
 have A4 := My.am A40
 clear A40
 by_cases c5 : t596 = 0
 ·rw [if_pos c5] at H
  have c5b0 : (t596 == 0) = true := beq_iff_eq.mpr c5
  have c5b1 : (t596 != 0) = false := bne_eq_false_iff_eq.mpr c5
  clear c5
  replace H := Option.bind_eq_some_iff.mp H
  obtain ⟨⟨t597, t598⟩, A60, H⟩ := H
  try dsimp only at H
  have A6 := My.am A60
  clear A60
  by_cases c7 : t598 = true
  ·subst c7
   rw [if_pos rfl] at H
   unfold ledger_Net.e at H
   by_cases ce : l0_1.length ≤ 1000000
   rotate_left
   ·rw [if_neg ce] at H
    cases H
   rw [if_pos ce] at H
   obtain ⟨⟨fz, kz⟩, HG0, H⟩ := Option.bind_eq_some_iff.1 H
   dsimp only at H
   obtain ⟨⟨s1, e1⟩, HS10, H⟩ := Option.bind_eq_some_iff.1 H
   obtain ⟨⟨s2, e2⟩, HS20, H⟩ := Option.bind_eq_some_iff.1 H
   dsimp only at H
   have HG := My.am HG0
   have HS1 := My.am HS10
   have HS2 := My.am HS20
   have CE := My.am ce
   have HH := My.am H
   clear HG0 HS10 HS20 ce H
   go_enter Try.func23, Try.ntmps23
   go_upto_region 7 with (first | ((with_reducible refine gate_dst (N := 3) rfl ?_); refine My.bx 3 #[.slice A0_0 l0_0.length c0_0, .slice A0_1 l0_1.length c0_1] 25 ?_; intro gb595 hg w8 hbox hb; have BK595 := My.am (hbox); have GE595 := My.nge hg (My.bl_ HB); replace HB := My.st HB hb; clear hb hbox hg; have hq9 := My.cz2 BK595) | ((with_reducible refine gate_callee (f := 20) rfl ?_); refine goesL_ (some 22) rfl rfl Try.func20 (by kernel_rfl) rfl #[.agg #[.slice A0_0 l0_0.length c0_0, .slice A0_1 l0_1.length c0_1]] rfl My.gx ?_; (with_reducible refine (ledger_May.calls k _ _ l0_0 _ _ l0_1 t596 _ ?side1 ?side2 ?side3 ?side4 A4.out).mono ?_); (case side1 => exact My.sd_ HR0_0 HB); (case side2 => exact HC0_0.out); (case side3 => exact My.sd_ HR0_1 HB); (case side4 => exact HC0_1.out); rintro e w10 ⟨rfl, hb⟩; refine ⟨_, rfl, ?_⟩; replace BK595 := My.ab BK595 hb; replace HB := My.st HB hb; (try clear hb); have hq11 := My.cz2 BK595) | ((with_reducible refine gate_callee (f := 32) rfl ?_); refine goesL_ (some 30) rfl rfl Try.func32 (by kernel_rfl) rfl #[.agg #[.slice A0_0 l0_0.length c0_0, .slice A0_1 l0_1.length c0_1], .string a1] rfl My.gx ?_; (with_reducible refine (ledger_book_account.calls k _ _ l0_0 _ _ l0_1 a1 t597 true _ ?side1 ?side2 ?side3 ?side4 A6.out).mono ?_); (case side1 => exact My.sd_ HR0_0 HB); (case side2 => exact HC0_0.out); (case side3 => exact My.sd_ HR0_1 HB); (case side4 => exact HC0_1.out); rintro e w12 ⟨rfl, hb⟩; refine ⟨_, rfl, ?_⟩; replace BK595 := My.ab BK595 hb; replace HB := My.st HB hb; (try clear hb)))
   go_upto_region 9 with (fail)
   have hns : My.NS w12 ((w12.alloc (.cells #[.slice none 0 0] 87)).alloc (.cells #[.slice none 0 0] 87)) w.heap.size w12.heap.size (w12.heap.size + 1) (.slice none 0 0) (.slice none 0 0) (.slice none 0 0) (.slice none 0 0) [] [] :=
    ⟨blk_alloc (blk_new _ _) _, by have h_ := blk_new (w12.alloc (.cells #[.slice none 0 0] 87)) (.cells #[.slice none 0 0] 87); rwa [World.size_alloc] at h_, Kd.R_nil _ _ _ _ _, Kd.R_nil _ _ _ _ _, fun k h => by simp [Value.ownBlock] at h, HB.out.size, ((Below.refl _ _).alloc HB.out.size _).alloc (by simp; have := HB.out.size; omega) _, fun g cs t e h1 h2 => blk_alloc (blk_alloc e _) _⟩
   have HNS := My.am hns
   have HSZ := My.am HB.out.size
   clear hns
   generalize ((w12.alloc (.cells #[.slice none 0 0] 87)).alloc (.cells #[.slice none 0 0] 87)) = wz at HNS ⊢
   have BKz := My.am (HNS.out.kp _ _ _ BK595.out (by decide) (by decide))
   have hcy1 := My.b_ BKz 1
   have hu64 := Try.underlying64
   have hu27 := Try.underlying27
   generalize w12.heap.size = bf at HNS HSZ ⊢
   go_wp2
   go_loopg [39] (l0_1.length + 1) (fun kq v39 w' => ∃ (j : Nat) (fs ks : List Int) (vf vk : Value), kq + j = l0_1.length + 1 ∧ v39 = .int .i64 (j : Int) ∧ j ≤ l0_1.length ∧ fs.length ≤ j ∧ ks.length ≤ j ∧ Aside0 (ledger_Net.g k a1 a2 (l0_1.drop j) fs ks = some (fz, kz)) ∧ Aside0 (My.NS w12 w' w.heap.size bf (bf + 1) vf vk vf vk fs ks))
   case atStart => exact ⟨0, [], [], _, _, by omega, rfl, Nat.zero_le _, Nat.zero_le _, Nat.zero_le _, ⟨by rw [List.drop_zero]; exact HG.out⟩, HNS⟩
   case round =>
    clear hcy1 HNS BKz HG
    obtain ⟨j, fs, ks, vf, vk, hkj, rfl, hj, hlf, hlk, HG, HNS⟩ := hrel
    by_cases cj : j < l0_1.length
    rotate_left
    ·obtain rfl : j = l0_1.length := by omega
     have d1 : decide ((l0_1.length : Int) < (l0_1.length : Int)) = false := by simp
     have hg := HG.out
     rw [List.drop_length] at hg
     simp only [ledger_Net.g, Option.some.injEq, Prod.mk.injEq] at hg
     obtain ⟨rfl, rfl⟩ := hg
     clear HG
     obtain ⟨Af, cf, ef, hfl, hfC⟩ := Kd.R_reads HNS.out.rf
     subst ef
     obtain ⟨Ak, ck, ek, hkl, hkC⟩ := Kd.R_reads HNS.out.rk
     subst ek
     have FC := My.am hfC
     have KC := My.am hkC
     clear hfC hkC
     have hf0 := (blk_cell HNS.out.hf 0).trans rfl
     have hh := HH.out
     go_upto_region 16 with ((go_at_call 55; refine (cash_Sum.calls k _ _ fs s1 e1 _ FC.out hfl HS1.out).mono ?_; rintro e w40 ⟨rfl, hb⟩; have HB40 := My.am hb; have HN40 := My.am (HNS.out.mv hb); clear hb hf0; have hk0 := (blk_cell HN40.out.hk 0).trans rfl))
     go_upto_region 17 with ((go_at_call 55; refine (cash_Sum.calls k _ _ ks s2 e2 _ (Kd.C_below KC.out HB40.out) hkl HS2.out).mono ?_; rintro e w41 ⟨rfl, hb⟩; have HN41 := My.am (HN40.out.mv hb); clear hb hk0))
     clear HN40 HB40 HNS
     by_cases g1 : e1 = 0
     ·rw [if_pos g1] at hh
      have g1b : (e1 != 0) = false := bne_eq_false_iff_eq.2 g1
      by_cases g2 : e2 = 0
      ·rw [if_pos g2] at hh
       have g2b : (e2 != 0) = false := bne_eq_false_iff_eq.2 g2
       simp only [Option.some.injEq, Prod.mk.injEq] at hh
       obtain ⟨rfl, rfl, rfl⟩ := hh
       go_wp2
       go_ret3
       exact ⟨rfl, HB.out.trans HN41.out.bl⟩
      rw [if_neg g2] at hh
      have g2b : (e2 != 0) = true := bne_iff_ne.2 g2
      simp only [Option.some.injEq, Prod.mk.injEq] at hh
      obtain ⟨rfl, rfl, rfl⟩ := hh
      go_wp2
      go_ret3
      exact ⟨rfl, HB.out.trans HN41.out.bl⟩
     rw [if_neg g1] at hh
     have g1b : (e1 != 0) = true := bne_iff_ne.2 g1
     simp only [Option.some.injEq, Prod.mk.injEq] at hh
     obtain ⟨rfl, rfl, rfl⟩ := hh
     go_wp2
     go_ret3
     exact ⟨rfl, HB.out.trans HN41.out.bl⟩
    have z0 : (0 : Int) ≤ (j : Int) := by omega
    have z2 : (j : Int) < (l0_1.length : Int) := by omega
    have d1 : decide ((j : Int) < (l0_1.length : Int)) = true := decide_eq_true z2
    have hC := Kd.C_below HR0_1.out (HB.out.trans HNS.out.bl)
    obtain ⟨adz, rfl, y0, y1, y2, y3, y4⟩ := at_T64 hC (j : Int) z0 z2
    rw [Int.toNat_natCast] at y0 y1 y2 y3 y4
    clear hC
    have hd : l0_1.drop j = rd_T64 l0_1 (j : Int) :: l0_1.drop (j + 1) := by
     rw [List.drop_eq_getElem_cons cj]
     congr 1
     show _ = l0_1.getD ((j : Int)).toNat _
     rw [Int.toNat_natCast, List.getD_eq_getElem?_getD, List.getElem?_eq_getElem cj]
     rfl
    have hg := HG.out
    rw [hd] at hg
    simp only [ledger_Net.g] at hg
    have hw1 : wrap64 ((j : Int) + 1) = ((j + 1 : Nat) : Int) := by have := CE.out; unfold wrap64; omega
    have HW1 := My.am hw1
    clear hd hw1 HG
    by_cases c1 : ((rd_T64 l0_1 (j : Int)).f1.f1.toList == a1.toList) = true
    rotate_left
    ·rw [if_neg c1] at hg
     have c1b : ((rd_T64 l0_1 (j : Int)).f1.f1.toList == a1.toList) = false := by simpa using c1
     have HG := My.am hg
     clear hg c1
     go_wp2
     go_roundg (l0_1.length - j)
     case measure => omega
     case rel => exact ⟨j + 1, fs, ks, vf, vk, by omega, by rw [HW1.out], by omega, by omega, by omega, HG, ⟨HNS.out.mv (below_alloc (Below.refl _ _) _)⟩⟩
    rw [if_pos c1] at hg
    by_cases c2 : (rd_T64 l0_1 (j : Int)).f2 = 2
    ·rw [if_pos c2] at hg
     have HG := My.am hg
     have c2b : ((rd_T64 l0_1 (j : Int)).f2 != 2) = false := bne_eq_false_iff_eq.2 c2
     clear hg c2
     go_wp2
     go_roundg (l0_1.length - j)
     case measure => omega
     case rel => exact ⟨j + 1, fs, ks, vf, vk, by omega, by rw [HW1.out], by omega, by omega, by omega, HG, ⟨HNS.out.mv (below_alloc (Below.refl _ _) _)⟩⟩
    rw [if_neg c2] at hg
    have c2b : ((rd_T64 l0_1 (j : Int)).f2 != 2) = true := bne_iff_ne.2 c2
    obtain ⟨tp, HP0, hg⟩ := Option.bind_eq_some_iff.1 hg
    have HP := My.am HP0
    clear c2 HP0
    by_cases c3 : tp = true
    ·subst c3
     rw [if_pos rfl] at hg
     obtain ⟨⟨da, db⟩, HD0, hg⟩ := Option.bind_eq_some_iff.1 hg
     have HD := My.am HD0
     have HG := My.am hg
     clear hg HD0
     go_wp2_with (first | (go_at_call 54; refine (strings_HasPrefix.calls _ _ true _ HP.out).mono ?_; rintro e w30 ⟨rfl, ⟨nd, rfl⟩⟩; have HN2 := My.am (HNS.out.mv (pw_below_drewN (below_alloc (Below.refl wr.heap.size wr) (.cells #[.string (rd_T64 l0_1 (j : Int)).f0, .int .i64 (rd_T64 l0_1 (j : Int)).f1.f0, .string (rd_T64 l0_1 (j : Int)).f1.f1, .int .i64 (rd_T64 l0_1 (j : Int)).f1.f2, .int .i64 (rd_T64 l0_1 (j : Int)).f2] 64)) nd)); have hb64 := blk_drewN (blk_new wr (.cells #[.string (rd_T64 l0_1 (j : Int)).f0, .int .i64 (rd_T64 l0_1 (j : Int)).f1.f0, .string (rd_T64 l0_1 (j : Int)).f1.f1, .int .i64 (rd_T64 l0_1 (j : Int)).f1.f2, .int .i64 (rd_T64 l0_1 (j : Int)).f2] 64)) nd; have hm0 := (blk_cell hb64 0).trans rfl; have hm1 := (blk_cell hb64 1).trans rfl; have hm2 := (blk_cell hb64 2).trans rfl; have hm3 := (blk_cell hb64 3).trans rfl; have hm4 := (blk_cell hb64 4).trans rfl; clear hb64) | (go_at_call 53; refine (ledger_Net1.calls k _ _ _ _ _ w12 _ w.heap.size bf (bf + 1) vf vk fs ks da db HN2.out (by omega) HSZ.out (by have := HSZ.out; omega) (by have := CE.out; omega) (by have := CE.out; omega) HD.out).mono ?_; rintro e w31 ⟨rfl, vf2, vk2, hn2⟩; have HN3 := My.am hn2; clear hn2 hm0 hm1 hm2 hm3 hm4))
     go_roundg (l0_1.length - j)
     case measure => omega
     case rel => exact ⟨j + 1, _, _, vf2, vk2, by omega, by rw [HW1.out], by omega, by rw [List.length_append, List.length_singleton]; omega, by rw [List.length_append, List.length_singleton]; omega, HG, HN3⟩
    replace c3 := Bool.eq_false_iff.mpr c3
    subst c3
    rw [if_neg (by decide)] at hg
    have HG := My.am hg
    clear hg
    go_wp2_with ((go_at_call 54; refine (strings_HasPrefix.calls _ _ false _ HP.out).mono ?_; rintro e w30 ⟨rfl, ⟨nd, rfl⟩⟩; have HN2 := My.am (HNS.out.mv (pw_below_drewN (below_alloc (Below.refl wr.heap.size wr) (.cells #[.string (rd_T64 l0_1 (j : Int)).f0, .int .i64 (rd_T64 l0_1 (j : Int)).f1.f0, .string (rd_T64 l0_1 (j : Int)).f1.f1, .int .i64 (rd_T64 l0_1 (j : Int)).f1.f2, .int .i64 (rd_T64 l0_1 (j : Int)).f2] 64)) nd))))
    go_roundg (l0_1.length - j)
    case measure => omega
    case rel => exact ⟨j + 1, fs, ks, vf, vk, by omega, by rw [HW1.out], by omega, by omega, by omega, HG, HN2⟩
  ·replace c7 := Bool.eq_false_iff.mpr c7
   subst c7
   rw [if_neg (show ¬ (false = true) by decide)] at H
   simp only [Option.some.injEq, Prod.mk.injEq] at H
   obtain ⟨rfl, rfl, rfl⟩ := H
   go_enter Try.func23, Try.ntmps23
   go_wp2_with (first | ((with_reducible refine gate_dst (N := 3) rfl ?_); refine My.bx 3 #[.slice A0_0 l0_0.length c0_0, .slice A0_1 l0_1.length c0_1] 25 ?_; intro gb595 hg w13 hbox hb; have BK595 := My.am (hbox); have GE595 := My.nge hg (My.bl_ HB); replace HB := My.st HB hb; clear hb hbox hg; have hq14 := My.cz2 BK595) | ((with_reducible refine gate_callee (f := 20) rfl ?_); refine goesL_ (some 22) rfl rfl Try.func20 (by kernel_rfl) rfl #[.agg #[.slice A0_0 l0_0.length c0_0, .slice A0_1 l0_1.length c0_1]] rfl My.gx ?_; (with_reducible refine (ledger_May.calls k _ _ l0_0 _ _ l0_1 t596 _ ?side1 ?side2 ?side3 ?side4 A4.out).mono ?_); (case side1 => exact My.sd_ HR0_0 HB); (case side2 => exact HC0_0.out); (case side3 => exact My.sd_ HR0_1 HB); (case side4 => exact HC0_1.out); rintro e w15 ⟨rfl, hb⟩; refine ⟨_, rfl, ?_⟩; replace BK595 := My.ab BK595 hb; replace HB := My.st HB hb; (try clear hb); have hq16 := My.cz2 BK595) | ((with_reducible refine gate_callee (f := 32) rfl ?_); refine goesL_ (some 30) rfl rfl Try.func32 (by kernel_rfl) rfl #[.agg #[.slice A0_0 l0_0.length c0_0, .slice A0_1 l0_1.length c0_1], .string a1] rfl My.gx ?_; (with_reducible refine (ledger_book_account.calls k _ _ l0_0 _ _ l0_1 a1 t597 false _ ?side1 ?side2 ?side3 ?side4 A6.out).mono ?_); (case side1 => exact My.sd_ HR0_0 HB); (case side2 => exact HC0_0.out); (case side3 => exact My.sd_ HR0_1 HB); (case side4 => exact HC0_1.out); rintro e w17 ⟨rfl, hb⟩; refine ⟨_, rfl, ?_⟩; replace BK595 := My.ab BK595 hb; replace HB := My.st HB hb; (try clear hb)))
   go_ret3
   exact ⟨My.r2, (My.bl_ HB)⟩
 ·rw [if_neg c5] at H
  have c5b0 : (t596 == 0) = false := beq_eq_false_iff_ne.mpr c5
  have c5b1 : (t596 != 0) = true := bne_iff_ne.mpr c5
  simp only [Option.some.injEq, Prod.mk.injEq] at H
  obtain ⟨rfl, rfl, rfl⟩ := H
  go_enter Try.func23, Try.ntmps23
  go_wp2_with (first | ((with_reducible refine gate_dst (N := 3) rfl ?_); refine My.bx 3 #[.slice A0_0 l0_0.length c0_0, .slice A0_1 l0_1.length c0_1] 25 ?_; intro gb595 hg w18 hbox hb; have BK595 := My.am (hbox); have GE595 := My.nge hg (My.bl_ HB); replace HB := My.st HB hb; clear hb hbox hg; have hq19 := My.cz2 BK595) | ((with_reducible refine gate_callee (f := 20) rfl ?_); refine goesL_ (some 22) rfl rfl Try.func20 (by kernel_rfl) rfl #[.agg #[.slice A0_0 l0_0.length c0_0, .slice A0_1 l0_1.length c0_1]] rfl My.gx ?_; (with_reducible refine (ledger_May.calls k _ _ l0_0 _ _ l0_1 t596 _ ?side1 ?side2 ?side3 ?side4 A4.out).mono ?_); (case side1 => exact My.sd_ HR0_0 HB); (case side2 => exact HC0_0.out); (case side3 => exact My.sd_ HR0_1 HB); (case side4 => exact HC0_1.out); rintro e w20 ⟨rfl, hb⟩; refine ⟨_, rfl, ?_⟩; replace HB := My.st HB hb; (try clear hb)))
  go_ret3
  exact ⟨My.r2, (My.bl_ HB)⟩

end Go.Proofs.Ytikanbdhpafbiaa.PO
