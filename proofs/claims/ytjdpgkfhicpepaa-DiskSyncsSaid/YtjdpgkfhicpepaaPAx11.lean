/- c15's own text: a disk, walked by hand; Lean checks it. -/
import Derived.Test.YtjdpgkfhicpepaaPAx10
namespace Go.Proofs.Ytjdpgkfhicpepaa.PA
open Go.RowKit Go.Proofs.YtjdpgkfhicpepaaW.PrintWords Go.Proofs.YtjdpgkfhicpepaaW.PrintLast Go.Proofs.YtjdpgkfhicpepaaW.PrintMore
attribute [local go_sem] max2_int min2_int max_two min_two max_three min_three max_four min_four
set_option linter.unusedVariables false
set_option linter.unusedSimpArgs false

/-! what was safe of a file stays -/
theorem ext_app (a b : ByteArray) (n : Nat) (h : n ≤ a.size) : (a ++ b).extract 0 n = a.extract 0 n := by
  apply ByteArray.ext
  rw [ByteArray.data_extract, ByteArray.data_extract, ByteArray.data_append]
  apply Array.ext'
  have h' : n ≤ a.data.toList.length := by simpa using h
  simp only [Array.toList_extract, Array.toList_append, List.extract_eq_take_drop, List.drop_zero, Nat.sub_zero]
  rw [List.take_append_of_le_length h']
theorem ext_ext (a : ByteArray) (n m : Nat) (h : n ≤ m) : (a.extract 0 m).extract 0 n = a.extract 0 n := by
  apply ByteArray.ext
  rw [ByteArray.data_extract, ByteArray.data_extract, ByteArray.data_extract]
  apply Array.ext'
  simp only [Array.toList_extract, List.extract_eq_take_drop, List.drop_zero, Nat.sub_zero]
  rw [List.take_take, Nat.min_eq_left h]
def Safe (n z : Int) (sf : ByteArray) (L : List S40) : Prop := 0 < z → ∃ Y ∈ L, Y.f0 = n ∧ z ≤ Y.f2 ∧ Y.f1.extract 0 z.toNat = sf
section
variable {n z : Int} {sf : ByteArray} {s : DS}
theorem safe_fall (h : Inv s) (hs : Safe n z sf s.L) (ks : List Int) : Safe n z sf (fallS ks s).L := by
  intro hz
  obtain ⟨Y, hY, h0, h2, h3⟩ := hs hz
  have key : ∀ (A : List S40) (i : Nat), Y ∈ A → ∃ j, fallZ ks j Y ≠ 0 → fallX ks j Y ∈ fallL ks i A := by
    intro A
    induction A with
    | nil => intro i hm; simp at hm
    | cons x r ih =>
      intro i hm
      rcases List.mem_cons.1 hm with rfl | hm
      · exact ⟨i, fun hj => by simp only [fallL]; rw [if_neg hj]; simp⟩
      · obtain ⟨j, hj⟩ := ih (i + 1) hm
        refine ⟨j, fun hn => ?_⟩
        simp only [fallL]
        split
        · exact hj hn
        · exact List.mem_cons_of_mem _ (hj hn)
  obtain ⟨j, hj⟩ := key s.L 0 hY
  have e2 := fallZ_in (ks := ks) (i := j) (h.dat Y hY)
  refine ⟨fallX ks j Y, hj (by omega), h0, by show z ≤ fallZ ks j Y; omega, ?_⟩
  show (Y.f1.extract 0 (fallZ ks j Y).toNat).extract 0 z.toNat = sf
  rw [ext_ext _ _ _ (by omega), h3]
theorem safe_step (hs : Safe n z sf s.L) : Safe n z sf (stepS s).L := by rw [stepS_L]; exact hs
theorem safe_end (h : Inv s) (hs : Safe n z sf s.L) : Safe n z sf (endS s).1.L := by
  unfold endS
  split
  · exact safe_fall (stepS_inv h) (safe_step hs) _
  · exact safe_step hs
theorem safe_chg (h : Inv s) (hs : Safe n z sf s.L) {L : List S40} (hL : Safe n z sf L) : Safe n z sf (chgS s L).1.L := by
  unfold chgS
  split
  · exact safe_fall (stepS_inv h) (safe_step hs) _
  · exact hL
theorem safe_put (h : Inv s) (hs : Safe n z sf s.L) {x : S40} (hx : x.f0 = n → 0 < z → ∀ Y ∈ s.L, Y.f0 = n → z ≤ Y.f2 → Y.f1.extract 0 z.toNat = sf → z ≤ x.f2 ∧ x.f1.extract 0 z.toNat = sf) : Safe n z sf (putL s.L x) := by
  intro hz
  obtain ⟨Y, hY, h0, h2, h3⟩ := hs hz
  obtain ⟨A, B, hA, hB, hdel, hput, hc⟩ := splitL h.srt x.f0
  rw [hput x rfl]
  by_cases c : x.f0 = n
  · obtain ⟨q1, q2⟩ := hx c hz Y hY h0 h2 h3
    exact ⟨x, by simp, c, q1, q2⟩
  · refine ⟨Y, ?_, h0, h2, h3⟩
    rcases hc with ⟨_, g0, e⟩ | ⟨_, _, e⟩
    · rw [e] at hY
      rcases List.mem_append.1 hY with hY | hY
      · simp [hY]
      · rcases List.mem_cons.1 hY with hY | hY
        · rw [hY] at h0; omega
        · simp [hY]
    · rw [e] at hY
      rcases List.mem_append.1 hY with hY | hY <;> simp [hY]
theorem same_file (h : Inv s) {Y Z : S40} (hY : Y ∈ s.L) (hZ : Z ∈ s.L) (e : Y.f0 = Z.f0) : Y = Z := by
  have h1 := getL_mem h.srt hY
  have h2 := getL_mem h.srt hZ
  rw [← h1, e, h2]
theorem safe_app (h : Inv s) (hs : Safe n z sf s.L) (m : Int) (d : ByteArray) : Safe n z sf (appS s m d).1.L := by
  unfold appS
  split
  · exact hs
  · split
    · exact hs
    · rename_i c1 c2
      split
      · exact hs
      · rename_i c3
        split
        · exact hs
        · rename_i c4
          refine safe_end (app_inv h c2 (by simpa using c3) c4) (safe_put h hs (fun hm hz Y hY h0 h2 h3 => ?_))
          have hm' : m = n := hm
          subst hm'
          have e : getL s.L m = Y := by rw [← h0]; exact getL_mem h.srt hY
          have hd := h.dat Y hY
          refine ⟨by show z ≤ (getL s.L m).f2; rw [e]; exact h2, ?_⟩
          show ((getL s.L m).f1 ++ d).extract 0 z.toNat = sf
          rw [e, ext_app _ _ _ (by omega), h3]
theorem safe_sync (h : Inv s) (hs : Safe n z sf s.L) (m : Int) : Safe n z sf (syncS s m).1.L := by
  unfold syncS
  split
  · refine safe_chg h hs (safe_put h hs (fun hm hz Y hY h0 h2 h3 => ?_))
    have hm' : m = n := hm
    subst hm'
    have e : getL s.L m = Y := by rw [← h0]; exact getL_mem h.srt hY
    have hd := h.dat Y hY
    rw [e]
    exact ⟨by show z ≤ (Y.f1.size : Int); omega, h3⟩
  · exact hs
theorem safe_rem (h : Inv s) (hs : Safe n z sf s.L) {m : Int} (hm : m ≠ n) : Safe n z sf (remS s m).1.L := by
  unfold remS
  split
  · refine safe_chg h hs (fun hz => ?_)
    obtain ⟨Y, hY, h0, h2, h3⟩ := hs hz
    refine ⟨Y, ?_, h0, h2, h3⟩
    unfold delL
    rw [List.mem_filter]
    exact ⟨hY, by simp; omega⟩
  · exact hs
theorem safe_arm (hs : Safe n z sf s.L) (m : Int) (ks : List Int) : Safe n z sf (armS s m ks).1.L := by
  unfold armS
  split
  · exact hs
  · split <;> exact hs
theorem safe_crash (h : Inv s) (hs : Safe n z sf s.L) (ks : List Int) : Safe n z sf (crashS s ks).1.L := by
  unfold crashS
  split
  · exact hs
  · exact safe_fall h hs ks
theorem safe_look (h : Inv s) (hs : Safe n z sf s.L) (hz : 0 < z) : hasL s.L n = true ∧ z ≤ (getL s.L n).f2 ∧ z ≤ ((getL s.L n).f1.size : Int) ∧ (getL s.L n).f1.extract 0 z.toNat = sf := by
  obtain ⟨Y, hY, h0, h2, h3⟩ := hs hz
  have e : getL s.L n = Y := by rw [← h0]; exact getL_mem h.srt hY
  have hd := h.dat Y hY
  rw [e]
  refine ⟨?_, h2, by omega, h3⟩
  unfold hasL
  rw [List.any_eq_true]
  exact ⟨Y, hY, by simpa using h0⟩
end
noncomputable section
open Classical in
def ententelaw15_DiskSyncs.f (k : Nat) (l0 l1 : List S35) (a2 : Int) : Option Bool := if ((∀ y ∈ l0, Q35 y) ∧ l0.length ≤ 9223372036854775000) ∧ (∀ y ∈ l1, Q35 y) ∧ l1.length ≤ 9223372036854775000 then some true else none
end
theorem ententelaw15_DiskSyncs.ok {k : Nat} {l0 l1 : List S35} {a2 : Int} {r : Bool} (h : ententelaw15_DiskSyncs.f k l0 l1 a2 = some r) : ((∀ y ∈ l0, Q35 y) ∧ l0.length ≤ 9223372036854775000) ∧ (∀ y ∈ l1, Q35 y) ∧ l1.length ≤ 9223372036854775000 := by
  unfold ententelaw15_DiskSyncs.f at h
  split at h
  · assumption
  · cases h
set_option maxHeartbeats 16000000 in
set_option maxRecDepth 100000 in
theorem ententelaw15_DiskSyncs.calls (k : Nat) (A0 : Option Addr) (c0 : Nat) (l0 : List (S35)) (A1 : Option Addr) (c1 : Nat) (l1 : List (S35)) (a2 : Int) (r : Bool) (w : World) (hr0 : Kd.C k35 w A0 l0.length l0) (hc0 : l0.length ≤ c0) (hr1 : Kd.C k35 w A1 l1.length l1) (hc1 : l1.length ≤ c1) (ht : r = true) (h : ententelaw15_DiskSyncs.f k l0 l1 a2 = some r) :
    Calls Try.prog 7 #[.slice A0 l0.length c0, .slice A1 l1.length c1, .int .i64 a2] w fun e w' => e = .returned (.bool r) ∧ Below w.heap.size w w' := by
  subst ht
  have hu40 := Try.underlying40
  have hu35 := Try.underlying35
  obtain ⟨⟨hq0, hl0⟩, hq1, hl1⟩ := ententelaw15_DiskSyncs.ok h
  obtain ⟨kf, rf, hf⟩ := few_ends l0 hl0
  obtain ⟨kg, rg, hg⟩ := few_ends l1 hl1
  have HR0 := Aside0.mk hr0
  have HC0 := Aside0.mk hc0
  have HR := Aside0.mk hr1
  have HC1 := Aside0.mk hc1
  have HQ0 := Aside0.mk hq0
  have HQ := Aside0.mk hq1
  have HF := Aside0.mk hf
  have HG := Aside0.mk hg
  have HLN := Aside0.mk hl1
  clear h hr0 hc0 hr1 hc1 hq0 hq1 hl0 hl1 hf hg
  cases rf with
  | false =>
    go_enter Try.func7, Try.ntmps7
    go_wp2_with (first
      | ((with_reducible refine gate_callee (f := 9) rfl ?_); refine goesL_ (some 16) rfl rfl Try.func9 (by kernel_rfl) rfl #[.slice A0 l0.length c0] rfl My.gx ?_; (refine (ententelaw15_Few.calls kf A0 c0 l0 _ _ HR0.out HC0.out HF.out).mono ?_); rintro e W16 ⟨rfl, hb⟩; refine ⟨_, rfl, ?_⟩; have HB := Aside0.mk hb; clear hb)
      | ((with_reducible refine gate_callee (f := 9) rfl ?_); (refine gate_guard (by rfl) ?_; dsimp only); refine goesL_ (some 20) rfl rfl Try.func9 (by kernel_rfl) rfl #[.slice A1 l1.length c1] rfl My.gx ?_; (refine (ententelaw15_Few.calls kg A1 c1 l1 _ _ (Kd.C_below HR.out HB.out) HC1.out HG.out).mono ?_); rintro e W20 ⟨rfl, hb⟩; refine ⟨_, rfl, ?_⟩; replace HB := Aside0.mk (HB.out.trans (hb.mono HB.out.size)); clear hb)
      | ((with_reducible refine gate_callee (f := 10) rfl ?_); refine goesL_ (some 23) rfl rfl Try.func10 (by kernel_rfl) rfl #[] rfl My.gx ?_; (refine (awake.calls _).mono ?_); rintro e W23 ⟨rfl, hb⟩; refine ⟨_, rfl, ?_⟩; have HBA := Aside0.mk (HB.out.trans (hb.mono HB.out.size)); clear hb))
    go_ret
    exact ⟨rfl, HBA.out⟩
  | true =>
    cases rg with
    | false =>
      go_enter Try.func7, Try.ntmps7
      go_wp2_with (first
      | ((with_reducible refine gate_callee (f := 9) rfl ?_); refine goesL_ (some 16) rfl rfl Try.func9 (by kernel_rfl) rfl #[.slice A0 l0.length c0] rfl My.gx ?_; (refine (ententelaw15_Few.calls kf A0 c0 l0 _ _ HR0.out HC0.out HF.out).mono ?_); rintro e W16 ⟨rfl, hb⟩; refine ⟨_, rfl, ?_⟩; have HB := Aside0.mk hb; clear hb)
      | ((with_reducible refine gate_callee (f := 9) rfl ?_); (refine gate_guard (by rfl) ?_; dsimp only); refine goesL_ (some 20) rfl rfl Try.func9 (by kernel_rfl) rfl #[.slice A1 l1.length c1] rfl My.gx ?_; (refine (ententelaw15_Few.calls kg A1 c1 l1 _ _ (Kd.C_below HR.out HB.out) HC1.out HG.out).mono ?_); rintro e W20 ⟨rfl, hb⟩; refine ⟨_, rfl, ?_⟩; replace HB := Aside0.mk (HB.out.trans (hb.mono HB.out.size)); clear hb)
      | ((with_reducible refine gate_callee (f := 10) rfl ?_); refine goesL_ (some 23) rfl rfl Try.func10 (by kernel_rfl) rfl #[] rfl My.gx ?_; (refine (awake.calls _).mono ?_); rintro e W23 ⟨rfl, hb⟩; refine ⟨_, rfl, ?_⟩; have HBA := Aside0.mk (HB.out.trans (hb.mono HB.out.size)); clear hb))
      go_ret
      exact ⟨rfl, HBA.out⟩
    | true =>
      obtain ⟨s, hs⟩ : ∃ s, boot (playedS 90000 l0) = s := ⟨_, rfl⟩
      have HPS := Aside0.mk hs
      clear hs
      obtain ⟨F, hF⟩ : ∃ F, getL s.L a2 = F := ⟨_, rfl⟩
      have HFF := Aside0.mk hF
      clear hF
      cases hok : hasL s.L a2 with
      | false =>
        have HOK := Aside0.mk hok
        clear hok
        go_enter Try.func7, Try.ntmps7
        go_wp2_with (first
      | ((with_reducible refine gate_callee (f := 9) rfl ?_); refine goesL_ (some 16) rfl rfl Try.func9 (by kernel_rfl) rfl #[.slice A0 l0.length c0] rfl My.gx ?_; (refine (ententelaw15_Few.calls kf A0 c0 l0 _ _ HR0.out HC0.out HF.out).mono ?_); rintro e W16 ⟨rfl, hb⟩; refine ⟨_, rfl, ?_⟩; have HB := Aside0.mk hb; clear hb)
      | ((with_reducible refine gate_callee (f := 9) rfl ?_); (refine gate_guard (by rfl) ?_; dsimp only); refine goesL_ (some 20) rfl rfl Try.func9 (by kernel_rfl) rfl #[.slice A1 l1.length c1] rfl My.gx ?_; (refine (ententelaw15_Few.calls kg A1 c1 l1 _ _ (Kd.C_below HR.out HB.out) HC1.out HG.out).mono ?_); rintro e W20 ⟨rfl, hb⟩; refine ⟨_, rfl, ?_⟩; replace HB := Aside0.mk (HB.out.trans (hb.mono HB.out.size)); clear hb)
      | ((with_reducible refine gate_callee (f := 29) rfl ?_); refine goesL_ (some 25) rfl rfl Try.func29 (by kernel_rfl) rfl #[.int .i64 90000, .slice A0 l0.length c0] rfl My.gx ?_; (refine (played.calls 90000 A0 c0 l0 (Kd.C_below HR0.out HB.out) HQ0.out ⟨by decide, by decide⟩).mono ?_); rintro e W25 ⟨p, bm, rfl, hD, hb⟩; refine ⟨_, rfl, ?_⟩; have HD := Aside0.mk (hD.lower HB.out.size); replace HB := Aside0.mk (HB.out.trans (hb.mono HB.out.size)); clear hD hb)
      | ((with_reducible refine gate_callee (f := 24) rfl ?_); refine goesL_ (some 29) rfl rfl Try.func24 (by kernel_rfl) rfl #[.pointer (some ⟨p, 0, none⟩)] rfl My.gx ?_; (refine (disk_Disk_Boot.calls HD.out).mono ?_); rintro e W29 ⟨rfl, hD, hF⟩; refine ⟨_, rfl, ?_⟩; rw [HPS.out] at hD; replace HB := Aside0.mk (HD.out.below HB.out HB.out.size hF); replace HD := Aside0.mk hD; obtain ⟨kq, hfi⟩ := find_ends s.L (by have := hD.inv.len; omega) a2; rw [HFF.out, HOK.out] at hfi; have HFI := Aside0.mk hfi; clear hfi hD hF)
      | ((with_reducible refine gate_callee (f := 28) rfl ?_); refine goesL_ (some 32) rfl rfl Try.func28 (by kernel_rfl) rfl #[.pointer (some ⟨p, 0, none⟩)] rfl My.gx ?_; (refine (disk_Disk_Image.calls HD.out).mono ?_); rintro e W32 ⟨v, rfl, hR, hb⟩; obtain ⟨Ai, ci, rfl, hlc, hC⟩ := Kd.R_reads hR; refine ⟨_, rfl, ?_⟩; have HCI := Aside0.mk hC; have HLI := Aside0.mk hlc; replace HD := Aside0.mk (HD.out.up hb); replace HB := Aside0.mk (HB.out.trans (hb.mono HB.out.size)); clear hR hC hlc hb)
      | ((with_reducible refine gate_callee (f := 30) rfl ?_); refine goesL_ (some 34) rfl rfl Try.func30 (by kernel_rfl) rfl #[.slice Ai s.L.length ci, .int .i64 a2] rfl My.gx ?_; (refine (ententelaw15_find.calls kq Ai ci s.L a2 _ _ _ _ _ HCI.out HLI.out HFI.out).mono ?_); rintro e W34 ⟨rfl, hb⟩; refine ⟨_, rfl, ?_⟩; replace HD := Aside0.mk (HD.out.up hb); replace HB := Aside0.mk (HB.out.trans (hb.mono HB.out.size)); clear hb)
      | ((with_reducible refine gate_dst (N := 8) rfl ?_); refine My.bx 8 #[.int .i64 0, .string ⟨#[]⟩, .int .i64 0] 40 ?_; intro g8 hg w8 hbox hb; have BX := My.am hbox; have G8 := My.nge hg HB.out; replace HD := Aside0.mk (HD.out.up hb); replace HB := My.st HB hb; clear hb hbox hg; have hz := My.cz3 BX)
      | ((with_reducible refine gate_callee (f := 10) rfl ?_); refine goesL_ (some 39) rfl rfl Try.func10 (by kernel_rfl) rfl #[] rfl My.gx ?_; (refine (awake.calls _).mono ?_); rintro e W39 ⟨rfl, hb⟩; refine ⟨_, rfl, ?_⟩; have HBA := Aside0.mk ((below_set (below_set (below_set HB.out G8.out) G8.out) G8.out).trans (hb.mono (by simpa using HB.out.size))); clear hb))
        go_ret
        exact ⟨rfl, HBA.out⟩
      | true =>
        have HOK := Aside0.mk hok
        clear hok
        go_enter Try.func7, Try.ntmps7
        go_upto_region 10 with (first
      | ((with_reducible refine gate_callee (f := 9) rfl ?_); refine goesL_ (some 16) rfl rfl Try.func9 (by kernel_rfl) rfl #[.slice A0 l0.length c0] rfl My.gx ?_; (refine (ententelaw15_Few.calls kf A0 c0 l0 _ _ HR0.out HC0.out HF.out).mono ?_); rintro e W16 ⟨rfl, hb⟩; refine ⟨_, rfl, ?_⟩; have HB := Aside0.mk hb; clear hb)
      | ((with_reducible refine gate_callee (f := 9) rfl ?_); (refine gate_guard (by rfl) ?_; dsimp only); refine goesL_ (some 20) rfl rfl Try.func9 (by kernel_rfl) rfl #[.slice A1 l1.length c1] rfl My.gx ?_; (refine (ententelaw15_Few.calls kg A1 c1 l1 _ _ (Kd.C_below HR.out HB.out) HC1.out HG.out).mono ?_); rintro e W20 ⟨rfl, hb⟩; refine ⟨_, rfl, ?_⟩; replace HB := Aside0.mk (HB.out.trans (hb.mono HB.out.size)); clear hb)
      | ((with_reducible refine gate_callee (f := 29) rfl ?_); refine goesL_ (some 25) rfl rfl Try.func29 (by kernel_rfl) rfl #[.int .i64 90000, .slice A0 l0.length c0] rfl My.gx ?_; (refine (played.calls 90000 A0 c0 l0 (Kd.C_below HR0.out HB.out) HQ0.out ⟨by decide, by decide⟩).mono ?_); rintro e W25 ⟨p, bm, rfl, hD, hb⟩; refine ⟨_, rfl, ?_⟩; have HD := Aside0.mk (hD.lower HB.out.size); replace HB := Aside0.mk (HB.out.trans (hb.mono HB.out.size)); clear hD hb)
      | ((with_reducible refine gate_callee (f := 24) rfl ?_); refine goesL_ (some 29) rfl rfl Try.func24 (by kernel_rfl) rfl #[.pointer (some ⟨p, 0, none⟩)] rfl My.gx ?_; (refine (disk_Disk_Boot.calls HD.out).mono ?_); rintro e W29 ⟨rfl, hD, hF⟩; refine ⟨_, rfl, ?_⟩; rw [HPS.out] at hD; replace HB := Aside0.mk (HD.out.below HB.out HB.out.size hF); replace HD := Aside0.mk hD; obtain ⟨kq, hfi⟩ := find_ends s.L (by have := hD.inv.len; omega) a2; rw [HFF.out, HOK.out] at hfi; have HFI := Aside0.mk hfi; clear hfi hD hF)
      | ((with_reducible refine gate_callee (f := 28) rfl ?_); refine goesL_ (some 32) rfl rfl Try.func28 (by kernel_rfl) rfl #[.pointer (some ⟨p, 0, none⟩)] rfl My.gx ?_; (refine (disk_Disk_Image.calls HD.out).mono ?_); rintro e W32 ⟨v, rfl, hR, hb⟩; obtain ⟨Ai, ci, rfl, hlc, hC⟩ := Kd.R_reads hR; refine ⟨_, rfl, ?_⟩; have HCI := Aside0.mk hC; have HLI := Aside0.mk hlc; replace HD := Aside0.mk (HD.out.up hb); replace HB := Aside0.mk (HB.out.trans (hb.mono HB.out.size)); clear hR hC hlc hb)
      | ((with_reducible refine gate_callee (f := 30) rfl ?_); refine goesL_ (some 34) rfl rfl Try.func30 (by kernel_rfl) rfl #[.slice Ai s.L.length ci, .int .i64 a2] rfl My.gx ?_; (refine (ententelaw15_find.calls kq Ai ci s.L a2 _ _ _ _ _ HCI.out HLI.out HFI.out).mono ?_); rintro e W34 ⟨rfl, hb⟩; refine ⟨_, rfl, ?_⟩; replace HD := Aside0.mk (HD.out.up hb); replace HB := Aside0.mk (HB.out.trans (hb.mono HB.out.size)); clear hb)
      | ((with_reducible refine gate_dst (N := 8) rfl ?_); refine My.bx 8 #[.int .i64 0, .string ⟨#[]⟩, .int .i64 0] 40 ?_; intro g8 hg w8 hbox hb; have BX := My.am hbox; have G8 := My.nge hg HB.out; replace HD := Aside0.mk (HD.out.up hb); replace HB := My.st HB hb; clear hb hbox hg; have hz := My.cz3 BX))
        refine at_world (J := fun W => DiskAt w.heap.size W p bm s ∧ Below w.heap.size w W ∧ W.heap[g8]? = some (.cells #[.int .i64 F.f0, .string F.f1, .int .i64 F.f2] 40 (0, 0))) ⟨((HD.out.set_ BX.out (by decide) (by decide)).set_ (blk_put BX.out 0 _ rfl) (by decide) (by decide)).set_ (blk_put (blk_put BX.out 0 _ rfl) 1 _ rfl) (by decide) (by decide), below_set (below_set (below_set HB.out G8.out) G8.out) G8.out, My.put3 BX.out⟩ ?_
        clear BX HB HD hz
        rintro W3 ⟨D3, B3, Y3⟩
        have HD := Aside0.mk D3
        have HB := Aside0.mk B3
        have hz := My.cz3 (My.am Y3)
        have hmF := getL_mem' HOK.out
        rw [HFF.out] at hmF
        have hd := D3.inv.dat _ hmF.1
        have z0t := eq_true hd.1
        have z1t := eq_true hd.2.1
        have z0d := decide_eq_true hd.1
        have z1d := decide_eq_true hd.2.1
        have hszs : ((F.f1.extract 0 F.f2.toNat).size : Int) = F.f2 := by rw [ByteArray.size_extract]; omega
        have HZ := Aside0.mk (show 0 ≤ F.f2 ∧ F.f2 ≤ 200000 from ⟨hd.1, by have h1 := useL_mem hmF.1; have := D3.inv.use; have := D3.inv.room; omega⟩)
        have HSF := Aside0.mk (show Safe a2 F.f2 (F.f1.extract 0 F.f2.toNat) s.L from fun _ => ⟨F, hmF.1, hmF.2, Int.le_refl _, rfl⟩)
        have HSZ := Aside0.mk hszs
        clear D3 B3 Y3 hmF hd hszs
        go_upto_region 11 with (fail)
        obtain ⟨sf, hsf⟩ : ∃ sf, F.f1.extract 0 F.f2.toNat = sf := ⟨_, rfl⟩
        simp only [hsf] at HSF HSZ ⊢
        obtain ⟨z, hz2⟩ : ∃ z, F.f2 = z := ⟨_, rfl⟩
        rw [hz2] at HSF HSZ HZ
        clear hz z0t z1t z0d z1d hsf hz2
        go_wp2
        go_loopg [11] (l1.length + 1) (fun kq v11 w' => ∃ (i : Nat) (x : Int) (S : DS), v11 = .int .i64 x ∧ Aside0 (x = (i : Int)) ∧ Aside0 (kq + i = l1.length + 1) ∧ Aside0 (i ≤ l1.length) ∧ Aside0 (DiskAt w.heap.size w' p bm S) ∧ Aside0 (Safe a2 z sf S.L) ∧ Aside0 (Below w.heap.size w w'))
        case atStart => exact ⟨0, _, s, rfl, ⟨rfl⟩, ⟨rfl⟩, ⟨Nat.zero_le _⟩, HD, HSF, HB⟩
        case round =>
          clear HD HB HSF
          obtain ⟨i, x, S, rfl, hx, hk, hi, HD, HSF, HB⟩ := hrel
          by_cases c9 : i < l1.length
          · have q1 : x < (l1.length : Int) := by have := hx.out; omega
            have p1 : (0 : Int) ≤ x := by have := hx.out; omega
            have c3 : decide (x < (l1.length : Int)) = true := decide_eq_true q1
            obtain ⟨ad, A4, c4, e1, x0, x1, x2, x3, x4, l4, g4⟩ := at_T35 (Kd.C_below HR.out HB.out) x p1 q1
            cases e1
            have hw : wrap64 (x + 1) = x + 1 := by have := HLN.out; have := hx.out; unfold wrap64; omega
            have HW := Aside0.mk hw
            have hmem := HQ.out _ (mem35 l1 i c9)
            rw [← hx.out] at hmem
            have HCI := Aside0.mk c9
            have g0 : Kd.C (Kd.int .i64) w A4 (rd_T35 l1 x).f4.length (rd_T35 l1 x).f4 := by
              obtain ⟨ad', A4', c4', e1', _, _, _, _, y4, _, g4'⟩ := at_T35 HR.out x p1 q1
              obtain rfl : ad' = ad := by injection e1'.symm
              have hq4 := (HB.out.cell (World.block_lt_of_cell? w _ y4)).trans y4
              rw [x4] at hq4
              injection hq4 with hq4
              injection hq4 with hq4 _ _
              rw [hq4]
              exact g4'
            obtain ⟨E, hE⟩ : ∃ E, rd_T35 l1 x = E := ⟨_, rfl⟩
            rw [hE] at x0 x1 x2 x3 x4 l4 g0 hmem
            have HL4 := Aside0.mk l4
            have HG0 := Aside0.mk g0
            have HM := Aside0.mk hmem
            clear g4 g0 l4 hmem c9 hE hw
            have p2 := eq_true p1
            have q2 := eq_true q1
            go_upto_block 2 with ((with_reducible refine gate_dst (N := 12) rfl ?_); refine My.bx 12 #[.int .i64 0, .int .i64 0, .int .i64 0, .string ⟨#[]⟩, .slice none 0 0] 35 ?_; intro g12 hg w12 hbox hb; have BX := My.am hbox; have HB8 := Aside0.mk hb; have G12 := Aside0.mk (show wr.heap.size ≤ g12 by rw [hg]; exact Nat.le_refl _); clear hb hbox hg x0 x1 x2 x3 x4; have hz := My.cz5 BX)
            refine at_world (J := fun W => Below wr.heap.size wr W ∧ W.heap[g12]? = some (.cells #[.int .i64 E.f0, .int .i64 E.f1, .int .i64 E.f2, .string E.f3, .slice A4 E.f4.length c4] 35 (0, 0))) ⟨below_set (below_set (below_set (below_set (below_set HB8.out G12.out) G12.out) G12.out) G12.out) G12.out, My.put5 BX.out⟩ ?_
            clear BX HB8 hz
            rintro W2 ⟨B2, Y2⟩
            have HY2 := My.am Y2
            have HDD := Aside0.mk (HD.out.up B2)
            have HBB := Aside0.mk (HB.out.trans (B2.mono HB.out.size))
            clear B2 Y2 HD HB
            have HIN := Aside0.mk HDD.out.inv
            have hkeep : ∀ W, Fr p bm W2 W → (Kd.int .i64).C W A4 E.f4.length E.f4 := fun W hf => Kd.C_below HG0.out (HDD.out.below HBB.out HBB.out.size hf)
            have HKP := Aside0.mk hkeep
            clear hkeep
            go_cut [11] (fun v11 wc => v11 = .int .i64 x ∧ ∃ S2, Aside0 (DiskAt w.heap.size wc p bm S2) ∧ Aside0 (Safe a2 z sf S2.L) ∧ Aside0 (Below w.heap.size w wc))
            case first =>
              have hz := My.cz5 HY2
              by_cases a0 : E.f0 = 0
              · have m1 : decide (E.f0 = 0) = true := decide_eq_true a0
                have m2 : (E.f0 == 0) = true := by rw [a0]; rfl
                clear a0
                go_wp2_with ((with_reducible refine gate_callee (f := 18) rfl ?_); refine goesL_ (some _) rfl rfl Try.func18 (by kernel_rfl) rfl #[.pointer (some ⟨p, 0, none⟩), .int .i64 E.f1, .string E.f3] rfl My.gx ?_; (refine (disk_Disk_Append.calls HDD.out E.f1 HM.out.2.1 E.f3 HM.out.2.2.2.1).mono ?_); rintro e W4 ⟨rfl, hD4, hF4⟩; refine ⟨_, rfl, ?_⟩; have HD4 := Aside0.mk hD4; have HF4 := Aside0.mk hF4; clear hD4 hF4)
                go_meet
                case rel => exact ⟨rfl, _, HD4, ⟨safe_app HIN.out HSF.out E.f1 E.f3⟩, ⟨HDD.out.below HBB.out HBB.out.size HF4.out⟩⟩
              · have m0_ : decide (E.f0 = 0) = false := decide_eq_false a0
                have n0_ : (E.f0 == 0) = false := beq_eq_false_iff_ne.2 a0
                clear a0
                by_cases a1 : E.f0 = 1
                · have m1 : decide (E.f0 = 1) = true := decide_eq_true a1
                  have m2 : (E.f0 == 1) = true := by rw [a1]; rfl
                  clear a1
                  go_wp2_with ((with_reducible refine gate_callee (f := 19) rfl ?_); refine goesL_ (some _) rfl rfl Try.func19 (by kernel_rfl) rfl #[.pointer (some ⟨p, 0, none⟩), .int .i64 E.f1] rfl My.gx ?_; (refine (disk_Disk_Sync.calls HDD.out E.f1 HM.out.2.1).mono ?_); rintro e W4 ⟨rfl, hD4, hF4⟩; refine ⟨_, rfl, ?_⟩; have HD4 := Aside0.mk hD4; have HF4 := Aside0.mk hF4; clear hD4 hF4)
                  go_meet
                  case rel => exact ⟨rfl, _, HD4, ⟨safe_sync HIN.out HSF.out E.f1⟩, ⟨HDD.out.below HBB.out HBB.out.size HF4.out⟩⟩
                · have m1_ : decide (E.f0 = 1) = false := decide_eq_false a1
                  have n1_ : (E.f0 == 1) = false := beq_eq_false_iff_ne.2 a1
                  clear a1
                  by_cases a2 : E.f0 = 2
                  · have m1 : decide (E.f0 = 2) = true := decide_eq_true a2
                    have m2 : (E.f0 == 2) = true := by rw [a2]; rfl
                    clear a2
                    by_cases ne : E.f1 = a2
                    · have n1 : (E.f1 != a2) = false := by rw [ne]; simp
                      have n2 : decide (E.f1 = a2) = true := decide_eq_true ne
                      have n3 : (E.f1 == a2) = true := by rw [ne]; simp
                      clear ne
                      go_wp2
                      go_meet
                      case rel => exact ⟨rfl, _, HDD, HSF, HBB⟩
                    · have n1 : (E.f1 != a2) = true := bne_iff_ne.2 ne
                      have n2 : decide (E.f1 = a2) = false := decide_eq_false ne
                      have n3 : (E.f1 == a2) = false := beq_eq_false_iff_ne.2 ne
                      have NE := Aside0.mk ne
                      clear ne
                      go_wp2_with ((with_reducible refine gate_callee (f := 21) rfl ?_); refine goesL_ (some _) rfl rfl Try.func21 (by kernel_rfl) rfl #[.pointer (some ⟨p, 0, none⟩), .int .i64 E.f1] rfl My.gx ?_; (refine (disk_Disk_Remove.calls HDD.out E.f1 HM.out.2.1).mono ?_); rintro e W4 ⟨rfl, hD4, hF4⟩; refine ⟨_, rfl, ?_⟩; have HD4 := Aside0.mk hD4; have HF4 := Aside0.mk hF4; clear hD4 hF4)
                      go_meet
                      case rel => exact ⟨rfl, _, HD4, ⟨safe_rem HIN.out HSF.out NE.out⟩, ⟨HDD.out.below HBB.out HBB.out.size HF4.out⟩⟩
                  · have m2_ : decide (E.f0 = 2) = false := decide_eq_false a2
                    have n2_ : (E.f0 == 2) = false := beq_eq_false_iff_ne.2 a2
                    clear a2
                    by_cases a3 : E.f0 = 3
                    · have m1 : decide (E.f0 = 3) = true := decide_eq_true a3
                      have m2 : (E.f0 == 3) = true := by rw [a3]; rfl
                      clear a3
                      by_cases ne : E.f1 = a2
                      · have n1 : (E.f1 != a2) = false := by rw [ne]; simp
                        have n2 : decide (E.f1 = a2) = true := decide_eq_true ne
                        have n3 : (E.f1 == a2) = true := by rw [ne]; simp
                        clear ne
                        go_wp2
                        go_meet
                        case rel => exact ⟨rfl, _, HDD, HSF, HBB⟩
                      · have n1 : (E.f1 != a2) = true := bne_iff_ne.2 ne
                        have n2 : decide (E.f1 = a2) = false := decide_eq_false ne
                        have n3 : (E.f1 == a2) = false := beq_eq_false_iff_ne.2 ne
                        have NE := Aside0.mk ne
                        clear ne
                        go_wp2_with ((with_reducible refine gate_callee (f := 21) rfl ?_); refine goesL_ (some _) rfl rfl Try.func21 (by kernel_rfl) rfl #[.pointer (some ⟨p, 0, none⟩), .int .i64 E.f1] rfl My.gx ?_; (refine (disk_Disk_Remove.calls HDD.out E.f1 HM.out.2.1).mono ?_); rintro e W4 ⟨rfl, hD4, hF4⟩; refine ⟨_, rfl, ?_⟩; have HD4 := Aside0.mk hD4; have HF4 := Aside0.mk hF4; clear hD4 hF4)
                        go_meet
                        case rel => exact ⟨rfl, _, HD4, ⟨safe_rem HIN.out HSF.out NE.out⟩, ⟨HDD.out.below HBB.out HBB.out.size HF4.out⟩⟩
                    · have m3_ : decide (E.f0 = 3) = false := decide_eq_false a3
                      have n3_ : (E.f0 == 3) = false := beq_eq_false_iff_ne.2 a3
                      clear a3
                      by_cases a4 : E.f0 = 4
                      · have m1 : decide (E.f0 = 4) = true := decide_eq_true a4
                        have m2 : (E.f0 == 4) = true := by rw [a4]; rfl
                        clear a4
                        go_wp2_with ((with_reducible refine gate_callee (f := 22) rfl ?_); refine goesL_ (some _) rfl rfl Try.func22 (by kernel_rfl) rfl #[.pointer (some ⟨p, 0, none⟩), .int .i64 E.f2, .slice A4 E.f4.length c4] rfl My.gx ?_; (refine (disk_Disk_Arm.calls HDD.out HBB.out.size E.f2 (wf_hi HM.out.2.2.1) A4 c4 E.f4 HL4.out HM.out.2.2.2.2.2.1 HKP.out).mono ?_); rintro e W4 ⟨rfl, hD4, hF4⟩; refine ⟨_, rfl, ?_⟩; have HD4 := Aside0.mk hD4; have HF4 := Aside0.mk hF4; clear hD4 hF4)
                        go_meet
                        case rel => exact ⟨rfl, _, HD4, ⟨safe_arm HSF.out E.f2 E.f4⟩, ⟨HDD.out.below HBB.out HBB.out.size HF4.out⟩⟩
                      · have m4_ : decide (E.f0 = 4) = false := decide_eq_false a4
                        have n4_ : (E.f0 == 4) = false := beq_eq_false_iff_ne.2 a4
                        clear a4
                        by_cases a5 : E.f0 = 5
                        · have m1 : decide (E.f0 = 5) = true := decide_eq_true a5
                          have m2 : (E.f0 == 5) = true := by rw [a5]; rfl
                          clear a5
                          go_wp2_with ((with_reducible refine gate_callee (f := 23) rfl ?_); refine goesL_ (some _) rfl rfl Try.func23 (by kernel_rfl) rfl #[.pointer (some ⟨p, 0, none⟩), .slice A4 E.f4.length c4] rfl My.gx ?_; (refine (disk_Disk_Crash.calls HDD.out A4 c4 E.f4 HL4.out HKP.out).mono ?_); rintro e W4 ⟨rfl, hD4, hF4⟩; refine ⟨_, rfl, ?_⟩; have HD4 := Aside0.mk hD4; have HF4 := Aside0.mk hF4; clear hD4 hF4)
                          go_meet
                          case rel => exact ⟨rfl, _, HD4, ⟨safe_crash HIN.out HSF.out E.f4⟩, ⟨HDD.out.below HBB.out HBB.out.size HF4.out⟩⟩
                        · have m5_ : decide (E.f0 = 5) = false := decide_eq_false a5
                          have n5_ : (E.f0 == 5) = false := beq_eq_false_iff_ne.2 a5
                          clear a5
                          go_wp2_with ((with_reducible refine gate_callee (f := 24) rfl ?_); refine goesL_ (some _) rfl rfl Try.func24 (by kernel_rfl) rfl #[.pointer (some ⟨p, 0, none⟩)] rfl My.gx ?_; (refine (disk_Disk_Boot.calls HDD.out).mono ?_); rintro e W4 ⟨rfl, hD4, hF4⟩; refine ⟨_, rfl, ?_⟩; have HD4 := Aside0.mk hD4; have HF4 := Aside0.mk hF4; clear hD4 hF4)
                          go_meet
                          case rel => exact ⟨rfl, _, HD4, ⟨HSF.out⟩, ⟨HDD.out.below HBB.out HBB.out.size HF4.out⟩⟩
            case rest =>
              obtain ⟨rfl, S2, HD2, HS2, HB2⟩ := hcut
              clear HDD HBB HIN HKP HSF HY2
              obtain ⟨G, hG⟩ : ∃ G, getL S2.L a2 = G := ⟨_, rfl⟩
              obtain ⟨is, his⟩ : ∃ b, hasL S2.L a2 = b := ⟨_, rfl⟩
              obtain ⟨kq3, hfi3⟩ := find_ends S2.L (by have := HD2.out.inv.len; omega) a2
              rw [hG, his] at hfi3
              have HFI3 := Aside0.mk hfi3
              clear hfi3
              have en := HSZ.out
              by_cases hz0 : 0 < z
              · have hlk := safe_look HD2.out.inv HS2.out hz0
                rw [hG, his] at hlk
                obtain ⟨rfl, k2, k3, k4⟩ := hlk
                have t0 : decide (0 < z) = true := decide_eq_true hz0
                have t1 : decide ((G.f1.size : Int) < z) = false := decide_eq_false (by omega)
                have t2 : decide (G.f2 < z) = false := decide_eq_false (by omega)
                have z0t := eq_true (show (0 : Int) ≤ z by omega)
                have z1t := eq_true k3
                have z0d := decide_eq_true (show (0 : Int) ≤ z by omega)
                have z1d := decide_eq_true k3
                clear hz0 k2 k3 hG his
                go_wp2_with (first
      | ((with_reducible refine gate_callee (f := 28) rfl ?_); refine goesL_ (some 100) rfl rfl Try.func28 (by kernel_rfl) rfl #[.pointer (some ⟨p, 0, none⟩)] rfl My.gx ?_; (refine (disk_Disk_Image.calls HD2.out).mono ?_); rintro e W100 ⟨v, rfl, hR, hb⟩; obtain ⟨An, cn, rfl, hlc, hC⟩ := Kd.R_reads hR; refine ⟨_, rfl, ?_⟩; have HCN := Aside0.mk hC; have HLC := Aside0.mk hlc; have HBW := Aside0.mk hb; clear hR hC hlc hb)
      | ((with_reducible refine gate_callee (f := 30) rfl ?_); refine goesL_ (some 102) rfl rfl Try.func30 (by kernel_rfl) rfl #[.slice An S2.L.length cn, .int .i64 a2] rfl My.gx ?_; (refine (ententelaw15_find.calls kq3 An cn S2.L a2 _ _ _ _ _ HCN.out HLC.out HFI3.out).mono ?_); rintro e W102 ⟨rfl, hb⟩; refine ⟨_, rfl, ?_⟩; replace HBW := Aside0.mk (HBW.out.trans (hb.mono HBW.out.size)); clear hb)
      | ((with_reducible refine gate_dst (N := 13) rfl ?_); refine My.bx 13 #[.int .i64 0, .string ⟨#[]⟩, .int .i64 0] 40 ?_; intro g13 hg w13 hbox hb; have BX := My.am hbox; have G13 := My.nge hg HBW.out; replace HBW := My.st HBW hb; clear hb hbox hg; have hz := My.cz3 BX))
                have hI := HCI.out
                have hx1 := hx.out
                have hk1 := hk.out
                go_roundg (l1.length - i)
                case measure => omega
                case rel => exact ⟨i + 1, x + 1, S2, by first | rfl | (rw [HW.out]), ⟨by omega⟩, ⟨by omega⟩, ⟨by omega⟩, ⟨HD2.out.up (below_set (below_set (below_set HBW.out G13.out) G13.out) G13.out)⟩, HS2, ⟨HB2.out.trans ((below_set (below_set (below_set HBW.out G13.out) G13.out) G13.out).mono HB2.out.size)⟩⟩
              · have t0 : decide (0 < z) = false := decide_eq_false hz0
                clear hz0 hG his
                go_wp2_with (first
      | ((with_reducible refine gate_callee (f := 28) rfl ?_); refine goesL_ (some 100) rfl rfl Try.func28 (by kernel_rfl) rfl #[.pointer (some ⟨p, 0, none⟩)] rfl My.gx ?_; (refine (disk_Disk_Image.calls HD2.out).mono ?_); rintro e W100 ⟨v, rfl, hR, hb⟩; obtain ⟨An, cn, rfl, hlc, hC⟩ := Kd.R_reads hR; refine ⟨_, rfl, ?_⟩; have HCN := Aside0.mk hC; have HLC := Aside0.mk hlc; have HBW := Aside0.mk hb; clear hR hC hlc hb)
      | ((with_reducible refine gate_callee (f := 30) rfl ?_); refine goesL_ (some 102) rfl rfl Try.func30 (by kernel_rfl) rfl #[.slice An S2.L.length cn, .int .i64 a2] rfl My.gx ?_; (refine (ententelaw15_find.calls kq3 An cn S2.L a2 _ _ _ _ _ HCN.out HLC.out HFI3.out).mono ?_); rintro e W102 ⟨rfl, hb⟩; refine ⟨_, rfl, ?_⟩; replace HBW := Aside0.mk (HBW.out.trans (hb.mono HBW.out.size)); clear hb)
      | ((with_reducible refine gate_dst (N := 13) rfl ?_); refine My.bx 13 #[.int .i64 0, .string ⟨#[]⟩, .int .i64 0] 40 ?_; intro g13 hg w13 hbox hb; have BX := My.am hbox; have G13 := My.nge hg HBW.out; replace HBW := My.st HBW hb; clear hb hbox hg; have hz := My.cz3 BX))
                have hI := HCI.out
                have hx1 := hx.out
                have hk1 := hk.out
                go_roundg (l1.length - i)
                case measure => omega
                case rel => exact ⟨i + 1, x + 1, S2, by first | rfl | (rw [HW.out]), ⟨by omega⟩, ⟨by omega⟩, ⟨by omega⟩, ⟨HD2.out.up (below_set (below_set (below_set HBW.out G13.out) G13.out) G13.out)⟩, HS2, ⟨HB2.out.trans ((below_set (below_set (below_set HBW.out G13.out) G13.out) G13.out).mono HB2.out.size)⟩⟩
          · have c3 : decide (x < (l1.length : Int)) = false := decide_eq_false (by have := hi.out; have := hx.out; omega)
            clear c9
            go_wp2_with (first
      | ((with_reducible refine gate_callee (f := 10) rfl ?_); refine goesL_ (some 136) rfl rfl Try.func10 (by kernel_rfl) rfl #[] rfl My.gx ?_; (refine (awake.calls _).mono ?_); rintro e W136 ⟨rfl, hb⟩; refine ⟨_, rfl, ?_⟩; have HBA := Aside0.mk (HB.out.trans (hb.mono HB.out.size)); clear hb))
            go_ret
            exact ⟨rfl, HBA.out⟩

/-- THE ONE PURE STATEMENT of ententelaw15_DiskSyncs. -/
def ententelaw15_DiskSyncs.Pure : Prop := ∀ (l0 : List S35) (l1 : List S35) (a2 : Int), (l0.length ≤ 9223372036854775807 ∧ l0.length * 64 ≤ 140737488351232 ∧ ∀ y_ ∈ l0, Q35 y_) → (l1.length ≤ 9223372036854775807 ∧ l1.length * 64 ≤ 140737488351232 ∧ ∀ y_ ∈ l1, Q35 y_) → (Lit.int .i64 a2).wf = true → ∃ k, ententelaw15_DiskSyncs.f k l0 l1 a2 = some true

end Go.Proofs.Ytjdpgkfhicpepaa.PA
