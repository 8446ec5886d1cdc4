/- A log on a disk, walked by hand; Lean checks it. -/
import Derived.Test.YtkcpgaplpmbmoaaPAx19
import Derived.Test.YtkcpgaplpmbmoaaPAx17
namespace Go.Proofs.Ytkcpgaplpmbmoaa.PA
open Go.RowKit Go.Proofs.YtkcpgaplpmbmoaaW.PrintWords Go.Proofs.YtkcpgaplpmbmoaaW.PrintLast Go.Proofs.YtkcpgaplpmbmoaaW.PrintMore
attribute [local go_sem] max2_int min2_int max_two min_two max_three min_three max_four min_four
set_option linter.unusedVariables false
set_option linter.unusedSimpArgs false

open Go.Proofs.Ytkcpgaplpmbmoaa.Num
/-! #### openings, in the walk's words -/
theorem writeZ_ok {s : DS} {n : Int} {d : ByteArray} (z : Int) (h : (writeS s n d).2 = 0) : writeZ s n z d = z + (d.size : Int) := by
  unfold writeZ
  rw [if_pos]
  unfold writeS at h
  split at h
  · assumption
  · exact h
theorem fresh_cases {s : DS} (hd : s.dead = false) (hL : s.L = []) (ha : s.armed = 0) (b : ByteArray) (hb : b.size ≤ 30000) :
    (s.room < ((FR 3 b).size : Int) ∧ writeS s 1 (FR 3 b) = (s, 151)) ∨ ((writeS s 1 (FR 3 b)).2 = 0 ∧ Whole (writeS s 1 (FR 3 b)).1 1 [b] ∧ (writeS s 1 (FR 3 b)).1.room = s.room ∧ (writeS s 1 (FR 3 b)).1.armed = 0) := by
  have hf := fr_small b hb
  have e1 : putL s.L (appF s 1 (FR 3 b)) = [⟨1, FR 3 b, 0⟩] := by
    unfold appF
    rw [hL]
    show [(⟨1, z75.f1 ++ FR 3 b, z75.f2⟩ : S75)] = _
    rw [show z75.f1 ++ FR 3 b = FR 3 b from bytesOf_inj (by rw [bytesOf_append]; rfl)]
    rfl
  rcases write_cases s 1 (FR 3 b) _ [⟨1, FR 3 b, ((FR 3 b).size : Int)⟩] hd (by omega) (by omega) e1 (has1 rfl) (by rw [get1 rfl]; exact put1L (n := 1) rfl rfl) with ⟨c, e⟩ | ⟨_, c, _⟩ | ⟨_, e2, a, h0, e3⟩
  · refine .inl ⟨?_, e⟩
    unfold fullB at c
    rw [hL] at c
    have c' := of_decide_eq_true (show decide (s.room - useL [] < ((FR 3 b).size : Int)) = true by simpa [hasL] using c)
    have : useL [] = 0 := rfl
    omega
  · exact absurd ha c
  · refine .inr ⟨e2, ?_, by rw [e3], by rw [e3]; exact h0 ha⟩
    rw [e3]
    exact ⟨rfl, by rw [catF_one], by simp, fun x hx => by rw [List.mem_singleton.1 hx]; exact hb⟩
section
variable {base p bm g q : Nat} {w w0 : World} {s s3 : DS} {n : Int} {l : List ByteArray}
theorem wal_Open.opens (hD : DiskAt base w p bm s) (hO : Opens s s3 n l) (first : ByteArray) (hf : first.size ≤ 140737488351232) :
    Calls Try.prog 10 #[.pointer (some ⟨p, 0, none⟩), .string first] w fun e w' => ∃ q g A c, e = .returned (.tuple #[.pointer (some ⟨q, 0, none⟩), .slice A l.length c, .int .i64 0]) ∧ DiskAt base w' p bm s3 ∧ FrX (fun k => k = p ∨ k = bm) w w' ∧ w.heap.size ≤ q ∧ w.heap.size ≤ g ∧ LogAt w' q g p ⟨n, ((FRL 3 l).length : Int), false⟩ ∧ Kd.string.R 9 w' w.heap.size (fun _ => True) (.slice A l.length c) l := by
  obtain ⟨drop, ⟨K1, hK1⟩, hl, hdw, hdr⟩ := hO.look
  obtain ⟨K2, hK2⟩ := begin_any first hf
  obtain ⟨r1, r2, hr12⟩ : ∃ r1 r2, (if first.size ≤ 30000 then (FR 3 first, (0 : Int)) else (E0, 3)) = (r1, r2) := ⟨_, _, rfl⟩
  have hr : r1.size ≤ 140737488351232 := by
    split at hr12
    · rename_i c
      have := fr_small first c
      injection hr12 with h1 h2
      rw [← h1]
      omega
    · injection hr12 with h1 h2
      rw [← h1]
      decide
  have hn := hO.num
  refine (wal_Open.calls hD hO.alive first (K1 + K2) n _ l drop (hK1 _ (by omega)) r1 r2 ((hK2 _ (by omega)).trans (congrArg some hr12)) hr (wfn hn.1 (by omega)) (by omega) hdw).mono ?_
  intro e w' h
  have e1 : begO (dropO (cutO s n ((FRL 3 l).length : Int)) drop) n r1 r2 = (s3, 0) := by
    rw [hdr]
    unfold begO
    rw [if_neg (by intro h; omega)]
  have e2 : openX (dropO (cutO s n ((FRL 3 l).length : Int)) drop) n ((FRL 3 l).length : Int) r1 = ⟨n, ((FRL 3 l).length : Int), false⟩ := by
    unfold openX
    rw [if_neg (by omega)]
  have e3 : openB n l first = l := by
    unfold openB
    rw [if_neg (by omega)]
  rw [e1, e2, e3] at h
  obtain ⟨h1, h2, ⟨h3, _⟩ | ⟨_, q, g, A, c, rfl, hq, hg, hL, hR⟩⟩ := h
  · exact absurd rfl h3
  · exact ⟨q, g, A, c, rfl, h1, h2, hq, hg, hL, hR⟩
theorem wal_Open.fresh (hD : DiskAt base w p bm s) (hd : s.dead = false) (hL : s.L = []) (ha : s.armed = 0) (first : ByteArray) (hf : first.size ≤ 30000) :
    Calls Try.prog 10 #[.pointer (some ⟨p, 0, none⟩), .string first] w fun e w' => (s.room < ((FR 3 first).size : Int) ∧ e = .returned (.tuple #[.pointer none, .slice none 0 0, .int .i64 151]) ∧ FrX (fun k => k = p ∨ k = bm) w w') ∨
      ∃ s3 q g A c, e = .returned (.tuple #[.pointer (some ⟨q, 0, none⟩), .slice A 1 c, .int .i64 0]) ∧ Whole s3 1 [first] ∧ s3.room = s.room ∧ s3.armed = 0 ∧ DiskAt base w' p bm s3 ∧ FrX (fun k => k = p ∨ k = bm) w w' ∧ w.heap.size ≤ q ∧ w.heap.size ≤ g ∧ LogAt w' q g p ⟨1, ((FRL 3 [first]).length : Int), false⟩ ∧ Kd.string.R 9 w' w.heap.size (fun _ => True) (.slice A 1 c) [first] := by
  obtain ⟨K1, hK1⟩ := look_none
  obtain ⟨K2, hK2⟩ := begin_any first (by omega)
  have hfs := fr_small first hf
  rw [if_pos hf] at hK2
  refine (wal_Open.calls hD hd first (K1 + K2) (-1) 0 [] [] (by rw [hL]; exact hK1 _ (by omega)) (FR 3 first) 0 (hK2 _ (by omega)) (by omega) (by decide) (by decide) (by simp)).mono ?_
  intro e w' h
  have e0 : dropO (cutO s (-1) 0) [] = (s, 0) := by
    have : cutO s (-1) 0 = (s, 0) := by
      unfold cutO
      rw [if_neg (by intro h; omega)]
    rw [this]
    unfold dropO
    rw [if_pos rfl]
    rfl
  have e1 : begO (dropO (cutO s (-1) 0) []) (-1) (FR 3 first) 0 = writeS s 1 (FR 3 first) := by
    rw [e0]
    unfold begO
    rw [if_pos ⟨rfl, by decide⟩, if_pos rfl]
  have e2 : openX (dropO (cutO s (-1) 0) []) (-1) 0 (FR 3 first) = ⟨1, writeZ s 1 0 (FR 3 first), false⟩ := by
    unfold openX
    rw [if_pos (by decide), e0]
  have e3 : openB (-1) [] first = [first] := by
    unfold openB
    rw [if_pos (by decide)]
  rw [e1, e2, e3] at h
  rcases fresh_cases hd hL ha first hf with ⟨c, e⟩ | ⟨c0, c1, c2, c3⟩
  · rw [e] at h
    obtain ⟨h1, h2, ⟨_, h3⟩ | ⟨h3, _⟩⟩ := h
    · exact .inl ⟨c, h3, h2⟩
    · exact absurd h3 (show ¬ (151 : Int) = 0 by decide)
  · rw [writeZ_ok 0 c0, Int.zero_add, c0] at h
    obtain ⟨h1, h2, ⟨h3, _⟩ | ⟨_, q, g, A, c, he, hq, hg, hLg, hR⟩⟩ := h
    · exact absurd rfl h3
    · have e5 : ((FRL 3 [first]).length : Int) = ((FR 3 first).size : Int) := by rw [← catF_size, catF_one]
      rw [e5]
      exact .inr ⟨_, q, g, A, c, he, c1, c2, c3, h1, h2, hq, hg, hLg, hR⟩
set_option maxHeartbeats 8000000 in
set_option maxRecDepth 100000 in
theorem opened.calls (hD : DiskAt base w p bm s) (first : ByteArray) (Post : World → Option Addr → Option Addr → Nat → Nat → Int → World → Prop)
    (hOpen : ∀ W, DiskAt base W p bm (boot s) → FrX (fun k => k = p ∨ k = bm) w W → Calls Try.prog 10 #[.pointer (some ⟨p, 0, none⟩), .string first] W fun e w' => ∃ a A m c er, e = .returned (.tuple #[.pointer a, .slice A m c, .int .i64 er]) ∧ er ≠ 150 ∧ Post W a A m c er w') :
    Calls Try.prog 19 #[.pointer (some ⟨p, 0, none⟩), .string first] w fun e w' => ∃ W a A m c er, e = .returned (.tuple #[.pointer a, .slice A m c, .int .i64 er]) ∧ FrX (fun k => k = p ∨ k = bm) w W ∧ Post W a A m c er w' := by
  have HD := Aside0.mk hD
  have HO := Aside0.mk hOpen
  have HF := Aside0.mk (FrX.refl (fun k => k = p ∨ k = bm) w)
  clear hD hOpen
  go_enter Try.func19, Try.ntmps19
  go_wp2
  go_loopg [7] 1 (fun kq v7 w' => v7 = .int .i64 0 ∧ Aside0 (DiskAt base w' p bm s) ∧ Aside0 (FrX (fun k => k = p ∨ k = bm) w w'))
  case atStart => exact ⟨rfl, HD, HF⟩
  case round =>
    clear HD HF
    obtain ⟨rfl, HD, HF⟩ := hrel
    go_wp2_with (first
      | ((with_reducible refine gate_callee (f := 36) rfl ?_); refine goesL_ (some 16) rfl rfl Try.func36 (by kernel_rfl) rfl #[.pointer (some ⟨p, 0, none⟩)] rfl My.gx ?_; (refine (disk_Disk_Boot.calls HD.out).mono ?_); rintro e W16 ⟨rfl, hD, hF⟩; refine ⟨_, rfl, ?_⟩; replace HF := Aside0.mk (HF.out.trans (FrX.fr (X := fun k => k = p ∨ k = bm) hF (.inl rfl) (.inr rfl))); replace HD := Aside0.mk hD; clear hD hF)
      | ((with_reducible refine gate_callee (f := 10) rfl ?_); refine goesL_ (some 20) rfl rfl Try.func10 (by kernel_rfl) rfl #[.pointer (some ⟨p, 0, none⟩), .string first] rfl My.gx ?_; (refine (HO.out _ HD.out HF.out).mono ?_); rintro e W20 ⟨a, A, m, c, er, rfl, hne, hP⟩; refine ⟨_, rfl, ?_⟩; have HP := Aside0.mk hP; have m1 : decide (er = 150) = false := decide_eq_false hne; have m2 : (er == 150) = false := beq_eq_false_iff_ne.2 hne; have m3 : (er != 150) = true := (by simp [bne, m2]); clear hne hP))
    (try simp only [Exit.inBlock, Exit.then])
    go_ret3
    exact ⟨_, _, _, _, _, _, rfl, HF.out, HP.out⟩
end
/-! #### a whole log's calls -/
theorem take_S (l : List ByteArray) (i : Nat) (h : i < l.length) : l.take (i + 1) = l.take i ++ [rdOf ByteArray.empty l (i : Int)] := by
  rw [List.take_add_one, List.getElem?_eq_getElem h, Option.toList_some]
  congr 2
  unfold rdOf
  rw [Int.toNat_natCast, List.getD_eq_getElem?_getD, List.getElem?_eq_getElem h]
  rfl
theorem mem_S (l : List ByteArray) (i : Nat) (h : i < l.length) : rdOf ByteArray.empty l (i : Int) ∈ l := by
  have : rdOf ByteArray.empty l (i : Int) ∈ l.take (i + 1) := by rw [take_S l i h]; simp
  exact List.mem_of_mem_take this
theorem bytes_eq {x y : ByteArray} (h : x.toList = y.toList) : x = y := by
  rw [ByteArray.toList_eq, ByteArray.toList_eq] at h
  exact ByteArray.ext (Array.ext' h)
theorem same_ev2 (a b : List ByteArray) (ha : a.length ≤ 1000000) : Ev (fun k => ententeref01_Same.f k a b) (decide (a = b)) := by
  unfold ententeref01_Same.f
  refine ev_ite (fun c => ?_) (fun c => ?_)
  · have key : ∀ (d i : Nat), i + d = a.length → a.take i = b.take i → Ev (fun k => ententeref01_Same.l0 k a b (i : Int)) (decide (a = b)) := by
      intro d
      induction d with
      | zero =>
        intro i hi ht
        rw [List.take_of_length_le (by omega), List.take_of_length_le (by omega)] at ht
        refine Ev.step (fun k => by rw [ententeref01_Same.l0]) ?_
        exact ev_neg (by omega) (ev_eq (Ev.now _) (decide_eq_true ht).symm)
      | succ d ih =>
        intro i hi ht
        have e1 : wrap64 ((i : Int) + 1) = ((i + 1 : Nat) : Int) := by unfold wrap64; omega
        refine Ev.step (fun k => by rw [ententeref01_Same.l0]) ?_
        refine ev_pos (by omega) (ev_pos (by omega) (ev_pos (by omega) (ev_ite (fun c2 => ?_) (fun c2 => ?_))))
        · rw [e1]
          refine ih (i + 1) (by omega) ?_
          rw [take_S a i (by omega), take_S b i (by omega), ht, bytes_eq c2]
        · refine ev_eq (Ev.now _) (decide_eq_false ?_).symm
          rintro rfl
          exact c2 rfl
    exact key a.length 0 (by omega) rfl
  · refine ev_eq (Ev.now _) (decide_eq_false ?_).symm
    rintro rfl
    exact c rfl
theorem same_ev (l : List ByteArray) (hl : l.length ≤ 1000000) : Ev (fun k => ententeref01_Same.f k l l) true := ev_eq (same_ev2 l l hl) (decide_eq_true rfl)
section
variable {base p bm g q : Nat} {w w0 : World} {s : DS} {n : Int} {l : List ByteArray}
theorem frl_app (l : List ByteArray) (b : ByteArray) : ((FRL 3 l).length : Int) + ((FR 3 b).size : Int) = ((FRL 3 (l ++ [b])).length : Int) := by
  rw [FRL_append, List.length_append, FRL, FRL, List.append_nil, ← fr_size 3 v3]
  omega
theorem log_Append.whole (hD : DiskAt base w p bm s) (hL : LogAt w q g p ⟨n, ((FRL 3 l).length : Int), false⟩) (hW : Whole s n l) (b : ByteArray) (hb : b.size ≤ 140737488351232) :
    Calls Try.prog 6 #[.pointer (some ⟨q, 0, none⟩), .string b] w fun e w' => ∃ er s', e = .returned (.int .i64 er) ∧ FrX (fun k => k = p ∨ k = bm ∨ k = g ∨ k = q) w w' ∧ DiskAt base w' p bm s' ∧ s'.room = s.room ∧
      ((er = 0 ∧ b.size ≤ 30000 ∧ Whole s' n (l ++ [b]) ∧ (s.armed = 0 → s'.armed = 0) ∧ LogAt w' q g p ⟨n, ((FRL 3 (l ++ [b])).length : Int), false⟩) ∨
       (er ≠ 0 ∧ er ≠ 150 ∧ s' = s ∧ LogAt w' q g p ⟨n, ((FRL 3 l).length : Int), false⟩ ∧ (30000 < b.size ∨ s.room < ((FRL 3 l).length : Int) + 30020)) ∨
       (er = 150 ∧ s.armed ≠ 0 ∧ s'.dead = true ∧ ∃ s3, Opens (boot s') s3 n l ∨ Opens (boot s') s3 n (l ++ [b]))) := by
  obtain ⟨n0, n1, hc, hu⟩ := hW.num hD.inv
  have hcs := catF_size l
  obtain ⟨K, hK⟩ := next_any b hb
  have hK := hK K (Nat.le_refl _)
  by_cases c : b.size ≤ 30000
  · rw [if_pos c] at hK
    have hf := fr_small b c
    refine (log_Append.ok hD hL (wfn n0 (by omega)) (by show (0:Int) ≤ ((FRL 3 l).length : Int) ∧ ((FRL 3 l).length : Int) ≤ _; omega) b (FR 3 b) K hK (by omega)).mono ?_
    rintro e w' ⟨rfl, h1, h2, h3⟩
    rcases app_whole hD.inv hW b c with ⟨c1, e1⟩ | ⟨c1, e1, j, hj, e2⟩ | ⟨e1, c1, c2, c3⟩
    · have ez : writeZ s n ((FRL 3 l).length : Int) (FR 3 b) = ((FRL 3 l).length : Int) := by
        unfold writeZ
        rw [if_neg]
        intro h
        have e1' := e1
        unfold writeS at e1'
        rw [if_pos h] at e1'
        have h5 := congrArg Prod.snd e1'
        have h6 : (writeS s n (FR 3 b)).2 = 151 := by rw [e1]
        have h7 : (appS s n (FR 3 b)).1 = (appS s n (FR 3 b)).1 := rfl
        unfold appS at h
        have hfull : fullB s n (FR 3 b) = true := by
          unfold fullB
          rw [Bool.or_eq_true]
          exact .inr (decide_eq_true c1)
        rw [if_neg (by rw [hW.dead]; simp), if_neg (by omega), if_pos hfull] at h
        cases h
      rw [e1] at h1 h2 ⊢
      rw [ez] at h2
      exact ⟨151, s, rfl, h3, h1, rfl, .inr (.inl ⟨by decide, by decide, rfl, h2, .inr (by rw [hu] at c1; omega)⟩)⟩
    · rw [e1] at h2 ⊢
      refine ⟨150, _, rfl, h3, h1, by rw [e2], .inr (.inr ⟨rfl, c1, by rw [e2], ?_⟩)⟩
      have hi := boot_inv h1.inv
      rw [e2] at hi ⊢
      exact opens_app hW.ne hW.sz b c j hj hi
    · rw [e1] at h2 ⊢
      rw [writeZ_ok _ e1, frl_app] at h2
      exact ⟨0, _, rfl, h3, h1, c2, .inl ⟨rfl, c, c1, c3, h2⟩⟩
  · rw [if_neg c] at hK
    refine (log_Append.bad hD hL b _ 3 K hK (by decide)).mono ?_
    rintro e w' ⟨rfl, h1, h2, h3⟩
    exact ⟨3, s, rfl, h3, h1, rfl, .inr (.inl ⟨by decide, by decide, rfl, h2, .inl (by omega)⟩)⟩
theorem log_Turn.whole (hD : DiskAt base w p bm s) (hL : LogAt w q g p ⟨n, ((FRL 3 l).length : Int), false⟩) (hW : Whole s n l) (b : ByteArray) (hb : b.size ≤ 140737488351232) :
    Calls Try.prog 7 #[.pointer (some ⟨q, 0, none⟩), .string b] w fun e w' => ∃ er s', e = .returned (.int .i64 er) ∧ FrX (fun k => k = p ∨ k = bm ∨ k = g ∨ k = q) w w' ∧ DiskAt base w' p bm s' ∧ s'.room = s.room ∧
      ((er = 0 ∧ b.size ≤ 30000 ∧ Whole s' (n + 1) [b] ∧ (s.armed = 0 → s'.armed = 0) ∧ ∃ g', w.heap.size ≤ g' ∧ LogAt w' q g' p ⟨n + 1, ((FRL 3 [b]).length : Int), false⟩) ∨
       (er ≠ 0 ∧ er ≠ 150 ∧ s' = s ∧ LogAt w' q g p ⟨n, ((FRL 3 l).length : Int), false⟩ ∧ (30000 < b.size ∨ n = 1000000 ∨ s.room < ((FRL 3 l).length : Int) + 30020)) ∨
       (er = 150 ∧ s.armed ≠ 0 ∧ s'.dead = true ∧ ∃ s3, Opens (boot s') s3 n l ∨ Opens (boot s') s3 (n + 1) [b])) := by
  obtain ⟨n0, n1, hc, hu⟩ := hW.num hD.inv
  have hcs := catF_size l
  by_cases cn : n = 1000000
  · refine (log_Turn.full hD hL cn b).mono ?_
    rintro e w' ⟨rfl, h1, h2, h3⟩
    exact ⟨151, s, rfl, h3, h1, rfl, .inr (.inl ⟨by decide, by decide, rfl, h2, .inr (.inl cn)⟩)⟩
  obtain ⟨K, hK⟩ := begin_any b hb
  have hK := hK K (Nat.le_refl _)
  by_cases c : b.size ≤ 30000
  · rw [if_pos c] at hK
    have hf := fr_small b c
    rcases turn_whole hD.inv hW (by omega) b c with ⟨c1, e1⟩ | ⟨c1, e1, j, hj, e2⟩ | ⟨e1, ⟨c1, e2, e3⟩ | ⟨e2, c1, c2, c3⟩⟩
    · refine (log_Turn.fell hD hL ⟨n0, by omega⟩ b (FR 3 b) K hK (by omega) (by rw [e1]; show (151 : Int) ≠ 0; decide)).mono ?_
      rintro e w' ⟨rfl, h1, h2, h3⟩
      rw [e1] at h1 h2 ⊢
      exact ⟨151, s, rfl, h3, h1, rfl, .inr (.inl ⟨by decide, by decide, rfl, h2, .inr (.inr (by rw [hu] at c1; omega))⟩)⟩
    · refine (log_Turn.fell hD hL ⟨n0, by omega⟩ b (FR 3 b) K hK (by omega) (by rw [e1]; decide)).mono ?_
      rintro e w' ⟨rfl, h1, h2, h3⟩
      rw [e1] at h2 ⊢
      refine ⟨150, _, rfl, h3, h1, by rw [e2], .inr (.inr ⟨rfl, c1, by rw [e2], ?_⟩)⟩
      have hi := boot_inv h1.inv
      rw [e2] at hi ⊢
      exact opens_turn hW.ne hW.sz b c j hj hi
    · refine (log_Turn.ok hD hL ⟨n0, by omega⟩ b (FR 3 b) K hK (by omega) e1).mono ?_
      rintro e w' ⟨rfl, h1, g', hg, h2, h3⟩
      rw [e2] at h2 ⊢
      refine ⟨150, _, rfl, h3, h1, by rw [e3], .inr (.inr ⟨rfl, c1, by rw [e3], ?_⟩)⟩
      have hi := boot_inv h1.inv
      have ex : (FR 3 b).extract 0 (FR 3 b).size = FR 3 b := by have := ext_all (FR 3 b) ((FR 3 b).size : Int) rfl; rwa [Int.toNat_natCast] at this
      have el : (⟨n, catF 3 l, ((catF 3 l).size : Int)⟩ : S75) :: (if (FR 3 b).size = 0 then [] else [⟨n + 1, (FR 3 b).extract 0 (FR 3 b).size, (((FR 3 b).size : Nat) : Int)⟩]) = [⟨n, catF 3 l, ((catF 3 l).size : Int)⟩, ⟨n + 1, FR 3 b, ((FR 3 b).size : Int)⟩] := by
        rw [if_neg (by omega), ex]
      rw [e3, ← el] at hi ⊢
      exact opens_turn hW.ne hW.sz b c (FR 3 b).size (Nat.le_refl _) hi
    · refine (log_Turn.ok hD hL ⟨n0, by omega⟩ b (FR 3 b) K hK (by omega) e1).mono ?_
      rintro e w' ⟨rfl, h1, g', hg, h2, h3⟩
      rw [e2] at h2 ⊢
      rw [writeZ_ok _ e1, Int.zero_add, show ((FR 3 b).size : Int) = ((FRL 3 [b]).length : Int) by rw [← catF_size, catF_one]] at h2
      exact ⟨0, _, rfl, h3, h1, c2, .inl ⟨rfl, c, c1, c3, g', hg, h2⟩⟩
  · rw [if_neg c] at hK
    refine (log_Turn.bad hD hL ⟨n0, by omega⟩ b _ 3 K hK (by decide)).mono ?_
    rintro e w' ⟨rfl, h1, h2, h3⟩
    exact ⟨3, s, rfl, h3, h1, rfl, .inr (.inl ⟨by decide, by decide, rfl, h2, .inl (by omega)⟩)⟩
end

end Go.Proofs.Ytkcpgaplpmbmoaa.PA
