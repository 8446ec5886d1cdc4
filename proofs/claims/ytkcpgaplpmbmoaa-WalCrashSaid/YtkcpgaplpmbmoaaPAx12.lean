/- A log on a disk, walked by hand; Lean checks it. -/
import Derived.Test.YtkcpgaplpmbmoaaPAx11
namespace Go.Proofs.Ytkcpgaplpmbmoaa.PA
open Go.RowKit Go.Proofs.YtkcpgaplpmbmoaaW.PrintWords Go.Proofs.YtkcpgaplpmbmoaaW.PrintLast Go.Proofs.YtkcpgaplpmbmoaaW.PrintMore
attribute [local go_sem] max2_int min2_int max_two min_two max_three min_three max_four min_four
set_option linter.unusedVariables false
set_option linter.unusedSimpArgs false

/-! #### a file among others -/
theorem hasL_false {L : List S75} {n : Int} (h : ∀ y ∈ L, y.f0 ≠ n) : hasL L n = false ∧ getL L n = z75 ∧ delL L n = L := by
  refine ⟨?_, ?_, ?_⟩
  · unfold hasL
    rw [List.any_eq_false]
    intro y hy
    simpa using h y hy
  · unfold getL
    rw [List.find?_eq_none.2 (fun y hy => by simpa using h y hy)]
  · unfold delL
    exact List.filter_eq_self.2 (fun y hy => by simpa using h y hy)
theorem splitL {L : List S75} (h : L.Pairwise (fun x y => x.f0 < y.f0)) (n : Int) : ∃ A B, (∀ y ∈ A, y.f0 < n) ∧ (∀ y ∈ B, n < y.f0) ∧ delL L n = A ++ B ∧ (∀ x', x'.f0 = n → putL L x' = A ++ x' :: B) ∧
    ((hasL L n = true ∧ (getL L n).f0 = n ∧ L = A ++ getL L n :: B) ∨ (hasL L n = false ∧ getL L n = z75 ∧ L = A ++ B)) := by
  have key : ∀ L : List S75, L.Pairwise (fun x y => x.f0 < y.f0) → ∃ A B, (∀ y ∈ A, y.f0 < n) ∧ (∀ y ∈ B, n < y.f0) ∧ ((∃ x, x.f0 = n ∧ L = A ++ x :: B) ∨ L = A ++ B) := by
    intro L
    induction L with
    | nil => intro _; exact ⟨[], [], by simp, by simp, .inr rfl⟩
    | cons y r ih =>
      intro h
      obtain ⟨h1, h2⟩ := List.pairwise_cons.1 h
      rcases Int.lt_trichotomy y.f0 n with hy | hy | hy
      · obtain ⟨A, B, hA, hB, hL⟩ := ih h2
        refine ⟨y :: A, B, ?_, hB, ?_⟩
        · intro z hz
          rcases List.mem_cons.1 hz with rfl | hz
          · exact hy
          · exact hA z hz
        · rcases hL with ⟨x, hx, e⟩ | e
          · exact .inl ⟨x, hx, by rw [e]; rfl⟩
          · exact .inr (by rw [e]; rfl)
      · exact ⟨[], r, by simp, fun z hz => by have := h1 z hz; omega, .inl ⟨y, hy, rfl⟩⟩
      · exact ⟨[], y :: r, by simp, fun z hz => by
          rcases List.mem_cons.1 hz with rfl | hz
          · exact hy
          · have := h1 z hz; omega, .inr rfl⟩
  obtain ⟨A, B, hA, hB, hL⟩ := key L h
  rcases hL with ⟨x, hx, e⟩ | e
  · have hg : getL L n = x := by rw [← hx]; exact getL_mem h (by rw [e]; simp)
    have hh : hasL L n = true := by
      unfold hasL
      rw [List.any_eq_true]
      exact ⟨x, by rw [e]; simp, by simpa using hx⟩
    refine ⟨A, B, hA, hB, ?_, fun x' hx' => ?_, .inl ⟨hh, by rw [hg]; exact hx, by rw [hg]; exact e⟩⟩
    · rw [e] at h ⊢
      rw [← hx]
      exact delL_mid h
    · rw [e] at h ⊢
      exact putL_mid h (by rw [hx', hx])
  · have hn : ∀ y ∈ L, y.f0 ≠ n := fun y hy => by
      rw [e] at hy
      rcases List.mem_append.1 hy with hy | hy
      · have := hA y hy; omega
      · have := hB y hy; omega
    obtain ⟨f1, f2, f3⟩ := hasL_false hn
    refine ⟨A, B, hA, hB, by rw [f3, e], fun x' hx' => ?_, .inr ⟨f1, f2, e⟩⟩
    unfold putL
    rw [hx', f3, e]
    exact insL_mid A (fun y hy => by rw [hx']; exact hA y hy) (fun y hy => by rw [hx']; exact hB y hy)
theorem srt_put {A B : List S75} {x : S75} {n : Int} (hA : ∀ y ∈ A, y.f0 < n) (hB : ∀ y ∈ B, n < y.f0) (hx : x.f0 = n) (h1 : A.Pairwise (fun x y => x.f0 < y.f0)) (h2 : B.Pairwise (fun x y => x.f0 < y.f0)) : (A ++ x :: B).Pairwise (fun x y => x.f0 < y.f0) := by
  refine List.pairwise_append.2 ⟨h1, List.pairwise_cons.2 ⟨fun y hy => by rw [hx]; exact hB y hy, h2⟩, fun y hy z hz => ?_⟩
  rcases List.mem_cons.1 hz with rfl | hz
  · rw [hx]; exact hA y hy
  · have := hA y hy; have := hB z hz; omega
theorem srt_del {A B : List S75} {n : Int} (hA : ∀ y ∈ A, y.f0 < n) (hB : ∀ y ∈ B, n < y.f0) (h1 : A.Pairwise (fun x y => x.f0 < y.f0)) (h2 : B.Pairwise (fun x y => x.f0 < y.f0)) : (A ++ B).Pairwise (fun x y => x.f0 < y.f0) :=
  List.pairwise_append.2 ⟨h1, h2, fun y hy z hz => by have := hA y hy; have := hB z hz; omega⟩
theorem useL_cons (x : S75) (L : List S75) : useL (x :: L) = (x.f1.size : Int) + useL L := by simp [useL]
/-- A file is changed (or is new), and the disk stays a disk. -/
theorem Inv.put {s : DS} (h : Inv s) {x : S75} (hn : 0 ≤ x.f0 ∧ x.f0 ≤ 1000000) (hd : 0 ≤ x.f2 ∧ x.f2 ≤ (x.f1.size : Int) ∧ 0 < x.f1.size) (hu : useL s.L - (getL s.L x.f0).f1.size + x.f1.size ≤ s.room) (hl : hasL s.L x.f0 = true ∨ s.L.length < 8) : Inv { s with L := putL s.L x } := by
  obtain ⟨A, B, hA, hB, hdel, hput, hc⟩ := splitL h.srt x.f0
  rw [hput x rfl]
  have hsub : ∀ y, y ∈ A ++ B → y ∈ s.L := fun y hy => by
    rcases hc with ⟨_, _, e⟩ | ⟨_, _, e⟩
    · rw [e]
      rcases List.mem_append.1 hy with hy | hy <;> simp [hy]
    · rw [e]; exact hy
  have hpw : A.Pairwise (fun x y => x.f0 < y.f0) ∧ B.Pairwise (fun x y => x.f0 < y.f0) := by
    have h1 := h.srt
    rcases hc with ⟨_, _, e⟩ | ⟨_, _, e⟩
    · rw [e] at h1
      obtain ⟨a, b, _⟩ := List.pairwise_append.1 h1
      exact ⟨a, (List.pairwise_cons.1 b).2⟩
    · rw [e] at h1
      obtain ⟨a, b, _⟩ := List.pairwise_append.1 h1
      exact ⟨a, b⟩
  have mem : ∀ y ∈ A ++ x :: B, y = x ∨ y ∈ s.L := fun y hy => by
    rcases List.mem_append.1 hy with hy | hy
    · exact .inr (hsub y (by simp [hy]))
    · rcases List.mem_cons.1 hy with hy | hy
      · exact .inl hy
      · exact .inr (hsub y (by simp [hy]))
  refine ⟨srt_put hA hB rfl hpw.1 hpw.2, fun y hy => ?_, fun y hy => ?_, ?_, h.room, ?_, h.arm⟩
  · rcases mem y hy with rfl | hy
    · exact hn
    · exact h.num y hy
  · rcases mem y hy with rfl | hy
    · exact hd
    · exact h.dat y hy
  · show useL (A ++ x :: B) ≤ s.room
    rw [useL_app, useL_cons]
    rcases hc with ⟨_, _, e⟩ | ⟨_, e0, e⟩
    · have e2 := congrArg useL e
      rw [useL_app, useL_cons] at e2
      omega
    · rw [e0] at hu
      have e2 := congrArg useL e
      rw [useL_app] at e2
      have : (z75.f1.size : Int) = 0 := rfl
      omega
  · show (A ++ x :: B).length ≤ 8
    have := h.len
    rcases hc with ⟨_, _, e⟩ | ⟨e0, _, e⟩
    · have e2 := congrArg List.length e
      simp only [List.length_append, List.length_cons] at e2 ⊢
      omega
    · have e2 := congrArg List.length e
      simp only [List.length_append, List.length_cons] at e2 ⊢
      rcases hl with hl | hl
      · rw [e0] at hl; cases hl
      · omega
theorem Inv.del {s : DS} (h : Inv s) (n : Int) : Inv { s with L := delL s.L n } := by
  have hs : (delL s.L n).Sublist s.L := List.filter_sublist
  refine ⟨h.srt.sublist hs, fun y hy => h.num y (hs.subset hy), fun y hy => h.dat y (hs.subset hy), ?_, h.room, Nat.le_trans hs.length_le h.len, h.arm⟩
  have : useL (delL s.L n) ≤ useL s.L := by
    obtain ⟨A, B, hA, hB, hdel, hput, hc⟩ := splitL h.srt n
    rw [hdel]
    rcases hc with ⟨_, _, e⟩ | ⟨_, e0, e⟩
    · have e2 := congrArg useL e
      rw [useL_app, useL_cons] at e2
      rw [useL_app]
      omega
    · have e2 := congrArg useL e
      omega
  have := h.use
  show useL (delL s.L n) ≤ s.room
  omega
theorem getL_mem' {L : List S75} {n : Int} (h : hasL L n = true) : getL L n ∈ L ∧ (getL L n).f0 = n := by
  unfold hasL at h
  obtain ⟨x, hx, hn⟩ := List.any_eq_true.1 h
  unfold getL
  cases e : L.find? (fun x => decide (x.f0 = n)) with
  | none =>
    have := List.find?_eq_none.1 e x hx
    exact absurd hn this
  | some y =>
    have h1 := List.find?_some e
    exact ⟨List.mem_of_find?_eq_some e, by simpa using h1⟩
/-! #### what the calls do -/
def endS (s : DS) : DS × Int := if lastS s = true then (fallS s.keep (stepS s), 150) else (stepS s, 0)
def fullB (s : DS) (n : Int) (d : ByteArray) : Bool := (!hasL s.L n && decide (s.L.length = 8)) || decide (s.room - useL s.L < (d.size : Int))
def appF (s : DS) (n : Int) (d : ByteArray) : S75 := ⟨n, (getL s.L n).f1 ++ d, (getL s.L n).f2⟩
def appS (s : DS) (n : Int) (d : ByteArray) : DS × Int :=
  if s.dead = true then (s, 150) else if n < 0 ∨ n > 1000000 then (s, 2) else if fullB s n d = true then (s, 151) else if d.size = 0 then (s, 0) else endS { s with L := putL s.L (appF s n d) }
def chgS (s : DS) (L : List S75) : DS × Int := if lastS s = true then (fallS s.keep (stepS s), 150) else ({ stepS s with L := L }, 0)
theorem app_inv {s : DS} (h : Inv s) {n : Int} {d : ByteArray} (hn : ¬ (n < 0 ∨ n > 1000000)) (hf : fullB s n d = false) (hd : d.size ≠ 0) : Inv { s with L := putL s.L (appF s n d) } := by
  unfold fullB at hf
  simp only [Bool.or_eq_false_iff, Bool.and_eq_false_iff, decide_eq_false_iff_not, Bool.not_eq_false'] at hf
  obtain ⟨h1, h2⟩ := hf
  have hsz : ((getL s.L n).f1 ++ d).size = (getL s.L n).f1.size + d.size := ByteArray.size_append
  refine h.put (x := appF s n d) ⟨by show 0 ≤ n; omega, by show n ≤ 1000000; omega⟩ ?_ ?_ ?_
  · show 0 ≤ (getL s.L n).f2 ∧ (getL s.L n).f2 ≤ (((getL s.L n).f1 ++ d).size : Int) ∧ 0 < ((getL s.L n).f1 ++ d).size
    rw [hsz]
    cases hh : hasL s.L n with
    | true =>
      have := h.dat _ (getL_mem' hh).1
      omega
    | false =>
      have e : getL s.L n = z75 := by
        obtain ⟨A, B, _, _, _, _, hc⟩ := splitL h.srt n
        rcases hc with ⟨e, _⟩ | ⟨_, e, _⟩
        · rw [hh] at e; cases e
        · exact e
      rw [e]
      have e1 : z75.f2 = 0 := rfl
      have e2 : z75.f1.size = 0 := rfl
      omega
  · show useL s.L - ((getL s.L n).f1.size : Int) + (((getL s.L n).f1 ++ d).size : Int) ≤ s.room
    rw [hsz]
    omega
  · show hasL s.L n = true ∨ _
    rcases h1 with h1 | h1
    · exact .inl h1
    · have := h.len; exact .inr (by omega)

theorem getL_size (L : List S75) (n : Int) : ((getL L n).f1.size : Int) ≤ useL L := by
  unfold getL
  cases e : L.find? (fun x => decide (x.f0 = n)) with
  | none =>
    have : (z75.f1.size : Int) = 0 := rfl
    have := useL_nonneg L
    show (z75.f1.size : Int) ≤ _
    omega
  | some y => exact useL_mem (List.mem_of_find?_eq_some e)
theorem stepS_keep (s : DS) : (stepS s).keep = s.keep := by
  unfold stepS
  split <;> rfl
section
variable {base p bm : Nat} {w : World} {s : DS}
theorem fall_own (h : DiskAt base w p bm s) : ∃ A c, w.cell? ⟨p, 4, none⟩ = some (.slice A s.keep.length c) ∧ Calls Try.prog 62 #[.pointer (some ⟨p, 0, none⟩), .slice A s.keep.length c] w fun e w' => e = .returned (.tuple #[]) ∧ DiskAt base w' p bm (fallS s.keep s) ∧ Fr p bm w w' := by
  obtain ⟨kv, hb, hk, c0, c1, c2, c3, c4, c5, fz⟩ := h.cells
  obtain ⟨A, c, rfl, hl, hC⟩ := Kd.R_reads hk
  exact ⟨A, c, c4, disk_Disk_fall.calls h A c s.keep hC hl (fun W hf => (Kd.R_reads' (h.row hf hk (by decide))).2.2)⟩
theorem DiskAt.eqs {s' : DS} {W : World} (h : DiskAt base W p bm s) (e : s' = s) : DiskAt base W p bm s' := e ▸ h
def disk_Disk_Append.T7 : Bool × List (List Nat × List Nat) := (true, [([], []), ([0], [0]), ([1], [1]), ([2], [2]), ([3, 2], [2, 3]), ([4, 2], [2, 4]), ([5, 2], [2, 5]), ([6, 2, 2], [2, 6]), ([7, 2], [2, 7]), ([2, 8], [2, 8]), ([9, 7], [9]), ([10], [10]), ([11, 10], [10, 11]), ([10], [10]), ([13, 10], [10, 13]), ([14, 10], [10, 14]), ([15, 10], [10, 15]), ([10], [10]), ([17, 10, 10], [10, 17]), ([16, 18, 10], [10, 16, 18]), ([12, 19, 10], [10, 12, 19]), ([10, 20], [10, 20]), ([21, 18], [21])])
def disk_Disk_Append.B7 : List Nat := [0, 1, 3, 7, 15, 31, 63, 127, 255, 511, 1023, 2047, 4095, 2047, 10239, 26623, 59391, 2047, 133119, 518143, 1048575, 2097151, 4194303]
theorem disk_Disk_Append.tab7 : rtab .any (opsOf Try.f41 7) = disk_Disk_Append.T7 := by kernel_rfl
theorem disk_Disk_Append.bits7 : waitsOk disk_Disk_Append.T7.2 disk_Disk_Append.B7 = true := by kernel_rfl
set_option maxHeartbeats 8000000 in
set_option maxRecDepth 100000 in
theorem disk_Disk_Append.calls (h : DiskAt base w p bm s) (n : Int) (hn : (Lit.int .i64 n).wf = true) (d : ByteArray) (hds : d.size ≤ 140737488351232) : Calls Try.prog 41 #[.pointer (some ⟨p, 0, none⟩), .int .i64 n, .string d] w fun e w' => e = .returned (.int .i64 (appS s n d).2) ∧ DiskAt base w' p bm (appS s n d).1 ∧ Fr p bm w w' := by
  have hu40 := Try.underlying75
  have HD := Aside0.mk h
  have HN := Aside0.mk hn
  have HDS := Aside0.mk hds
  have HI0 := Aside0.mk h.inv
  clear h hn hds
  obtain ⟨R, hR⟩ : ∃ R, appS s n d = R := ⟨_, rfl⟩
  rw [hR]
  have HR := Aside0.mk hR
  clear hR
  by_cases hd : s.dead = true
  · have e1 : R = (s, 150) := by rw [← HR.out]; simp [appS, hd]
    have HE := Aside0.mk hd
    subst e1
    clear hd HR
    go_enter Try.func41, Try.ntmps41
    go_wp2_with ((with_reducible refine gate_callee (f := 37) rfl ?_); refine goesL_ (some _) rfl rfl Try.func37 (by kernel_rfl) rfl #[.pointer (some ⟨p, 0, none⟩)] rfl My.gx ?_; (refine (disk_Disk_ready.dead HD.out HE.out).mono ?_); rintro e W1 ⟨rfl, hb⟩; refine ⟨_, rfl, ?_⟩)
    go_ret
    exact ⟨rfl, HD.out.up hb, Fr.of hb⟩
  · replace hd : s.dead = false := by simpa using hd
    have HE := Aside0.mk hd
    go_enter Try.func41, Try.ntmps41
    go_upto_region 4 with ((with_reducible refine gate_callee (f := 37) rfl ?_); refine goesL_ (some _) rfl rfl Try.func37 (by kernel_rfl) rfl #[.pointer (some ⟨p, 0, none⟩)] rfl My.gx ?_; (refine (disk_Disk_ready.live HD.out HE.out).mono ?_); rintro e W1 ⟨rfl, hb⟩; refine ⟨_, rfl, ?_⟩; replace HD := Aside0.mk (HD.out.up hb); have HF1 := Aside0.mk (Fr.of (p := p) (bm := bm) hb); clear hb)
    have hlook := HD.out.map.look2 n HN.out
    unfold valD at hlook
    obtain ⟨kv, hbp, hk5, k0, k1, k2, k3, k4, k5, fz⟩ := HD.out.cells
    clear hbp hk5 k0 k1 k2 k3 k4 fz
    obtain ⟨F, hF⟩ : ∃ F, getL s.L n = F := ⟨_, rfl⟩
    obtain ⟨ok, hok⟩ : ∃ b, hasL s.L n = b := ⟨_, rfl⟩
    rw [hF, hok] at hlook
    have HFF := Aside0.mk hF
    have HOK := Aside0.mk hok
    have HDD := Aside0.mk hd
    clear hF hok hd
    go_upto_region 5 with ((with_reducible refine gate_dst (N := 8) rfl ?_); refine My.bx 8 #[.int .i64 0, .string ⟨#[]⟩, .int .i64 0] 75 ?_; intro g8 hg8 w8 hbox hb; have BX := My.am hbox; have HB8 := Aside0.mk hb; have G8 := Aside0.mk (show W1.heap.size ≤ g8 by rw [hg8]; exact Nat.le_refl _); clear hlook hb hbox hg8; have hz := My.cz3 BX)
    refine at_world (J := fun W => Below W1.heap.size W1 W ∧ W.heap[g8]? = some (.cells #[.int .i64 F.f0, .string F.f1, .int .i64 F.f2] 75 (0, 0)) ∧ Fr p bm W1 W) ⟨below_set (below_set (below_set HB8.out G8.out) G8.out) G8.out, My.put3 BX.out, (((Fr.of HB8.out).fresh G8.out _).fresh G8.out _).fresh G8.out _⟩ ?_
    have G8w := Aside0.mk (Nat.le_trans HF1.out.size G8.out)
    clear BX HB8 hz k5
    rintro W2 ⟨B2, Y2, F2⟩
    have HY2 := Aside0.mk Y2
    have HF2 := Aside0.mk (HF1.out.trans F2)
    replace HD := Aside0.mk (HD.out.up B2)
    clear B2 Y2 F2
    by_cases hr : n < 0 ∨ n > 1000000
    · have e1 : R = (s, 2) := by rw [← HR.out]; unfold appS; rw [if_neg (by rw [HDD.out]; decide), if_pos hr]
      subst e1
      clear HR
      by_cases d1 : n < 0
      · have b1 : decide (n < 0) = true := decide_eq_true d1
        clear d1 hr
        go_wp2
        go_ret
        exact ⟨rfl, HD.out, HF2.out⟩
      · have b1 : decide (n < 0) = false := decide_eq_false d1
        have b2 : decide (1000000 < n) = true := decide_eq_true (by omega)
        clear d1 hr
        go_wp2
        go_ret
        exact ⟨rfl, HD.out, HF2.out⟩
    · have HNR := Aside0.mk hr
      have b1 : decide (n < 0) = false := decide_eq_false (by omega)
      have b2 : decide (1000000 < n) = false := decide_eq_false (by omega)
      clear hr
      go_upto_region 7 with (fail)
      clear b1 b2
      have hwr : wrap64 (s.room - useL s.L) = s.room - useL s.L := by have h1 := HI0.out.use; have h2 := HI0.out.room; have h3 := useL_nonneg s.L; unfold wrap64; omega
      go_cut [31] (fun v31 wc => v31 = .bool (fullB s n d) ∧ Aside0 (DiskAt base wc p bm s) ∧ Aside0 (Fr p bm w wc) ∧ Aside0 (wc.heap[g8]? = some (.cells #[.int .i64 F.f0, .string F.f1, .int .i64 F.f2] 75 (0, 0))))
      case first =>
        cases ok with
        | true =>
          refine start_ (n := 23) (S := fun w' => DiskAt base w' p bm s) (ds := []) #[false, false, false, false, false, false, false, false, false, false, false, false, false, false, false, false, false, false, false, false, false, false, false] (by kernel_rfl) rfl rfl (HD.out.move (fun _ _ _ => rfl)) (fun hHeld => ?_); refine with_tabW disk_Disk_Append.tab7 disk_Disk_Append.bits7 (fun HT_ HW_ => ?_)
          have HF3 := Aside0.mk (show Fr p bm w W2.drew from ⟨HF2.out.os, HF2.out.tape, HF2.out.output, HF2.out.size, HF2.out.block⟩)
          have HY3 := Aside0.mk (show W2.drew.heap[g8]? = some (.cells #[.int .i64 F.f0, .string F.f1, .int .i64 F.f2] 75 (0, 0)) from HY2.out)
          generalize W2.drew = W3 at HF3 HY3 hHeld ⊢
          refine My.pv_ 0 32 23 1 HT_.out ?_
          refine My.pv_ 1 33 23 3 HT_.out ?_
          refine My.pv_ 2 34 23 7 HT_.out ?_
          refine My.pw_ 3 35 23 15 HT_.out ?_
          refine My.pw_ 4 36 23 31 HT_.out ?_
          refine My.pw_ 5 37 23 63 HT_.out ?_
          refine My.pw_ 6 38 23 127 HT_.out ?_
          refine My.pw_ 7 39 23 255 HT_.out ?_
          refine My.pw_ 8 40 23 511 HT_.out ?_
          refine My.pv_ 9 41 23 1023 HT_.out ?_
          refine My.pv_ 10 42 23 2047 HT_.out ?_
          refine My.pv_ 11 43 23 4095 HT_.out ?_
          refine My.tv_ 12 44 23 8191 HT_.out HW_.out hHeld rfl rfl (by rintro w' hS; obtain ⟨kv, hbp, hk5, k0, k1, k2, k3, k4, k5, fz⟩ := hS.cells; clear hbp hk5; have hln := hS.map.ln 3; go_simp; with_reducible rfl) ?_
          refine My.pv_ 13 45 23 16383 HT_.out ?_
          refine My.pv_ 14 46 23 32767 HT_.out ?_
          refine My.pv_ 15 47 23 65535 HT_.out ?_
          refine My.tv_ 16 48 23 131071 HT_.out HW_.out hHeld rfl rfl (by rintro w' hS; obtain ⟨kv, hbp, hk5, k0, k1, k2, k3, k4, k5, fz⟩ := hS.cells; clear hbp hk5; have hln := hS.map.ln 3; go_simp; with_reducible rfl) ?_
          refine My.pv_ 17 49 23 262143 HT_.out ?_
          refine one_ (i := 18) (N := some 50) (My.Mb 23 524287) rfl rfl (one_of HT_.out (by kernel_rfl)) (by decide) (fun K hK => ?_)
          refine goes_ Try.func60 (by kernel_rfl) rfl #[.pointer (some ⟨p, 0, none⟩)] (by rfl) rfl rfl My.gx ?_
          refine (disk_Disk_Used.calls hHeld).mono ?_
          rintro e W4 ⟨rfl, hb⟩
          refine ⟨_, rfl, ?_⟩
          refine hK.out _ _ (hHeld.up hb) (fun hHeld => ?_)
          clear hK K
          refine My.nm 50 ?_
          refine My.pv_ 19 51 23 1048575 HT_.out ?_
          refine My.pv_ 20 52 23 2097151 HT_.out ?_
          refine My.pv_ 21 53 23 4194303 HT_.out ?_
          refine My.pv_ 22 31 23 8388607 HT_.out ?_
          refine done_ (done_of HT_.out (by kernel_rfl)) ?_
          try go_wp2
          go_meet
          case rel => exact ⟨by simp [fullB, HOK.out], ⟨hHeld⟩, ⟨HF3.out.trans (Fr.of hb)⟩, ⟨(hb.block g8 (blk_lt HY3.out)).trans HY3.out⟩⟩
        | false =>
          by_cases hl : s.L.length = 8
          · have l1 : decide ((s.L.length : Int) = 8) = true := decide_eq_true (by omega)
            have l2 : ((s.L.length : Int) == 8) = true := by rw [hl]; rfl
            have l3 : (s.L.length : Int) = 8 := by omega
            have HLL := Aside0.mk hl
            clear hl hwr
            refine start_ (n := 23) (S := fun w' => DiskAt base w' p bm s) (ds := []) #[false, false, false, false, false, false, false, false, false, false, false, false, false, false, false, false, false, false, false, false, false, false, false] (by kernel_rfl) rfl rfl (HD.out.move (fun _ _ _ => rfl)) (fun hHeld => ?_); refine with_tabW disk_Disk_Append.tab7 disk_Disk_Append.bits7 (fun HT_ HW_ => ?_)
            have HF3 := Aside0.mk (show Fr p bm w W2.drew from ⟨HF2.out.os, HF2.out.tape, HF2.out.output, HF2.out.size, HF2.out.block⟩)
            have HY3 := Aside0.mk (show W2.drew.heap[g8]? = some (.cells #[.int .i64 F.f0, .string F.f1, .int .i64 F.f2] 75 (0, 0)) from HY2.out)
            generalize W2.drew = W3 at HF3 HY3 hHeld ⊢
            refine My.pv_ 0 32 23 1 HT_.out ?_
            refine My.pv_ 1 33 23 3 HT_.out ?_
            refine My.pv_ 2 34 23 7 HT_.out ?_
            refine My.pv_ 3 35 23 15 HT_.out ?_
            refine My.pv_ 4 36 23 31 HT_.out ?_
            refine My.pv_ 5 37 23 63 HT_.out ?_
            refine My.tv_ 6 38 23 127 HT_.out HW_.out hHeld rfl rfl (by rintro w' hS; obtain ⟨kv, hbp, hk5, k0, k1, k2, k3, k4, k5, fz⟩ := hS.cells; clear hbp hk5; have hln := hS.map.ln 3; go_simp; with_reducible rfl) ?_
            refine My.tv_ 7 39 23 255 HT_.out HW_.out hHeld rfl rfl (by rintro w' hS; obtain ⟨kv, hbp, hk5, k0, k1, k2, k3, k4, k5, fz⟩ := hS.cells; clear hbp hk5; have hln := hS.map.ln 3; go_simp; with_reducible rfl) ?_
            refine My.pv_ 8 40 23 511 HT_.out ?_
            refine My.pv_ 9 41 23 1023 HT_.out ?_
            refine My.pv_ 10 42 23 2047 HT_.out ?_
            refine My.pw_ 11 43 23 4095 HT_.out ?_
            refine My.pw_ 12 44 23 8191 HT_.out ?_
            refine My.pw_ 13 45 23 16383 HT_.out ?_
            refine My.pw_ 14 46 23 32767 HT_.out ?_
            refine My.pw_ 15 47 23 65535 HT_.out ?_
            refine My.pw_ 16 48 23 131071 HT_.out ?_
            refine My.pw_ 17 49 23 262143 HT_.out ?_
            refine My.pw_ 18 50 23 524287 HT_.out ?_
            refine My.pw_ 19 51 23 1048575 HT_.out ?_
            refine My.pw_ 20 52 23 2097151 HT_.out ?_
            refine My.pv_ 21 53 23 4194303 HT_.out ?_
            refine My.pv_ 22 31 23 8388607 HT_.out ?_
            refine done_ (done_of HT_.out (by kernel_rfl)) ?_
            try go_wp2
            go_meet
            case rel => exact ⟨by simp [fullB, HOK.out, HLL.out], ⟨hHeld⟩, HF3, HY3⟩
          · have l1 : decide ((s.L.length : Int) = 8) = false := decide_eq_false (by omega)
            have l2 : ((s.L.length : Int) == 8) = false := beq_eq_false_iff_ne.2 (by omega)
            have HLL := Aside0.mk hl
            clear hl
            refine start_ (n := 23) (S := fun w' => DiskAt base w' p bm s) (ds := []) #[false, false, false, false, false, false, false, false, false, false, false, false, false, false, false, false, false, false, false, false, false, false, false] (by kernel_rfl) rfl rfl (HD.out.move (fun _ _ _ => rfl)) (fun hHeld => ?_); refine with_tabW disk_Disk_Append.tab7 disk_Disk_Append.bits7 (fun HT_ HW_ => ?_)
            have HF3 := Aside0.mk (show Fr p bm w W2.drew from ⟨HF2.out.os, HF2.out.tape, HF2.out.output, HF2.out.size, HF2.out.block⟩)
            have HY3 := Aside0.mk (show W2.drew.heap[g8]? = some (.cells #[.int .i64 F.f0, .string F.f1, .int .i64 F.f2] 75 (0, 0)) from HY2.out)
            generalize W2.drew = W3 at HF3 HY3 hHeld ⊢
            refine My.pv_ 0 32 23 1 HT_.out ?_
            refine My.pv_ 1 33 23 3 HT_.out ?_
            refine My.pv_ 2 34 23 7 HT_.out ?_
            refine My.pv_ 3 35 23 15 HT_.out ?_
            refine My.pv_ 4 36 23 31 HT_.out ?_
            refine My.pv_ 5 37 23 63 HT_.out ?_
            refine My.tv_ 6 38 23 127 HT_.out HW_.out hHeld rfl rfl (by rintro w' hS; obtain ⟨kv, hbp, hk5, k0, k1, k2, k3, k4, k5, fz⟩ := hS.cells; clear hbp hk5; have hln := hS.map.ln 3; go_simp; with_reducible rfl) ?_
            refine My.tv_ 7 39 23 255 HT_.out HW_.out hHeld rfl rfl (by rintro w' hS; obtain ⟨kv, hbp, hk5, k0, k1, k2, k3, k4, k5, fz⟩ := hS.cells; clear hbp hk5; have hln := hS.map.ln 3; go_simp; with_reducible rfl) ?_
            refine My.pv_ 8 40 23 511 HT_.out ?_
            refine My.pv_ 9 41 23 1023 HT_.out ?_
            refine My.pv_ 10 42 23 2047 HT_.out ?_
            refine My.pv_ 11 43 23 4095 HT_.out ?_
            refine My.tv_ 12 44 23 8191 HT_.out HW_.out hHeld rfl rfl (by rintro w' hS; obtain ⟨kv, hbp, hk5, k0, k1, k2, k3, k4, k5, fz⟩ := hS.cells; clear hbp hk5; have hln := hS.map.ln 3; go_simp; with_reducible rfl) ?_
            refine My.pv_ 13 45 23 16383 HT_.out ?_
            refine My.pv_ 14 46 23 32767 HT_.out ?_
            refine My.pv_ 15 47 23 65535 HT_.out ?_
            refine My.tv_ 16 48 23 131071 HT_.out HW_.out hHeld rfl rfl (by rintro w' hS; obtain ⟨kv, hbp, hk5, k0, k1, k2, k3, k4, k5, fz⟩ := hS.cells; clear hbp hk5; have hln := hS.map.ln 3; go_simp; with_reducible rfl) ?_
            refine My.pv_ 17 49 23 262143 HT_.out ?_
            refine one_ (i := 18) (N := some 50) (My.Mb 23 524287) rfl rfl (one_of HT_.out (by kernel_rfl)) (by decide) (fun K hK => ?_)
            refine goes_ Try.func60 (by kernel_rfl) rfl #[.pointer (some ⟨p, 0, none⟩)] (by rfl) rfl rfl My.gx ?_
            refine (disk_Disk_Used.calls hHeld).mono ?_
            rintro e W4 ⟨rfl, hb⟩
            refine ⟨_, rfl, ?_⟩
            refine hK.out _ _ (hHeld.up hb) (fun hHeld => ?_)
            clear hK K
            refine My.nm 50 ?_
            refine My.pv_ 19 51 23 1048575 HT_.out ?_
            refine My.pv_ 20 52 23 2097151 HT_.out ?_
            refine My.pv_ 21 53 23 4194303 HT_.out ?_
            refine My.pv_ 22 31 23 8388607 HT_.out ?_
            refine done_ (done_of HT_.out (by kernel_rfl)) ?_
            try go_wp2
            go_meet
            case rel => exact ⟨by simp [fullB, HOK.out, HLL.out], ⟨hHeld⟩, ⟨HF3.out.trans (Fr.of hb)⟩, ⟨(hb.block g8 (blk_lt HY3.out)).trans HY3.out⟩⟩
      case rest =>
        obtain ⟨rfl, HD3, HF3, HY3⟩ := hcut
        clear HD HF1 HF2 HY2 hwr
        cases hfu : fullB s n d with
        | true =>
          have e1 : R = (s, 151) := by rw [← HR.out]; unfold appS; rw [if_neg (by rw [HDD.out]; decide), if_neg HNR.out, if_pos hfu]
          subst e1
          clear HR hfu
          go_wp2
          go_ret
          exact ⟨rfl, HD3.out, HF3.out⟩
        | false =>
          have HFU := Aside0.mk hfu
          clear hfu
          by_cases hd0 : d.size = 0
          · have e1 : R = (s, 0) := by rw [← HR.out]; unfold appS; rw [if_neg (by rw [HDD.out]; decide), if_neg HNR.out, if_neg (by rw [HFU.out]; decide), if_pos hd0]
            subst e1
            obtain rfl : d = ⟨#[]⟩ := ByteArray.ext (Array.eq_empty_of_size_eq_zero hd0)
            clear HR HFU hd0 HDS
            go_wp2
            go_ret
            exact ⟨rfl, HD3.out, HF3.out⟩
          · have e1 : R = endS { s with L := putL s.L (appF s n d) } := by rw [← HR.out]; unfold appS; rw [if_neg (by rw [HDD.out]; decide), if_neg HNR.out, if_neg (by rw [HFU.out]; decide), if_neg hd0]
            have t1 : d.toList.isEmpty = false := by
              rw [ByteArray.toList_eq, List.isEmpty_eq_false_iff]
              intro he
              exact hd0 (by have := congrArg List.length he; simpa using this)
            have HE1 := Aside0.mk e1
            have HD0 := Aside0.mk hd0
            clear HR e1 hd0
            have hcat : (9223372036854775807 < F.f1.size + d.size) = False := eq_false (by have h1 := getL_size s.L n; rw [HFF.out] at h1; have h2 := HI0.out.use; have h3 := HI0.out.room; have h4 := HDS.out; omega)
            have hz3 := My.cz3 HY3
            go_upto_region 12 with (fail)
            have hY4 := blk_put HY3.out 0 (.int .i64 n) rfl
            refine at_world (J := fun W => DiskAt base W p bm s ∧ Fr p bm w W ∧ W.heap[g8]? = some (.cells #[.int .i64 n, .string (F.f1 ++ d), .int .i64 F.f2] 75 (0, 0))) ⟨(HD3.out.set_ HY3.out (by decide) (by decide)).set_ hY4 (by decide) (by decide), (HF3.out.fresh G8w.out _).fresh G8w.out _, blk_put hY4 1 (.string (F.f1 ++ d)) rfl⟩ ?_
            clear hY4 hz3 t1 HY3 HF3 HD3
            rintro W4 ⟨D4, F4, Y4⟩
            have HD4 := Aside0.mk (show DiskAt base W4.drew p bm s from D4.move (fun _ _ _ => rfl))
            have HF4 := Aside0.mk (show Fr p bm w W4.drew from ⟨F4.os, F4.tape, F4.output, F4.size, F4.block⟩)
            have HY4 := My.am Y4
            have hz4 := My.cz3 HY4
            obtain ⟨kv, hbp, hk5, k0, k1, k2, k3, k4, k5, fz⟩ := D4.cells
            clear hbp hk5 k0 k1 k2 k3 k4 fz D4 F4 Y4
            have hX : appF s n d = ⟨n, F.f1 ++ d, F.f2⟩ := by unfold appF; rw [HFF.out]
            obtain ⟨W5, hr5, hm5, hg5⟩ := HD4.out.map.put (appF s n d) (by have := HI0.out.len; omega) HN.out
            rw [hX] at hr5
            unfold valD at hr5
            have hi5 := app_inv HI0.out HNR.out HFU.out HD0.out
            have HD5 := Aside0.mk (HD4.out.remap hg5 hm5 hi5)
            have HF5 := Aside0.mk (HF4.out.grown hg5)
            clear hX hm5 hg5 hi5
            go_still_tail 6, (by kernel_rfl)
            have HCALL := Aside0.mk (disk_Disk_step.calls HD5.out)
            obtain ⟨s5, hs5⟩ : ∃ s5, ({ s with L := putL s.L (appF s n d) } : DS) = s5 := ⟨_, rfl⟩
            rw [hs5] at HCALL HE1
            clear hs5
            cases hls : lastS s5 with
            | true =>
              have e2 := HE1.out
              unfold endS at e2
              rw [if_pos hls] at e2
              subst e2
              have HK := Aside0.mk (stepS_keep s5)
              have HC2 := HCALL.out
              rw [hls] at HC2
              have HCA := Aside0.mk HC2
              clear HE1 HCALL hls HC2
              go_wp2_with (first
                | ((with_reducible refine gate_callee (f := 61) rfl ?_); refine goesL_ (some _) rfl rfl Try.func61 (by kernel_rfl) rfl #[.pointer (some ⟨p, 0, none⟩)] rfl My.gx ?_; (refine HCA.out.mono ?_); rintro e W6 ⟨rfl, hD6, hF6⟩; refine ⟨_, rfl, ?_⟩; have HF6 := Aside0.mk (HF5.out.trans hF6); obtain ⟨Ak, ck, hck, hfall⟩ := fall_own hD6; rw [HK.out] at hck hfall; have HFA := Aside0.mk hfall; clear hD6 hF6 hfall hz4 k5)
                | ((with_reducible refine gate_callee (f := 62) rfl ?_); refine goesL_ (some _) rfl rfl Try.func62 (by kernel_rfl) rfl #[.pointer (some ⟨p, 0, none⟩), .slice Ak s5.keep.length ck] rfl My.gx ?_; (refine HFA.out.mono ?_); rintro e W7 ⟨rfl, hD7, hF7⟩; refine ⟨_, rfl, ?_⟩; have HD7 := Aside0.mk hD7; have HF7 := Aside0.mk (HF6.out.trans hF7); clear hD7 hF7))
              go_ret
              exact ⟨rfl, HD7.out, HF7.out⟩
            | false =>
              have e2 := HE1.out
              unfold endS at e2
              rw [if_neg (by rw [hls]; decide)] at e2
              subst e2
              have HC2 := HCALL.out
              rw [hls] at HC2
              have HCA := Aside0.mk HC2
              clear HE1 HCALL hls HC2
              go_wp2_with (first
                | ((with_reducible refine gate_callee (f := 61) rfl ?_); refine goesL_ (some _) rfl rfl Try.func61 (by kernel_rfl) rfl #[.pointer (some ⟨p, 0, none⟩)] rfl My.gx ?_; (refine HCA.out.mono ?_); rintro e W6 ⟨rfl, hD6, hF6⟩; refine ⟨_, rfl, ?_⟩; have HD6 := Aside0.mk hD6; have HF6 := Aside0.mk (HF5.out.trans hF6); clear hD6 hF6))
              go_ret
              exact ⟨rfl, HD6.out, HF6.out⟩
end

end Go.Proofs.Ytkcpgaplpmbmoaa.PA
