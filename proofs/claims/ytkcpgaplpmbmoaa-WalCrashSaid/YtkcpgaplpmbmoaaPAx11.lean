/- A log on a disk, walked by hand; Lean checks it. -/
import Derived.Test.YtkcpgaplpmbmoaaPAx10
namespace Go.Proofs.Ytkcpgaplpmbmoaa.PA
open Go.RowKit Go.Proofs.YtkcpgaplpmbmoaaW.PrintWords Go.Proofs.YtkcpgaplpmbmoaaW.PrintLast Go.Proofs.YtkcpgaplpmbmoaaW.PrintMore
attribute [local go_sem] max2_int min2_int max_two min_two max_three min_three max_four min_four
set_option linter.unusedVariables false
set_option linter.unusedSimpArgs false

theorem eqA75 (d : Nat) (w : World) (x0 y0 : Int) (x1 y1 : ByteArray) (x2 y2 : Int) :
    (Op.equalIn (d + 2) 75 (.agg #[.int .i64 x0, .string x1, .int .i64 x2]) (.agg #[.int .i64 y0, .string y1, .int .i64 y2])).run Try.prog w = .ok (x0 == y0 && (x1.toList == y1.toList && (x2 == y2))) w := by
  refine eqA_of Try.underlying75 (by kernel_rfl) ?_
  refine eqf_cons (by rfl) (by go_simp; rfl) (by go_simp; rfl) (by go_simp) ?_
  refine eqf_cons (by rfl) (by go_simp; rfl) (by go_simp; rfl) (by go_simp) ?_
  exact eqf_last (by rfl) (by go_simp; rfl) (by go_simp; rfl) (by go_simp)
/-! #### the power goes -/
def fallM (ks : List Int) (i : Nat) : Int := if i < ks.length then mx (rd ks i) 0 else 0
def fallZ (ks : List Int) (i : Nat) (x : S75) : Int := x.f2 + mn (fallM ks i) ((x.f1.size : Int) - x.f2)
def fallX (ks : List Int) (i : Nat) (x : S75) : S75 := ⟨x.f0, x.f1.extract 0 (fallZ ks i x).toNat, fallZ ks i x⟩
def fallL (ks : List Int) : Nat → List S75 → List S75
  | _, [] => []
  | i, x :: r => if fallZ ks i x = 0 then fallL ks (i + 1) r else fallX ks i x :: fallL ks (i + 1) r
def fallS (ks : List Int) (s : DS) : DS := { dead := true, room := s.room, armed := 0, keep := [], L := fallL ks 0 s.L }
theorem fallM_nonneg (ks : List Int) (i : Nat) : 0 ≤ fallM ks i := by
  unfold fallM mx
  split <;> (try split) <;> omega
theorem fallZ_in {ks : List Int} {i : Nat} {x : S75} (h : 0 ≤ x.f2 ∧ x.f2 ≤ (x.f1.size : Int) ∧ 0 < x.f1.size) : x.f2 ≤ fallZ ks i x ∧ fallZ ks i x ≤ (x.f1.size : Int) := by
  have := fallM_nonneg ks i
  unfold fallZ mn
  split <;> omega
theorem fallX_size {ks : List Int} {i : Nat} {x : S75} (h : 0 ≤ x.f2 ∧ x.f2 ≤ (x.f1.size : Int) ∧ 0 < x.f1.size) : ((fallX ks i x).f1.size : Int) = fallZ ks i x := by
  have := fallZ_in (ks := ks) (i := i) h
  simp only [fallX, ByteArray.size_extract]
  omega
theorem fallL_app (ks : List Int) (x : S75) : ∀ (A : List S75) (i : Nat), fallL ks i (A ++ [x]) = fallL ks i A ++ (if fallZ ks (i + A.length) x = 0 then [] else [fallX ks (i + A.length) x])
  | [], i => by
    simp only [List.nil_append, fallL, List.length_nil, Nat.add_zero]
  | y :: r, i => by
    have ih := fallL_app ks x r (i + 1)
    simp only [List.cons_append, fallL, List.length_cons, ih]
    rw [show i + 1 + r.length = i + (r.length + 1) by omega]
    split <;> simp
theorem fallL_nums (ks : List Int) : ∀ (A : List S75) (i : Nat), (numsL (fallL ks i A)).Sublist (numsL A)
  | [], i => by simp [fallL, numsL]
  | y :: r, i => by
    have ih := fallL_nums ks r (i + 1)
    simp only [fallL, numsL, List.map_cons] at ih ⊢
    split
    · exact ih.cons _
    · simp only [List.map_cons]
      exact ih.cons_cons _
theorem fallL_mem (ks : List Int) : ∀ (A : List S75) (i : Nat), (∀ x ∈ A, 0 ≤ x.f2 ∧ x.f2 ≤ (x.f1.size : Int) ∧ 0 < x.f1.size) → ∀ y ∈ fallL ks i A, (∃ x ∈ A, y.f0 = x.f0) ∧ 0 ≤ y.f2 ∧ y.f2 ≤ (y.f1.size : Int) ∧ 0 < y.f1.size
  | [], i, _, y, hy => by simp [fallL] at hy
  | z :: r, i, h, y, hy => by
    have hz := h z (by simp)
    have ih := fallL_mem ks r (i + 1) (fun x hx => h x (by simp [hx]))
    have up : ∀ y ∈ fallL ks (i + 1) r, (∃ x ∈ z :: r, y.f0 = x.f0) ∧ 0 ≤ y.f2 ∧ y.f2 ≤ (y.f1.size : Int) ∧ 0 < y.f1.size := fun y hy => by
      obtain ⟨⟨x, hx, e⟩, h2⟩ := ih y hy
      exact ⟨⟨x, by simp [hx], e⟩, h2⟩
    simp only [fallL] at hy
    split at hy
    · exact up y hy
    · rcases List.mem_cons.1 hy with rfl | hy
      · have e1 := fallX_size (ks := ks) (i := i) hz
        have e2 := fallZ_in (ks := ks) (i := i) hz
        refine ⟨⟨z, by simp, rfl⟩, ?_, ?_, ?_⟩
        · show 0 ≤ fallZ ks i z; omega
        · show fallZ ks i z ≤ _; omega
        · omega
      · exact up y hy
theorem fallL_use (ks : List Int) : ∀ (A : List S75) (i : Nat), (∀ x ∈ A, 0 ≤ x.f2 ∧ x.f2 ≤ (x.f1.size : Int) ∧ 0 < x.f1.size) → useL (fallL ks i A) ≤ useL A
  | [], i, _ => by simp [fallL]
  | z :: r, i, h => by
    have hz := h z (by simp)
    have ih := fallL_use ks r (i + 1) (fun x hx => h x (by simp [hx]))
    have e1 := fallX_size (ks := ks) (i := i) hz
    have e2 := fallZ_in (ks := ks) (i := i) hz
    simp only [fallL]
    split
    · simp only [useL, List.map_cons, List.sum_cons] at ih ⊢; omega
    · simp only [useL, List.map_cons, List.sum_cons] at ih ⊢; omega
theorem fallL_len (ks : List Int) (A : List S75) (i : Nat) : (fallL ks i A).length ≤ A.length := by
  have := (fallL_nums ks A i).length_le
  simpa [numsL] using this
theorem srt_of_nums {A : List S75} (h : (numsL A).Pairwise (fun x y => x < y)) : A.Pairwise (fun x y => x.f0 < y.f0) := by
  unfold numsL at h
  rwa [List.pairwise_map] at h
theorem nums_of_srt {A : List S75} (h : A.Pairwise (fun x y => x.f0 < y.f0)) : (numsL A).Pairwise (fun x y => x < y) := by
  unfold numsL
  rwa [List.pairwise_map]
theorem numsL_app (A B : List S75) : numsL (A ++ B) = numsL A ++ numsL B := by simp [numsL]
theorem srt_mid {F r : List S75} {x x' : S75} (h : (F ++ x :: r).Pairwise (fun x y => x.f0 < y.f0)) (e : x'.f0 = x.f0) : (F ++ x' :: r).Pairwise (fun x y => x.f0 < y.f0) := by
  have h1 := nums_of_srt h
  refine srt_of_nums ?_
  have : numsL (F ++ x' :: r) = numsL (F ++ x :: r) := by simp [numsL, e]
  rw [this]
  exact h1
theorem delL_mid {F r : List S75} {x : S75} (h : (F ++ x :: r).Pairwise (fun x y => x.f0 < y.f0)) : delL (F ++ x :: r) x.f0 = F ++ r := by
  obtain ⟨h1, h2, h3⟩ := List.pairwise_append.1 h
  obtain ⟨h4, h5⟩ := List.pairwise_cons.1 h2
  unfold delL
  rw [List.filter_append, List.filter_cons]
  simp only [decide_true, Bool.not_true, Bool.false_eq_true, if_false]
  congr 1
  · refine List.filter_eq_self.2 (fun y hy => ?_)
    have := h3 y hy x (by simp)
    simp; omega
  · refine List.filter_eq_self.2 (fun y hy => ?_)
    have := h4 y hy
    simp; omega
theorem insL_mid {r : List S75} {x : S75} : ∀ F : List S75, (∀ y ∈ F, y.f0 < x.f0) → (∀ y ∈ r, x.f0 < y.f0) → insL x (F ++ r) = F ++ x :: r
  | [], _, h2 => by
    cases r with
    | nil => rfl
    | cons y r => simp [insL, h2 y (by simp)]
  | z :: F, h1, h2 => by
    have hz := h1 z (by simp)
    have : ¬ x.f0 < z.f0 := by omega
    simp only [List.cons_append, insL, if_neg this, insL_mid F (fun y hy => h1 y (by simp [hy])) h2]
theorem putL_mid {F r : List S75} {x x' : S75} (h : (F ++ x :: r).Pairwise (fun x y => x.f0 < y.f0)) (e : x'.f0 = x.f0) : putL (F ++ x :: r) x' = F ++ x' :: r := by
  obtain ⟨h1, h2, h3⟩ := List.pairwise_append.1 h
  obtain ⟨h4, h5⟩ := List.pairwise_cons.1 h2
  unfold putL
  rw [e, delL_mid h]
  exact insL_mid F (fun y hy => by rw [e]; exact h3 y hy x (by simp)) (fun y hy => by rw [e]; exact h4 y hy)
/-- What the map holds ahead of the i-th file. -/
def fallA (ks : List Int) (L : List S75) (i : Nat) : List S75 := fallL ks 0 (L.take i) ++ L.drop i
theorem fallA_inv {ks : List Int} {s : DS} (h : Inv s) (i : Nat) : Inv { s with L := fallA ks s.L i } := by
  have hd : ∀ x ∈ s.L.take i, 0 ≤ x.f2 ∧ x.f2 ≤ (x.f1.size : Int) ∧ 0 < x.f1.size := fun x hx => h.dat x (List.mem_of_mem_take hx)
  have hm : ∀ y ∈ fallA ks s.L i, (∃ x ∈ s.L, y.f0 = x.f0) ∧ 0 ≤ y.f2 ∧ y.f2 ≤ (y.f1.size : Int) ∧ 0 < y.f1.size := fun y hy => by
    rcases List.mem_append.1 hy with hy | hy
    · obtain ⟨⟨x, hx, e⟩, h2⟩ := fallL_mem ks _ 0 hd y hy
      exact ⟨⟨x, List.mem_of_mem_take hx, e⟩, h2⟩
    · have := List.mem_of_mem_drop hy
      exact ⟨⟨y, this, rfl⟩, h.dat y this⟩
  have hn : (numsL (fallA ks s.L i)).Sublist (numsL s.L) := by
    unfold fallA
    rw [numsL_app]
    have h2 := (fallL_nums ks (s.L.take i) 0).append (List.Sublist.refl (numsL (s.L.drop i)))
    rw [← numsL_app (s.L.take i) (s.L.drop i), List.take_append_drop] at h2
    exact h2
  refine ⟨srt_of_nums ((nums_of_srt h.srt).sublist hn), fun x hx => ?_, fun x hx => (hm x hx).2, ?_, h.room, ?_, h.arm⟩
  · obtain ⟨⟨y, hy, e⟩, _⟩ := hm x hx
    rw [e]
    exact h.num y hy
  · have e1 := fallL_use ks (s.L.take i) 0 hd
    have e2 := useL_app (s.L.take i) (s.L.drop i)
    rw [List.take_append_drop] at e2
    have := h.use
    show useL (fallA ks s.L i) ≤ s.room
    unfold fallA
    rw [useL_app]
    omega
  · have := hn.length_le
    rw [numsL_len, numsL_len] at this
    exact Nat.le_trans this h.len
theorem fallS_inv {ks : List Int} {s : DS} (h : Inv s) : Inv (fallS ks s) := by
  have := fallA_inv (ks := ks) h s.L.length
  have e : fallA ks s.L s.L.length = fallL ks 0 s.L := by simp [fallA]
  rw [e] at this
  exact ⟨this.srt, this.num, this.dat, this.use, this.room, this.len, by show (0:Int) ≤ 0; omega, by show (0:Int) ≤ _; omega⟩
section
variable {base p bm : Nat} {w : World} {s : DS}
theorem DiskAt.remap {W W' : World} {L : List S75} (h : DiskAt base W p bm s) (hg : W.grownBy W' (some bm)) (hm : MapAt W' bm L) (hi : Inv { s with L := L }) : DiskAt base W' p bm { s with L := L } := by
  obtain ⟨kv, hb, hk⟩ := h.blk
  have hne := h.ne
  obtain ⟨es, clock, hbm⟩ := h.map.blk
  refine ⟨hi, ⟨kv, (hg.block p (blk_lt hb) (by simpa using hne)).trans hb, Kd.R_mono (Kd.R_step (Kd.R_bound hk) (fun k ho hk => hg.block k hk ?_)) (fun _ _ => trivial)⟩, hm, h.hp, h.hm⟩
  obtain ⟨_, _, _, q, hq, cells, hc⟩ := ho
  intro e
  injection e with e
  rw [e, hbm] at hc
  cases hc
theorem DiskAt.set {W : World} {g j : Nat} {u : Value} (h : DiskAt base W p bm s) (hp : p ≠ g) (hm : bm ≠ g) (hk : ∀ kv, (Kd.int .i64).R 3 W base (fun _ => True) kv s.keep → kv.ownBlock ≠ some g) : DiskAt base (W.setCell ⟨g, j, none⟩ u) p bm s := by
  obtain ⟨kv, hb, hkk⟩ := h.blk
  have h2 := hk kv hkk
  refine ⟨h.inv, ⟨kv, (Below.heap_setCell W ⟨g, j, none⟩ u p hp).trans hb, ?_⟩, h.map.move (Below.heap_setCell W ⟨g, j, none⟩ u bm hm), h.hp, h.hm⟩
  obtain ⟨h0, inner, ho, hr⟩ := hkk
  exact ⟨h0, inner, own_move ho (fun k hk => Below.heap_setCell W ⟨g, j, none⟩ u k (fun e => h2 (by rw [hk]; exact congrArg some e))), hr.imp_ (fun _ _ hp => hp)⟩
/-- A store into a block of another type. -/
theorem DiskAt.set_ {W : World} {g j t : Nat} {u : Value} {cells : Array Value} (h : DiskAt base W p bm s) (hg : W.heap[g]? = some (.cells cells t (0, 0))) (h1 : t ≠ 37) (h3 : t ≠ 3) : DiskAt base (W.setCell ⟨g, j, none⟩ u) p bm s := by
  refine h.set ?_ ?_ ?_
  · obtain ⟨kv, hb, _⟩ := h.blk
    rintro rfl
    rw [hb] at hg
    injection hg with hg
    injection hg with _ hg
    exact h1 hg.symm
  · obtain ⟨es, clock, hbm⟩ := h.map.blk
    rintro rfl
    rw [hbm] at hg
    cases hg
  · intro kv hk e
    obtain ⟨cs, hc⟩ := Kd.R_typed hk g e
    rw [hc] at hg
    injection hg with hg
    injection hg with _ hg
    exact h3 hg.symm
attribute [local go_sem high] eqA75
set_option maxHeartbeats 8000000 in
set_option maxRecDepth 100000 in
theorem disk_Disk_fall.calls (h : DiskAt base w p bm s) (Ak : Option Addr) (ck : Nat) (ks : List Int) (hr : (Kd.int .i64).C w Ak ks.length ks) (hck : ks.length ≤ ck) (hkeep : ∀ W, Fr p bm w W → (Kd.int .i64).C W Ak ks.length ks) :
    Calls Try.prog 62 #[.pointer (some ⟨p, 0, none⟩), .slice Ak ks.length ck] w fun e w' => e = .returned (.tuple #[]) ∧ DiskAt base w' p bm (fallS ks s) ∧ Fr p bm w w' := by
  have hu40 := Try.underlying75
  have HD := Aside0.mk h
  have HK := Aside0.mk hkeep
  have HCK := Aside0.mk hck
  have HI0 := Aside0.mk h.inv
  have hlen : ks.length ≤ 9223372036854775807 := hr.2.1
  have HLK := Aside0.mk hlen
  clear h hkeep hr hck hlen
  go_enter Try.func62, Try.ntmps62
  go_wp2_with ((with_reducible refine gate_callee (f := 35) rfl ?_); refine goesL_ (some _) rfl rfl Try.func35 (by kernel_rfl) rfl #[.pointer (some ⟨p, 0, none⟩)] rfl My.gx ?_; (refine (disk_Disk_Files.calls HD.out).mono ?_); rintro e W1 ⟨v, rfl, hR, hb⟩; refine ⟨_, rfl, ?_⟩; obtain ⟨A, c, rfl, hlc, hC⟩ := Kd.R_reads hR; rw [numsL_len] at hC hlc ⊢; have HF := Aside0.mk (fun W (hf : Fr p bm W1 W) => Kd.R_reads' ((HD.out.up hb).row hf hR (by decide))); have HB0 := Aside0.mk (Fr.of (p := p) (bm := bm) hb); replace HD := Aside0.mk (HD.out.up hb); clear hR hC hlc hb)
  go_loopg [11] (s.L.length + 1) (fun kq v11 w' => ∃ (i : Nat) (x : Int), v11 = .int .i64 x ∧ Aside0 (x = (i : Int)) ∧ Aside0 (kq + i = s.L.length + 1) ∧ Aside0 (i ≤ s.L.length) ∧ Aside0 (DiskAt base w' p bm { s with L := fallA ks s.L i }) ∧ Aside0 (Fr p bm W1 w'))
  case atStart => exact ⟨0, _, rfl, ⟨rfl⟩, ⟨rfl⟩, ⟨Nat.zero_le _⟩, ⟨by have := HD.out; simpa [fallA, fallL] using this⟩, ⟨Fr.refl _ _ _⟩⟩
  case round =>
    clear HD
    obtain ⟨i, x, rfl, hx, hk, hi, HD, HB⟩ := hrel
    by_cases c9 : i < s.L.length
    · have q1 : x < (s.L.length : Int) := by have := hx.out; omega
      have p1 : (0 : Int) ≤ x := by have := hx.out; omega
      have c3 : decide (x < (s.L.length : Int)) = true := decide_eq_true q1
      obtain ⟨kv, hbp, hk5, k0, k1, k2, k3, k4, k5, fz⟩ := HD.out.cells
      clear hbp hk5 k0 k1 k2 k3 k4 fz
      obtain ⟨ad, e1, x0⟩ := at_I (HF.out _ HB.out).2.2 x p1 (by rw [numsL_len]; exact q1)
      cases e1
      have hx1 := hx.out
      have hmem := mem40 s.L i c9
      have hr := rd_nums s.L i c9
      have hdr := drop40 s.L i c9
      have htk := take40 s.L i c9
      rw [← hx1] at hmem hr hdr htk
      rw [hr] at x0
      have hnum := HI0.out.num _ hmem
      have hdat := HI0.out.dat _ hmem
      have hA : fallA ks s.L i = fallL ks 0 (s.L.take i) ++ rd_T75 s.L x :: s.L.drop (i + 1) := by unfold fallA; rw [hdr]
      have hsrt := HD.out.inv.srt
      have hsrt2 : (fallL ks 0 (s.L.take i) ++ rd_T75 s.L x :: s.L.drop (i + 1)).Pairwise (fun x y => x.f0 < y.f0) := by rw [← hA]; exact hsrt
      have hget : getL (fallL ks 0 (s.L.take i) ++ rd_T75 s.L x :: s.L.drop (i + 1)) (rd_T75 s.L x).f0 = rd_T75 s.L x := getL_mem hsrt2 (by simp)
      have hwn := wfn hnum.1 (show (rd_T75 s.L x).f0 ≤ 9223372036854775807 by omega)
      have hw : IntKind.i64.wrap (x + 1) = x + 1 := by have := HI0.out.len; rw [IntKind.wrap_i64]; omega
      have hmap := HD.out.map
      simp only [] at hmap
      rw [hA] at hmap
      have HM := Aside0.mk hmap
      have HW := Aside0.mk hwn
      have HG := Aside0.mk hget
      have HA := Aside0.mk hA
      have HS := Aside0.mk hsrt2
      have HDT := Aside0.mk hdat
      have HTK := Aside0.mk htk
      have HCI := Aside0.mk c9
      have HMEM := Aside0.mk hmem
      clear hmap hwn hget hA hsrt hsrt2 hnum hdat hr hdr htk hmem hx1 c9
      have p2 := eq_true p1
      have q2 := eq_true q1
      obtain ⟨X, hX⟩ : ∃ X, rd_T75 s.L x = X := ⟨_, rfl⟩
      rw [hX] at x0
      have HX := Aside0.mk hX
      rw [hX] at HM HW HG HA HS HDT HTK HMEM
      clear hX
      have hlook := HM.out.look X.f0 HW.out
      have K5 := Aside0.mk k5
      rw [HG.out] at hlook
      unfold valD at hlook
      go_upto_region 4 with (first
        | ((with_reducible refine gate_dst (N := 6) rfl ?_); refine My.bx 6 #[.int .i64 0, .string ⟨#[]⟩, .int .i64 0] 75 ?_; intro g6 hg6 w6 hbox hb; have HM6 := Aside0.mk (HM.out.move (hb.block bm HM.out.lt)); have BX := My.am hbox; have HB6 := Aside0.mk hb; have HG6 := Aside0.mk hg6; replace k5 := (hb.cell (World.block_lt_of_cell? _ _ k5)).trans k5; replace x0 := (hb.cell (World.block_lt_of_cell? _ _ x0)).trans x0; have hz := My.cz3 BX; have G6 := Aside0.mk (show wr.heap.size ≤ g6 by rw [hg6]; exact Nat.le_refl _); clear hlook hb hbox hg6))
      clear hz
      refine at_world (J := fun W => Below wr.heap.size wr W ∧ W.heap[g6]? = some (.cells #[.int .i64 X.f0, .string X.f1, .int .i64 X.f2] 75 (0, 0)) ∧ Fr p bm wr W) ⟨below_set (below_set (below_set HB6.out G6.out) G6.out) G6.out, My.put3 BX.out, (((Fr.of HB6.out).fresh G6.out _).fresh G6.out _).fresh G6.out _⟩ ?_
      clear BX HB6 HM6
      rintro W7 ⟨B7, Y7, F7⟩
      have HB7 := Aside0.mk B7
      have HY7 := Aside0.mk Y7
      have HF7 := Aside0.mk F7
      replace k5 := (B7.cell (World.block_lt_of_cell? _ _ K5.out)).trans K5.out
      have hk7 := HK.out W7 ((HB0.out.trans HB.out).trans F7)
      have HK7 := Aside0.mk hk7
      have hz := My.cz3 HY7
      clear B7 Y7 F7 hk7 x0
      go_upto_if 25 with (fail)
      go_cut [7] (fun v7 wc => v7 = .int .i64 (fallM ks i) ∧ wc = W7)
      case first =>
        by_cases c : i < ks.length
        · have hx1 := hx.out
          have q3 : x < (ks.length : Int) := by omega
          have c4 : decide (x < (ks.length : Int)) = true := decide_eq_true q3
          obtain ⟨ad2, e2, y0⟩ := at_I HK7.out x p1 q3
          cases e2
          have hm : fallM ks i = mx (rd ks x) 0 := by unfold fallM; rw [if_pos c, hx1]
          obtain ⟨ji, hji⟩ : ∃ j_ : Int, mx (rd ks x) 0 = j_ := ⟨_, rfl⟩
          rw [hji] at hm
          have hji_ : (if rd ks x < 0 then 0 else rd ks x) = ji := hji
          have HMM := Aside0.mk hm
          clear hm hx1 c hji
          have q4 := eq_true q3
          rw [c4]
          go_wp2
          go_meet
          case rel => exact ⟨by rw [HMM.out], rfl⟩
        · have hx1 := hx.out
          have c4 : decide (x < (ks.length : Int)) = false := decide_eq_false (by omega)
          have c5 : (x < (ks.length : Int)) = False := eq_false (by omega)
          have hm : fallM ks i = 0 := by unfold fallM; rw [if_neg c]
          have HMM := Aside0.mk hm
          clear hm hx1 c
          rw [c4]
          go_wp2
          go_meet
          case rel => exact ⟨by rw [HMM.out], rfl⟩
      case rest =>
        obtain ⟨rfl, rfl⟩ := hcut
        have hmax : X.f1.size ≤ 200000 := by have h1 := useL_mem HMEM.out; have h2 := HI0.out.use; have h3 := HI0.out.room; omega
        obtain ⟨z, hz8⟩ : ∃ z_ : Int, fallZ ks i X = z_ := ⟨_, rfl⟩
        have hzi := fallZ_in (ks := ks) (i := i) HDT.out
        rw [hz8] at hzi
        have hm0 := fallM_nonneg ks i
        have hmn : (if (X.f1.size : Int) - X.f2 < fallM ks i then (X.f1.size : Int) - X.f2 else fallM ks i) = z - X.f2 := by
          have : X.f2 + mn (fallM ks i) ((X.f1.size : Int) - X.f2) = z := hz8
          unfold mn at this
          omega
        have z0 : (0 : Int) ≤ z := by have := HDT.out; omega
        have z1 : z ≤ (X.f1.size : Int) := hzi.2
        have hw7 : wrap64 ((X.f1.size : Int) - X.f2) = (X.f1.size : Int) - X.f2 := by have := HDT.out; unfold wrap64; omega
        have hw8 : wrap64 (X.f2 + (z - X.f2)) = z := (by have e : X.f2 + (z - X.f2) = z := (by omega); rw [e]; unfold wrap64; omega)
        have hmx : max z 0 = z := by omega
        have HZ8 := Aside0.mk hz8
        clear hzi hm0 hz8 hmax
        have z0t := eq_true z0
        have z1t := eq_true z1
        have z0d := decide_eq_true z0
        have z1d := decide_eq_true z1
        go_upto_region 9 with (fail)
        have hsz : (((X.f1.extract 0 z.toNat).size : Nat) : Int) = z := by rw [ByteArray.size_extract]; omega
        clear hz
        refine at_world (J := fun W => Below wr.heap.size wr W ∧ W.heap[g6]? = some (.cells #[.int .i64 X.f0, .string (X.f1.extract 0 z.toNat), .int .i64 z] 75 (0, 0)) ∧ Fr p bm wr W) ⟨below_set (below_set HB7.out G6.out) G6.out, blk_put (cs' := #[.int .i64 X.f0, .string (X.f1.extract 0 z.toNat), .int .i64 z]) (blk_put (cs' := #[.int .i64 X.f0, .string (X.f1.extract 0 z.toNat), .int .i64 X.f2]) HY7.out 1 _ rfl) 2 _ rfl, (HF7.out.fresh G6.out _).fresh G6.out _⟩ ?_
        rintro W8 ⟨B8, Y8, F8⟩
        have HB8 := Aside0.mk B8
        have HY8 := Aside0.mk Y8
        have HF8 := Aside0.mk F8
        replace k5 := (B8.cell (World.block_lt_of_cell? _ _ K5.out)).trans K5.out
        have hz8 := My.cz3 HY8
        obtain ⟨W9, hr9, hm9, hg9⟩ := (show MapAt W8.drew bm _ from HM.out.move (B8.block bm HM.out.lt)).put ⟨X.f0, X.f1.extract 0 z.toNat, z⟩ (by have h8 := HD.out.inv.len; simp only [] at h8; rw [HA.out] at h8; omega) HW.out
        unfold valD at hr9
        rw [putL_mid (x' := (⟨X.f0, X.f1.extract 0 z.toNat, z⟩ : S75)) HS.out rfl] at hm9
        have HM9 := Aside0.mk hm9
        have HG9 := Aside0.mk hg9
        clear hm9 hg9 B8 Y8 F8 HY7 HF7 HB7 HK7
        change (Instr.mapUpdate 35 (.map (some bm)) (.int .i64 X.f0) (.agg #[.int .i64 X.f0, .string (X.f1.extract 0 z.toNat), .int .i64 z])).run Try.prog W8.drew = .ok () W9 at hr9
        have hgb : g6 ≠ bm := by
          obtain ⟨es, clock, hbm⟩ := HM.out.blk
          have := blk_lt hbm
          have := G6.out
          omega
        have HY9 := My.am ((HG9.out.block g6 (blk_lt HY8.out) (by simpa using hgb)).trans HY8.out)
        have hz9 := My.cz3 HY9
        have k9 : W9.cell? ⟨p, 5, none⟩ = some (.map (some bm)) := by
          have hne := HD.out.ne
          have h5 : W8.cell? ⟨p, 5, none⟩ = some (.map (some bm)) := k5
          exact (World.cell?_of_block (HG9.out.block p (World.block_lt_of_cell? W8 _ h5) (by simpa using hne))).trans h5
        have heq : ((X.f1.extract 0 z.toNat).toList.isEmpty && z == 0) = decide (z = 0) := by
          by_cases c : z = 0
          · subst c
            have e3 : X.f1.extract 0 (Int.toNat 0) = ⟨#[]⟩ := ByteArray.ext (Array.eq_empty_of_size_eq_zero (by show (X.f1.extract 0 0).size = 0; rw [ByteArray.size_extract]; omega))
            rw [e3]
            simp
          · have e2 : (z == 0) = false := beq_eq_false_iff_ne.2 c
            rw [e2, Bool.and_false, decide_eq_false c]
        clear hgb
        go_still_tail 6, (by kernel_rfl)
        go_upto_if 59 with (fail)
        have hA1 : fallA ks s.L (i + 1) = fallL ks 0 (s.L.take i) ++ (if z = 0 then [] else [⟨X.f0, X.f1.extract 0 z.toNat, z⟩]) ++ s.L.drop (i + 1) := by
          have hl : (s.L.take i).length = i := by rw [List.length_take]; have := HCI.out; omega
          unfold fallA
          rw [HTK.out, fallL_app, hl, Nat.zero_add, HZ8.out]
          unfold fallX
          rw [HZ8.out]
        have hI1 := fallA_inv (ks := ks) HI0.out (i + 1)
        have HD8 := Aside0.mk (show DiskAt base W8.drew p bm { s with L := fallA ks s.L i } from (HD.out.up HB8.out).move (fun _ _ _ => rfl))
        have HF8d := Aside0.mk (show Fr p bm wr W8.drew from ⟨HF8.out.os, HF8.out.tape, HF8.out.output, HF8.out.size, HF8.out.block⟩)
        by_cases cz : z = 0
        · rw [if_pos cz, List.append_nil] at hA1
          rw [decide_eq_true cz]
          obtain ⟨W10, hr10, hm10, hg10⟩ := HM9.out.del X.f0 HW.out 0
          rw [show X.f0 = (⟨X.f0, X.f1.extract 0 z.toNat, z⟩ : S75).f0 from rfl, delL_mid (x := (⟨X.f0, X.f1.extract 0 z.toNat, z⟩ : S75)) (srt_mid HS.out rfl), ← hA1] at hm10
          have HR1 := Aside0.mk (HD8.out.remap (L := fallA ks s.L (i + 1)) (HG9.out.trans hg10) hm10 hI1)
          have HF10 := Aside0.mk ((HF8d.out.grown HG9.out).grown hg10)
          clear hm10 hg10 hI1 hA1 cz hz8 hz9 k5
          go_wp2
          have hI := HCI.out
          have hx1 := hx.out
          have hk1 := hk.out
          go_roundg (s.L.length - i)
          case measure => omega
          case rel => exact ⟨i + 1, x + 1, by first | rfl | (rw [hw]), ⟨by omega⟩, ⟨by omega⟩, ⟨by omega⟩, HR1, ⟨HB.out.trans HF10.out⟩⟩
        · rw [if_neg cz] at hA1
          rw [decide_eq_false cz]
          have hm9 := HM9.out
          rw [show fallL ks 0 (s.L.take i) ++ (⟨X.f0, X.f1.extract 0 z.toNat, z⟩ : S75) :: s.L.drop (i + 1) = fallA ks s.L (i + 1) by rw [hA1]; simp] at hm9
          have HR1 := Aside0.mk (HD8.out.remap (L := fallA ks s.L (i + 1)) HG9.out hm9 hI1)
          have HF10 := Aside0.mk (HF8d.out.grown HG9.out)
          clear hm9 hI1 hA1 cz hz8 hz9 k5
          go_wp2
          have hI := HCI.out
          have hx1 := hx.out
          have hk1 := hk.out
          go_roundg (s.L.length - i)
          case measure => omega
          case rel => exact ⟨i + 1, x + 1, by first | rfl | (rw [hw]), ⟨by omega⟩, ⟨by omega⟩, ⟨by omega⟩, HR1, ⟨HB.out.trans HF10.out⟩⟩
    · have hi2 := hi.out
      have hx1 := hx.out
      have c3 : decide (x < (s.L.length : Int)) = false := decide_eq_false (by omega)
      have e : fallA ks s.L i = fallL ks 0 s.L := by
        have : i = s.L.length := by omega
        subst this
        simp [fallA]
      have h1 := HD.out
      rw [e] at h1
      have HE := Aside0.mk h1
      obtain ⟨kv, hbp, hk5, k0, k1, k2, k3, k4, k5, fz⟩ := HE.out.cells
      clear h1 hi2 hx1 c9 HD e hbp hk5 k0 k2 k5
      go_wp2
      have i1 := fallS_inv (ks := ks) HI0.out
      have j : ∀ (d : Bool) (a : Int) (k : List Int), (0 ≤ a ∧ a ≤ 9223372036854775807) → Inv { dead := d, room := s.room, armed := a, keep := k, L := fallL ks 0 s.L } := fun d a k ha => ⟨i1.srt, i1.num, i1.dat, i1.use, i1.room, i1.len, ha⟩
      refine bodyPost_end (results_none rfl _ _ _) rfl ?_
      exact ⟨rfl, ((HE.out.put1 true (j _ _ _ HI0.out.arm)).put3 0 (j true 0 _ ⟨by decide, by decide⟩)).put4 (.slice none 0 0) [] (Kd.R_nil _ _ _ _ _) (j true 0 [] ⟨by decide, by decide⟩), HB0.out.trans ((((HB.out).setCell 1 _).setCell 3 _).setCell 4 _)⟩
end

end Go.Proofs.Ytkcpgaplpmbmoaa.PA
