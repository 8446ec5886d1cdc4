/- A log on a disk, and the document's, walked by hand; Lean checks it. -/
import Derived.Test.YtkcpgaplpmbmoaaGreatPAx12
namespace Go.Proofs.YtkcpgaplpmbmoaaGreat.PA
open Go.RowKit Go.Proofs.YtkcpgaplpmbmoaaGreatW.PrintWords Go.Proofs.YtkcpgaplpmbmoaaGreatW.PrintLast Go.Proofs.YtkcpgaplpmbmoaaGreatW.PrintMore
attribute [local go_sem] max2_int min2_int max_two min_two max_three min_three max_four min_four
set_option linter.unusedVariables false
set_option linter.unusedSimpArgs false

theorem eqA24 (d : Nat) (w : World) (x0 y0 : Int) (x1 y1 : ByteArray) (x2 y2 : Int) :
    (Op.equalIn (d + 2) 24 (.agg #[.int .i64 x0, .string x1, .int .i64 x2]) (.agg #[.int .i64 y0, .string y1, .int .i64 y2])).run Tryz.prog w = .ok (x0 == y0 && (x1.toList == y1.toList && (x2 == y2))) w := by
  refine eqA_of Tryz.underlying24 (by kernel_rfl) ?_
  refine eqf_cons (by rfl) (by go_simp; rfl) (by go_simp; rfl) (by go_simp) ?_
  refine eqf_cons (by rfl) (by go_simp; rfl) (by go_simp; rfl) (by go_simp) ?_
  exact eqf_last (by rfl) (by go_simp; rfl) (by go_simp; rfl) (by go_simp)
/-! #### the power goes -/
def fallM (ks : List Int) (i : Nat) : Int := if i < ks.length then mx (rd ks i) 0 else 0
def fallZ (ks : List Int) (i : Nat) (x : S24) : Int := x.f2 + mn (fallM ks i) ((x.f1.size : Int) - x.f2)
def fallX (ks : List Int) (i : Nat) (x : S24) : S24 := ⟨x.f0, x.f1.extract 0 (fallZ ks i x).toNat, fallZ ks i x⟩
def fallL (ks : List Int) : Nat → List S24 → List S24
  | _, [] => []
  | i, x :: r => if fallZ ks i x = 0 then fallL ks (i + 1) r else fallX ks i x :: fallL ks (i + 1) r
def fallS (ks : List Int) (s : DS) : DS := { dead := true, room := s.room, armed := 0, keep := [], L := fallL ks 0 s.L }
theorem fallM_nonneg (ks : List Int) (i : Nat) : 0 ≤ fallM ks i := by
  unfold fallM mx
  split <;> (try split) <;> omega
theorem fallZ_in {ks : List Int} {i : Nat} {x : S24} (h : 0 ≤ x.f2 ∧ x.f2 ≤ (x.f1.size : Int) ∧ 0 < x.f1.size) : x.f2 ≤ fallZ ks i x ∧ fallZ ks i x ≤ (x.f1.size : Int) := by
  have := fallM_nonneg ks i
  unfold fallZ mn
  split <;> omega
theorem fallX_size {ks : List Int} {i : Nat} {x : S24} (h : 0 ≤ x.f2 ∧ x.f2 ≤ (x.f1.size : Int) ∧ 0 < x.f1.size) : ((fallX ks i x).f1.size : Int) = fallZ ks i x := by
  have := fallZ_in (ks := ks) (i := i) h
  simp only [fallX, ByteArray.size_extract]
  omega
theorem fallL_app (ks : List Int) (x : S24) : ∀ (A : List S24) (i : Nat), fallL ks i (A ++ [x]) = fallL ks i A ++ (if fallZ ks (i + A.length) x = 0 then [] else [fallX ks (i + A.length) x])
  | [], i => by
    simp only [List.nil_append, fallL, List.length_nil, Nat.add_zero]
  | y :: r, i => by
    have ih := fallL_app ks x r (i + 1)
    simp only [List.cons_append, fallL, List.length_cons, ih]
    rw [show i + 1 + r.length = i + (r.length + 1) by omega]
    split <;> simp
theorem fallL_nums (ks : List Int) : ∀ (A : List S24) (i : Nat), (numsL (fallL ks i A)).Sublist (numsL A)
  | [], i => by simp [fallL, numsL]
  | y :: r, i => by
    have ih := fallL_nums ks r (i + 1)
    simp only [fallL, numsL, List.map_cons] at ih ⊢
    split
    · exact ih.cons _
    · simp only [List.map_cons]
      exact ih.cons_cons _
theorem fallL_mem (ks : List Int) : ∀ (A : List S24) (i : Nat), (∀ x ∈ A, 0 ≤ x.f2 ∧ x.f2 ≤ (x.f1.size : Int) ∧ 0 < x.f1.size) → ∀ y ∈ fallL ks i A, (∃ x ∈ A, y.f0 = x.f0) ∧ 0 ≤ y.f2 ∧ y.f2 ≤ (y.f1.size : Int) ∧ 0 < y.f1.size
  | [], i, _, y, hy => by simp [fallL] at hy
  | z :: r, i, h, y, hy => by
    have hz := h z (by simp)
    have ih := fallL_mem ks r (i + 1) (fun x hx => h x (by simp [hx]))
    have up : ∀ y ∈ fallL ks (i + 1) r, (∃ x ∈ z :: r, y.f0 = x.f0) ∧ 0 ≤ y.f2 ∧ y.f2 ≤ (y.f1.size : Int) ∧ 0 < y.f1.size := fun y hy => by
      obtain ⟨⟨x, hx, e⟩, h2⟩ := ih y hy
      exact ⟨⟨x, by simp [hx], e⟩, h2⟩
    simp only [fallL] at hy
    split at hy
    · exact up y hy
    · rcases List.mem_cons.1 hy with rfl | hy
      · have e1 := fallX_size (ks := ks) (i := i) hz
        have e2 := fallZ_in (ks := ks) (i := i) hz
        refine ⟨⟨z, by simp, rfl⟩, ?_, ?_, ?_⟩
        · show 0 ≤ fallZ ks i z; omega
        · show fallZ ks i z ≤ _; omega
        · omega
      · exact up y hy
theorem fallL_use (ks : List Int) : ∀ (A : List S24) (i : Nat), (∀ x ∈ A, 0 ≤ x.f2 ∧ x.f2 ≤ (x.f1.size : Int) ∧ 0 < x.f1.size) → useL (fallL ks i A) ≤ useL A
  | [], i, _ => by simp [fallL]
  | z :: r, i, h => by
    have hz := h z (by simp)
    have ih := fallL_use ks r (i + 1) (fun x hx => h x (by simp [hx]))
    have e1 := fallX_size (ks := ks) (i := i) hz
    have e2 := fallZ_in (ks := ks) (i := i) hz
    simp only [fallL]
    split
    · simp only [useL, List.map_cons, List.sum_cons] at ih ⊢; omega
    · simp only [useL, List.map_cons, List.sum_cons] at ih ⊢; omega
theorem fallL_len (ks : List Int) (A : List S24) (i : Nat) : (fallL ks i A).length ≤ A.length := by
  have := (fallL_nums ks A i).length_le
  simpa [numsL] using this
theorem srt_of_nums {A : List S24} (h : (numsL A).Pairwise (fun x y => x < y)) : A.Pairwise (fun x y => x.f0 < y.f0) := by
  unfold numsL at h
  rwa [List.pairwise_map] at h
theorem nums_of_srt {A : List S24} (h : A.Pairwise (fun x y => x.f0 < y.f0)) : (numsL A).Pairwise (fun x y => x < y) := by
  unfold numsL
  rwa [List.pairwise_map]
theorem numsL_app (A B : List S24) : numsL (A ++ B) = numsL A ++ numsL B := by simp [numsL]
theorem srt_mid {F r : List S24} {x x' : S24} (h : (F ++ x :: r).Pairwise (fun x y => x.f0 < y.f0)) (e : x'.f0 = x.f0) : (F ++ x' :: r).Pairwise (fun x y => x.f0 < y.f0) := by
  have h1 := nums_of_srt h
  refine srt_of_nums ?_
  have : numsL (F ++ x' :: r) = numsL (F ++ x :: r) := by simp [numsL, e]
  rw [this]
  exact h1
theorem delL_mid {F r : List S24} {x : S24} (h : (F ++ x :: r).Pairwise (fun x y => x.f0 < y.f0)) : delL (F ++ x :: r) x.f0 = F ++ r := by
  obtain ⟨h1, h2, h3⟩ := List.pairwise_append.1 h
  obtain ⟨h4, h5⟩ := List.pairwise_cons.1 h2
  unfold delL
  rw [List.filter_append, List.filter_cons]
  simp only [decide_true, Bool.not_true, Bool.false_eq_true, if_false]
  congr 1
  · refine List.filter_eq_self.2 (fun y hy => ?_)
    have := h3 y hy x (by simp)
    simp; omega
  · refine List.filter_eq_self.2 (fun y hy => ?_)
    have := h4 y hy
    simp; omega
theorem insL_mid {r : List S24} {x : S24} : ∀ F : List S24, (∀ y ∈ F, y.f0 < x.f0) → (∀ y ∈ r, x.f0 < y.f0) → insL x (F ++ r) = F ++ x :: r
  | [], _, h2 => by
    cases r with
    | nil => rfl
    | cons y r => simp [insL, h2 y (by simp)]
  | z :: F, h1, h2 => by
    have hz := h1 z (by simp)
    have : ¬ x.f0 < z.f0 := by omega
    simp only [List.cons_append, insL, if_neg this, insL_mid F (fun y hy => h1 y (by simp [hy])) h2]
theorem putL_mid {F r : List S24} {x x' : S24} (h : (F ++ x :: r).Pairwise (fun x y => x.f0 < y.f0)) (e : x'.f0 = x.f0) : putL (F ++ x :: r) x' = F ++ x' :: r := by
  obtain ⟨h1, h2, h3⟩ := List.pairwise_append.1 h
  obtain ⟨h4, h5⟩ := List.pairwise_cons.1 h2
  unfold putL
  rw [e, delL_mid h]
  exact insL_mid F (fun y hy => by rw [e]; exact h3 y hy x (by simp)) (fun y hy => by rw [e]; exact h4 y hy)
/-- What the map holds ahead of the i-th file. -/
def fallA (ks : List Int) (L : List S24) (i : Nat) : List S24 := fallL ks 0 (L.take i) ++ L.drop i
theorem fallA_inv {ks : List Int} {s : DS} (h : Inv s) (i : Nat) : Inv { s with L := fallA ks s.L i } := by
  have hd : ∀ x ∈ s.L.take i, 0 ≤ x.f2 ∧ x.f2 ≤ (x.f1.size : Int) ∧ 0 < x.f1.size := fun x hx => h.dat x (List.mem_of_mem_take hx)
  have hm : ∀ y ∈ fallA ks s.L i, (∃ x ∈ s.L, y.f0 = x.f0) ∧ 0 ≤ y.f2 ∧ y.f2 ≤ (y.f1.size : Int) ∧ 0 < y.f1.size := fun y hy => by
    rcases List.mem_append.1 hy with hy | hy
    · obtain ⟨⟨x, hx, e⟩, h2⟩ := fallL_mem ks _ 0 hd y hy
      exact ⟨⟨x, List.mem_of_mem_take hx, e⟩, h2⟩
    · have := List.mem_of_mem_drop hy
      exact ⟨⟨y, this, rfl⟩, h.dat y this⟩
  have hn : (numsL (fallA ks s.L i)).Sublist (numsL s.L) := by
    unfold fallA
    rw [numsL_app]
    have h2 := (fallL_nums ks (s.L.take i) 0).append (List.Sublist.refl (numsL (s.L.drop i)))
    rw [← numsL_app (s.L.take i) (s.L.drop i), List.take_append_drop] at h2
    exact h2
  refine ⟨srt_of_nums ((nums_of_srt h.srt).sublist hn), fun x hx => ?_, fun x hx => (hm x hx).2, ?_, h.room, ?_, h.arm⟩
  · obtain ⟨⟨y, hy, e⟩, _⟩ := hm x hx
    rw [e]
    exact h.num y hy
  · have e1 := fallL_use ks (s.L.take i) 0 hd
    have e2 := useL_app (s.L.take i) (s.L.drop i)
    rw [List.take_append_drop] at e2
    have := h.use
    show useL (fallA ks s.L i) ≤ s.room
    unfold fallA
    rw [useL_app]
    omega
  · have := hn.length_le
    rw [numsL_len, numsL_len] at this
    exact Nat.le_trans this h.len
theorem fallS_inv {ks : List Int} {s : DS} (h : Inv s) : Inv (fallS ks s) := by
  have := fallA_inv (ks := ks) h s.L.length
  have e : fallA ks s.L s.L.length = fallL ks 0 s.L := by simp [fallA]
  rw [e] at this
  exact ⟨this.srt, this.num, this.dat, this.use, this.room, this.len, by show (0:Int) ≤ 0; omega, by show (0:Int) ≤ _; omega⟩
section
variable {base p bm : Nat} {w : World} {s : DS}
theorem DiskAt.remap {W W' : World} {L : List S24} (h : DiskAt base W p bm s) (hg : W.grownBy W' (some bm)) (hm : MapAt W' bm L) (hi : Inv { s with L := L }) : DiskAt base W' p bm { s with L := L } := by
  obtain ⟨kv, hb, hk⟩ := h.blk
  have hne := h.ne
  obtain ⟨es, clock, hbm⟩ := h.map.blk
  refine ⟨hi, ⟨kv, (hg.block p (blk_lt hb) (by simpa using hne)).trans hb, Kd.R_mono (Kd.R_step (Kd.R_bound hk) (fun k ho hk => hg.block k hk ?_)) (fun _ _ => trivial)⟩, hm, h.hp, h.hm⟩
  obtain ⟨_, _, _, q, hq, cells, hc⟩ := ho
  intro e
  injection e with e
  rw [e, hbm] at hc
  cases hc
theorem DiskAt.set {W : World} {g j : Nat} {u : Value} (h : DiskAt base W p bm s) (hp : p ≠ g) (hm : bm ≠ g) (hk : ∀ kv, (Kd.int .i64).R 3 W base (fun _ => True) kv s.keep → kv.ownBlock ≠ some g) : DiskAt base (W.setCell ⟨g, j, none⟩ u) p bm s := by
  obtain ⟨kv, hb, hkk⟩ := h.blk
  have h2 := hk kv hkk
  refine ⟨h.inv, ⟨kv, (Below.heap_setCell W ⟨g, j, none⟩ u p hp).trans hb, ?_⟩, h.map.move (Below.heap_setCell W ⟨g, j, none⟩ u bm hm), h.hp, h.hm⟩
  obtain ⟨h0, inner, ho, hr⟩ := hkk
  exact ⟨h0, inner, own_move ho (fun k hk => Below.heap_setCell W ⟨g, j, none⟩ u k (fun e => h2 (by rw [hk]; exact congrArg some e))), hr.imp_ (fun _ _ hp => hp)⟩
/-- A store into a block of another type. -/
theorem DiskAt.set_ {W : World} {g j t : Nat} {u : Value} {cells : Array Value} (h : DiskAt base W p bm s) (hg : W.heap[g]? = some (.cells cells t (0, 0))) (h1 : t ≠ 52) (h3 : t ≠ 3) : DiskAt base (W.setCell ⟨g, j, none⟩ u) p bm s := by
  refine h.set ?_ ?_ ?_
  · obtain ⟨kv, hb, _⟩ := h.blk
    rintro rfl
    rw [hb] at hg
    injection hg with hg
    injection hg with _ hg
    exact h1 hg.symm
  · obtain ⟨es, clock, hbm⟩ := h.map.blk
    rintro rfl
    rw [hbm] at hg
    cases hg
  · intro kv hk e
    obtain ⟨cs, hc⟩ := Kd.R_typed hk g e
    rw [hc] at hg
    injection hg with hg
    injection hg with _ hg
    exact h3 hg.symm
attribute [local go_sem high] eqA24
set_option maxHeartbeats 8000000 in
set_option maxRecDepth 100000 in
theorem disk_Disk_fall.calls (h : DiskAt base w p bm s) (Ak : Option Addr) (ck : Nat) (ks : List Int) (hr : (Kd.int .i64).C w Ak ks.length ks) (hck : ks.length ≤ ck) (hkeep : ∀ W, Fr p bm w W → (Kd.int .i64).C W Ak ks.length ks) :
    Calls Tryz.prog 67 #[.pointer (some ⟨p, 0, none⟩), .slice Ak ks.length ck] w fun e w' => e = .returned (.tuple #[]) ∧ DiskAt base w' p bm (fallS ks s) ∧ Fr p bm w w' := by
  have hu40 := Tryz.underlying24
  have HD := Aside0.mk h
  have HK := Aside0.mk hkeep
  have HCK := Aside0.mk hck
  have HI0 := Aside0.mk h.inv
  have hlen : ks.length ≤ 9223372036854775807 := hr.2.1
  have HLK := Aside0.mk hlen
  clear h hkeep hr hck hlen
  go_enter Tryz.func67, Tryz.ntmps67
  go_wp2_with ((with_reducible refine gate_callee (f := 28) rfl ?_); refine goesL_ (some _) rfl rfl Tryz.func28 (by kernel_rfl) rfl #[.pointer (some ⟨p, 0, none⟩)] rfl My.gx ?_; (refine (disk_Disk_Files.calls HD.out).mono ?_); rintro e W1 ⟨v, rfl, hR, hb⟩; refine ⟨_, rfl, ?_⟩; obtain ⟨A, c, rfl, hlc, hC⟩ := Kd.R_reads hR; rw [numsL_len] at hC hlc ⊢; have HF := Aside0.mk (fun W (hf : Fr p bm W1 W) => Kd.R_reads' ((HD.out.up hb).row hf hR (by decide))); have HB0 := Aside0.mk (Fr.of (p := p) (bm := bm) hb); replace HD := Aside0.mk (HD.out.up hb); clear hR hC hlc hb)
  go_loopg [11] (s.L.length + 1) (fun kq v11 w' => ∃ (i : Nat) (x : Int), v11 = .int .i64 x ∧ Aside0 (x = (i : Int)) ∧ Aside0 (kq + i = s.L.length + 1) ∧ Aside0 (i ≤ s.L.length) ∧ Aside0 (DiskAt base w' p bm { s with L := fallA ks s.L i }) ∧ Aside0 (Fr p bm W1 w'))
  case atStart => exact ⟨0, _, rfl, ⟨rfl⟩, ⟨rfl⟩, ⟨Nat.zero_le _⟩, ⟨by have := HD.out; simpa [fallA, fallL] using this⟩, ⟨Fr.refl _ _ _⟩⟩
  case round =>
    clear HD
    obtain ⟨i, x, rfl, hx, hk, hi, HD, HB⟩ := hrel
    by_cases c9 : i < s.L.length
    · have q1 : x < (s.L.length : Int) := by have := hx.out; omega
      have p1 : (0 : Int) ≤ x := by have := hx.out; omega
      have c3 : decide (x < (s.L.length : Int)) = true := decide_eq_true q1
      obtain ⟨kv, hbp, hk5, k0, k1, k2, k3, k4, k5, fz⟩ := HD.out.cells
      clear hbp hk5 k0 k1 k2 k3 k4 fz
      obtain ⟨ad, e1, x0⟩ := at_I (HF.out _ HB.out).2.2 x p1 (by rw [numsL_len]; exact q1)
      cases e1
      have hx1 := hx.out
      have hmem := mem40 s.L i c9
      have hr := rd_nums s.L i c9
      have hdr := drop40 s.L i c9
      have htk := take40 s.L i c9
      rw [← hx1] at hmem hr hdr htk
      rw [hr] at x0
      have hnum := HI0.out.num _ hmem
      have hdat := HI0.out.dat _ hmem
      have hA : fallA ks s.L i = fallL ks 0 (s.L.take i) ++ rd_T24 s.L x :: s.L.drop (i + 1) := by unfold fallA; rw [hdr]
      have hsrt := HD.out.inv.srt
      have hsrt2 : (fallL ks 0 (s.L.take i) ++ rd_T24 s.L x :: s.L.drop (i + 1)).Pairwise (fun x y => x.f0 < y.f0) := by rw [← hA]; exact hsrt
      have hget : getL (fallL ks 0 (s.L.take i) ++ rd_T24 s.L x :: s.L.drop (i + 1)) (rd_T24 s.L x).f0 = rd_T24 s.L x := getL_mem hsrt2 (by simp)
      have hwn := wfn hnum.1 (show (rd_T24 s.L x).f0 ≤ 9223372036854775807 by omega)
      have hw : IntKind.i64.wrap (x + 1) = x + 1 := by have := HI0.out.len; rw [IntKind.wrap_i64]; omega
      have hmap := HD.out.map
      simp only [] at hmap
      rw [hA] at hmap
      have HM := Aside0.mk hmap
      have HW := Aside0.mk hwn
      have HG := Aside0.mk hget
      have HA := Aside0.mk hA
      have HS := Aside0.mk hsrt2
      have HDT := Aside0.mk hdat
      have HTK := Aside0.mk htk
      have HCI := Aside0.mk c9
      have HMEM := Aside0.mk hmem
      clear hmap hwn hget hA hsrt hsrt2 hnum hdat hr hdr htk hmem hx1 c9
      have p2 := eq_true p1
      have q2 := eq_true q1
      obtain ⟨X, hX⟩ : ∃ X, rd_T24 s.L x = X := ⟨_, rfl⟩
      rw [hX] at x0
      have HX := Aside0.mk hX
      rw [hX] at HM HW HG HA HS HDT HTK HMEM
      clear hX
      have hlook := HM.out.look X.f0 HW.out
      have K5 := Aside0.mk k5
      rw [HG.out] at hlook
      unfold valD at hlook
      go_upto_region 4 with (first
        | ((with_reducible refine gate_dst (N := 6) rfl ?_); refine My.bx 6 #[.int .i64 0, .string ⟨#[]⟩, .int .i64 0] 24 ?_; intro g6 hg6 w6 hbox hb; have HM6 := Aside0.mk (HM.out.move (hb.block bm HM.out.lt)); have BX := My.am hbox; have HB6 := Aside0.mk hb; have HG6 := Aside0.mk hg6; replace k5 := (hb.cell (World.block_lt_of_cell? _ _ k5)).trans k5; replace x0 := (hb.cell (World.block_lt_of_cell? _ _ x0)).trans x0; have hz := My.cz3 BX; have G6 := Aside0.mk (show wr.heap.size ≤ g6 by rw [hg6]; exact Nat.le_refl _); clear hlook hb hbox hg6))
      clear hz
      refine at_world (J := fun W => Below wr.heap.size wr W ∧ W.heap[g6]? = some (.cells #[.int .i64 X.f0, .string X.f1, .int .i64 X.f2] 24 (0, 0)) ∧ Fr p bm wr W) ⟨below_set (below_set (below_set HB6.out G6.out) G6.out) G6.out, My.put3 BX.out, (((Fr.of HB6.out).fresh G6.out _).fresh G6.out _).fresh G6.out _⟩ ?_
      clear BX HB6 HM6
      rintro W7 ⟨B7, Y7, F7⟩
      have HB7 := Aside0.mk B7
      have HY7 := Aside0.mk Y7
      have HF7 := Aside0.mk F7
      replace k5 := (B7.cell (World.block_lt_of_cell? _ _ K5.out)).trans K5.out
      have hk7 := HK.out W7 ((HB0.out.trans HB.out).trans F7)
      have HK7 := Aside0.mk hk7
      have hz := My.cz3 HY7
      clear B7 Y7 F7 hk7 x0
      go_upto_if 25 with (fail)
      go_cut [7] (fun v7 wc => v7 = .int .i64 (fallM ks i) ∧ wc = W7)
      case first =>
        by_cases c : i < ks.length
        · have hx1 := hx.out
          have q3 : x < (ks.length : Int) := by omega
          have c4 : decide (x < (ks.length : Int)) = true := decide_eq_true q3
          obtain ⟨ad2, e2, y0⟩ := at_I HK7.out x p1 q3
          cases e2
          have hm : fallM ks i = mx (rd ks x) 0 := by unfold fallM; rw [if_pos c, hx1]
          obtain ⟨ji, hji⟩ : ∃ j_ : Int, mx (rd ks x) 0 = j_ := ⟨_, rfl⟩
          rw [hji] at hm
          have hji_ : (if rd ks x < 0 then 0 else rd ks x) = ji := hji
          have HMM := Aside0.mk hm
          clear hm hx1 c hji
          have q4 := eq_true q3
          rw [c4]
          go_wp2
          go_meet
          case rel => exact ⟨by rw [HMM.out], rfl⟩
        · have hx1 := hx.out
          have c4 : decide (x < (ks.length : Int)) = false := decide_eq_false (by omega)
          have c5 : (x < (ks.length : Int)) = False := eq_false (by omega)
          have hm : fallM ks i = 0 := by unfold fallM; rw [if_neg c]
          have HMM := Aside0.mk hm
          clear hm hx1 c
          rw [c4]
          go_wp2
          go_meet
          case rel => exact ⟨by rw [HMM.out], rfl⟩
      case rest =>
        obtain ⟨rfl, rfl⟩ := hcut
        have hmax : X.f1.size ≤ 200000 := by have h1 := useL_mem HMEM.out; have h2 := HI0.out.use; have h3 := HI0.out.room; omega
        obtain ⟨z, hz8⟩ : ∃ z_ : Int, fallZ ks i X = z_ := ⟨_, rfl⟩
        have hzi := fallZ_in (ks := ks) (i := i) HDT.out
        rw [hz8] at hzi
        have hm0 := fallM_nonneg ks i
        have hmn : (if (X.f1.size : Int) - X.f2 < fallM ks i then (X.f1.size : Int) - X.f2 else fallM ks i) = z - X.f2 := by
          have : X.f2 + mn (fallM ks i) ((X.f1.size : Int) - X.f2) = z := hz8
          unfold mn at this
          omega
        have z0 : (0 : Int) ≤ z := by have := HDT.out; omega
        have z1 : z ≤ (X.f1.size : Int) := hzi.2
        have hw7 : wrap64 ((X.f1.size : Int) - X.f2) = (X.f1.size : Int) - X.f2 := by have := HDT.out; unfold wrap64; omega
        have hw8 : wrap64 (X.f2 + (z - X.f2)) = z := (by have e : X.f2 + (z - X.f2) = z := (by omega); rw [e]; unfold wrap64; omega)
        have hmx : max z 0 = z := by omega
        have HZ8 := Aside0.mk hz8
        clear hzi hm0 hz8 hmax
        have z0t := eq_true z0
        have z1t := eq_true z1
        have z0d := decide_eq_true z0
        have z1d := decide_eq_true z1
        go_upto_region 9 with (fail)
        have hsz : (((X.f1.extract 0 z.toNat).size : Nat) : Int) = z := by rw [ByteArray.size_extract]; omega
        clear hz
        refine at_world (J := fun W => Below wr.heap.size wr W ∧ W.heap[g6]? = some (.cells #[.int .i64 X.f0, .string (X.f1.extract 0 z.toNat), .int .i64 z] 24 (0, 0)) ∧ Fr p bm wr W) ⟨below_set (below_set HB7.out G6.out) G6.out, blk_put (cs' := #[.int .i64 X.f0, .string (X.f1.extract 0 z.toNat), .int .i64 z]) (blk_put (cs' := #[.int .i64 X.f0, .string (X.f1.extract 0 z.toNat), .int .i64 X.f2]) HY7.out 1 _ rfl) 2 _ rfl, (HF7.out.fresh G6.out _).fresh G6.out _⟩ ?_
        rintro W8 ⟨B8, Y8, F8⟩
        have HB8 := Aside0.mk B8
        have HY8 := Aside0.mk Y8
        have HF8 := Aside0.mk F8
        replace k5 := (B8.cell (World.block_lt_of_cell? _ _ K5.out)).trans K5.out
        have hz8 := My.cz3 HY8
        obtain ⟨W9, hr9, hm9, hg9⟩ := (show MapAt W8.drew bm _ from HM.out.move (B8.block bm HM.out.lt)).put ⟨X.f0, X.f1.extract 0 z.toNat, z⟩ (by have h8 := HD.out.inv.len; simp only [] at h8; rw [HA.out] at h8; omega) HW.out
        unfold valD at hr9
        rw [putL_mid (x' := (⟨X.f0, X.f1.extract 0 z.toNat, z⟩ : S24)) HS.out rfl] at hm9
        have HM9 := Aside0.mk hm9
        have HG9 := Aside0.mk hg9
        clear hm9 hg9 B8 Y8 F8 HY7 HF7 HB7 HK7
        change (Instr.mapUpdate 50 (.map (some bm)) (.int .i64 X.f0) (.agg #[.int .i64 X.f0, .string (X.f1.extract 0 z.toNat), .int .i64 z])).run Tryz.prog W8.drew = .ok () W9 at hr9
        have hgb : g6 ≠ bm := by
          obtain ⟨es, clock, hbm⟩ := HM.out.blk
          have := blk_lt hbm
          have := G6.out
          omega
        have HY9 := My.am ((HG9.out.block g6 (blk_lt HY8.out) (by simpa using hgb)).trans HY8.out)
        have hz9 := My.cz3 HY9
        have k9 : W9.cell? ⟨p, 5, none⟩ = some (.map (some bm)) := by
          have hne := HD.out.ne
          have h5 : W8.cell? ⟨p, 5, none⟩ = some (.map (some bm)) := k5
          exact (World.cell?_of_block (HG9.out.block p (World.block_lt_of_cell? W8 _ h5) (by simpa using hne))).trans h5
        have heq : ((X.f1.extract 0 z.toNat).toList.isEmpty && z == 0) = decide (z = 0) := by
          by_cases c : z = 0
          · subst c
            have e3 : X.f1.extract 0 (Int.toNat 0) = ⟨#[]⟩ := ByteArray.ext (Array.eq_empty_of_size_eq_zero (by show (X.f1.extract 0 0).size = 0; rw [ByteArray.size_extract]; omega))
            rw [e3]
            simp
          · have e2 : (z == 0) = false := beq_eq_false_iff_ne.2 c
            rw [e2, Bool.and_false, decide_eq_false c]
        clear hgb
        go_still_tail 6, (by kernel_rfl)
        go_upto_if 59 with (fail)
        have hA1 : fallA ks s.L (i + 1) = fallL ks 0 (s.L.take i) ++ (if z = 0 then [] else [⟨X.f0, X.f1.extract 0 z.toNat, z⟩]) ++ s.L.drop (i + 1) := by
          have hl : (s.L.take i).length = i := by rw [List.length_take]; have := HCI.out; omega
          unfold fallA
          rw [HTK.out, fallL_app, hl, Nat.zero_add, HZ8.out]
          unfold fallX
          rw [HZ8.out]
        have hI1 := fallA_inv (ks := ks) HI0.out (i + 1)
        have HD8 := Aside0.mk (show DiskAt base W8.drew p bm { s with L := fallA ks s.L i } from (HD.out.up HB8.out).move (fun _ _ _ => rfl))
        have HF8d := Aside0.mk (show Fr p bm wr W8.drew from ⟨HF8.out.os, HF8.out.tape, HF8.out.output, HF8.out.size, HF8.out.block⟩)
        by_cases cz : z = 0
        · rw [if_pos cz, List.append_nil] at hA1
          rw [decide_eq_true cz]
          obtain ⟨W10, hr10, hm10, hg10⟩ := HM9.out.del X.f0 HW.out 0
          rw [show X.f0 = (⟨X.f0, X.f1.extract 0 z.toNat, z⟩ : S24).f0 from rfl, delL_mid (x := (⟨X.f0, X.f1.extract 0 z.toNat, z⟩ : S24)) (srt_mid HS.out rfl), ← hA1] at hm10
          have HR1 := Aside0.mk (HD8.out.remap (L := fallA ks s.L (i + 1)) (HG9.out.trans hg10) hm10 hI1)
          have HF10 := Aside0.mk ((HF8d.out.grown HG9.out).grown hg10)
          clear hm10 hg10 hI1 hA1 cz hz8 hz9 k5
          go_wp2
          have hI := HCI.out
          have hx1 := hx.out
          have hk1 := hk.out
          go_roundg (s.L.length - i)
          case measure => omega
          case rel => exact ⟨i + 1, x + 1, by first | rfl | (rw [hw]), ⟨by omega⟩, ⟨by omega⟩, ⟨by omega⟩, HR1, ⟨HB.out.trans HF10.out⟩⟩
        · rw [if_neg cz] at hA1
          rw [decide_eq_false cz]
          have hm9 := HM9.out
          rw [show fallL ks 0 (s.L.take i) ++ (⟨X.f0, X.f1.extract 0 z.toNat, z⟩ : S24) :: s.L.drop (i + 1) = fallA ks s.L (i + 1) by rw [hA1]; simp] at hm9
          have HR1 := Aside0.mk (HD8.out.remap (L := fallA ks s.L (i + 1)) HG9.out hm9 hI1)
          have HF10 := Aside0.mk (HF8d.out.grown HG9.out)
          clear hm9 hI1 hA1 cz hz8 hz9 k5
          go_wp2
          have hI := HCI.out
          have hx1 := hx.out
          have hk1 := hk.out
          go_roundg (s.L.length - i)
          case measure => omega
          case rel => exact ⟨i + 1, x + 1, by first | rfl | (rw [hw]), ⟨by omega⟩, ⟨by omega⟩, ⟨by omega⟩, HR1, ⟨HB.out.trans HF10.out⟩⟩
    · have hi2 := hi.out
      have hx1 := hx.out
      have c3 : decide (x < (s.L.length : Int)) = false := decide_eq_false (by omega)
      have e : fallA ks s.L i = fallL ks 0 s.L := by
        have : i = s.L.length := by omega
        subst this
        simp [fallA]
      have h1 := HD.out
      rw [e] at h1
      have HE := Aside0.mk h1
      obtain ⟨kv, hbp, hk5, k0, k1, k2, k3, k4, k5, fz⟩ := HE.out.cells
      clear h1 hi2 hx1 c9 HD e hbp hk5 k0 k2 k5
      go_wp2
      have i1 := fallS_inv (ks := ks) HI0.out
      have j : ∀ (d : Bool) (a : Int) (k : List Int), (0 ≤ a ∧ a ≤ 9223372036854775807) → Inv { dead := d, room := s.room, armed := a, keep := k, L := fallL ks 0 s.L } := fun d a k ha => ⟨i1.srt, i1.num, i1.dat, i1.use, i1.room, i1.len, ha⟩
      refine bodyPost_end (results_none rfl _ _ _) rfl ?_
      exact ⟨rfl, ((HE.out.put1 true (j _ _ _ HI0.out.arm)).put3 0 (j true 0 _ ⟨by decide, by decide⟩)).put4 (.slice none 0 0) [] (Kd.R_nil _ _ _ _ _) (j true 0 [] ⟨by decide, by decide⟩), HB0.out.trans ((((HB.out).setCell 1 _).setCell 3 _).setCell 4 _)⟩
end
/-! #### a file among others -/
theorem hasL_false {L : List S24} {n : Int} (h : ∀ y ∈ L, y.f0 ≠ n) : hasL L n = false ∧ getL L n = z24 ∧ delL L n = L := by
  refine ⟨?_, ?_, ?_⟩
  · unfold hasL
    rw [List.any_eq_false]
    intro y hy
    simpa using h y hy
  · unfold getL
    rw [List.find?_eq_none.2 (fun y hy => by simpa using h y hy)]
  · unfold delL
    exact List.filter_eq_self.2 (fun y hy => by simpa using h y hy)
theorem splitL {L : List S24} (h : L.Pairwise (fun x y => x.f0 < y.f0)) (n : Int) : ∃ A B, (∀ y ∈ A, y.f0 < n) ∧ (∀ y ∈ B, n < y.f0) ∧ delL L n = A ++ B ∧ (∀ x', x'.f0 = n → putL L x' = A ++ x' :: B) ∧
    ((hasL L n = true ∧ (getL L n).f0 = n ∧ L = A ++ getL L n :: B) ∨ (hasL L n = false ∧ getL L n = z24 ∧ L = A ++ B)) := by
  have key : ∀ L : List S24, L.Pairwise (fun x y => x.f0 < y.f0) → ∃ A B, (∀ y ∈ A, y.f0 < n) ∧ (∀ y ∈ B, n < y.f0) ∧ ((∃ x, x.f0 = n ∧ L = A ++ x :: B) ∨ L = A ++ B) := by
    intro L
    induction L with
    | nil => intro _; exact ⟨[], [], by simp, by simp, .inr rfl⟩
    | cons y r ih =>
      intro h
      obtain ⟨h1, h2⟩ := List.pairwise_cons.1 h
      rcases Int.lt_trichotomy y.f0 n with hy | hy | hy
      · obtain ⟨A, B, hA, hB, hL⟩ := ih h2
        refine ⟨y :: A, B, ?_, hB, ?_⟩
        · intro z hz
          rcases List.mem_cons.1 hz with rfl | hz
          · exact hy
          · exact hA z hz
        · rcases hL with ⟨x, hx, e⟩ | e
          · exact .inl ⟨x, hx, by rw [e]; rfl⟩
          · exact .inr (by rw [e]; rfl)
      · exact ⟨[], r, by simp, fun z hz => by have := h1 z hz; omega, .inl ⟨y, hy, rfl⟩⟩
      · exact ⟨[], y :: r, by simp, fun z hz => by
          rcases List.mem_cons.1 hz with rfl | hz
          · exact hy
          · have := h1 z hz; omega, .inr rfl⟩
  obtain ⟨A, B, hA, hB, hL⟩ := key L h
  rcases hL with ⟨x, hx, e⟩ | e
  · have hg : getL L n = x := by rw [← hx]; exact getL_mem h (by rw [e]; simp)
    have hh : hasL L n = true := by
      unfold hasL
      rw [List.any_eq_true]
      exact ⟨x, by rw [e]; simp, by simpa using hx⟩
    refine ⟨A, B, hA, hB, ?_, fun x' hx' => ?_, .inl ⟨hh, by rw [hg]; exact hx, by rw [hg]; exact e⟩⟩
    · rw [e] at h ⊢
      rw [← hx]
      exact delL_mid h
    · rw [e] at h ⊢
      exact putL_mid h (by rw [hx', hx])
  · have hn : ∀ y ∈ L, y.f0 ≠ n := fun y hy => by
      rw [e] at hy
      rcases List.mem_append.1 hy with hy | hy
      · have := hA y hy; omega
      · have := hB y hy; omega
    obtain ⟨f1, f2, f3⟩ := hasL_false hn
    refine ⟨A, B, hA, hB, by rw [f3, e], fun x' hx' => ?_, .inr ⟨f1, f2, e⟩⟩
    unfold putL
    rw [hx', f3, e]
    exact insL_mid A (fun y hy => by rw [hx']; exact hA y hy) (fun y hy => by rw [hx']; exact hB y hy)
theorem srt_put {A B : List S24} {x : S24} {n : Int} (hA : ∀ y ∈ A, y.f0 < n) (hB : ∀ y ∈ B, n < y.f0) (hx : x.f0 = n) (h1 : A.Pairwise (fun x y => x.f0 < y.f0)) (h2 : B.Pairwise (fun x y => x.f0 < y.f0)) : (A ++ x :: B).Pairwise (fun x y => x.f0 < y.f0) := by
  refine List.pairwise_append.2 ⟨h1, List.pairwise_cons.2 ⟨fun y hy => by rw [hx]; exact hB y hy, h2⟩, fun y hy z hz => ?_⟩
  rcases List.mem_cons.1 hz with rfl | hz
  · rw [hx]; exact hA y hy
  · have := hA y hy; have := hB z hz; omega
theorem srt_del {A B : List S24} {n : Int} (hA : ∀ y ∈ A, y.f0 < n) (hB : ∀ y ∈ B, n < y.f0) (h1 : A.Pairwise (fun x y => x.f0 < y.f0)) (h2 : B.Pairwise (fun x y => x.f0 < y.f0)) : (A ++ B).Pairwise (fun x y => x.f0 < y.f0) :=
  List.pairwise_append.2 ⟨h1, h2, fun y hy z hz => by have := hA y hy; have := hB z hz; omega⟩
theorem useL_cons (x : S24) (L : List S24) : useL (x :: L) = (x.f1.size : Int) + useL L := by simp [useL]
/-- A file is changed (or is new), and the disk stays a disk. -/
theorem Inv.put {s : DS} (h : Inv s) {x : S24} (hn : 0 ≤ x.f0 ∧ x.f0 ≤ 1000000) (hd : 0 ≤ x.f2 ∧ x.f2 ≤ (x.f1.size : Int) ∧ 0 < x.f1.size) (hu : useL s.L - (getL s.L x.f0).f1.size + x.f1.size ≤ s.room) (hl : hasL s.L x.f0 = true ∨ s.L.length < 8) : Inv { s with L := putL s.L x } := by
  obtain ⟨A, B, hA, hB, hdel, hput, hc⟩ := splitL h.srt x.f0
  rw [hput x rfl]
  have hsub : ∀ y, y ∈ A ++ B → y ∈ s.L := fun y hy => by
    rcases hc with ⟨_, _, e⟩ | ⟨_, _, e⟩
    · rw [e]
      rcases List.mem_append.1 hy with hy | hy <;> simp [hy]
    · rw [e]; exact hy
  have hpw : A.Pairwise (fun x y => x.f0 < y.f0) ∧ B.Pairwise (fun x y => x.f0 < y.f0) := by
    have h1 := h.srt
    rcases hc with ⟨_, _, e⟩ | ⟨_, _, e⟩
    · rw [e] at h1
      obtain ⟨a, b, _⟩ := List.pairwise_append.1 h1
      exact ⟨a, (List.pairwise_cons.1 b).2⟩
    · rw [e] at h1
      obtain ⟨a, b, _⟩ := List.pairwise_append.1 h1
      exact ⟨a, b⟩
  have mem : ∀ y ∈ A ++ x :: B, y = x ∨ y ∈ s.L := fun y hy => by
    rcases List.mem_append.1 hy with hy | hy
    · exact .inr (hsub y (by simp [hy]))
    · rcases List.mem_cons.1 hy with hy | hy
      · exact .inl hy
      · exact .inr (hsub y (by simp [hy]))
  refine ⟨srt_put hA hB rfl hpw.1 hpw.2, fun y hy => ?_, fun y hy => ?_, ?_, h.room, ?_, h.arm⟩
  · rcases mem y hy with rfl | hy
    · exact hn
    · exact h.num y hy
  · rcases mem y hy with rfl | hy
    · exact hd
    · exact h.dat y hy
  · show useL (A ++ x :: B) ≤ s.room
    rw [useL_app, useL_cons]
    rcases hc with ⟨_, _, e⟩ | ⟨_, e0, e⟩
    · have e2 := congrArg useL e
      rw [useL_app, useL_cons] at e2
      omega
    · rw [e0] at hu
      have e2 := congrArg useL e
      rw [useL_app] at e2
      have : (z24.f1.size : Int) = 0 := rfl
      omega
  · show (A ++ x :: B).length ≤ 8
    have := h.len
    rcases hc with ⟨_, _, e⟩ | ⟨e0, _, e⟩
    · have e2 := congrArg List.length e
      simp only [List.length_append, List.length_cons] at e2 ⊢
      omega
    · have e2 := congrArg List.length e
      simp only [List.length_append, List.length_cons] at e2 ⊢
      rcases hl with hl | hl
      · rw [e0] at hl; cases hl
      · omega
theorem Inv.del {s : DS} (h : Inv s) (n : Int) : Inv { s with L := delL s.L n } := by
  have hs : (delL s.L n).Sublist s.L := List.filter_sublist
  refine ⟨h.srt.sublist hs, fun y hy => h.num y (hs.subset hy), fun y hy => h.dat y (hs.subset hy), ?_, h.room, Nat.le_trans hs.length_le h.len, h.arm⟩
  have : useL (delL s.L n) ≤ useL s.L := by
    obtain ⟨A, B, hA, hB, hdel, hput, hc⟩ := splitL h.srt n
    rw [hdel]
    rcases hc with ⟨_, _, e⟩ | ⟨_, e0, e⟩
    · have e2 := congrArg useL e
      rw [useL_app, useL_cons] at e2
      rw [useL_app]
      omega
    · have e2 := congrArg useL e
      omega
  have := h.use
  show useL (delL s.L n) ≤ s.room
  omega
theorem getL_mem' {L : List S24} {n : Int} (h : hasL L n = true) : getL L n ∈ L ∧ (getL L n).f0 = n := by
  unfold hasL at h
  obtain ⟨x, hx, hn⟩ := List.any_eq_true.1 h
  unfold getL
  cases e : L.find? (fun x => decide (x.f0 = n)) with
  | none =>
    have := List.find?_eq_none.1 e x hx
    exact absurd hn this
  | some y =>
    have h1 := List.find?_some e
    exact ⟨List.mem_of_find?_eq_some e, by simpa using h1⟩
/-! #### what the calls do -/
def endS (s : DS) : DS × Int := if lastS s = true then (fallS s.keep (stepS s), 150) else (stepS s, 0)
def fullB (s : DS) (n : Int) (d : ByteArray) : Bool := (!hasL s.L n && decide (s.L.length = 8)) || decide (s.room - useL s.L < (d.size : Int))
def appF (s : DS) (n : Int) (d : ByteArray) : S24 := ⟨n, (getL s.L n).f1 ++ d, (getL s.L n).f2⟩
def appS (s : DS) (n : Int) (d : ByteArray) : DS × Int :=
  if s.dead = true then (s, 150) else if n < 0 ∨ n > 1000000 then (s, 2) else if fullB s n d = true then (s, 151) else if d.size = 0 then (s, 0) else endS { s with L := putL s.L (appF s n d) }
def chgS (s : DS) (L : List S24) : DS × Int := if lastS s = true then (fallS s.keep (stepS s), 150) else ({ stepS s with L := L }, 0)
theorem app_inv {s : DS} (h : Inv s) {n : Int} {d : ByteArray} (hn : ¬ (n < 0 ∨ n > 1000000)) (hf : fullB s n d = false) (hd : d.size ≠ 0) : Inv { s with L := putL s.L (appF s n d) } := by
  unfold fullB at hf
  simp only [Bool.or_eq_false_iff, Bool.and_eq_false_iff, decide_eq_false_iff_not, Bool.not_eq_false'] at hf
  obtain ⟨h1, h2⟩ := hf
  have hsz : ((getL s.L n).f1 ++ d).size = (getL s.L n).f1.size + d.size := ByteArray.size_append
  refine h.put (x := appF s n d) ⟨by show 0 ≤ n; omega, by show n ≤ 1000000; omega⟩ ?_ ?_ ?_
  · show 0 ≤ (getL s.L n).f2 ∧ (getL s.L n).f2 ≤ (((getL s.L n).f1 ++ d).size : Int) ∧ 0 < ((getL s.L n).f1 ++ d).size
    rw [hsz]
    cases hh : hasL s.L n with
    | true =>
      have := h.dat _ (getL_mem' hh).1
      omega
    | false =>
      have e : getL s.L n = z24 := by
        obtain ⟨A, B, _, _, _, _, hc⟩ := splitL h.srt n
        rcases hc with ⟨e, _⟩ | ⟨_, e, _⟩
        · rw [hh] at e; cases e
        · exact e
      rw [e]
      have e1 : z24.f2 = 0 := rfl
      have e2 : z24.f1.size = 0 := rfl
      omega
  · show useL s.L - ((getL s.L n).f1.size : Int) + (((getL s.L n).f1 ++ d).size : Int) ≤ s.room
    rw [hsz]
    omega
  · show hasL s.L n = true ∨ _
    rcases h1 with h1 | h1
    · exact .inl h1
    · have := h.len; exact .inr (by omega)

theorem getL_size (L : List S24) (n : Int) : ((getL L n).f1.size : Int) ≤ useL L := by
  unfold getL
  cases e : L.find? (fun x => decide (x.f0 = n)) with
  | none =>
    have : (z24.f1.size : Int) = 0 := rfl
    have := useL_nonneg L
    show (z24.f1.size : Int) ≤ _
    omega
  | some y => exact useL_mem (List.mem_of_find?_eq_some e)
theorem stepS_keep (s : DS) : (stepS s).keep = s.keep := by
  unfold stepS
  split <;> rfl
section
variable {base p bm : Nat} {w : World} {s : DS}
theorem fall_own (h : DiskAt base w p bm s) : ∃ A c, w.cell? ⟨p, 4, none⟩ = some (.slice A s.keep.length c) ∧ Calls Tryz.prog 67 #[.pointer (some ⟨p, 0, none⟩), .slice A s.keep.length c] w fun e w' => e = .returned (.tuple #[]) ∧ DiskAt base w' p bm (fallS s.keep s) ∧ Fr p bm w w' := by
  obtain ⟨kv, hb, hk, c0, c1, c2, c3, c4, c5, fz⟩ := h.cells
  obtain ⟨A, c, rfl, hl, hC⟩ := Kd.R_reads hk
  exact ⟨A, c, c4, disk_Disk_fall.calls h A c s.keep hC hl (fun W hf => (Kd.R_reads' (h.row hf hk (by decide))).2.2)⟩
theorem DiskAt.eqs {s' : DS} {W : World} (h : DiskAt base W p bm s) (e : s' = s) : DiskAt base W p bm s' := e ▸ h
def disk_Disk_Append.T7 : Bool × List (List Nat × List Nat) := (true, [([], []), ([0], [0]), ([1], [1]), ([2], [2]), ([3, 2], [2, 3]), ([4, 2], [2, 4]), ([5, 2], [2, 5]), ([6, 2, 2], [2, 6]), ([7, 2], [2, 7]), ([2, 8], [2, 8]), ([9, 7], [9]), ([10], [10]), ([11, 10], [10, 11]), ([10], [10]), ([13, 10], [10, 13]), ([14, 10], [10, 14]), ([15, 10], [10, 15]), ([10], [10]), ([17, 10, 10], [10, 17]), ([16, 18, 10], [10, 16, 18]), ([12, 19, 10], [10, 12, 19]), ([10, 20], [10, 20]), ([21, 18], [21])])
def disk_Disk_Append.B7 : List Nat := [0, 1, 3, 7, 15, 31, 63, 127, 255, 511, 1023, 2047, 4095, 2047, 10239, 26623, 59391, 2047, 133119, 518143, 1048575, 2097151, 4194303]
theorem disk_Disk_Append.tab7 : rtab .any (opsOf Tryz.f58 7) = disk_Disk_Append.T7 := by kernel_rfl
theorem disk_Disk_Append.bits7 : waitsOk disk_Disk_Append.T7.2 disk_Disk_Append.B7 = true := by kernel_rfl
set_option maxHeartbeats 8000000 in
set_option maxRecDepth 100000 in
theorem disk_Disk_Append.calls (h : DiskAt base w p bm s) (n : Int) (hn : (Lit.int .i64 n).wf = true) (d : ByteArray) (hds : d.size ≤ 140737488351232) : Calls Tryz.prog 58 #[.pointer (some ⟨p, 0, none⟩), .int .i64 n, .string d] w fun e w' => e = .returned (.int .i64 (appS s n d).2) ∧ DiskAt base w' p bm (appS s n d).1 ∧ Fr p bm w w' := by
  have hu40 := Tryz.underlying24
  have HD := Aside0.mk h
  have HN := Aside0.mk hn
  have HDS := Aside0.mk hds
  have HI0 := Aside0.mk h.inv
  clear h hn hds
  obtain ⟨R, hR⟩ : ∃ R, appS s n d = R := ⟨_, rfl⟩
  rw [hR]
  have HR := Aside0.mk hR
  clear hR
  by_cases hd : s.dead = true
  · have e1 : R = (s, 150) := by rw [← HR.out]; simp [appS, hd]
    have HE := Aside0.mk hd
    subst e1
    clear hd HR
    go_enter Tryz.func58, Tryz.ntmps58
    go_wp2_with ((with_reducible refine gate_callee (f := 60) rfl ?_); refine goesL_ (some _) rfl rfl Tryz.func60 (by kernel_rfl) rfl #[.pointer (some ⟨p, 0, none⟩)] rfl My.gx ?_; (refine (disk_Disk_ready.dead HD.out HE.out).mono ?_); rintro e W1 ⟨rfl, hb⟩; refine ⟨_, rfl, ?_⟩)
    go_ret
    exact ⟨rfl, HD.out.up hb, Fr.of hb⟩
  · replace hd : s.dead = false := by simpa using hd
    have HE := Aside0.mk hd
    go_enter Tryz.func58, Tryz.ntmps58
    go_upto_region 4 with ((with_reducible refine gate_callee (f := 60) rfl ?_); refine goesL_ (some _) rfl rfl Tryz.func60 (by kernel_rfl) rfl #[.pointer (some ⟨p, 0, none⟩)] rfl My.gx ?_; (refine (disk_Disk_ready.live HD.out HE.out).mono ?_); rintro e W1 ⟨rfl, hb⟩; refine ⟨_, rfl, ?_⟩; replace HD := Aside0.mk (HD.out.up hb); have HF1 := Aside0.mk (Fr.of (p := p) (bm := bm) hb); clear hb)
    have hlook := HD.out.map.look2 n HN.out
    unfold valD at hlook
    obtain ⟨kv, hbp, hk5, k0, k1, k2, k3, k4, k5, fz⟩ := HD.out.cells
    clear hbp hk5 k0 k1 k2 k3 k4 fz
    obtain ⟨F, hF⟩ : ∃ F, getL s.L n = F := ⟨_, rfl⟩
    obtain ⟨ok, hok⟩ : ∃ b, hasL s.L n = b := ⟨_, rfl⟩
    rw [hF, hok] at hlook
    have HFF := Aside0.mk hF
    have HOK := Aside0.mk hok
    have HDD := Aside0.mk hd
    clear hF hok hd
    go_upto_region 5 with ((with_reducible refine gate_dst (N := 8) rfl ?_); refine My.bx 8 #[.int .i64 0, .string ⟨#[]⟩, .int .i64 0] 24 ?_; intro g8 hg8 w8 hbox hb; have BX := My.am hbox; have HB8 := Aside0.mk hb; have G8 := Aside0.mk (show W1.heap.size ≤ g8 by rw [hg8]; exact Nat.le_refl _); clear hlook hb hbox hg8; have hz := My.cz3 BX)
    refine at_world (J := fun W => Below W1.heap.size W1 W ∧ W.heap[g8]? = some (.cells #[.int .i64 F.f0, .string F.f1, .int .i64 F.f2] 24 (0, 0)) ∧ Fr p bm W1 W) ⟨below_set (below_set (below_set HB8.out G8.out) G8.out) G8.out, My.put3 BX.out, (((Fr.of HB8.out).fresh G8.out _).fresh G8.out _).fresh G8.out _⟩ ?_
    have G8w := Aside0.mk (Nat.le_trans HF1.out.size G8.out)
    clear BX HB8 hz k5
    rintro W2 ⟨B2, Y2, F2⟩
    have HY2 := Aside0.mk Y2
    have HF2 := Aside0.mk (HF1.out.trans F2)
    replace HD := Aside0.mk (HD.out.up B2)
    clear B2 Y2 F2
    by_cases hr : n < 0 ∨ n > 1000000
    · have e1 : R = (s, 2) := by rw [← HR.out]; unfold appS; rw [if_neg (by rw [HDD.out]; decide), if_pos hr]
      subst e1
      clear HR
      by_cases d1 : n < 0
      · have b1 : decide (n < 0) = true := decide_eq_true d1
        clear d1 hr
        go_wp2
        go_ret
        exact ⟨rfl, HD.out, HF2.out⟩
      · have b1 : decide (n < 0) = false := decide_eq_false d1
        have b2 : decide (1000000 < n) = true := decide_eq_true (by omega)
        clear d1 hr
        go_wp2
        go_ret
        exact ⟨rfl, HD.out, HF2.out⟩
    · have HNR := Aside0.mk hr
      have b1 : decide (n < 0) = false := decide_eq_false (by omega)
      have b2 : decide (1000000 < n) = false := decide_eq_false (by omega)
      clear hr
      go_upto_region 7 with (fail)
      clear b1 b2
      have hwr : wrap64 (s.room - useL s.L) = s.room - useL s.L := by have h1 := HI0.out.use; have h2 := HI0.out.room; have h3 := useL_nonneg s.L; unfold wrap64; omega
      go_cut [31] (fun v31 wc => v31 = .bool (fullB s n d) ∧ Aside0 (DiskAt base wc p bm s) ∧ Aside0 (Fr p bm w wc) ∧ Aside0 (wc.heap[g8]? = some (.cells #[.int .i64 F.f0, .string F.f1, .int .i64 F.f2] 24 (0, 0))))
      case first =>
        cases ok with
        | true =>
          refine start_ (n := 23) (S := fun w' => DiskAt base w' p bm s) (ds := []) #[false, false, false, false, false, false, false, false, false, false, false, false, false, false, false, false, false, false, false, false, false, false, false] (by kernel_rfl) rfl rfl (HD.out.move (fun _ _ _ => rfl)) (fun hHeld => ?_); refine with_tabW disk_Disk_Append.tab7 disk_Disk_Append.bits7 (fun HT_ HW_ => ?_)
          have HF3 := Aside0.mk (show Fr p bm w W2.drew from ⟨HF2.out.os, HF2.out.tape, HF2.out.output, HF2.out.size, HF2.out.block⟩)
          have HY3 := Aside0.mk (show W2.drew.heap[g8]? = some (.cells #[.int .i64 F.f0, .string F.f1, .int .i64 F.f2] 24 (0, 0)) from HY2.out)
          generalize W2.drew = W3 at HF3 HY3 hHeld ⊢
          refine My.pv_ 0 32 23 1 HT_.out ?_
          refine My.pv_ 1 33 23 3 HT_.out ?_
          refine My.pv_ 2 34 23 7 HT_.out ?_
          refine My.pw_ 3 35 23 15 HT_.out ?_
          refine My.pw_ 4 36 23 31 HT_.out ?_
          refine My.pw_ 5 37 23 63 HT_.out ?_
          refine My.pw_ 6 38 23 127 HT_.out ?_
          refine My.pw_ 7 39 23 255 HT_.out ?_
          refine My.pw_ 8 40 23 511 HT_.out ?_
          refine My.pv_ 9 41 23 1023 HT_.out ?_
          refine My.pv_ 10 42 23 2047 HT_.out ?_
          refine My.pv_ 11 43 23 4095 HT_.out ?_
          refine My.tv_ 12 44 23 8191 HT_.out HW_.out hHeld rfl rfl (by rintro w' hS; obtain ⟨kv, hbp, hk5, k0, k1, k2, k3, k4, k5, fz⟩ := hS.cells; clear hbp hk5; have hln := hS.map.ln 3; go_simp; with_reducible rfl) ?_
          refine My.pv_ 13 45 23 16383 HT_.out ?_
          refine My.pv_ 14 46 23 32767 HT_.out ?_
          refine My.pv_ 15 47 23 65535 HT_.out ?_
          refine My.tv_ 16 48 23 131071 HT_.out HW_.out hHeld rfl rfl (by rintro w' hS; obtain ⟨kv, hbp, hk5, k0, k1, k2, k3, k4, k5, fz⟩ := hS.cells; clear hbp hk5; have hln := hS.map.ln 3; go_simp; with_reducible rfl) ?_
          refine My.pv_ 17 49 23 262143 HT_.out ?_
          refine one_ (i := 18) (N := some 50) (My.Mb 23 524287) rfl rfl (one_of HT_.out (by kernel_rfl)) (by decide) (fun K hK => ?_)
          refine goes_ Tryz.func78 (by kernel_rfl) rfl #[.pointer (some ⟨p, 0, none⟩)] (by rfl) rfl rfl My.gx ?_
          refine (disk_Disk_Used.calls hHeld).mono ?_
          rintro e W4 ⟨rfl, hb⟩
          refine ⟨_, rfl, ?_⟩
          refine hK.out _ _ (hHeld.up hb) (fun hHeld => ?_)
          clear hK K
          refine My.nm 50 ?_
          refine My.pv_ 19 51 23 1048575 HT_.out ?_
          refine My.pv_ 20 52 23 2097151 HT_.out ?_
          refine My.pv_ 21 53 23 4194303 HT_.out ?_
          refine My.pv_ 22 31 23 8388607 HT_.out ?_
          refine done_ (done_of HT_.out (by kernel_rfl)) ?_
          try go_wp2
          go_meet
          case rel => exact ⟨by simp [fullB, HOK.out], ⟨hHeld⟩, ⟨HF3.out.trans (Fr.of hb)⟩, ⟨(hb.block g8 (blk_lt HY3.out)).trans HY3.out⟩⟩
        | false =>
          by_cases hl : s.L.length = 8
          · have l1 : decide ((s.L.length : Int) = 8) = true := decide_eq_true (by omega)
            have l2 : ((s.L.length : Int) == 8) = true := by rw [hl]; rfl
            have l3 : (s.L.length : Int) = 8 := by omega
            have HLL := Aside0.mk hl
            clear hl hwr
            refine start_ (n := 23) (S := fun w' => DiskAt base w' p bm s) (ds := []) #[false, false, false, false, false, false, false, false, false, false, false, false, false, false, false, false, false, false, false, false, false, false, false] (by kernel_rfl) rfl rfl (HD.out.move (fun _ _ _ => rfl)) (fun hHeld => ?_); refine with_tabW disk_Disk_Append.tab7 disk_Disk_Append.bits7 (fun HT_ HW_ => ?_)
            have HF3 := Aside0.mk (show Fr p bm w W2.drew from ⟨HF2.out.os, HF2.out.tape, HF2.out.output, HF2.out.size, HF2.out.block⟩)
            have HY3 := Aside0.mk (show W2.drew.heap[g8]? = some (.cells #[.int .i64 F.f0, .string F.f1, .int .i64 F.f2] 24 (0, 0)) from HY2.out)
            generalize W2.drew = W3 at HF3 HY3 hHeld ⊢
            refine My.pv_ 0 32 23 1 HT_.out ?_
            refine My.pv_ 1 33 23 3 HT_.out ?_
            refine My.pv_ 2 34 23 7 HT_.out ?_
            refine My.pv_ 3 35 23 15 HT_.out ?_
            refine My.pv_ 4 36 23 31 HT_.out ?_
            refine My.pv_ 5 37 23 63 HT_.out ?_
            refine My.tv_ 6 38 23 127 HT_.out HW_.out hHeld rfl rfl (by rintro w' hS; obtain ⟨kv, hbp, hk5, k0, k1, k2, k3, k4, k5, fz⟩ := hS.cells; clear hbp hk5; have hln := hS.map.ln 3; go_simp; with_reducible rfl) ?_
            refine My.tv_ 7 39 23 255 HT_.out HW_.out hHeld rfl rfl (by rintro w' hS; obtain ⟨kv, hbp, hk5, k0, k1, k2, k3, k4, k5, fz⟩ := hS.cells; clear hbp hk5; have hln := hS.map.ln 3; go_simp; with_reducible rfl) ?_
            refine My.pv_ 8 40 23 511 HT_.out ?_
            refine My.pv_ 9 41 23 1023 HT_.out ?_
            refine My.pv_ 10 42 23 2047 HT_.out ?_
            refine My.pw_ 11 43 23 4095 HT_.out ?_
            refine My.pw_ 12 44 23 8191 HT_.out ?_
            refine My.pw_ 13 45 23 16383 HT_.out ?_
            refine My.pw_ 14 46 23 32767 HT_.out ?_
            refine My.pw_ 15 47 23 65535 HT_.out ?_
            refine My.pw_ 16 48 23 131071 HT_.out ?_
            refine My.pw_ 17 49 23 262143 HT_.out ?_
            refine My.pw_ 18 50 23 524287 HT_.out ?_
            refine My.pw_ 19 51 23 1048575 HT_.out ?_
            refine My.pw_ 20 52 23 2097151 HT_.out ?_
            refine My.pv_ 21 53 23 4194303 HT_.out ?_
            refine My.pv_ 22 31 23 8388607 HT_.out ?_
            refine done_ (done_of HT_.out (by kernel_rfl)) ?_
            try go_wp2
            go_meet
            case rel => exact ⟨by simp [fullB, HOK.out, HLL.out], ⟨hHeld⟩, HF3, HY3⟩
          · have l1 : decide ((s.L.length : Int) = 8) = false := decide_eq_false (by omega)
            have l2 : ((s.L.length : Int) == 8) = false := beq_eq_false_iff_ne.2 (by omega)
            have HLL := Aside0.mk hl
            clear hl
            refine start_ (n := 23) (S := fun w' => DiskAt base w' p bm s) (ds := []) #[false, false, false, false, false, false, false, false, false, false, false, false, false, false, false, false, false, false, false, false, false, false, false] (by kernel_rfl) rfl rfl (HD.out.move (fun _ _ _ => rfl)) (fun hHeld => ?_); refine with_tabW disk_Disk_Append.tab7 disk_Disk_Append.bits7 (fun HT_ HW_ => ?_)
            have HF3 := Aside0.mk (show Fr p bm w W2.drew from ⟨HF2.out.os, HF2.out.tape, HF2.out.output, HF2.out.size, HF2.out.block⟩)
            have HY3 := Aside0.mk (show W2.drew.heap[g8]? = some (.cells #[.int .i64 F.f0, .string F.f1, .int .i64 F.f2] 24 (0, 0)) from HY2.out)
            generalize W2.drew = W3 at HF3 HY3 hHeld ⊢
            refine My.pv_ 0 32 23 1 HT_.out ?_
            refine My.pv_ 1 33 23 3 HT_.out ?_
            refine My.pv_ 2 34 23 7 HT_.out ?_
            refine My.pv_ 3 35 23 15 HT_.out ?_
            refine My.pv_ 4 36 23 31 HT_.out ?_
            refine My.pv_ 5 37 23 63 HT_.out ?_
            refine My.tv_ 6 38 23 127 HT_.out HW_.out hHeld rfl rfl (by rintro w' hS; obtain ⟨kv, hbp, hk5, k0, k1, k2, k3, k4, k5, fz⟩ := hS.cells; clear hbp hk5; have hln := hS.map.ln 3; go_simp; with_reducible rfl) ?_
            refine My.tv_ 7 39 23 255 HT_.out HW_.out hHeld rfl rfl (by rintro w' hS; obtain ⟨kv, hbp, hk5, k0, k1, k2, k3, k4, k5, fz⟩ := hS.cells; clear hbp hk5; have hln := hS.map.ln 3; go_simp; with_reducible rfl) ?_
            refine My.pv_ 8 40 23 511 HT_.out ?_
            refine My.pv_ 9 41 23 1023 HT_.out ?_
            refine My.pv_ 10 42 23 2047 HT_.out ?_
            refine My.pv_ 11 43 23 4095 HT_.out ?_
            refine My.tv_ 12 44 23 8191 HT_.out HW_.out hHeld rfl rfl (by rintro w' hS; obtain ⟨kv, hbp, hk5, k0, k1, k2, k3, k4, k5, fz⟩ := hS.cells; clear hbp hk5; have hln := hS.map.ln 3; go_simp; with_reducible rfl) ?_
            refine My.pv_ 13 45 23 16383 HT_.out ?_
            refine My.pv_ 14 46 23 32767 HT_.out ?_
            refine My.pv_ 15 47 23 65535 HT_.out ?_
            refine My.tv_ 16 48 23 131071 HT_.out HW_.out hHeld rfl rfl (by rintro w' hS; obtain ⟨kv, hbp, hk5, k0, k1, k2, k3, k4, k5, fz⟩ := hS.cells; clear hbp hk5; have hln := hS.map.ln 3; go_simp; with_reducible rfl) ?_
            refine My.pv_ 17 49 23 262143 HT_.out ?_
            refine one_ (i := 18) (N := some 50) (My.Mb 23 524287) rfl rfl (one_of HT_.out (by kernel_rfl)) (by decide) (fun K hK => ?_)
            refine goes_ Tryz.func78 (by kernel_rfl) rfl #[.pointer (some ⟨p, 0, none⟩)] (by rfl) rfl rfl My.gx ?_
            refine (disk_Disk_Used.calls hHeld).mono ?_
            rintro e W4 ⟨rfl, hb⟩
            refine ⟨_, rfl, ?_⟩
            refine hK.out _ _ (hHeld.up hb) (fun hHeld => ?_)
            clear hK K
            refine My.nm 50 ?_
            refine My.pv_ 19 51 23 1048575 HT_.out ?_
            refine My.pv_ 20 52 23 2097151 HT_.out ?_
            refine My.pv_ 21 53 23 4194303 HT_.out ?_
            refine My.pv_ 22 31 23 8388607 HT_.out ?_
            refine done_ (done_of HT_.out (by kernel_rfl)) ?_
            try go_wp2
            go_meet
            case rel => exact ⟨by simp [fullB, HOK.out, HLL.out], ⟨hHeld⟩, ⟨HF3.out.trans (Fr.of hb)⟩, ⟨(hb.block g8 (blk_lt HY3.out)).trans HY3.out⟩⟩
      case rest =>
        obtain ⟨rfl, HD3, HF3, HY3⟩ := hcut
        clear HD HF1 HF2 HY2 hwr
        cases hfu : fullB s n d with
        | true =>
          have e1 : R = (s, 151) := by rw [← HR.out]; unfold appS; rw [if_neg (by rw [HDD.out]; decide), if_neg HNR.out, if_pos hfu]
          subst e1
          clear HR hfu
          go_wp2
          go_ret
          exact ⟨rfl, HD3.out, HF3.out⟩
        | false =>
          have HFU := Aside0.mk hfu
          clear hfu
          by_cases hd0 : d.size = 0
          · have e1 : R = (s, 0) := by rw [← HR.out]; unfold appS; rw [if_neg (by rw [HDD.out]; decide), if_neg HNR.out, if_neg (by rw [HFU.out]; decide), if_pos hd0]
            subst e1
            obtain rfl : d = ⟨#[]⟩ := ByteArray.ext (Array.eq_empty_of_size_eq_zero hd0)
            clear HR HFU hd0 HDS
            go_wp2
            go_ret
            exact ⟨rfl, HD3.out, HF3.out⟩
          · have e1 : R = endS { s with L := putL s.L (appF s n d) } := by rw [← HR.out]; unfold appS; rw [if_neg (by rw [HDD.out]; decide), if_neg HNR.out, if_neg (by rw [HFU.out]; decide), if_neg hd0]
            have t1 : d.toList.isEmpty = false := by
              rw [ByteArray.toList_eq, List.isEmpty_eq_false_iff]
              intro he
              exact hd0 (by have := congrArg List.length he; simpa using this)
            have HE1 := Aside0.mk e1
            have HD0 := Aside0.mk hd0
            clear HR e1 hd0
            have hcat : (9223372036854775807 < F.f1.size + d.size) = False := eq_false (by have h1 := getL_size s.L n; rw [HFF.out] at h1; have h2 := HI0.out.use; have h3 := HI0.out.room; have h4 := HDS.out; omega)
            have hz3 := My.cz3 HY3
            go_upto_region 12 with (fail)
            have hY4 := blk_put HY3.out 0 (.int .i64 n) rfl
            refine at_world (J := fun W => DiskAt base W p bm s ∧ Fr p bm w W ∧ W.heap[g8]? = some (.cells #[.int .i64 n, .string (F.f1 ++ d), .int .i64 F.f2] 24 (0, 0))) ⟨(HD3.out.set_ HY3.out (by decide) (by decide)).set_ hY4 (by decide) (by decide), (HF3.out.fresh G8w.out _).fresh G8w.out _, blk_put hY4 1 (.string (F.f1 ++ d)) rfl⟩ ?_
            clear hY4 hz3 t1 HY3 HF3 HD3
            rintro W4 ⟨D4, F4, Y4⟩
            have HD4 := Aside0.mk (show DiskAt base W4.drew p bm s from D4.move (fun _ _ _ => rfl))
            have HF4 := Aside0.mk (show Fr p bm w W4.drew from ⟨F4.os, F4.tape, F4.output, F4.size, F4.block⟩)
            have HY4 := My.am Y4
            have hz4 := My.cz3 HY4
            obtain ⟨kv, hbp, hk5, k0, k1, k2, k3, k4, k5, fz⟩ := D4.cells
            clear hbp hk5 k0 k1 k2 k3 k4 fz D4 F4 Y4
            have hX : appF s n d = ⟨n, F.f1 ++ d, F.f2⟩ := by unfold appF; rw [HFF.out]
            obtain ⟨W5, hr5, hm5, hg5⟩ := HD4.out.map.put (appF s n d) (by have := HI0.out.len; omega) HN.out
            rw [hX] at hr5
            unfold valD at hr5
            have hi5 := app_inv HI0.out HNR.out HFU.out HD0.out
            have HD5 := Aside0.mk (HD4.out.remap hg5 hm5 hi5)
            have HF5 := Aside0.mk (HF4.out.grown hg5)
            clear hX hm5 hg5 hi5
            go_still_tail 6, (by kernel_rfl)
            have HCALL := Aside0.mk (disk_Disk_step.calls HD5.out)
            obtain ⟨s5, hs5⟩ : ∃ s5, ({ s with L := putL s.L (appF s n d) } : DS) = s5 := ⟨_, rfl⟩
            rw [hs5] at HCALL HE1
            clear hs5
            cases hls : lastS s5 with
            | true =>
              have e2 := HE1.out
              unfold endS at e2
              rw [if_pos hls] at e2
              subst e2
              have HK := Aside0.mk (stepS_keep s5)
              have HC2 := HCALL.out
              rw [hls] at HC2
              have HCA := Aside0.mk HC2
              clear HE1 HCALL hls HC2
              go_wp2_with (first
                | ((with_reducible refine gate_callee (f := 66) rfl ?_); refine goesL_ (some _) rfl rfl Tryz.func66 (by kernel_rfl) rfl #[.pointer (some ⟨p, 0, none⟩)] rfl My.gx ?_; (refine HCA.out.mono ?_); rintro e W6 ⟨rfl, hD6, hF6⟩; refine ⟨_, rfl, ?_⟩; have HF6 := Aside0.mk (HF5.out.trans hF6); obtain ⟨Ak, ck, hck, hfall⟩ := fall_own hD6; rw [HK.out] at hck hfall; have HFA := Aside0.mk hfall; clear hD6 hF6 hfall hz4 k5)
                | ((with_reducible refine gate_callee (f := 67) rfl ?_); refine goesL_ (some _) rfl rfl Tryz.func67 (by kernel_rfl) rfl #[.pointer (some ⟨p, 0, none⟩), .slice Ak s5.keep.length ck] rfl My.gx ?_; (refine HFA.out.mono ?_); rintro e W7 ⟨rfl, hD7, hF7⟩; refine ⟨_, rfl, ?_⟩; have HD7 := Aside0.mk hD7; have HF7 := Aside0.mk (HF6.out.trans hF7); clear hD7 hF7))
              go_ret
              exact ⟨rfl, HD7.out, HF7.out⟩
            | false =>
              have e2 := HE1.out
              unfold endS at e2
              rw [if_neg (by rw [hls]; decide)] at e2
              subst e2
              have HC2 := HCALL.out
              rw [hls] at HC2
              have HCA := Aside0.mk HC2
              clear HE1 HCALL hls HC2
              go_wp2_with (first
                | ((with_reducible refine gate_callee (f := 66) rfl ?_); refine goesL_ (some _) rfl rfl Tryz.func66 (by kernel_rfl) rfl #[.pointer (some ⟨p, 0, none⟩)] rfl My.gx ?_; (refine HCA.out.mono ?_); rintro e W6 ⟨rfl, hD6, hF6⟩; refine ⟨_, rfl, ?_⟩; have HD6 := Aside0.mk hD6; have HF6 := Aside0.mk (HF5.out.trans hF6); clear hD6 hF6))
              go_ret
              exact ⟨rfl, HD6.out, HF6.out⟩
end

end Go.Proofs.YtkcpgaplpmbmoaaGreat.PA
