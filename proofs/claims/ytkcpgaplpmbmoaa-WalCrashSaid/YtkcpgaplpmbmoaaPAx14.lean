/- A log on a disk, walked by hand; Lean checks it. -/
import Derived.Test.YtkcpgaplpmbmoaaPAx13
namespace Go.Proofs.Ytkcpgaplpmbmoaa.PA
open Go.RowKit Go.Proofs.YtkcpgaplpmbmoaaW.PrintWords Go.Proofs.YtkcpgaplpmbmoaaW.PrintLast Go.Proofs.YtkcpgaplpmbmoaaW.PrintMore
attribute [local go_sem] max2_int min2_int max_two min_two max_three min_three max_four min_four
set_option linter.unusedVariables false
set_option linter.unusedSimpArgs false


def slices_Clone_int_int.f (l0 : List Int) : Option (List Int) := if l0.length * 8 ≤ 140737488351232 then some l0 else none
theorem slices_Clone_int_int.info : (Try.prog.info? 3).map (fun i => (i.zero, i.size, i.bytes)) = some (some (.int .i64 0), (Kd.int .i64).sz, 8) := by kernel_rfl
set_option maxHeartbeats 4000000 in
theorem slices_Clone_int_int.calls (A0 : Option Addr) (c0 : Nat) (l0 : List Int) (r : List Int) (w : World) (hr0 : Kd.C (Kd.int .i64) w A0 l0.length l0) (hc0 : l0.length ≤ c0) (h : slices_Clone_int_int.f l0 = some r) :
    Calls Try.prog 38 #[.slice A0 l0.length c0] w fun e w' => ∃ v0_ : Value, e = .returned v0_ ∧ Kd.R (Kd.int .i64) 3 w' w.heap.size (fun _ => True) v0_ r ∧ Below w.heap.size w w' := by
  unfold slices_Clone_int_int.f at h
  by_cases c : l0.length * 8 ≤ 140737488351232
  · rw [if_pos c] at h
    obtain rfl := Option.some.inj h
    clear h
    have q22 : ∀ (w : World) (a : Option Addr) (n c n' c' : Nat), (binOp .eql 34 (.slice a n c) (.slice none n' c')).run Try.prog w = .ok (.bool a.isNone) w := fun w a n c n' c' => Lib.run_eql_slice_nil w _ _ a n c n' c' Try.underlying34
    have HC := Aside0.mk hr0
    rcases A0 with _ | ad
    · have h0 : l0 = [] := by
        rcases l0 with _ | ⟨x, l⟩
        · rfl
        · obtain ⟨ad, e, _⟩ := hr0.2.2 (by simp)
          cases e
      clear hr0
      subst h0
      go_enter Try.func38, Try.ntmps38
      go_wp2
      go_ret
      exact ⟨_, rfl, Kd.R_nil _ _ _ _ _, Below.refl _ _⟩
    · clear hr0
      have hr2 := Kd.R_nil (Kd.int .i64) 3 (w.alloc (.cells #[] 3)) w.heap.size (fun _ => True)
      have hm : Kd.R (Kd.int .i64) 3 (w.alloc (.cells #[] 3)) w.heap.size (fun _ => True) (.slice (some ⟨w.heap.size, 0, none⟩) 0 0) [] := ⟨fun _ _ => trivial, _, World.ownsRow_made w #[] 0 (Nat.le_refl _) (Nat.zero_le _) rfl, Reps.none _ _⟩
      have HM := Aside0.mk hm
      have HA := Aside0.mk (Kd.C_alloc HC.out (.cells #[] 3))
      have HB := Aside0.mk (below_alloc (Below.refl w.heap.size w) (.cells #[] 3))
      clear hm hr2
      go_enter Try.func38, Try.ntmps38
      go_wp2_with (at_builtin; refine Kd.R_append_rows (Kd.int .i64) (w0 := w) w.heap.size rfl _ _ 34 3 (.int .i64 0) 8 rfl Try.underlying34 slices_Clone_int_int.info rfl (by decide) (by decide) _ [] l0 _ _ _ (fun _ => True) (fun _ => False) rfl rfl HM.out HA.out (fun _ _ h => h) (fun _ h => h.elim) (fun _ _ => trivial) HB.out (by simp) (by simp; omega) ?_; intro v1 w1 hr1 hb1 hg1 hat1)
      go_ret
      exact ⟨_, rfl, by simpa using hr1, hb1⟩
  · rw [if_neg c] at h
    cases h

section
variable {base p bm : Nat} {w w0 : World} {s : DS}
set_option maxHeartbeats 4000000 in
set_option maxRecDepth 100000 in
theorem disk_Disk_Read.calls (h : DiskAt base w p bm s) (n : Int) (hn : (Lit.int .i64 n).wf = true) : Calls Try.prog 31 #[.pointer (some ⟨p, 0, none⟩), .int .i64 n] w fun e w' => e = .returned (.tuple #[.string (findF s n).f1, .int .i64 (findE s n)]) ∧ Below w.heap.size w w' := by
  have hu40 := Try.underlying75
  have HD := Aside0.mk h
  have HN := Aside0.mk hn
  have HB := My.am (Below.refl w.heap.size w)
  clear h hn
  obtain ⟨F, hF⟩ : ∃ F, findF s n = F := ⟨_, rfl⟩
  obtain ⟨E, hE⟩ : ∃ E, findE s n = E := ⟨_, rfl⟩
  rw [hF, hE]
  have HF_ := Aside0.mk hF
  have HE_ := Aside0.mk hE
  clear hF hE
  go_enter Try.func31, Try.ntmps31
  go_wp2_with (first
    | ((with_reducible refine gate_callee (f := 45) rfl ?_); refine goesL_ (some _) rfl rfl Try.func45 (by kernel_rfl) rfl #[.pointer (some ⟨p, 0, none⟩), .int .i64 n] rfl My.gx ?_; (refine (disk_Disk_find.calls HD.out n HN.out).mono ?_); rintro e W1 ⟨rfl, hb⟩; refine ⟨_, rfl, ?_⟩; rw [HF_.out, HE_.out]; unfold valD; replace HB := My.st HB hb; clear hb)
    | ((with_reducible refine gate_dst (N := 6) rfl ?_); refine My.bx 6 #[.int .i64 0, .string ⟨#[]⟩, .int .i64 0] 75 ?_; intro g6 hg w6_ hbox hb; have BX := My.am hbox; have GX := My.nge hg HB.out; replace HB := My.st HB hb; clear hb hbox hg; have zx := My.cz3 BX))
  go_ret2
  exact ⟨rfl, below_set (below_set (below_set HB.out GX.out) GX.out) GX.out⟩
def armS (s : DS) (n : Int) (ks : List Int) : DS × Int := if s.dead = true then (s, 150) else if n < 0 then (s, 2) else ({ s with armed := n, keep := ks }, 0)
def crashS (s : DS) (ks : List Int) : DS × Int := if s.dead = true then (s, 150) else (fallS ks s, 0)
theorem arm_inv (h : Inv s) {n : Int} (h0 : 0 ≤ n) (h1 : n ≤ 9223372036854775807) (ks : List Int) : Inv { s with armed := n, keep := ks } := ⟨h.srt, h.num, h.dat, h.use, h.room, h.len, ⟨h0, h1⟩⟩
set_option maxHeartbeats 4000000 in
set_option maxRecDepth 100000 in
theorem disk_Disk_Arm.calls (h : DiskAt base w p bm s) (hbase : base ≤ w.heap.size) (n : Int) (hn : n ≤ 9223372036854775807) (Ak : Option Addr) (ck : Nat) (ks : List Int) (hck : ks.length ≤ ck) (hlen : ks.length * 8 ≤ 140737488351232) (hkeep : ∀ W, Fr p bm w W → (Kd.int .i64).C W Ak ks.length ks) :
    Calls Try.prog 20 #[.pointer (some ⟨p, 0, none⟩), .int .i64 n, .slice Ak ks.length ck] w fun e w' => e = .returned (.int .i64 (armS s n ks).2) ∧ DiskAt base w' p bm (armS s n ks).1 ∧ Fr p bm w w' := by
  have HD := Aside0.mk h
  have HK := Aside0.mk hkeep
  have HCK := Aside0.mk hck
  have HLN := Aside0.mk hlen
  have HNN := Aside0.mk hn
  have HBS := Aside0.mk hbase
  clear h hkeep hck hlen hn hbase
  by_cases hd : s.dead = true
  · have e1 : armS s n ks = (s, 150) := by unfold armS; rw [if_pos hd]
    rw [e1]
    have HE := Aside0.mk hd
    clear hd e1
    go_enter Try.func20, Try.ntmps20
    go_wp2_with ((with_reducible refine gate_callee (f := 37) rfl ?_); refine goesL_ (some _) rfl rfl Try.func37 (by kernel_rfl) rfl #[.pointer (some ⟨p, 0, none⟩)] rfl My.gx ?_; (refine (disk_Disk_ready.dead HD.out HE.out).mono ?_); rintro e W1 ⟨rfl, hb⟩; refine ⟨_, rfl, ?_⟩; skip)
    go_ret
    exact ⟨rfl, HD.out.up hb, Fr.of hb⟩
  · replace hd : s.dead = false := by simpa using hd
    have HE := Aside0.mk hd
    by_cases d1 : n < 0
    · have e1 : armS s n ks = (s, 2) := by unfold armS; rw [if_neg (by rw [hd]; decide), if_pos d1]
      rw [e1]
      have b1 : decide (n < 0) = true := decide_eq_true d1
      clear hd e1 d1
      go_enter Try.func20, Try.ntmps20
      go_wp2_with ((with_reducible refine gate_callee (f := 37) rfl ?_); refine goesL_ (some _) rfl rfl Try.func37 (by kernel_rfl) rfl #[.pointer (some ⟨p, 0, none⟩)] rfl My.gx ?_; (refine (disk_Disk_ready.live HD.out HE.out).mono ?_); rintro e W1 ⟨rfl, hb⟩; refine ⟨_, rfl, ?_⟩; skip)
      go_ret
      exact ⟨rfl, HD.out.up hb, Fr.of hb⟩
    · have e1 : armS s n ks = ({ s with armed := n, keep := ks }, 0) := by unfold armS; rw [if_neg (by rw [hd]; decide), if_neg d1]
      rw [e1]
      have b1 : decide (n < 0) = false := decide_eq_false d1
      have HN0 := Aside0.mk d1
      clear hd e1 d1
      go_enter Try.func20, Try.ntmps20
      go_wp2_with (first
        | ((with_reducible refine gate_callee (f := 37) rfl ?_); refine goesL_ (some _) rfl rfl Try.func37 (by kernel_rfl) rfl #[.pointer (some ⟨p, 0, none⟩)] rfl My.gx ?_; (refine (disk_Disk_ready.live HD.out HE.out).mono ?_); rintro e W1 ⟨rfl, hb⟩; refine ⟨_, rfl, ?_⟩; have HB := Aside0.mk hb; clear hb)
        | ((with_reducible refine gate_callee (f := 38) rfl ?_); refine goesL_ (some _) rfl rfl Try.func38 (by kernel_rfl) rfl #[.slice Ak ks.length ck] rfl My.gx ?_; (refine (slices_Clone_int_int.calls Ak ck ks ks _ (HK.out _ (Fr.of HB.out)) HCK.out (by unfold slices_Clone_int_int.f; rw [if_pos HLN.out])).mono ?_); rintro e W7 ⟨v7, rfl, hR7, hb7⟩; obtain ⟨A7, c7, rfl⟩ := Kd.R_slice hR7; refine ⟨_, rfl, ?_⟩; have HB7 := Aside0.mk (HB.out.trans (hb7.mono HB.out.size)); have HR7 := Aside0.mk (Kd.R_lower hR7 (Nat.le_trans HBS.out HB.out.size)); obtain ⟨kv, hbp, hk5, k0, k1, k2, k3, k4, k5, fz⟩ := (HD.out.up HB7.out).cells; clear hbp hk5 k0 k1 k2 k5 hR7 hb7))
      go_ret
      have hD7 := HD.out.up HB7.out
      have i1 := arm_inv HD.out.inv (n := n) (by have := HN0.out; omega) HNN.out s.keep
      exact ⟨rfl, (hD7.put3 n i1).put4 _ ks (Kd.R_set HR7.out hD7.blk.choose_spec.1 (by decide) 3 _) (arm_inv HD.out.inv (by have := HN0.out; omega) HNN.out ks), ((Fr.of HB7.out).setCell 3 _).setCell 4 _⟩
end
/-! #### a disk is made -/
def okF (l : List S75) (i : Nat) (left : Int) : Prop := 0 ≤ (rd_T75 l (i : Int)).f0 ∧ (rd_T75 l (i : Int)).f0 ≤ 1000000 ∧ (0 < i → (rd_T75 l ((i : Int) - 1)).f0 < (rd_T75 l (i : Int)).f0) ∧ (rd_T75 l (i : Int)).f1.size ≠ 0 ∧ 0 ≤ (rd_T75 l (i : Int)).f2 ∧ (rd_T75 l (i : Int)).f2 ≤ ((rd_T75 l (i : Int)).f1.size : Int) ∧ ((rd_T75 l (i : Int)).f1.size : Int) ≤ left
def okL (room : Int) (l : List S75) : Prop := 0 ≤ room ∧ room ≤ 200000 ∧ l.length ≤ 8 ∧ ∀ i, i < l.length → okF l i (room - useL (l.take i))
theorem rd_take {l : List S75} {i j : Nat} (h : j < i) (hi : i ≤ l.length) : rd_T75 (l.take i) (j : Int) = rd_T75 l (j : Int) := by
  unfold rd_T75
  rw [Int.toNat_natCast, List.getD_eq_getElem?_getD, List.getD_eq_getElem?_getD, List.getElem?_take, if_pos h]
theorem last_lt {A : List S75} {n : Int} (h : A.Pairwise (fun x y => x.f0 < y.f0)) (hl : 0 < A.length → (rd_T75 A ((A.length : Int) - 1)).f0 < n) : ∀ y ∈ A, y.f0 < n := by
  intro y hy
  rcases List.eq_nil_or_concat A with rfl | ⟨B, z, rfl⟩
  · simp at hy
  · rw [List.concat_eq_append] at *
    have h1 := hl (by simp)
    have e : rd_T75 (B ++ [z]) (((B ++ [z]).length : Int) - 1) = z := by
      unfold rd_T75
      have : (((B ++ [z]).length : Int) - 1).toNat = B.length := by simp
      rw [this, List.getD_eq_getElem?_getD, List.getElem?_append_right (Nat.le_refl _)]
      simp
    rw [e] at h1
    rcases List.mem_append.1 hy with hy | hy
    · have := (List.pairwise_append.1 h).2.2 y hy z (by simp)
      omega
    · rw [List.mem_singleton.1 hy]; exact h1
theorem load_step {l : List S75} {room : Int} {i : Nat} (hi : i < l.length) (h : Inv ⟨false, room, 0, [], l.take i⟩) (hok : okF l i (room - useL (l.take i))) (h8 : l.length ≤ 8) : putL (l.take i) (rd_T75 l (i : Int)) = l.take (i + 1) ∧ Inv ⟨false, room, 0, [], l.take (i + 1)⟩ := by
  obtain ⟨o1, o2, o3, o4, o5, o6, o7⟩ := hok
  have hlen : (l.take i).length = i := by rw [List.length_take]; omega
  have hlt : ∀ y ∈ l.take i, y.f0 < (rd_T75 l (i : Int)).f0 := by
    refine last_lt h.srt (fun hp => ?_)
    rw [hlen] at hp ⊢
    have e : ((i : Int) - 1) = ((i - 1 : Nat) : Int) := by omega
    rw [e, rd_take (by omega) (by omega), ← e]
    exact o3 hp
  have e1 : putL (l.take i) (rd_T75 l (i : Int)) = l.take (i + 1) := by
    unfold putL
    rw [(hasL_false (fun y hy => by have := hlt y hy; omega)).2.2, take40 l i hi]
    have := insL_mid (x := rd_T75 l (i : Int)) (r := []) (l.take i) hlt (by simp)
    simpa using this
  refine ⟨e1, ?_⟩
  rw [← e1]
  refine h.put ⟨o1, o2⟩ ⟨o5, o6, by omega⟩ ?_ (.inr ?_)
  · show useL (l.take i) - ((getL (l.take i) (rd_T75 l (i : Int)).f0).f1.size : Int) + ((rd_T75 l (i : Int)).f1.size : Int) ≤ room
    omega
  · show (l.take i).length < 8
    omega
set_option maxHeartbeats 16000000 in
set_option maxRecDepth 100000 in
theorem disk_Load.calls (w : World) (room : Int) (A : Option Addr) (c : Nat) (l : List S75) (hr : Kd.C k75 w A l.length l) (hc : l.length ≤ c) :
    Calls Try.prog 34 #[.int .i64 room, .slice A l.length c] w fun e w' => Below w.heap.size w w' ∧ ((okL room l ∧ ∃ p bm, e = .returned (.tuple #[.pointer (some ⟨p, 0, none⟩), .int .i64 0]) ∧ DiskAt w.heap.size w' p bm ⟨false, room, 0, [], l⟩) ∨ (¬ okL room l ∧ e = .returned (.tuple #[.pointer none, .int .i64 2]))) := by
  have hu40 := Try.underlying75
  have HR := Aside0.mk hr
  have HB := My.am (Below.refl w.heap.size w)
  clear hr hc
  by_cases hbad : room < 0 ∨ room > 200000 ∨ l.length > 8
  · have hno : ¬ okL room l := fun h => by obtain ⟨h1, h2, h3, _⟩ := h; omega
    have HNO := Aside0.mk hno
    clear hno
    by_cases d1 : room < 0
    · have b1 : decide (room < 0) = true := decide_eq_true d1
      clear d1 hbad
      go_enter Try.func34, Try.ntmps34
      go_wp2
      go_ret2
      exact ⟨HB.out, .inr ⟨HNO.out, rfl⟩⟩
    · have b1 : decide (room < 0) = false := decide_eq_false d1
      by_cases d2 : room > 200000
      · have b2 : decide (200000 < room) = true := decide_eq_true d2
        clear d1 d2 hbad
        go_enter Try.func34, Try.ntmps34
        go_wp2
        go_ret2
        exact ⟨HB.out, .inr ⟨HNO.out, rfl⟩⟩
      · have b2 : decide (200000 < room) = false := decide_eq_false d2
        have b3 : decide (8 < (l.length : Int)) = true := decide_eq_true (by omega)
        clear d1 d2 hbad
        go_enter Try.func34, Try.ntmps34
        go_wp2
        go_ret2
        exact ⟨HB.out, .inr ⟨HNO.out, rfl⟩⟩
  · have b1 : decide (room < 0) = false := decide_eq_false (by omega)
    have b2 : decide (200000 < room) = false := decide_eq_false (by omega)
    have b3 : decide (8 < (l.length : Int)) = false := decide_eq_false (by omega)
    have HG := Aside0.mk hbad
    clear hbad
    have hmk : (Instr.makeMap 35 none).run Try.prog w = .ok (.map (some w.heap.size)) (w.alloc (.map #[] 0)) := by kernel_rfl
    go_enter Try.func34, Try.ntmps34
    go_upto_region 5 with ((with_reducible refine gate_dst (N := 24) rfl ?_); refine My.bx 24 #[.bool true, .bool false, .int .i64 room, .int .i64 0, .slice none 0 0, .map (some w.heap.size)] 37 ?_; intro p hg w24 hbox hb; have BX := My.am hbox; have HG24 := Aside0.mk hg; have HB24 := Aside0.mk hb; clear hb hbox hg)
    refine at_world (J := fun W => DiskAt w.heap.size W p w.heap.size ⟨false, room, 0, [], l.take 0⟩ ∧ Below w.heap.size w W) ⟨⟨⟨by simp, by simp, by simp, by have := HG.out; show useL [] ≤ room; simp [useL]; omega, by have := HG.out; show room ≤ 200000; omega, by simp, by show (0:Int) ≤ 0 ∧ (0:Int) ≤ 9223372036854775807; omega⟩, ⟨_, BX.out, Kd.R_nil _ _ _ _ _⟩, (MapAt.made w).move (HB24.out.block _ (by simp)), by rw [HG24.out]; simp, Nat.le_refl _⟩, ((Below.refl _ w).alloc (Nat.le_refl _) _).trans (HB24.out.mono (by simp))⟩ ?_
    clear BX HG24 HB24 HB b1 b2 b3
    rintro W1 ⟨D1, F1⟩
    have HD := Aside0.mk D1
    have HB := Aside0.mk F1
    clear D1 F1
    go_wp2
    go_loopg [7, 28] (l.length + 1) (fun kq v7 v28 w' => ∃ (i : Nat) (x left : Int), v7 = .int .i64 left ∧ v28 = .int .i64 x ∧ Aside0 (x = (i : Int)) ∧ Aside0 (left = room - useL (l.take i)) ∧ Aside0 (kq + i = l.length + 1) ∧ Aside0 (i ≤ l.length) ∧ Aside0 (∀ j, j < i → okF l j (room - useL (l.take j))) ∧ Aside0 (DiskAt w.heap.size w' p w.heap.size ⟨false, room, 0, [], l.take i⟩) ∧ Aside0 (Below w.heap.size w w'))
    case atStart => exact ⟨0, _, _, rfl, rfl, ⟨rfl⟩, ⟨by simp [useL]⟩, ⟨rfl⟩, ⟨Nat.zero_le _⟩, ⟨fun j hj => absurd hj (Nat.not_lt_zero _)⟩, HD, HB⟩
    case round =>
      clear HD HB
      obtain ⟨i, x, left, rfl, rfl, hx, hleft, hk, hi, HOK, HD, HB⟩ := hrel
      by_cases c9 : i < l.length
      · have q1 : x < (l.length : Int) := by have := hx.out; omega
        have p1 : (0 : Int) ≤ x := by have := hx.out; omega
        have c3 : decide (x < (l.length : Int)) = true := decide_eq_true q1
        obtain ⟨ad, e1, x0, x1, x2⟩ := at_T75 (Kd.C_below HR.out HB.out) x p1 q1
        cases e1
        have HCI := Aside0.mk c9
        clear c9
        have p2 := eq_true p1
        have q2 := eq_true q1
        obtain ⟨F, hF⟩ : ∃ F, rd_T75 l x = F := ⟨_, rfl⟩
        rw [hF] at x0 x1 x2
        have HFX := Aside0.mk hF
        clear hF
        go_upto_region 8 with ((with_reducible refine gate_dst (N := 9) rfl ?_); refine My.bx 9 #[.int .i64 0, .string ⟨#[]⟩, .int .i64 0] 75 ?_; intro g9 hg w9 hbox hb; have BX := My.am hbox; have HB9 := Aside0.mk hb; have G9 := Aside0.mk (show wr.heap.size ≤ g9 by rw [hg]; exact Nat.le_refl _); clear hb hbox hg x0 x1 x2; have hz := My.cz3 BX)
        refine at_world (J := fun W => Below wr.heap.size wr W ∧ W.heap[g9]? = some (.cells #[.int .i64 F.f0, .string F.f1, .int .i64 F.f2] 75 (0, 0))) ⟨below_set (below_set (below_set HB9.out G9.out) G9.out) G9.out, My.put3 BX.out⟩ ?_
        clear BX HB9 hz
        rintro W2 ⟨B2, Y2⟩
        have HB2 := Aside0.mk B2
        have HY2 := My.am Y2
        have HDD := Aside0.mk (HD.out.up B2)
        have HBB := Aside0.mk (HB.out.trans (B2.mono HB.out.size))
        clear B2 Y2 HD
        go_cut [80] (fun v80 wc => ∃ b, v80 = .bool b ∧ Aside0 (b = true ↔ ¬ okF l i left) ∧ Aside0 (DiskAt w.heap.size wc p w.heap.size ⟨false, room, 0, [], l.take i⟩) ∧ Aside0 (Below w.heap.size w wc) ∧ Aside0 (wc.heap[g9]? = some (.cells #[.int .i64 F.f0, .string F.f1, .int .i64 F.f2] 75 (0, 0))))
        case first =>
          have hz := My.cz3 HY2
          by_cases d1 : F.f0 < 0
          · have t1 : decide (F.f0 < 0) = true := decide_eq_true d1
            have DD := Aside0.mk d1
            clear d1
            go_quiet (fail)
            try go_wp2
            go_meet
            case rel => exact ⟨true, by first | rfl | simp, ⟨⟨fun _ h => by have h0 := hx.out; have h1 := HFX.out; subst h0; unfold okF at h; rw [h1] at h; obtain ⟨o1, o2, o3, o4, o5, o6, o7⟩ := h; have := DD.out; omega, fun _ => rfl⟩⟩, ⟨HDD.out.move (fun _ _ _ => rfl)⟩, ⟨pw_below_drewN HBB.out _⟩, ⟨HY2.out⟩⟩
          · have t1 : decide (F.f0 < 0) = false := decide_eq_false d1
            have D1 := Aside0.mk d1
            clear d1
            by_cases d2 : F.f0 > 1000000
            · have t2 : decide (1000000 < F.f0) = true := decide_eq_true d2
              have DD := Aside0.mk d2
              clear d2
              go_quiet (fail)
              try go_wp2
              go_meet
              case rel => exact ⟨true, by first | rfl | simp, ⟨⟨fun _ h => by have h0 := hx.out; have h1 := HFX.out; subst h0; unfold okF at h; rw [h1] at h; obtain ⟨o1, o2, o3, o4, o5, o6, o7⟩ := h; have := DD.out; omega, fun _ => rfl⟩⟩, ⟨HDD.out.move (fun _ _ _ => rfl)⟩, ⟨pw_below_drewN HBB.out _⟩, ⟨HY2.out⟩⟩
            · have t2 : decide (1000000 < F.f0) = false := decide_eq_false d2
              have D2 := Aside0.mk d2
              clear d2
              by_cases d3 : 0 < x
              · have t3 : decide (0 < x) = true := decide_eq_true d3
                have hlr : l.length ≤ 8 := by have := HG.out; omega
                obtain ⟨y, hy⟩ : ∃ y_ : Int, x - 1 = y_ := ⟨_, rfl⟩
                have r1 : (0 : Int) ≤ y := by omega
                have r2 : y < (l.length : Int) := by omega
                have hw1 : wrap64 (x - 1) = y := by unfold wrap64; omega
                have hw2 : IntKind.i64.wrap (x - 1) = y := by rw [IntKind.wrap_i64]; omega
                obtain ⟨ad2, e2, y0, y1, y2⟩ := at_T75 (Kd.C_below HR.out HBB.out) y r1 r2
                cases e2
                obtain ⟨G, hG⟩ : ∃ G, rd_T75 l y = G := ⟨_, rfl⟩
                rw [hG] at y0 y1 y2
                have HGX := Aside0.mk (show rd_T75 l (x - 1) = G by rw [hy]; exact hG)
                have D30 := Aside0.mk d3
                clear hG d3 hlr y1 y2 hy
                replace r1 := eq_true r1
                replace r2 := eq_true r2
                by_cases d4 : F.f0 ≤ G.f0
                · have t4 : decide (F.f0 ≤ G.f0) = true := decide_eq_true d4
                  have DD := Aside0.mk d4
                  clear d4
                  go_quiet (fail)
                  try go_wp2
                  go_meet
                  case rel => exact ⟨true, by first | rfl | simp, ⟨⟨fun _ h => by have h0 := hx.out; have h1 := HFX.out; subst h0; unfold okF at h; rw [h1] at h; obtain ⟨o1, o2, o3, o4, o5, o6, o7⟩ := h; have h2 := o3 (by have := D30.out; omega); rw [HGX.out] at h2; have := DD.out; omega, fun _ => rfl⟩⟩, ⟨HDD.out.move (fun _ _ _ => rfl)⟩, ⟨pw_below_drewN HBB.out _⟩, ⟨HY2.out⟩⟩
                · have t4 : decide (F.f0 ≤ G.f0) = false := decide_eq_false d4
                  have D3 := Aside0.mk (show (0 < i → (rd_T75 l ((i : Int) - 1)).f0 < F.f0) from fun _ => by rw [← hx.out, HGX.out]; omega)
                  have D4 := Aside0.mk d4
                  clear d4
                  by_cases d5 : F.f1.size = 0
                  · have t5 : F.f1.toList.isEmpty = true := by rw [ByteArray.toList_eq, List.isEmpty_iff]; exact List.eq_nil_of_length_eq_zero (by simpa using d5)
                    have DD := Aside0.mk d5
                    clear d5
                    go_quiet (fail)
                    try go_wp2
                    go_meet
                    case rel => exact ⟨true, by first | rfl | simp, ⟨⟨fun _ h => by have h0 := hx.out; have h1 := HFX.out; subst h0; unfold okF at h; rw [h1] at h; obtain ⟨o1, o2, o3, o4, o5, o6, o7⟩ := h; exact o4 DD.out, fun _ => rfl⟩⟩, ⟨HDD.out.move (fun _ _ _ => rfl)⟩, ⟨pw_below_drewN HBB.out _⟩, ⟨HY2.out⟩⟩
                  · have t5 : F.f1.toList.isEmpty = false := by rw [ByteArray.toList_eq, List.isEmpty_eq_false_iff]; intro he; exact d5 (by have := congrArg List.length he; simpa using this)
                    have D5 := Aside0.mk d5
                    clear d5
                    by_cases d6 : F.f2 < 0
                    · have t6 : decide (F.f2 < 0) = true := decide_eq_true d6
                      have DD := Aside0.mk d6
                      clear d6
                      go_quiet (fail)
                      try go_wp2
                      go_meet
                      case rel => exact ⟨true, by first | rfl | simp, ⟨⟨fun _ h => by have h0 := hx.out; have h1 := HFX.out; subst h0; unfold okF at h; rw [h1] at h; obtain ⟨o1, o2, o3, o4, o5, o6, o7⟩ := h; have := DD.out; omega, fun _ => rfl⟩⟩, ⟨HDD.out.move (fun _ _ _ => rfl)⟩, ⟨pw_below_drewN HBB.out _⟩, ⟨HY2.out⟩⟩
                    · have t6 : decide (F.f2 < 0) = false := decide_eq_false d6
                      have D6 := Aside0.mk d6
                      clear d6
                      by_cases d7 : F.f2 > (F.f1.size : Int)
                      · have t7 : decide ((F.f1.size : Int) < F.f2) = true := decide_eq_true d7
                        have DD := Aside0.mk d7
                        clear d7
                        go_quiet (fail)
                        try go_wp2
                        go_meet
                        case rel => exact ⟨true, by first | rfl | simp, ⟨⟨fun _ h => by have h0 := hx.out; have h1 := HFX.out; subst h0; unfold okF at h; rw [h1] at h; obtain ⟨o1, o2, o3, o4, o5, o6, o7⟩ := h; have := DD.out; omega, fun _ => rfl⟩⟩, ⟨HDD.out.move (fun _ _ _ => rfl)⟩, ⟨pw_below_drewN HBB.out _⟩, ⟨HY2.out⟩⟩
                      · have t7 : decide ((F.f1.size : Int) < F.f2) = false := decide_eq_false d7
                        have D7 := Aside0.mk d7
                        clear d7
                        by_cases d8 : (F.f1.size : Int) > left
                        · have t8 : decide (left < (F.f1.size : Int)) = true := decide_eq_true d8
                          have DD := Aside0.mk d8
                          clear d8
                          go_quiet (fail)
                          try go_wp2
                          go_meet
                          case rel => exact ⟨true, by first | rfl | simp, ⟨⟨fun _ h => by have h0 := hx.out; have h1 := HFX.out; subst h0; unfold okF at h; rw [h1] at h; obtain ⟨o1, o2, o3, o4, o5, o6, o7⟩ := h; have := DD.out; omega, fun _ => rfl⟩⟩, ⟨HDD.out.move (fun _ _ _ => rfl)⟩, ⟨pw_below_drewN HBB.out _⟩, ⟨HY2.out⟩⟩
                        · have t8 : decide (left < (F.f1.size : Int)) = false := decide_eq_false d8
                          have D8 := Aside0.mk d8
                          clear d8
                          go_quiet (fail)
                          try go_wp2
                          go_meet
                          case rel => exact ⟨false, by first | rfl | simp, ⟨⟨(fun h => by cases h), fun h => absurd (by have h0 := hx.out; have h1 := HFX.out; subst h0; unfold okF; rw [h1]; exact ⟨by have := D1.out; omega, by have := D2.out; omega, D3.out, D5.out, by have := D6.out; omega, by have := D7.out; omega, by have := D8.out; omega⟩) h⟩⟩, ⟨HDD.out.move (fun _ _ _ => rfl)⟩, ⟨pw_below_drewN HBB.out _⟩, ⟨HY2.out⟩⟩
              · have t3 : decide (0 < x) = false := decide_eq_false d3
                have D3 := Aside0.mk (show (0 < i → (rd_T75 l ((i : Int) - 1)).f0 < F.f0) from fun h => absurd (by have := hx.out; omega) d3)
                clear d3
                by_cases d5 : F.f1.size = 0
                · have t5 : F.f1.toList.isEmpty = true := by rw [ByteArray.toList_eq, List.isEmpty_iff]; exact List.eq_nil_of_length_eq_zero (by simpa using d5)
                  have DD := Aside0.mk d5
                  clear d5
                  go_quiet (fail)
                  try go_wp2
                  go_meet
                  case rel => exact ⟨true, by first | rfl | simp, ⟨⟨fun _ h => by have h0 := hx.out; have h1 := HFX.out; subst h0; unfold okF at h; rw [h1] at h; obtain ⟨o1, o2, o3, o4, o5, o6, o7⟩ := h; exact o4 DD.out, fun _ => rfl⟩⟩, ⟨HDD.out.move (fun _ _ _ => rfl)⟩, ⟨pw_below_drewN HBB.out _⟩, ⟨HY2.out⟩⟩
                · have t5 : F.f1.toList.isEmpty = false := by rw [ByteArray.toList_eq, List.isEmpty_eq_false_iff]; intro he; exact d5 (by have := congrArg List.length he; simpa using this)
                  have D5 := Aside0.mk d5
                  clear d5
                  by_cases d6 : F.f2 < 0
                  · have t6 : decide (F.f2 < 0) = true := decide_eq_true d6
                    have DD := Aside0.mk d6
                    clear d6
                    go_quiet (fail)
                    try go_wp2
                    go_meet
                    case rel => exact ⟨true, by first | rfl | simp, ⟨⟨fun _ h => by have h0 := hx.out; have h1 := HFX.out; subst h0; unfold okF at h; rw [h1] at h; obtain ⟨o1, o2, o3, o4, o5, o6, o7⟩ := h; have := DD.out; omega, fun _ => rfl⟩⟩, ⟨HDD.out.move (fun _ _ _ => rfl)⟩, ⟨pw_below_drewN HBB.out _⟩, ⟨HY2.out⟩⟩
                  · have t6 : decide (F.f2 < 0) = false := decide_eq_false d6
                    have D6 := Aside0.mk d6
                    clear d6
                    by_cases d7 : F.f2 > (F.f1.size : Int)
                    · have t7 : decide ((F.f1.size : Int) < F.f2) = true := decide_eq_true d7
                      have DD := Aside0.mk d7
                      clear d7
                      go_quiet (fail)
                      try go_wp2
                      go_meet
                      case rel => exact ⟨true, by first | rfl | simp, ⟨⟨fun _ h => by have h0 := hx.out; have h1 := HFX.out; subst h0; unfold okF at h; rw [h1] at h; obtain ⟨o1, o2, o3, o4, o5, o6, o7⟩ := h; have := DD.out; omega, fun _ => rfl⟩⟩, ⟨HDD.out.move (fun _ _ _ => rfl)⟩, ⟨pw_below_drewN HBB.out _⟩, ⟨HY2.out⟩⟩
                    · have t7 : decide ((F.f1.size : Int) < F.f2) = false := decide_eq_false d7
                      have D7 := Aside0.mk d7
                      clear d7
                      by_cases d8 : (F.f1.size : Int) > left
                      · have t8 : decide (left < (F.f1.size : Int)) = true := decide_eq_true d8
                        have DD := Aside0.mk d8
                        clear d8
                        go_quiet (fail)
                        try go_wp2
                        go_meet
                        case rel => exact ⟨true, by first | rfl | simp, ⟨⟨fun _ h => by have h0 := hx.out; have h1 := HFX.out; subst h0; unfold okF at h; rw [h1] at h; obtain ⟨o1, o2, o3, o4, o5, o6, o7⟩ := h; have := DD.out; omega, fun _ => rfl⟩⟩, ⟨HDD.out.move (fun _ _ _ => rfl)⟩, ⟨pw_below_drewN HBB.out _⟩, ⟨HY2.out⟩⟩
                      · have t8 : decide (left < (F.f1.size : Int)) = false := decide_eq_false d8
                        have D8 := Aside0.mk d8
                        clear d8
                        go_quiet (fail)
                        try go_wp2
                        go_meet
                        case rel => exact ⟨false, by first | rfl | simp, ⟨⟨(fun h => by cases h), fun h => absurd (by have h0 := hx.out; have h1 := HFX.out; subst h0; unfold okF; rw [h1]; exact ⟨by have := D1.out; omega, by have := D2.out; omega, D3.out, D5.out, by have := D6.out; omega, by have := D7.out; omega, by have := D8.out; omega⟩) h⟩⟩, ⟨HDD.out.move (fun _ _ _ => rfl)⟩, ⟨pw_below_drewN HBB.out _⟩, ⟨HY2.out⟩⟩
        case rest =>
          obtain ⟨b, rfl, hbo, HD3, HB3, HY3⟩ := hcut
          clear HDD HBB HY2 HB2
          have hz := My.cz3 HY3
          cases b with
          | true =>
            have hno : ¬ okL room l := fun h => (hbo.out.1 rfl) (by rw [hleft.out]; exact h.2.2.2 i HCI.out)
            have HNO := Aside0.mk hno
            clear hno
            go_wp2
            go_ret2
            exact ⟨HB3.out, .inr ⟨HNO.out, rfl⟩⟩
          | false =>
            have hok : okF l i left := Classical.byContradiction (fun hn => by have := hbo.out.2 hn; cases this)
            have hl8 : l.length ≤ 8 := by have := HG.out; omega
            have hr2 : room ≤ 200000 := by have := HG.out; omega
            have hst := load_step HCI.out HD3.out.inv (by rw [← hleft.out]; exact hok) hl8
            rw [← hx.out, HFX.out] at hst
            have hu0 := useL_nonneg (l.take i)
            have hwl : wrap64 (left - (F.f1.size : Int)) = left - (F.f1.size : Int) := by
              have h7 := hok.2.2.2.2.2.2
              have h1 := hleft.out
              rw [← hx.out, HFX.out] at h7
              unfold wrap64
              omega
            have hnx : left - (F.f1.size : Int) = room - useL (l.take (i + 1)) := by
              rw [useL_take l i HCI.out, ← hx.out, HFX.out]
              have h1 := hleft.out
              omega
            have hwx : IntKind.i64.wrap (x + 1) = x + 1 := by have := hx.out; have := HCI.out; rw [IntKind.wrap_i64]; omega
            have HOKI := Aside0.mk hok
            have HST := Aside0.mk hst
            have HNX := Aside0.mk hnx
            clear hok hst hl8 hr2 hu0 hnx
            have HWL := Aside0.mk hwl
            go_upto_region 11 with (fail)
            clear hwl
            obtain ⟨kv, hbp, hk5, k0, k1, k2, k3, k4, k5, fz⟩ := HD3.out.cells
            clear hbp hk5 k0 k1 k2 k3 k4 fz
            rename_i wc
            have HDd := Aside0.mk (show DiskAt w.heap.size wc.drew p w.heap.size ⟨false, room, 0, [], l.take i⟩ from HD3.out.move (fun _ _ _ => rfl))
            have hF0 : 0 ≤ F.f0 ∧ F.f0 ≤ 1000000 := by have h1 := HOKI.out.1; have h2 := HOKI.out.2.1; rw [← hx.out, HFX.out] at h1 h2; exact ⟨h1, h2⟩
            obtain ⟨W5, hr5, hm5, hg5⟩ := HDd.out.map.put F (by show (l.take i).length < 1000; rw [List.length_take]; have := HG.out; omega) (wfn hF0.1 (by omega))
            unfold valD at hr5
            simp only [] at hm5
            rw [HST.out.1] at hm5
            have HD5 := Aside0.mk (HDd.out.remap hg5 hm5 HST.out.2)
            have HB5 := Aside0.mk (show Below w.heap.size w W5 from (Below.trans (show Below w.heap.size w wc.drew from ⟨HB3.out.os, HB3.out.tape, HB3.out.output, HB3.out.size, HB3.out.block⟩) ⟨hg5.os, hg5.tape, hg5.output, hg5.size, fun k hk => hg5.block k (Nat.lt_of_lt_of_le hk HB3.out.size) (by intro e; injection e with e; omega)⟩))
            clear hm5 hg5 hF0
            go_still_tail 7, (by kernel_rfl)
            go_wp2
            have hI := HCI.out
            have hx1 := hx.out
            have hk1 := hk.out
            go_roundg (l.length - i)
            case measure => omega
            case rel => exact ⟨i + 1, x + 1, left - (F.f1.size : Int), by first | rfl | (rw [HWL.out]), by first | rfl | (rw [hwx]), ⟨by omega⟩, HNX, ⟨by omega⟩, ⟨by omega⟩, ⟨fun j hj => by
              rcases Nat.lt_or_ge j i with h | h
              · exact HOK.out j h
              · obtain rfl : j = i := by omega
                have := HOKI.out
                rw [hleft.out] at this
                exact this⟩, HD5, HB5⟩
      · have hi2 := hi.out
        have hx1 := hx.out
        have c3 : decide (x < (l.length : Int)) = false := decide_eq_false (by omega)
        have e : l.take i = l := List.take_of_length_le (by omega)
        have h1 := HD.out
        rw [e] at h1
        have HE := Aside0.mk h1
        have hok : okL room l := ⟨by have := HG.out; omega, by have := HG.out; omega, by have := HG.out; omega, fun j hj => HOK.out j (by omega)⟩
        have HOKL := Aside0.mk hok
        clear h1 hi2 hx1 c9 e hok HD
        go_wp2
        go_ret2
        exact ⟨HB.out, .inl ⟨HOKL.out, p, w.heap.size, rfl, HE.out⟩⟩
theorem disk_Load0.calls (w : World) (room : Int) : Calls Try.prog 34 #[.int .i64 room, .slice none 0 0] w fun e w' => ∃ v, e = .returned v ∧ Below w.heap.size w w' ∧ ((0 ≤ room ∧ room ≤ 200000 ∧ ∃ p bm, v = .tuple #[.pointer (some ⟨p, 0, none⟩), .int .i64 0] ∧ DiskAt w.heap.size w' p bm ⟨false, room, 0, [], []⟩) ∨ (¬ (0 ≤ room ∧ room ≤ 200000) ∧ v = .tuple #[.pointer none, .int .i64 2])) := by
  refine (disk_Load.calls w room none 0 [] (Kd.C_nil _ _) (Nat.le_refl _)).mono ?_
  rintro e W1 ⟨hb, hc⟩
  rcases hc with ⟨hok, p, bm, rfl, hD⟩ | ⟨hno, rfl⟩
  · exact ⟨_, rfl, hb, .inl ⟨hok.1, hok.2.1, p, bm, rfl, hD⟩⟩
  · exact ⟨_, rfl, hb, .inr ⟨fun h => hno ⟨h.1, h.2, by simp, fun i hi => absurd hi (by simp)⟩, rfl⟩⟩
set_option maxHeartbeats 4000000 in
theorem disk_New.calls (w : World) (room : Int) : Calls Try.prog 12 #[.int .i64 room] w fun e w' => Below w.heap.size w w' ∧ ((0 ≤ room ∧ room ≤ 200000 ∧ ∃ p bm, e = .returned (.tuple #[.pointer (some ⟨p, 0, none⟩), .int .i64 0]) ∧ DiskAt w.heap.size w' p bm ⟨false, room, 0, [], []⟩) ∨ (¬ (0 ≤ room ∧ room ≤ 200000) ∧ e = .returned (.tuple #[.pointer none, .int .i64 2]))) := by
  by_cases hok : 0 ≤ room ∧ room ≤ 200000
  · have HL : Aside0 (Calls Try.prog 34 #[.int .i64 room, .slice none 0 0] w fun e w' => ∃ p bm, e = .returned (.tuple #[.pointer (some ⟨p, 0, none⟩), .int .i64 0]) ∧ Below w.heap.size w w' ∧ DiskAt w.heap.size w' p bm ⟨false, room, 0, [], []⟩) := ⟨(disk_Load0.calls w room).mono (by
      rintro e W1 ⟨v, rfl, hb, ⟨_, _, p, bm, rfl, hD⟩ | ⟨hno, _⟩⟩
      · exact ⟨p, bm, rfl, hb, hD⟩
      · exact absurd hok hno)⟩
    have HO := Aside0.mk hok
    clear hok
    go_enter Try.func12, Try.ntmps12
    go_wp2_with ((with_reducible refine gate_callee (f := 34) rfl ?_); refine goesL_ (some _) rfl rfl Try.func34 (by kernel_rfl) rfl #[.int .i64 room, .slice none 0 0] rfl My.gx ?_; (refine HL.out.mono ?_); rintro e W1 ⟨p, bm, rfl, hb, hD⟩; refine ⟨_, rfl, ?_⟩; have HD := Aside0.mk hD; have HB := Aside0.mk hb; clear hD hb)
    go_ret2
    exact ⟨HB.out, .inl ⟨HO.out.1, HO.out.2, p, bm, rfl, HD.out⟩⟩
  · have HL : Aside0 (Calls Try.prog 34 #[.int .i64 room, .slice none 0 0] w fun e w' => e = .returned (.tuple #[.pointer none, .int .i64 2]) ∧ Below w.heap.size w w') := ⟨(disk_Load0.calls w room).mono (by
      rintro e W1 ⟨v, rfl, hb, ⟨h1, h2, _⟩ | ⟨_, rfl⟩⟩
      · exact absurd ⟨h1, h2⟩ hok
      · exact ⟨rfl, hb⟩)⟩
    have HO := Aside0.mk hok
    clear hok
    go_enter Try.func12, Try.ntmps12
    go_wp2_with ((with_reducible refine gate_callee (f := 34) rfl ?_); refine goesL_ (some _) rfl rfl Try.func34 (by kernel_rfl) rfl #[.int .i64 room, .slice none 0 0] rfl My.gx ?_; (refine HL.out.mono ?_); rintro e W1 ⟨rfl, hb⟩; refine ⟨_, rfl, ?_⟩; have HB := Aside0.mk hb; clear hb)
    go_ret2
    exact ⟨HB.out, .inr ⟨HO.out, rfl⟩⟩

end Go.Proofs.Ytkcpgaplpmbmoaa.PA
