/- A log on a disk, and the document's, walked by hand; Lean checks it. -/
import Derived.Test.YtkcpgaplpmbmoaaGreatPAx21
namespace Go.Proofs.YtkcpgaplpmbmoaaGreat.PA
open Go.RowKit Go.Proofs.YtkcpgaplpmbmoaaGreatW.PrintWords Go.Proofs.YtkcpgaplpmbmoaaGreatW.PrintLast Go.Proofs.YtkcpgaplpmbmoaaGreatW.PrintMore
attribute [local go_sem] max2_int min2_int max_two min_two max_three min_three max_four min_four
set_option linter.unusedVariables false
set_option linter.unusedSimpArgs false

/-! the document's steps besides Append -/
def stepR (s : DS) (what n z : Int) : DS × Int := if what = 1 then syncS s n else if what = 2 then cutS s n z else remS s n
def newX (what n z : Int) (X : S24) : List S24 := if what = 3 then [] else if what = 2 then [⟨n, X.f1.extract 0 z.toNat, z⟩] else [⟨n, X.f1, (X.f1.size : Int)⟩]
theorem idx_split {s : DS} (h : Inv s) (n : Int) (hh : hasL s.L n = true) : ∃ i : Nat, i < s.L.length ∧ idxL s.L n 0 = (i : Int) ∧ rd_T24 s.L (i : Int) = getL s.L n ∧ (getL s.L n).f0 = n ∧ delL s.L n = s.L.take i ++ s.L.drop (i + 1) ∧ ∀ x', x'.f0 = n → putL s.L x' = s.L.take i ++ x' :: s.L.drop (i + 1) := by
  obtain ⟨A, B, hA, hB, hdel, hput, hc⟩ := splitL h.srt n
  rcases hc with ⟨_, h2, e⟩ | ⟨h1, _, _⟩
  · obtain ⟨X, hX⟩ : ∃ X, getL s.L n = X := ⟨_, rfl⟩
    rw [hX] at e h2 ⊢
    have e1 : s.L.take A.length = A := by rw [e]; simp
    have e2 : s.L.drop (A.length + 1) = B := by
      have e3 : A ++ X :: B = (A ++ [X]) ++ B := by simp
      have hl : A.length + 1 = (A ++ [X]).length := by simp
      rw [e, e3, hl, List.drop_left]
    refine ⟨A.length, by rw [e]; simp, ?_, ?_, h2, by rw [hdel, e1, e2], fun x' hx' => by rw [hput x' hx', e1, e2]⟩
    · have := idxL_yes (B := B) h2 A 0 (fun y hy => by have := hA y hy; omega)
      rw [← e, Nat.zero_add] at this
      exact this
    · rw [e]
      unfold rd_T24
      rw [Int.toNat_natCast, List.getD_eq_getElem?_getD, List.getElem?_append_right (Nat.le_refl _)]
      simp
  · rw [hh] at h1; cases h1
theorem step_inv {s : DS} (h : Inv s) (n : Int) (hh : hasL s.L n = true) {what z : Int} (hw : what = 1 ∨ what = 2 ∨ what = 3) (hz : what = 2 → 1 ≤ z ∧ z ≤ ((getL s.L n).f1.size : Int)) {i : Nat} (hdel : delL s.L n = s.L.take i ++ s.L.drop (i + 1)) (hput : ∀ x', x'.f0 = n → putL s.L x' = s.L.take i ++ x' :: s.L.drop (i + 1)) :
    Inv { s with L := s.L.take i ++ newX what n z (getL s.L n) ++ s.L.drop (i + 1) } := by
  obtain ⟨hm, h0⟩ := getL_mem' hh
  have hnum := h.num _ hm
  have hdat := h.dat _ hm
  rw [h0] at hnum
  rcases hw with rfl | rfl | rfl
  · have := h.put (x := ⟨n, (getL s.L n).f1, ((getL s.L n).f1.size : Int)⟩) hnum ⟨by show (0:Int) ≤ ((getL s.L n).f1.size : Int); omega, by show ((getL s.L n).f1.size : Int) ≤ ((getL s.L n).f1.size : Int); omega, hdat.2.2⟩ (by show useL s.L - ((getL s.L n).f1.size : Int) + ((getL s.L n).f1.size : Int) ≤ s.room; have := h.use; omega) (.inl hh)
    rw [hput _ rfl] at this
    simpa [newX] using this
  · obtain ⟨z1, z2⟩ := hz rfl
    have hsz : ((((getL s.L n).f1.extract 0 z.toNat).size : Nat) : Int) = z := by rw [ByteArray.size_extract]; omega
    have := h.put (x := ⟨n, (getL s.L n).f1.extract 0 z.toNat, z⟩) hnum ⟨by show (0:Int) ≤ z; omega, by show z ≤ (((getL s.L n).f1.extract 0 z.toNat).size : Int); omega, by show 0 < ((getL s.L n).f1.extract 0 z.toNat).size; omega⟩ (by show useL s.L - ((getL s.L n).f1.size : Int) + (((getL s.L n).f1.extract 0 z.toNat).size : Int) ≤ s.room; have := h.use; omega) (.inl hh)
    rw [hput _ rfl] at this
    simpa [newX] using this
  · have := h.del n
    rw [hdel] at this
    simpa [newX] using this
theorem stepR_zero {s : DS} (h : Inv s) (n : Int) {what z : Int} (hw : what = 1 ∨ what = 2 ∨ what = 3) (hd : s.dead = false) (hh : hasL s.L n = true) (hz : what = 2 → 1 ≤ z ∧ z ≤ ((getL s.L n).f1.size : Int)) {i : Nat} (hdel : delL s.L n = s.L.take i ++ s.L.drop (i + 1)) (hput : ∀ x', x'.f0 = n → putL s.L x' = s.L.take i ++ x' :: s.L.drop (i + 1)) :
    stepR s what n z = chgS s (s.L.take i ++ newX what n z (getL s.L n) ++ s.L.drop (i + 1)) := by
  have e0 : findE s n = 0 := by simp [findE, hd, hh]
  rcases hw with rfl | rfl | rfl
  · unfold stepR syncS newX
    rw [if_pos rfl, if_pos e0, hput _ rfl]
    simp
  · obtain ⟨z1, z2⟩ := hz rfl
    unfold stepR cutS newX
    rw [if_neg (by decide), if_pos rfl, if_pos e0, if_neg (by omega), hput _ rfl]
    simp
  · unfold stepR remS newX
    rw [if_neg (by decide), if_neg (by decide), if_pos e0, hdel]
    simp
theorem stepR_err {s : DS} (n : Int) {what z : Int} (hw : what = 1 ∨ what = 2 ∨ what = 3) (he : findE s n ≠ 0) : stepR s what n z = (s, findE s n) := by
  unfold stepR syncS cutS remS
  rcases hw with rfl | rfl | rfl <;> simp [he]
theorem stepR_bad {s : DS} (n : Int) {z : Int} (he : findE s n = 0) (hz : z < 1 ∨ z > ((getL s.L n).f1.size : Int)) : stepR s 2 n z = (s, 2) := by
  unfold stepR cutS
  rw [if_neg (by decide), if_pos rfl, if_pos he, if_pos hz]
section
variable {w0 w : World} {q p bm base : Nat} {s : DS}
set_option maxHeartbeats 32000000 in
set_option maxRecDepth 100000 in
theorem ref_Step.calls (h : RefAt w0 w q s) (what n z : Int) (hw : what = 1 ∨ what = 2 ∨ what = 3) : Calls Tryz.prog 27 #[.pointer (some ⟨q, 0, none⟩), .int .i64 what, .int .i64 n, .int .i64 z] w fun e w' => e = .returned (.int .i64 (stepR s what n z).2) ∧ RefAt w0 w' q (stepR s what n z).1 ∧ FrQ q w w' := by
  have hu40 := Tryz.underlying24
  have HR := Aside0.mk h
  have HI := Aside0.mk h.inv
  have HWH := Aside0.mk hw
  clear h hw
  obtain ⟨R, hR⟩ : ∃ R, stepR s what n z = R := ⟨_, rfl⟩
  rw [hR]
  have HRES := Aside0.mk hR
  clear hR
  obtain ⟨A, c, ks0, fA, fc, hb, h2, h3, h4, h5, h6, h7, k0, k1, k2, k3, k4, fz⟩ := HR.out.cells
  have K3 := Aside0.mk k3
  have K4 := Aside0.mk k4
  have HCF := Aside0.mk h6
  have H4 := Aside0.mk h4
  have H2 := Aside0.mk h2
  have H3 := Aside0.mk h3
  clear hb h2 h3 h4 h5 h6 h7 k0 k2 k3 k4 fz
  by_cases hd : s.dead = true
  · have e1 : R = (s, 150) := by
      have e0 : findE s n = 150 := by simp [findE, hd]
      rw [← HRES.out, stepR_err n HWH.out (by omega), e0]
    subst e1
    rw [hd] at k1
    clear hd HRES
    go_enter Tryz.func27, Tryz.ntmps27
    go_wp2
    go_ret
    exact ⟨rfl, HR.out, FrQ.refl _ _⟩
  · have hd' : s.dead = false := by simpa using hd
    rw [hd'] at k1
    cases hh : hasL s.L n with
    | false =>
      have hx : idxL s.L n 0 = -1 := by
        rcases idxL_cases HI.out n with ⟨_, g⟩ | ⟨g, _⟩
        · exact g
        · rw [hh] at g; cases g
      have e1 : R = (s, 152) := by
        have e0 : findE s n = 152 := by simp [findE, hd', hh]
        rw [← HRES.out, stepR_err n HWH.out (by omega), e0]
      subst e1
      have HX := Aside0.mk hx
      clear hd hd' hh hx HRES
      go_enter Tryz.func27, Tryz.ntmps27
      go_wp2_with ((with_reducible refine gate_callee (f := 51) rfl ?_); refine goesL_ (some _) rfl rfl Tryz.func51 (by kernel_rfl) rfl #[.pointer (some ⟨q, 0, none⟩), .int .i64 n] rfl My.gx ?_; (refine (ref_at.calls HR.out n).mono ?_); rintro e W1 ⟨rfl, hb⟩; refine ⟨_, rfl, ?_⟩; rw [HX.out]; have HB := Aside0.mk hb; clear hb)
      go_ret
      exact ⟨rfl, HR.out.up HB.out, FrQ.of HB.out⟩
    | true =>
      obtain ⟨i, hi, hix, hrd, hXn, hdel, hput⟩ := idx_split HI.out n hh
      have he0 : findE s n = 0 := by simp [findE, hd', hh]
      obtain ⟨x, hxx⟩ : ∃ x : Int, (i : Int) = x := ⟨_, rfl⟩
      obtain ⟨X, hX⟩ : ∃ X, getL s.L n = X := ⟨_, rfl⟩
      have hmem := (getL_mem' hh).1
      have hdat := HI.out.dat _ hmem
      have hdead := hd'
      rw [hX] at hrd hXn
      rw [hxx] at hix hrd
      have p1 : (0 : Int) ≤ x := by omega
      have q1 : x < (s.L.length : Int) := by omega
      have t0 : decide (x < 0) = false := decide_eq_false (by omega)
      have HIX := Aside0.mk hix
      have HRD := Aside0.mk hrd
      have HXN := Aside0.mk hXn
      have HDEL := Aside0.mk hdel
      have HPUT := Aside0.mk hput
      have HXX := Aside0.mk hxx
      have HLI := Aside0.mk hi
      have HGX := Aside0.mk hX
      have HHH := Aside0.mk hh
      have HE0 := Aside0.mk he0
      have HDD := Aside0.mk hdead
      have p2 := eq_true p1
      have q2 := eq_true q1
      clear hix hrd hXn hdel hput hi hX hh he0 hdead hd hd' hmem hdat hxx
      obtain ⟨ad, e1, x0, x1, x2⟩ := at_T24 HCF.out x p1 q1
      cases e1
      rw [HRD.out] at x0 x1 x2
      have X1 := Aside0.mk x1
      clear x0 x1 x2
      go_enter Tryz.func27, Tryz.ntmps27
      go_upto_region 6 with ((with_reducible refine gate_callee (f := 51) rfl ?_); refine goesL_ (some _) rfl rfl Tryz.func51 (by kernel_rfl) rfl #[.pointer (some ⟨q, 0, none⟩), .int .i64 n] rfl My.gx ?_; (refine (ref_at.calls HR.out n).mono ?_); rintro e W1 ⟨rfl, hb⟩; refine ⟨_, rfl, ?_⟩; rw [HIX.out]; have HB := Aside0.mk hb; have k4 := (hb.cell (World.block_lt_of_cell? _ _ K4.out)).trans K4.out; have x1 := (hb.cell (World.block_lt_of_cell? _ _ X1.out)).trans X1.out; clear hb)
      clear t0 k1
      obtain ⟨bad, hbad⟩ : ∃ b, (decide (what = 2) && (decide (z < 1) || decide ((X.f1.size : Int) < z))) = b := ⟨_, rfl⟩
      have HBAD := Aside0.mk hbad
      clear hbad
      go_cut [40] (fun v40 wc => v40 = .bool bad ∧ wc = W1)
      case first =>
        by_cases a2 : what = 2
        · have u1 : decide (what = 2) = true := decide_eq_true a2
          have u2 : (what == 2) = true := by rw [a2]; rfl
          have HA2 := Aside0.mk a2
          clear a2
          by_cases z1 : z < 1
          · have v1 : decide (z < 1) = true := decide_eq_true z1
            go_wp2
            go_meet
            case rel => exact ⟨by rw [← HBAD.out, u1, v1]; first | rfl | simp, rfl⟩
          · have v1 : decide (z < 1) = false := decide_eq_false z1
            go_wp2
            go_meet
            case rel => exact ⟨by rw [← HBAD.out, u1, v1]; first | rfl | simp, rfl⟩
        · have u1 : decide (what = 2) = false := decide_eq_false a2
          have u2 : (what == 2) = false := beq_eq_false_iff_ne.2 a2
          go_wp2
          go_meet
          case rel => exact ⟨by rw [← HBAD.out]; simp [a2], rfl⟩
      case rest =>
        obtain ⟨rfl, rfl⟩ := hcut
        clear k4 x1
        cases bad with
        | true =>
          have hb := HBAD.out
          simp only [Bool.and_eq_true, Bool.or_eq_true, decide_eq_true_eq] at hb
          have e1 : R = (s, 2) := by
            rw [← HRES.out, hb.1]
            exact stepR_bad n HE0.out (by rw [HGX.out]; exact hb.2)
          subst e1
          clear hb HRES
          go_wp2
          go_ret
          exact ⟨rfl, HR.out.up HB.out, FrQ.of HB.out⟩
        | false =>
          have hz : what = 2 → 1 ≤ z ∧ z ≤ (X.f1.size : Int) := by
            intro h2
            have hb := HBAD.out
            simp only [Bool.and_eq_false_iff, Bool.or_eq_false_iff, decide_eq_false_iff_not] at hb
            rcases hb with hb | ⟨hb1, hb2⟩
            · exact absurd h2 hb
            · exact ⟨by omega, by omega⟩
          have HZ := Aside0.mk hz
          have e1 : R = chgS s (s.L.take i ++ newX what n z X ++ s.L.drop (i + 1)) := by
            rw [← HRES.out, ← HGX.out]
            exact stepR_zero HI.out n HWH.out HDD.out HHH.out (by rw [HGX.out]; exact hz) HDEL.out HPUT.out
          have HE1 := Aside0.mk e1
          clear e1 hz HRES HBAD
          have HCALL := Aside0.mk (ref_last.calls (HR.out.up HB.out))
          have K31 := Aside0.mk ((HB.out.cell (World.block_lt_of_cell? _ _ K3.out)).trans K3.out)
          cases hls : lastS s with
          | true =>
            have e2 := HE1.out
            unfold chgS at e2
            rw [if_pos hls] at e2
            subst e2
            have hk0 : ks0 = s.keep := by
              refine H4.out ?_
              unfold lastS at hls
              have := of_decide_eq_true hls
              omega
            have HK0 := Aside0.mk hk0
            have HC2 := HCALL.out
            rw [hls] at HC2
            have HCA := Aside0.mk HC2
            clear HE1 HCALL hls HC2 hk0
            go_wp2_with (first
              | ((with_reducible refine gate_callee (f := 52) rfl ?_); refine goesL_ (some _) rfl rfl Tryz.func52 (by kernel_rfl) rfl #[.pointer (some ⟨q, 0, none⟩)] rfl My.gx ?_; (refine HCA.out.mono ?_); rintro e W6 ⟨rfl, hR6, hF6, h36⟩; refine ⟨_, rfl, ?_⟩; have HR6 := Aside0.mk hR6; have HF6 := Aside0.mk ((FrQ.of HB.out).trans hF6); have k99936 := h36 _ K31.out; clear hR6 hF6 h36)
              | ((with_reducible refine gate_callee (f := 53) rfl ?_); refine goesL_ (some _) rfl rfl Tryz.func53 (by kernel_rfl) rfl #[.pointer (some ⟨q, 0, none⟩), .slice A ks0.length c] rfl My.gx ?_; (refine (ref_fall.calls HR6.out A c ks0 H2.out H3.out).mono ?_); rintro e W7 ⟨rfl, hR7, hF7⟩; refine ⟨_, rfl, ?_⟩; have HR7 := Aside0.mk hR7; have HF7 := Aside0.mk (HF6.out.trans hF7); clear hR7 hF7))
            go_ret
            exact ⟨rfl, by rw [← HK0.out]; exact HR7.out, HF7.out⟩
          | false =>
            have e2 := HE1.out
            unfold chgS at e2
            rw [if_neg (by rw [hls]; decide)] at e2
            subst e2
            have HC2 := HCALL.out
            rw [hls] at HC2
            have HCA := Aside0.mk HC2
            clear HE1 HCALL hls HC2
            go_upto_region 11 with ((with_reducible refine gate_callee (f := 52) rfl ?_); refine goesL_ (some _) rfl rfl Tryz.func52 (by kernel_rfl) rfl #[.pointer (some ⟨q, 0, none⟩)] rfl My.gx ?_; (refine HCA.out.mono ?_); rintro e W6 ⟨rfl, hR6, hF6, h36⟩; refine ⟨_, rfl, ?_⟩; have HR6 := Aside0.mk hR6; have HF6 := Aside0.mk ((FrQ.of HB.out).trans hF6); clear hR6 hF6 h36)
            obtain ⟨A', c', ks', fA', fc', hb', h2', h3', h4', h5', h6', h7', k0', k1', k2', k3', k4', fz'⟩ := HR6.out.cells
            rw [stepS_L] at h5' h6' k4'
            have K46 := Aside0.mk k4'
            have FZ6 := Aside0.mk fz'
            have HC6 := Aside0.mk h6'
            have HLC := Aside0.mk h5'
            have HL8 := Aside0.mk HI.out.len
            clear hb' h2' h3' h4' h5' h6' h7' k0' k1' k2' k3' fz'
            obtain ⟨ad6, e6, x0, x1, x2⟩ := at_T24 HC6.out x p1 q1
            cases e6
            rw [HRD.out] at x0 x1 x2
            go_upto_region 12 with ((with_reducible refine gate_dst (N := 10) rfl ?_); refine My.bx 10 #[.int .i64 0, .string ⟨#[]⟩, .int .i64 0] 24 ?_; intro g10 hg w10 hbox hb; have BX := My.am hbox; have HB10 := Aside0.mk hb; have G10 := Aside0.mk (show W6.heap.size ≤ g10 by rw [hg]; exact Nat.le_refl _); clear hb hbox hg x0 x1 x2; have hz := My.cz3 BX)
            refine at_world (J := fun W => Below W6.heap.size W6 W ∧ W.heap[g10]? = some (.cells #[.int .i64 X.f0, .string X.f1, .int .i64 X.f2] 24 (0, 0))) ⟨below_set (below_set (below_set HB10.out G10.out) G10.out) G10.out, My.put3 BX.out⟩ ?_
            clear BX HB10 hz k4'
            rintro W2 ⟨B2, Y2⟩
            have HB2 := Aside0.mk B2
            have HY2 := My.am Y2
            have k4 := (B2.cell (World.block_lt_of_cell? _ _ K46.out)).trans K46.out
            clear B2 Y2
            obtain ⟨y, hy⟩ : ∃ y : Int, x + 1 = y := ⟨_, rfl⟩
            have hwy : wrap64 (x + 1) = y := by have := HL8.out; unfold wrap64; omega
            have y0 : (0 : Int) ≤ y := by omega
            have y1 : y ≤ (s.L.length : Int) := by omega
            have hyn : y.toNat = i + 1 := by have := HXX.out; omega
            obtain ⟨i0, hi0, _, hsz0, _⟩ := info_parts info24
            have hcf := cut_from (P := Tryz.prog) 22 24 .i64 Tryz.underlying22 hi0 3 (hsz0.trans rfl) (some ad6) s.L.length fc' y y0 y1
            have hct := cut_to (P := Tryz.prog) 22 24 .i64 Tryz.underlying22 hi0 (some ad6) s.L.length fc' x p1 (by omega) HLC.out
            have hCd := Kd.C_drop (m := i + 1) (c := fc') HC6.out (by have := HLI.out; omega) HLC.out
            have hCt := Kd.C_take (m := i) HC6.out (by have := HLI.out; omega)
            rw [hyn] at hcf
            have hxn : x.toNat = i := by have := HXX.out; omega
            rw [hxn] at hct
            have hld : s.L.length - (i + 1) = (s.L.drop (i + 1)).length := by rw [List.length_drop]
            have hlt : i = (s.L.take i).length := by rw [List.length_take]; have := HLI.out; omega
            rw [hld] at hcf
            obtain ⟨Ad, hAd⟩ : ∃ Ad, (if fc' = i + 1 then some ad6 else (some ad6).map (·.add ((i + 1) * 3))) = Ad := ⟨_, rfl⟩
            have hCd2 : Kd.C k24 W6 Ad (s.L.drop (i + 1)).length (s.L.drop (i + 1)) := by rw [← hAd]; exact hCd
            rw [hAd] at hcf
            have hct2 : ∀ W : World, (Instr.slice 22 (.slice (some ad6) s.L.length fc') none (some (.int .i64 x)) none).run Tryz.prog W = .ok (.slice (some ad6) (s.L.take i).length fc') W := by rw [← hlt]; exact hct
            obtain ⟨D, hD⟩ : ∃ D, s.L.drop (i + 1) = D := ⟨_, rfl⟩
            obtain ⟨T, hT⟩ : ∃ T, s.L.take i = T := ⟨_, rfl⟩
            rw [hD] at hCd2 hcf
            rw [hT] at hct2 hCt
            have HDd := Aside0.mk hD
            have HTd := Aside0.mk hT
            have HCD := Aside0.mk hCd2
            have HCT := Aside0.mk hCt
            have HLT := Aside0.mk (show D.length ≤ 8 ∧ T.length ≤ 8 by rw [← hD, ← hT, List.length_drop, List.length_take]; have := HL8.out; omega)
            clear hD hT
            clear hCd hCd2 hCt hct hld hlt hAd hy hyn hxn y0 y1 hi0 hsz0
            replace k4 := (World.cell?_alloc_lt W2 (.cells #[] 24) _ (World.block_lt_of_cell? _ _ k4)).trans k4
            go_upto_region 13 with (at_builtin; refine Kd.R_append_rows k24 (w0 := W2) W2.heap.size rfl _ _ 22 24 (.agg #[(.int .i64 0), (.string ⟨#[]⟩), (.int .i64 0)]) 32 rfl Tryz.underlying22 info24 rfl (by decide) (by decide) (.slice (some ⟨W2.heap.size, 0, none⟩) 0 0) [] D _ _ _ (fun _ => True) (fun _ => False) rfl rfl ⟨fun _ _ => trivial, _, World.ownsRow_made W2 #[] 0 (Nat.le_refl _) (Nat.zero_le _) rfl, Reps.none _ _⟩ (Kd.C_below (Kd.C_below HCD.out HB2.out) (below_alloc (Below.refl _ _) _)) (fun _ _ h => h) (fun _ h => h.elim) (fun _ _ => trivial) (below_alloc (Below.refl _ _) _) (by simp) (by have := HLT.out; simp only [List.length_nil]; omega) ?_; intro v1 w1 hr1 hb1 hg1 hat1; obtain ⟨rA, rc, rfl⟩ := Kd.R_slice hr1)
            simp only [List.nil_append] at hr1
            clear k4 hcf
            refine at_world (J := fun W => Below W2.heap.size W2 W ∧ k24.R 24 W W2.heap.size (fun _ => True) (.slice rA D.length rc) D) ⟨hb1, hr1⟩ ?_
            clear hr1 hb1 hg1 hat1
            rintro W3 ⟨B3, O3⟩
            have HB3 := Aside0.mk B3
            have HRS := Aside0.mk O3
            have k4 := (B3.cell (World.block_lt_of_cell? _ _ ((HB2.out.cell (World.block_lt_of_cell? _ _ K46.out)).trans K46.out))).trans ((HB2.out.cell (World.block_lt_of_cell? _ _ K46.out)).trans K46.out)
            clear B3 O3
            replace k4 := (World.cell?_alloc_lt W3 (.cells #[] 24) _ (World.block_lt_of_cell? _ _ k4)).trans k4
            go_upto_region 14 with (at_builtin; refine Kd.R_append_rows k24 (w0 := W3) W3.heap.size rfl _ _ 22 24 (.agg #[(.int .i64 0), (.string ⟨#[]⟩), (.int .i64 0)]) 32 rfl Tryz.underlying22 info24 rfl (by decide) (by decide) (.slice (some ⟨W3.heap.size, 0, none⟩) 0 0) [] T _ _ _ (fun _ => True) (fun _ => False) rfl rfl ⟨fun _ _ => trivial, _, World.ownsRow_made W3 #[] 0 (Nat.le_refl _) (Nat.zero_le _) rfl, Reps.none _ _⟩ (Kd.C_below (Kd.C_below (Kd.C_below HCT.out HB2.out) HB3.out) (below_alloc (Below.refl _ _) _)) (fun _ _ h => h) (fun _ h => h.elim) (fun _ _ => trivial) (below_alloc (Below.refl _ _) _) (by simp) (by have := HLT.out; simp only [List.length_nil]; omega) ?_; intro v1 w1 hr1 hb1 hg1 hat1; obtain ⟨oA, oc, rfl⟩ := Kd.R_slice hr1)
            simp only [List.nil_append] at hr1
            clear k4 hct2
            refine at_world (J := fun W => Below W3.heap.size W3 W ∧ k24.R 24 W W3.heap.size (fun _ => True) (.slice oA T.length oc) T) ⟨hb1, hr1⟩ ?_
            clear hr1 hb1 hg1 hat1
            rintro W4 ⟨B4, O4⟩
            have HB4 := Aside0.mk B4
            have HRO := Aside0.mk O4
            clear B4 O4
            rcases HWH.out with hwh | hwh | hwh
            · subst hwh
              have HYX := My.am (show W4.heap[g10]? = some (.cells #[.int .i64 X.f0, .string X.f1, .int .i64 X.f2] 24 (0, 0)) from (HB4.out.block g10 (Nat.lt_of_lt_of_le (blk_lt HY2.out) HB3.out.size)).trans ((HB3.out.block g10 (blk_lt HY2.out)).trans HY2.out))
              have hz0 := My.cz3 HYX
              have HBW4 := Aside0.mk (show Below W6.heap.size W6 W4 from HB2.out.trans ((HB3.out.mono HB2.out.size).trans (HB4.out.mono (Nat.le_trans HB2.out.size HB3.out.size))))
              have HRS4 := Aside0.mk (Kd.R_mono (Kd.R_lower (Kd.R_below (Kd.R_bound HRS.out) HB4.out) HB2.out.size) (fun k hk => show g10 < k ∧ k < W3.heap.size from ⟨by have h1 := hk.2.1; have h2 := blk_lt HY2.out; omega, hk.2.2.1⟩))
              have HRO4 := Aside0.mk (Kd.R_mono (Kd.R_lower (Kd.R_bound HRO.out) (Nat.le_trans HB2.out.size HB3.out.size)) (fun k hk => show W3.heap.size ≤ k from hk.2.1))
              have HGN := Aside0.mk (show g10 < W3.heap.size from Nat.lt_of_lt_of_le (blk_lt HY2.out) HB3.out.size)
              clear HRS HRO
              go_upto_region 17 with (fail)
              have hY5 := blk_put HYX.out 2 (.int .i64 (X.f1.size : Int)) rfl
              refine at_world (J := fun W => W.heap[g10]? = some (.cells #[.int .i64 X.f0, .string X.f1, .int .i64 (X.f1.size : Int)] 24 (0, 0)) ∧ k24.R 24 W W6.heap.size (fun k => g10 < k ∧ k < W3.heap.size) (.slice rA D.length rc) D ∧ k24.R 24 W W6.heap.size (fun k => W3.heap.size ≤ k) (.slice oA T.length oc) T ∧ Below W6.heap.size W6 W ∧ W3.heap.size ≤ W.heap.size) ⟨hY5, Kd.R_far (p := ⟨g10, 2, none⟩) HRS4.out (fun k hk => by show k ≠ g10; have := hk.1; have := HGN.out; omega) _, Kd.R_far (p := ⟨g10, 2, none⟩) HRO4.out (fun k hk => by show k ≠ g10; have := hk; have := HGN.out; omega) _, below_set HBW4.out G10.out, by simpa using HB4.out.size⟩ ?_
              clear hY5 hz0 HYX HRS4 HRO4 HBW4
              rintro W5 ⟨Y5, O5r, O5o, B5, N5⟩
              have HY5 := My.am Y5
              have HRS5 := Aside0.mk O5r
              have HRO5 := Aside0.mk O5o
              have HB5 := Aside0.mk B5
              have HN5 := Aside0.mk N5
              clear Y5 O5r O5o B5 N5
              have hz5 := My.cz3 HY5
              obtain ⟨U, hU⟩ : ∃ U, T ++ [(⟨n, X.f1, (X.f1.size : Int)⟩ : S24)] = U := ⟨_, rfl⟩
              have HUd := Aside0.mk hU
              have HLU := Aside0.mk (show U.length ≤ 9 by rw [← hU]; have := HLT.out; simp; omega)
              clear hU
              go_upto_region 19 with (at_builtin; refine Kd.R_append k24 (w0 := W6) W6.heap.size rfl _ _ 22 24 (.agg #[(.int .i64 0), (.string ⟨#[]⟩), (.int .i64 0)]) 32 rfl Tryz.underlying22 info24 rfl (by decide) (by decide) (.slice oA T.length oc) T (⟨X.f0, X.f1, (X.f1.size : Int)⟩ : S24) [.int .i64 X.f0, .string X.f1, .int .i64 (X.f1.size : Int)] (fun k => W3.heap.size ≤ k) (fun _ => False) rfl rfl (k24_mkM _ _ _ _) (fun _ hk => hk.elim) (fun k hk => Nat.le_trans HN5.out hk) HRO5.out HB5.out HB5.out.size (by have := HLT.out; omega) ?_; intro v1 w1 hr1 hb1 hg1 hat1; rw [HXN.out, HUd.out] at hr1; have HRO6 := Aside0.mk hr1; have HRS6 := Aside0.mk (Kd.R_grown HRS5.out hg1 (fun k hk e => by have h1 := HRO5.out.1 k e.symm; have h2 := hk.2; omega)); have HB6 := Aside0.mk hb1; obtain ⟨pA, pc, rfl⟩ := Kd.R_slice hr1; clear hr1 hb1 hg1 hat1)
              clear hz5
              have HAPP := Aside0.mk (Kd.R_reads' HRS6.out).2.2
              have hk4 := (HB6.out.cell (World.block_lt_of_cell? _ _ K46.out)).trans K46.out
              have hkz := (HB6.out.frozen (p := ⟨q, 4, none⟩) HR6.out.lt).trans (FZ6.out 4)
              go_wp2_with (at_builtin; refine Kd.R_append_rows k24 (w0 := W6) W6.heap.size rfl _ _ 22 24 (.agg #[(.int .i64 0), (.string ⟨#[]⟩), (.int .i64 0)]) 32 rfl Tryz.underlying22 info24 rfl (by decide) (by decide) (.slice pA U.length pc) U D _ _ _ (fun _ => True) (fun _ => False) rfl rfl (Kd.R_mono HRO6.out (fun _ _ => trivial)) HAPP.out (fun _ _ h => h) (fun _ h => h.elim) (fun _ _ => trivial) HB6.out HB6.out.size (by have h9 := HLT.out; have h8 := HLU.out; omega) ?_; intro v1 w1 hr1 hb1 hg1 hat1; have hk4' := (hb1.cell (World.block_lt_of_cell? _ _ K46.out)).trans K46.out; have hkz' := (hb1.frozen (p := ⟨q, 4, none⟩) HR6.out.lt).trans (FZ6.out 4); obtain ⟨fA2, fc2, rfl⟩ := Kd.R_slice hr1; have HRF := Aside0.mk hr1; have HBF := Aside0.mk hb1; clear hr1 hb1 hg1 hat1)
              go_ret
              have hlist : s.L.take i ++ newX 1 n z X ++ s.L.drop (i + 1) = U ++ D := by rw [HDd.out, HTd.out, ← HUd.out]; simp [newX]
              have hi9 := step_inv (HR6.out.inv) n (by rw [stepS_L]; exact HHH.out) (what := 1) (z := z) (.inl rfl) (fun h => absurd h (by decide)) (i := i) (by rw [stepS_L]; exact HDEL.out) (by rw [stepS_L]; exact HPUT.out)
              rw [stepS_L, HGX.out] at hi9
              refine ⟨rfl, ?_, (HF6.out.trans (FrQ.of HBF.out)).set 4 _⟩
              rw [List.append_assoc] at hi9
              refine ((HR6.out.up HBF.out).put4 _ (s.L.take i ++ (newX 1 n z X ++ s.L.drop (i + 1))) ?_ hi9)
              rw [← List.append_assoc, hlist]
              have hrf := Kd.R_lower HRF.out HR6.out.bel.size
              rw [List.length_append] at hrf
              exact hrf
            · subst hwh
              have HYX := My.am (show W4.heap[g10]? = some (.cells #[.int .i64 X.f0, .string X.f1, .int .i64 X.f2] 24 (0, 0)) from (HB4.out.block g10 (Nat.lt_of_lt_of_le (blk_lt HY2.out) HB3.out.size)).trans ((HB3.out.block g10 (blk_lt HY2.out)).trans HY2.out))
              have hz0 := My.cz3 HYX
              have HBW4 := Aside0.mk (show Below W6.heap.size W6 W4 from HB2.out.trans ((HB3.out.mono HB2.out.size).trans (HB4.out.mono (Nat.le_trans HB2.out.size HB3.out.size))))
              have HRS4 := Aside0.mk (Kd.R_mono (Kd.R_lower (Kd.R_below (Kd.R_bound HRS.out) HB4.out) HB2.out.size) (fun k hk => show g10 < k ∧ k < W3.heap.size from ⟨by have h1 := hk.2.1; have h2 := blk_lt HY2.out; omega, hk.2.2.1⟩))
              have HRO4 := Aside0.mk (Kd.R_mono (Kd.R_lower (Kd.R_bound HRO.out) (Nat.le_trans HB2.out.size HB3.out.size)) (fun k hk => show W3.heap.size ≤ k from hk.2.1))
              have HGN := Aside0.mk (show g10 < W3.heap.size from Nat.lt_of_lt_of_le (blk_lt HY2.out) HB3.out.size)
              clear HRS HRO
              have zz := HZ.out rfl
              have z0t := eq_true (show (0 : Int) ≤ z by omega)
              have z1t := eq_true zz.2
              have z0d := decide_eq_true (show (0 : Int) ≤ z by omega)
              have z1d := decide_eq_true zz.2
              have hsz : (((X.f1.extract 0 z.toNat).size : Nat) : Int) = z := by rw [ByteArray.size_extract]; omega
              have hmx : max z 0 = z := by omega
              clear zz
              go_upto_region 17 with (fail)
              have hY5 := blk_put (blk_put HYX.out 1 (.string (X.f1.extract 0 z.toNat)) rfl) 2 (.int .i64 z) rfl
              refine at_world (J := fun W => W.heap[g10]? = some (.cells #[.int .i64 X.f0, .string (X.f1.extract 0 z.toNat), .int .i64 z] 24 (0, 0)) ∧ k24.R 24 W W6.heap.size (fun k => g10 < k ∧ k < W3.heap.size) (.slice rA D.length rc) D ∧ k24.R 24 W W6.heap.size (fun k => W3.heap.size ≤ k) (.slice oA T.length oc) T ∧ Below W6.heap.size W6 W ∧ W3.heap.size ≤ W.heap.size) ⟨hY5, Kd.R_far (p := ⟨g10, 2, none⟩) (Kd.R_far (p := ⟨g10, 1, none⟩) HRS4.out (fun k hk => by show k ≠ g10; have := hk.1; have := HGN.out; omega) _) (fun k hk => by show k ≠ g10; have := hk.1; have := HGN.out; omega) _, Kd.R_far (p := ⟨g10, 2, none⟩) (Kd.R_far (p := ⟨g10, 1, none⟩) HRO4.out (fun k hk => by show k ≠ g10; have := hk; have := HGN.out; omega) _) (fun k hk => by show k ≠ g10; have := hk; have := HGN.out; omega) _, below_set (below_set HBW4.out G10.out) G10.out, by simpa using HB4.out.size⟩ ?_
              clear hY5 hz0 HYX HRS4 HRO4 HBW4 z0t z1t z0d z1d hsz hmx
              rintro W5 ⟨Y5, O5r, O5o, B5, N5⟩
              have HY5 := My.am Y5
              have HRS5 := Aside0.mk O5r
              have HRO5 := Aside0.mk O5o
              have HB5 := Aside0.mk B5
              have HN5 := Aside0.mk N5
              clear Y5 O5r O5o B5 N5
              have hz5 := My.cz3 HY5
              obtain ⟨U, hU⟩ : ∃ U, T ++ [(⟨n, X.f1.extract 0 z.toNat, z⟩ : S24)] = U := ⟨_, rfl⟩
              have HUd := Aside0.mk hU
              have HLU := Aside0.mk (show U.length ≤ 9 by rw [← hU]; have := HLT.out; simp; omega)
              clear hU
              go_upto_region 19 with (at_builtin; refine Kd.R_append k24 (w0 := W6) W6.heap.size rfl _ _ 22 24 (.agg #[(.int .i64 0), (.string ⟨#[]⟩), (.int .i64 0)]) 32 rfl Tryz.underlying22 info24 rfl (by decide) (by decide) (.slice oA T.length oc) T (⟨X.f0, X.f1.extract 0 z.toNat, z⟩ : S24) [.int .i64 X.f0, .string (X.f1.extract 0 z.toNat), .int .i64 z] (fun k => W3.heap.size ≤ k) (fun _ => False) rfl rfl (k24_mkM _ _ _ _) (fun _ hk => hk.elim) (fun k hk => Nat.le_trans HN5.out hk) HRO5.out HB5.out HB5.out.size (by have := HLT.out; omega) ?_; intro v1 w1 hr1 hb1 hg1 hat1; rw [HXN.out, HUd.out] at hr1; have HRO6 := Aside0.mk hr1; have HRS6 := Aside0.mk (Kd.R_grown HRS5.out hg1 (fun k hk e => by have h1 := HRO5.out.1 k e.symm; have h2 := hk.2; omega)); have HB6 := Aside0.mk hb1; obtain ⟨pA, pc, rfl⟩ := Kd.R_slice hr1; clear hr1 hb1 hg1 hat1)
              clear hz5
              have HAPP := Aside0.mk (Kd.R_reads' HRS6.out).2.2
              have hk4 := (HB6.out.cell (World.block_lt_of_cell? _ _ K46.out)).trans K46.out
              have hkz := (HB6.out.frozen (p := ⟨q, 4, none⟩) HR6.out.lt).trans (FZ6.out 4)
              go_wp2_with (at_builtin; refine Kd.R_append_rows k24 (w0 := W6) W6.heap.size rfl _ _ 22 24 (.agg #[(.int .i64 0), (.string ⟨#[]⟩), (.int .i64 0)]) 32 rfl Tryz.underlying22 info24 rfl (by decide) (by decide) (.slice pA U.length pc) U D _ _ _ (fun _ => True) (fun _ => False) rfl rfl (Kd.R_mono HRO6.out (fun _ _ => trivial)) HAPP.out (fun _ _ h => h) (fun _ h => h.elim) (fun _ _ => trivial) HB6.out HB6.out.size (by have h9 := HLT.out; have h8 := HLU.out; omega) ?_; intro v1 w1 hr1 hb1 hg1 hat1; have hk4' := (hb1.cell (World.block_lt_of_cell? _ _ K46.out)).trans K46.out; have hkz' := (hb1.frozen (p := ⟨q, 4, none⟩) HR6.out.lt).trans (FZ6.out 4); obtain ⟨fA2, fc2, rfl⟩ := Kd.R_slice hr1; have HRF := Aside0.mk hr1; have HBF := Aside0.mk hb1; clear hr1 hb1 hg1 hat1)
              go_ret
              have hlist : s.L.take i ++ newX 2 n z X ++ s.L.drop (i + 1) = U ++ D := by rw [HDd.out, HTd.out, ← HUd.out]; simp [newX]
              have hi9 := step_inv (HR6.out.inv) n (by rw [stepS_L]; exact HHH.out) (what := 2) (z := z) (.inr (.inl rfl)) (by rw [stepS_L, HGX.out]; intro _; first | exact HZ.out rfl | exact HZ.out trivial) (i := i) (by rw [stepS_L]; exact HDEL.out) (by rw [stepS_L]; exact HPUT.out)
              rw [stepS_L, HGX.out] at hi9
              refine ⟨rfl, ?_, (HF6.out.trans (FrQ.of HBF.out)).set 4 _⟩
              rw [List.append_assoc] at hi9
              refine ((HR6.out.up HBF.out).put4 _ (s.L.take i ++ (newX 2 n z X ++ s.L.drop (i + 1))) ?_ hi9)
              rw [← List.append_assoc, hlist]
              have hrf := Kd.R_lower HRF.out HR6.out.bel.size
              rw [List.length_append] at hrf
              exact hrf
            · subst hwh
              have HYX := My.am (show W4.heap[g10]? = some (.cells #[.int .i64 X.f0, .string X.f1, .int .i64 X.f2] 24 (0, 0)) from (HB4.out.block g10 (Nat.lt_of_lt_of_le (blk_lt HY2.out) HB3.out.size)).trans ((HB3.out.block g10 (blk_lt HY2.out)).trans HY2.out))
              have hz0 := My.cz3 HYX
              have HBW4 := Aside0.mk (show Below W6.heap.size W6 W4 from HB2.out.trans ((HB3.out.mono HB2.out.size).trans (HB4.out.mono (Nat.le_trans HB2.out.size HB3.out.size))))
              have HRS4 := Aside0.mk (Kd.R_mono (Kd.R_lower (Kd.R_below (Kd.R_bound HRS.out) HB4.out) HB2.out.size) (fun k hk => show g10 < k ∧ k < W3.heap.size from ⟨by have h1 := hk.2.1; have h2 := blk_lt HY2.out; omega, hk.2.2.1⟩))
              have HRO4 := Aside0.mk (Kd.R_mono (Kd.R_lower (Kd.R_bound HRO.out) (Nat.le_trans HB2.out.size HB3.out.size)) (fun k hk => show W3.heap.size ≤ k from hk.2.1))
              have HGN := Aside0.mk (show g10 < W3.heap.size from Nat.lt_of_lt_of_le (blk_lt HY2.out) HB3.out.size)
              clear HRS HRO
              go_upto_region 17 with (fail)
              have hY5 := blk_put HYX.out 2 (.int .i64 (X.f1.size : Int)) rfl
              refine at_world (J := fun W => W.heap[g10]? = some (.cells #[.int .i64 X.f0, .string X.f1, .int .i64 (X.f1.size : Int)] 24 (0, 0)) ∧ k24.R 24 W W6.heap.size (fun k => g10 < k ∧ k < W3.heap.size) (.slice rA D.length rc) D ∧ k24.R 24 W W6.heap.size (fun k => W3.heap.size ≤ k) (.slice oA T.length oc) T ∧ Below W6.heap.size W6 W ∧ W3.heap.size ≤ W.heap.size) ⟨hY5, Kd.R_far (p := ⟨g10, 2, none⟩) HRS4.out (fun k hk => by show k ≠ g10; have := hk.1; have := HGN.out; omega) _, Kd.R_far (p := ⟨g10, 2, none⟩) HRO4.out (fun k hk => by show k ≠ g10; have := hk; have := HGN.out; omega) _, below_set HBW4.out G10.out, by simpa using HB4.out.size⟩ ?_
              clear hY5 hz0 HYX HRS4 HRO4 HBW4
              rintro W5 ⟨Y5, O5r, O5o, B5, N5⟩
              have HY5 := My.am Y5
              have HRS5 := Aside0.mk O5r
              have HRO5 := Aside0.mk O5o
              have HB5 := Aside0.mk B5
              have HN5 := Aside0.mk N5
              clear Y5 O5r O5o B5 N5
              go_upto_region 19 with (fail)
              have HAPP := Aside0.mk (Kd.R_reads' HRS5.out).2.2
              have hk4 := (HB5.out.cell (World.block_lt_of_cell? _ _ K46.out)).trans K46.out
              have hkz := (HB5.out.frozen (p := ⟨q, 4, none⟩) HR6.out.lt).trans (FZ6.out 4)
              go_wp2_with (at_builtin; refine Kd.R_append_rows k24 (w0 := W6) W6.heap.size rfl _ _ 22 24 (.agg #[(.int .i64 0), (.string ⟨#[]⟩), (.int .i64 0)]) 32 rfl Tryz.underlying22 info24 rfl (by decide) (by decide) (.slice oA T.length oc) T D _ _ _ (fun _ => True) (fun _ => False) rfl rfl (Kd.R_mono HRO5.out (fun _ _ => trivial)) HAPP.out (fun _ _ h => h) (fun _ h => h.elim) (fun _ _ => trivial) HB5.out HB5.out.size (by have h9 := HLT.out; omega) ?_; intro v1 w1 hr1 hb1 hg1 hat1; have hk4' := (hb1.cell (World.block_lt_of_cell? _ _ K46.out)).trans K46.out; have hkz' := (hb1.frozen (p := ⟨q, 4, none⟩) HR6.out.lt).trans (FZ6.out 4); obtain ⟨fA2, fc2, rfl⟩ := Kd.R_slice hr1; have HRF := Aside0.mk hr1; have HBF := Aside0.mk hb1; clear hr1 hb1 hg1 hat1)
              go_ret
              have hlist : s.L.take i ++ newX 3 n z X ++ s.L.drop (i + 1) = T ++ D := by rw [HDd.out, HTd.out]; simp [newX]
              have hi9 := step_inv (HR6.out.inv) n (by rw [stepS_L]; exact HHH.out) (what := 3) (z := z) (.inr (.inr rfl)) (fun h => absurd h (by decide)) (i := i) (by rw [stepS_L]; exact HDEL.out) (by rw [stepS_L]; exact HPUT.out)
              rw [stepS_L, HGX.out] at hi9
              refine ⟨rfl, ?_, (HF6.out.trans (FrQ.of HBF.out)).set 4 _⟩
              rw [List.append_assoc] at hi9
              refine ((HR6.out.up HBF.out).put4 _ (s.L.take i ++ (newX 3 n z X ++ s.L.drop (i + 1))) ?_ hi9)
              rw [← List.append_assoc, hlist]
              have hrf := Kd.R_lower HRF.out HR6.out.bel.size
              rw [List.length_append] at hrf
              exact hrf
end
/-! a call, of both -/
section
variable {w0 w : World} {q p bm base : Nat} {s : DS}
theorem ref_Sync.calls (h : RefAt w0 w q s) (n : Int) : Calls Tryz.prog 27 #[.pointer (some ⟨q, 0, none⟩), .int .i64 1, .int .i64 n, .int .i64 0] w fun e w' => e = .returned (.int .i64 (syncS s n).2) ∧ RefAt w0 w' q (syncS s n).1 ∧ FrQ q w w' := by
  have e : stepR s 1 n 0 = syncS s n := by unfold stepR; rw [if_pos rfl]
  rw [← e]
  exact ref_Step.calls h 1 n 0 (.inl rfl)
theorem ref_Cut.calls (h : RefAt w0 w q s) (n z : Int) : Calls Tryz.prog 27 #[.pointer (some ⟨q, 0, none⟩), .int .i64 2, .int .i64 n, .int .i64 z] w fun e w' => e = .returned (.int .i64 (cutS s n z).2) ∧ RefAt w0 w' q (cutS s n z).1 ∧ FrQ q w w' := by
  have e : stepR s 2 n z = cutS s n z := by unfold stepR; rw [if_neg (by decide), if_pos rfl]
  rw [← e]
  exact ref_Step.calls h 2 n z (.inr (.inl rfl))
theorem ref_Rem.calls (h : RefAt w0 w q s) (n : Int) : Calls Tryz.prog 27 #[.pointer (some ⟨q, 0, none⟩), .int .i64 3, .int .i64 n, .int .i64 0] w fun e w' => e = .returned (.int .i64 (remS s n).2) ∧ RefAt w0 w' q (remS s n).1 ∧ FrQ q w w' := by
  have e : stepR s 3 n 0 = remS s n := by unfold stepR; rw [if_neg (by decide), if_neg (by decide)]
  rw [← e]
  exact ref_Step.calls h 3 n 0 (.inr (.inr rfl))
theorem neQ {g t : Nat} {cs : Array Value} (hg : w.heap[g]? = some (.cells cs t (0, 0))) (h : RefAt w0 w q s) (ht : t ≠ 45) : g ≠ q := by
  obtain ⟨A, c, ks, fv, hb, _⟩ := h.blk
  rintro rfl
  rw [hb] at hg
  injection hg with hg
  injection hg with _ hg
  exact ht hg.symm
end
/-! do both hold the same? -/
section
variable {w0 w : World} {q p bm base : Nat} {s : DS}
attribute [local go_sem high] eqA24
set_option maxHeartbeats 8000000 in
set_option maxRecDepth 100000 in
theorem ref_Same.calls (A : Option Addr) (c : Nat) (B : Option Addr) (d : Nat) (l : List S24) (hl : l.length ≤ 1000) (ha : k24.C w A l.length l) (hb : k24.C w B l.length l) : Calls Tryz.prog 10 #[.slice A l.length c, .slice B l.length d] w fun e w' => e = .returned (.bool true) ∧ Below w.heap.size w w' := by
  have hu40 := Tryz.underlying24
  have HA := Aside0.mk ha
  have HB := Aside0.mk hb
  have HL := Aside0.mk hl
  clear ha hb hl
  go_enter Tryz.func10, Tryz.ntmps10
  go_wp2
  go_loopg [5] (l.length + 1) (fun kq v5 w' => ∃ (i : Nat) (x : Int), v5 = .int .i64 x ∧ Aside0 (x = (i : Int)) ∧ Aside0 (kq + i = l.length + 1) ∧ Aside0 (i ≤ l.length) ∧ Aside0 (Below w.heap.size w w'))
  case atStart => exact ⟨0, _, rfl, ⟨rfl⟩, ⟨rfl⟩, ⟨Nat.zero_le _⟩, ⟨Below.refl _ _⟩⟩
  case round =>
    obtain ⟨i, x, rfl, hx, hk, hi, HW⟩ := hrel
    by_cases c9 : i < l.length
    · have q1 : x < (l.length : Int) := by have := hx.out; omega
      have p1 : (0 : Int) ≤ x := by have := hx.out; omega
      have c3 : decide (x < (l.length : Int)) = true := decide_eq_true q1
      obtain ⟨ad, e1, x0, x1, x2⟩ := at_T24 (Kd.C_below HA.out HW.out) x p1 q1
      cases e1
      obtain ⟨ad2, e2, y0, y1, y2⟩ := at_T24 (Kd.C_below HB.out HW.out) x p1 q1
      cases e2
      obtain ⟨F, hF⟩ : ∃ F, rd_T24 l x = F := ⟨_, rfl⟩
      rw [hF] at x0 x1 x2 y0 y1 y2
      have hw : wrap64 (x + 1) = x + 1 := by have := HL.out; have := hx.out; unfold wrap64; omega
      have HWR := Aside0.mk hw
      have HCI := Aside0.mk c9
      clear c9 hF hw
      have p2 := eq_true p1
      have q2 := eq_true q1
      go_upto_region 6 with (fail)
      go_quiet (fail)
      go_wp2
      have hI := HCI.out
      have hx1 := hx.out
      have hk1 := hk.out
      go_roundg (l.length - i)
      case measure => omega
      case rel => exact ⟨i + 1, x + 1, by first | rfl | (rw [HWR.out]), ⟨by omega⟩, ⟨by omega⟩, ⟨by omega⟩, ⟨pw_below_drewN HW.out _⟩⟩
    · have c3 : decide (x < (l.length : Int)) = false := decide_eq_false (by have := hi.out; have := hx.out; omega)
      clear c9
      go_wp2
      go_ret
      exact ⟨rfl, HW.out⟩
end
/-! the document's Load -/
section
variable {w0 w : World} {q p bm base : Nat} {s : DS}
set_option maxHeartbeats 4000000 in
theorem ref_New2.calls (hw : w0.heap.size ≤ w.heap.size) (hb0 : Below w0.heap.size w0 w) (room : Int) : Calls Tryz.prog 17 #[.int .i64 room] w fun e w' => Below w.heap.size w w' ∧ ((0 ≤ room ∧ room ≤ 200000 ∧ ∃ q, e = .returned (.tuple #[.pointer (some ⟨q, 0, none⟩), .int .i64 0]) ∧ RefAt w0 w' q (newS room) ∧ w.heap.size ≤ q) ∨ (¬ (0 ≤ room ∧ room ≤ 200000) ∧ e = .returned (.tuple #[.pointer none, .int .i64 2]))) := by
  have HW := Aside0.mk hw
  have HB0 := Aside0.mk hb0
  clear hw hb0
  by_cases d1 : room < 0
  · have b1 : decide (room < 0) = true := decide_eq_true d1
    have HN := Aside0.mk (show ¬ (0 ≤ room ∧ room ≤ 200000) by omega)
    clear d1
    go_enter Tryz.func17, Tryz.ntmps17
    go_wp2
    go_ret2
    exact ⟨Below.refl _ _, .inr ⟨HN.out, rfl⟩⟩
  · have b1 : decide (room < 0) = false := decide_eq_false d1
    by_cases d2 : room > 200000
    · have b2 : decide (200000 < room) = true := decide_eq_true d2
      have HN := Aside0.mk (show ¬ (0 ≤ room ∧ room ≤ 200000) by omega)
      clear d1 d2
      go_enter Tryz.func17, Tryz.ntmps17
      go_wp2
      go_ret2
      exact ⟨Below.refl _ _, .inr ⟨HN.out, rfl⟩⟩
    · have b2 : decide (200000 < room) = false := decide_eq_false d2
      have HN := Aside0.mk (show 0 ≤ room ∧ room ≤ 200000 by omega)
      clear d1 d2
      go_enter Tryz.func17, Tryz.ntmps17
      go_wp2_with ((with_reducible refine gate_dst (N := 12) rfl ?_); refine My.bx 12 #[.int .i64 room, .bool false, .int .i64 0, .slice none 0 0, .slice none 0 0] 45 ?_; intro q hg w12 hbox hb; have BX := My.am hbox; have HG := Aside0.mk hg; have HB := Aside0.mk hb; clear hb hbox hg)
      go_ret2
      refine ⟨HB.out, .inl ⟨HN.out.1, HN.out.2, q, rfl, ⟨⟨by simp [newS], by simp [newS], by simp [newS], by show useL [] ≤ room; have := HN.out; simp [useL]; omega, HN.out.2, by simp [newS], by show (0:Int) ≤ 0 ∧ (0:Int) ≤ 9223372036854775807; omega⟩, ⟨none, 0, [], _, BX.out, Nat.le_refl _, Kd.C_nil _ _, fun h => absurd rfl h, Kd.R_nil _ _ _ _ _⟩, by rw [HG.out]; exact HW.out, HB0.out.trans (HB.out.mono HW.out)⟩, by rw [HG.out]; exact Nat.le_refl _⟩⟩
set_option maxHeartbeats 32000000 in
set_option maxRecDepth 100000 in
theorem ref_Load.calls (hb0 : Below w0.heap.size w0 w) (room : Int) (A : Option Addr) (c : Nat) (l : List S24) (hr : Kd.C k24 w A l.length l) (hc : l.length ≤ c) (hq : ∀ x ∈ l, x.f1.size ≤ 140737488351232) :
    Calls Tryz.prog 6 #[.int .i64 room, .slice A l.length c] w fun e w' => Below w.heap.size w w' ∧ ((okL room l ∧ ∃ q, e = .returned (.tuple #[.pointer (some ⟨q, 0, none⟩), .int .i64 0]) ∧ RefAt w0 w' q ⟨false, room, 0, [], l⟩) ∨ (¬ okL room l ∧ e = .returned (.tuple #[.pointer none, .int .i64 2]))) := by
  have hu40 := Tryz.underlying24
  have HR := Aside0.mk hr
  have HC := Aside0.mk hc
  have HQ := Aside0.mk hq
  have HB0 := Aside0.mk hb0
  clear hr hc hq hb0
  by_cases hbad : ¬ (0 ≤ room ∧ room ≤ 200000)
  · have hno : ¬ okL room l := fun h => by obtain ⟨h1, h2, h3, _⟩ := h; omega
    have HNO := Aside0.mk hno
    have HN : Aside0 (Calls Tryz.prog 17 #[.int .i64 room] w fun e w' => e = .returned (.tuple #[.pointer none, .int .i64 2]) ∧ Below w.heap.size w w') := ⟨(ref_New.calls (w0 := w0) HB0.out.size HB0.out room).mono (by
      rintro e W1 ⟨hb, ⟨h1, h2, _⟩ | ⟨_, rfl⟩⟩
      · exact absurd ⟨h1, h2⟩ hbad
      · exact ⟨rfl, hb⟩)⟩
    clear hno hbad
    go_enter Tryz.func6, Tryz.ntmps6
    go_wp2_with ((with_reducible refine gate_callee (f := 17) rfl ?_); refine goesL_ (some _) rfl rfl Tryz.func17 (by kernel_rfl) rfl #[.int .i64 room] rfl My.gx ?_; (refine HN.out.mono ?_); rintro e W1 ⟨rfl, hb⟩; refine ⟨_, rfl, ?_⟩; have HB := Aside0.mk hb; clear hb)
    go_ret2
    exact ⟨HB.out, .inr ⟨HNO.out, rfl⟩⟩
  · have hok : 0 ≤ room ∧ room ≤ 200000 := Classical.not_not.1 hbad
    have HOK := Aside0.mk hok
    have HN : Aside0 (Calls Tryz.prog 17 #[.int .i64 room] w fun e w' => ∃ q, e = .returned (.tuple #[.pointer (some ⟨q, 0, none⟩), .int .i64 0]) ∧ Below w.heap.size w w' ∧ RefAt w0 w' q (newS room) ∧ w.heap.size ≤ q) := ⟨(ref_New2.calls (w0 := w0) HB0.out.size HB0.out room).mono (by
      rintro e W1 ⟨hb, ⟨_, _, q, rfl, hD, hgq⟩ | ⟨hno, _⟩⟩
      · exact ⟨q, rfl, hb, hD, hgq⟩
      · exact absurd hok hno)⟩
    clear hbad hok
    by_cases h8 : l.length > 8
    · have HNO := Aside0.mk (show ¬ okL room l from fun h => by obtain ⟨h1, h2, h3, _⟩ := h; omega)
      have b3 : decide (8 < (l.length : Int)) = true := decide_eq_true (by omega)
      clear h8
      go_enter Tryz.func6, Tryz.ntmps6
      go_wp2_with ((with_reducible refine gate_callee (f := 17) rfl ?_); refine goesL_ (some _) rfl rfl Tryz.func17 (by kernel_rfl) rfl #[.int .i64 room] rfl My.gx ?_; (refine HN.out.mono ?_); rintro e W1 ⟨q, rfl, hb, hD, hgq⟩; refine ⟨_, rfl, ?_⟩; have HB := Aside0.mk hb; clear hb hD hgq)
      go_ret2
      exact ⟨HB.out, .inr ⟨HNO.out, rfl⟩⟩
    · have H8 := Aside0.mk (show l.length ≤ 8 by omega)
      have b3 : decide (8 < (l.length : Int)) = false := decide_eq_false (by omega)
      clear h8
      go_enter Tryz.func6, Tryz.ntmps6
      go_wp2_with ((with_reducible refine gate_callee (f := 17) rfl ?_); refine goesL_ (some _) rfl rfl Tryz.func17 (by kernel_rfl) rfl #[.int .i64 room] rfl My.gx ?_; (refine HN.out.mono ?_); rintro e W1 ⟨q, rfl, hb, hD, hgq⟩; refine ⟨_, rfl, ?_⟩; have HB := Aside0.mk hb; have HRF := Aside0.mk hD; have HGQ := Aside0.mk hgq; clear hb hD hgq)
      clear b3
      go_loopg [8, 9] (l.length + 1) (fun kq v8 v9 w' => ∃ (i : Nat) (x n : Int), v8 = .int .i64 n ∧ v9 = .int .i64 x ∧ Aside0 (x = (i : Int)) ∧ Aside0 (n = useL (l.take i)) ∧ Aside0 (kq + i = l.length + 1) ∧ Aside0 (i ≤ l.length) ∧ Aside0 (∀ j, j < i → okF l j (room - useL (l.take j))) ∧ Aside0 (Inv ⟨false, room, 0, [], l.take i⟩) ∧ Aside0 (Below W1.heap.size W1 w'))
      case atStart => exact ⟨0, _, _, rfl, rfl, ⟨rfl⟩, ⟨by simp [useL]⟩, ⟨rfl⟩, ⟨Nat.zero_le _⟩, ⟨fun j hj => absurd hj (Nat.not_lt_zero _)⟩, ⟨HRF.out.inv.upto (by simp [newS]) rfl (by show (0:Int) ≤ 0 ∧ (0:Int) ≤ 9223372036854775807; omega)⟩, ⟨Below.refl _ _⟩⟩
      case round =>
        clear HN
        obtain ⟨i, x, n, rfl, rfl, hx, hn, hk, hi, HOKS, HIN, HW⟩ := hrel
        by_cases c9 : i < l.length
        · have q1 : x < (l.length : Int) := by have := hx.out; omega
          have p1 : (0 : Int) ≤ x := by have := hx.out; omega
          have c3 : decide (x < (l.length : Int)) = true := decide_eq_true q1
          have HBW := Aside0.mk (HB.out.trans (HW.out.mono HB.out.size))
          obtain ⟨ad, e1, x0, x1, x2⟩ := at_T24 (Kd.C_below HR.out HBW.out) x p1 q1
          cases e1
          have hmem := HQ.out _ (by have h := mem40 l i c9; rw [← hx.out] at h; exact h)
          have HCI := Aside0.mk c9
          clear c9
          have p2 := eq_true p1
          have q2 := eq_true q1
          obtain ⟨F, hF⟩ : ∃ F, rd_T24 l x = F := ⟨_, rfl⟩
          rw [hF] at x0 x1 x2 hmem
          have HFX := Aside0.mk hF
          have HFS := Aside0.mk hmem
          have hu0 := useL_nonneg (l.take i)
          have hu1 := HIN.out.use
          have hr2 := HOK.out.2
          have HNB := Aside0.mk (show 0 ≤ n ∧ n ≤ 200000 by have := hn.out; have e : useL (l.take i) ≤ room := hu1; omega)
          clear hF hmem hu0 hu1 hr2
          go_upto_region 9 with ((with_reducible refine gate_dst (N := 10) rfl ?_); refine My.bx 10 #[.int .i64 0, .string ⟨#[]⟩, .int .i64 0] 24 ?_; intro g10 hg w10 hbox hb; have BX := My.am hbox; have HB10 := Aside0.mk hb; have G10 := Aside0.mk (show wr.heap.size ≤ g10 by rw [hg]; exact Nat.le_refl _); clear hb hbox hg x0 x1 x2; have hz := My.cz3 BX)
          refine at_world (J := fun W => Below wr.heap.size wr W ∧ W.heap[g10]? = some (.cells #[.int .i64 F.f0, .string F.f1, .int .i64 F.f2] 24 (0, 0))) ⟨below_set (below_set (below_set HB10.out G10.out) G10.out) G10.out, My.put3 BX.out⟩ ?_
          clear BX HB10 hz
          rintro W2 ⟨B2, Y2⟩
          have HY2 := My.am Y2
          have HB2 := Aside0.mk (HBW.out.trans (B2.mono HBW.out.size))
          have HW2 := Aside0.mk (HW.out.trans (B2.mono HW.out.size))
          clear B2 Y2
          go_cut [59] (fun v59 wc => ∃ b, v59 = .bool b ∧ wc = W2 ∧ Aside0 (b = true ↔ ¬ (0 ≤ F.f0 ∧ F.f0 ≤ 1000000 ∧ F.f1.size ≠ 0 ∧ 0 ≤ F.f2 ∧ F.f2 ≤ (F.f1.size : Int))))
          case first =>
            have hz := My.cz3 HY2
            by_cases d1 : F.f0 < 0
            · have t1 : decide (F.f0 < 0) = true := decide_eq_true d1
              have DD := Aside0.mk d1
              clear d1
              go_wp2
              go_meet
              case rel => exact ⟨true, by first | rfl | simp, rfl, ⟨(fun _ h => by obtain ⟨o1, o2, o4, o5, o6⟩ := h; have := DD.out; omega), fun _ => rfl⟩⟩
            · have t1 : decide (F.f0 < 0) = false := decide_eq_false d1
              have D1 := Aside0.mk d1
              clear d1
              by_cases d2 : F.f0 > 1000000
              · have t2 : decide (1000000 < F.f0) = true := decide_eq_true d2
                have DD := Aside0.mk d2
                clear d2
                go_wp2
                go_meet
                case rel => exact ⟨true, by first | rfl | simp, rfl, ⟨(fun _ h => by obtain ⟨o1, o2, o4, o5, o6⟩ := h; have := DD.out; omega), fun _ => rfl⟩⟩
              · have t2 : decide (1000000 < F.f0) = false := decide_eq_false d2
                have D2 := Aside0.mk d2
                clear d2
                by_cases d5 : F.f1.size = 0
                · have t5 : ((F.f1.size : Int) == 0) = true := beq_iff_eq.2 (by omega)
                  have DD := Aside0.mk d5
                  clear d5
                  go_wp2
                  go_meet
                  case rel => exact ⟨true, by first | rfl | simp, rfl, ⟨(fun _ h => by obtain ⟨o1, o2, o4, o5, o6⟩ := h; exact o4 DD.out), fun _ => rfl⟩⟩
                · have t5 : ((F.f1.size : Int) == 0) = false := beq_eq_false_iff_ne.2 (by omega)
                  have D5 := Aside0.mk d5
                  clear d5
                  by_cases d6 : F.f2 < 0
                  · have t6 : decide (F.f2 < 0) = true := decide_eq_true d6
                    have DD := Aside0.mk d6
                    clear d6
                    go_wp2
                    go_meet
                    case rel => exact ⟨true, by first | rfl | simp, rfl, ⟨(fun _ h => by obtain ⟨o1, o2, o4, o5, o6⟩ := h; have := DD.out; omega), fun _ => rfl⟩⟩
                  · have t6 : decide (F.f2 < 0) = false := decide_eq_false d6
                    have D6 := Aside0.mk d6
                    clear d6
                    by_cases d7 : F.f2 > (F.f1.size : Int)
                    · have t7 : decide ((F.f1.size : Int) < F.f2) = true := decide_eq_true d7
                      have DD := Aside0.mk d7
                      clear d7
                      go_wp2
                      go_meet
                      case rel => exact ⟨true, by first | rfl | simp, rfl, ⟨(fun _ h => by obtain ⟨o1, o2, o4, o5, o6⟩ := h; have := DD.out; omega), fun _ => rfl⟩⟩
                    · have t7 : decide ((F.f1.size : Int) < F.f2) = false := decide_eq_false d7
                      have D7 := Aside0.mk d7
                      clear d7
                      go_wp2
                      go_meet
                      case rel => exact ⟨false, by first | rfl | simp, rfl, ⟨(fun h => by cases h), fun h => absurd ⟨by have := D1.out; omega, by have := D2.out; omega, D5.out, by have := D6.out; omega, by have := D7.out; omega⟩ h⟩⟩
          case rest =>
            obtain ⟨b, rfl, rfl, hbo⟩ := hcut
            cases b with
            | true =>
              have HNO := Aside0.mk (show ¬ okL room l from fun h => (hbo.out.1 rfl) (by
                obtain ⟨o1, o2, o3, o4, o5, o6, o7⟩ := h.2.2.2 i HCI.out
                rw [← hx.out, HFX.out] at o1 o2 o4 o5 o6
                exact ⟨o1, o2, o4, o5, o6⟩))
              go_wp2
              go_ret2
              exact ⟨HB2.out, .inr ⟨HNO.out, rfl⟩⟩
            | false =>
              have hgood : 0 ≤ F.f0 ∧ F.f0 ≤ 1000000 ∧ F.f1.size ≠ 0 ∧ 0 ≤ F.f2 ∧ F.f2 ≤ (F.f1.size : Int) := Classical.byContradiction (fun hn => by have := hbo.out.2 hn; cases this)
              have HGD := Aside0.mk hgood
              clear hgood hbo
              go_upto_region 11 with (fail)
              go_cut [72] (fun v72 wc2 => ∃ b, v72 = .bool b ∧ Aside0 (b = true ↔ ¬ (0 < i → (rd_T24 l ((i : Int) - 1)).f0 < F.f0)) ∧ Aside0 (Below W1.heap.size W1 wc2) ∧ Aside0 (wc2.heap[g10]? = some (.cells #[.int .i64 F.f0, .string F.f1, .int .i64 F.f2] 24 (0, 0))))
              case first =>
                have hz := My.cz3 HY2
                by_cases d3 : 0 < x
                · have t3 : decide (0 < x) = true := decide_eq_true d3
                  obtain ⟨y, hy⟩ : ∃ y_ : Int, x - 1 = y_ := ⟨_, rfl⟩
                  have r1 : (0 : Int) ≤ y := by omega
                  have r2 : y < (l.length : Int) := by omega
                  have h8' := H8.out
                  have hw1 : wrap64 (x - 1) = y := by unfold wrap64; omega
                  have hw2 : IntKind.i64.wrap (x - 1) = y := by rw [IntKind.wrap_i64]; omega
                  obtain ⟨ad2, e2, y0, y1, y2⟩ := at_T24 (Kd.C_below HR.out HB2.out) y r1 r2
                  cases e2
                  obtain ⟨G, hG⟩ : ∃ G, rd_T24 l y = G := ⟨_, rfl⟩
                  rw [hG] at y0 y1 y2
                  have HGX := Aside0.mk (show rd_T24 l ((i : Int) - 1) = G by rw [← hx.out, hy]; exact hG)
                  have HI0 := Aside0.mk (show 0 < i by have := hx.out; omega)
                  clear hG d3 h8' y1 y2 hy
                  replace r1 := eq_true r1
                  replace r2 := eq_true r2
                  by_cases d4 : F.f0 ≤ G.f0
                  · have t4 : decide (F.f0 ≤ G.f0) = true := decide_eq_true d4
                    have D4 := Aside0.mk d4
                    clear d4
                    go_quiet (fail)
                    try go_wp2
                    go_meet
                    case rel => exact ⟨true, by first | rfl | simp, ⟨(fun _ h => by have h2 := h HI0.out; rw [HGX.out] at h2; have := D4.out; omega), fun _ => rfl⟩, ⟨pw_below_drewN HW2.out _⟩, ⟨HY2.out⟩⟩
                  · have t4 : decide (F.f0 ≤ G.f0) = false := decide_eq_false d4
                    have D4 := Aside0.mk d4
                    clear d4
                    go_quiet (fail)
                    try go_wp2
                    go_meet
                    case rel => exact ⟨false, by first | rfl | simp, ⟨(fun h => by cases h), fun h => absurd (fun _ => by rw [HGX.out]; have := D4.out; omega) h⟩, ⟨pw_below_drewN HW2.out _⟩, ⟨HY2.out⟩⟩
                · have t3 : decide (0 < x) = false := decide_eq_false d3
                  have HI0 := Aside0.mk (show ¬ 0 < i by have := hx.out; omega)
                  clear d3
                  go_quiet (fail)
                  try go_wp2
                  go_meet
                  case rel => exact ⟨false, by first | rfl | simp, ⟨(fun h => by cases h), fun h => absurd (fun h0 => absurd h0 HI0.out) h⟩, ⟨pw_below_drewN HW2.out _⟩, ⟨HY2.out⟩⟩
              case rest =>
                obtain ⟨b, rfl, hbo, HW3, HY3⟩ := hcut
                clear HW2 HY2 HB2
                have HB3 := Aside0.mk (HB.out.trans (HW3.out.mono HB.out.size))
                cases b with
                | true =>
                  have HNO := Aside0.mk (show ¬ okL room l from fun h => (hbo.out.1 rfl) (by
                    obtain ⟨o1, o2, o3, o4, o5, o6, o7⟩ := h.2.2.2 i HCI.out
                    intro h0
                    have := o3 h0
                    rw [← hx.out, HFX.out] at this
                    rw [← hx.out]
                    exact this))
                  go_wp2
                  go_ret2
                  exact ⟨HB3.out, .inr ⟨HNO.out, rfl⟩⟩
                | false =>
                  have hgood : 0 < i → (rd_T24 l ((i : Int) - 1)).f0 < F.f0 := Classical.byContradiction (fun hn => by have := hbo.out.2 hn; cases this)
                  have HGD2 := Aside0.mk hgood
                  have hz := My.cz3 HY3
                  have hwn : wrap64 (n + (F.f1.size : Int)) = n + (F.f1.size : Int) := by have := HNB.out; have := HFS.out; unfold wrap64; omega
                  have hwx : wrap64 (x + 1) = x + 1 := by have := H8.out; unfold wrap64; omega
                  have HWN := Aside0.mk hwn
                  have HWX := Aside0.mk hwx
                  clear hgood hbo hwx
                  by_cases dr : n + (F.f1.size : Int) > room
                  · have t1 : decide (room < n + (F.f1.size : Int)) = true := decide_eq_true dr
                    have HNO := Aside0.mk (show ¬ okL room l from fun h => by
                      obtain ⟨o1, o2, o3, o4, o5, o6, o7⟩ := h.2.2.2 i HCI.out
                      rw [← hx.out, HFX.out, ← hn.out] at o7
                      omega)
                    clear dr
                    go_wp2
                    go_ret2
                    exact ⟨HB3.out, .inr ⟨HNO.out, rfl⟩⟩
                  · have t1 : decide (room < n + (F.f1.size : Int)) = false := decide_eq_false dr
                    have hok : okF l i (room - useL (l.take i)) := by
                      obtain ⟨a1, a2, a3, a4, a5⟩ := HGD.out
                      unfold okF
                      rw [← hx.out, HFX.out, ← hn.out]
                      exact ⟨a1, a2, by have := HGD2.out; rw [← hx.out] at this; exact this, a3, a4, a5, by omega⟩
                    have hst := load_step HCI.out HIN.out hok H8.out
                    have hnx : n + (F.f1.size : Int) = useL (l.take (i + 1)) := by
                      rw [useL_take l i HCI.out, ← hx.out, HFX.out]
                      have h1 := hn.out
                      omega
                    have HOKI := Aside0.mk hok
                    have HST := Aside0.mk hst.2
                    have HNX := Aside0.mk hnx
                    clear hok hst hnx dr
                    go_wp2
                    have hI := HCI.out
                    have hx1 := hx.out
                    have hk1 := hk.out
                    go_roundg (l.length - i)
                    case measure => omega
                    case rel => exact ⟨i + 1, x + 1, n + (F.f1.size : Int), by first | rfl | (rw [HWN.out]), by first | rfl | (rw [HWX.out]), ⟨by omega⟩, HNX, ⟨by omega⟩, ⟨by omega⟩, ⟨fun j hj => by
                      rcases Nat.lt_or_ge j i with h | h
                      · exact HOKS.out j h
                      · obtain rfl : j = i := by omega
                        exact HOKI.out⟩, HST, HW3⟩
        · have c3 : decide (x < (l.length : Int)) = false := decide_eq_false (by have := hi.out; have := hx.out; omega)
          have e : l.take i = l := List.take_of_length_le (by omega)
          have h1 := HIN.out
          rw [e] at h1
          have HIL := Aside0.mk h1
          have HOKL := Aside0.mk (show okL room l from ⟨HOK.out.1, HOK.out.2, H8.out, fun j hj => HOKS.out j (by omega)⟩)
          have HRR := Aside0.mk (HRF.out.up HW.out)
          have HBW := Aside0.mk (HB.out.trans (HW.out.mono HB.out.size))
          obtain ⟨A', c', ks', fA', fc', hb', h2', h3', h4', h5', h6', h7', k0', k1', k2', k3', k4', fz'⟩ := HRR.out.cells
          have K4 := Aside0.mk k4'
          have FZ := Aside0.mk fz'
          clear h1 c9 e hb' h2' h3' h4' h5' h6' h7' k0' k1' k2' k3' k4' fz'
          go_upto_region 16 with (fail)
          clear c3
          go_wp2_with (at_builtin; refine Kd.R_append_rows k24 (w0 := wr) wr.heap.size rfl _ _ 22 24 (.agg #[(.int .i64 0), (.string ⟨#[]⟩), (.int .i64 0)]) 32 rfl Tryz.underlying22 info24 rfl (by decide) (by decide) (.slice (some ⟨wr.heap.size, 0, none⟩) 0 0) [] l _ _ _ (fun _ => True) (fun _ => False) rfl rfl ⟨fun _ _ => trivial, _, World.ownsRow_made wr #[] 0 (Nat.le_refl _) (Nat.zero_le _) rfl, Reps.none _ _⟩ (Kd.C_below (Kd.C_below HR.out HBW.out) (below_alloc (Below.refl _ _) _)) (fun _ _ h => h) (fun _ h => h.elim) (fun _ _ => trivial) (below_alloc (Below.refl _ _) _) (by simp) (by have := H8.out; simp only [List.length_nil]; omega) ?_; intro v1 w1 hr1 hb1 hg1 hat1; obtain ⟨rA, rc, rfl⟩ := Kd.R_slice hr1; have hk4' := (hb1.cell (World.block_lt_of_cell? _ _ K4.out)).trans K4.out; have hkz' := (hb1.frozen (p := ⟨q, 4, none⟩) HRR.out.lt).trans (FZ.out 4); simp only [List.nil_append] at hr1; have HRW := Aside0.mk hr1; have HBF := Aside0.mk hb1; clear hr1 hb1 hg1 hat1)
          go_ret2
          refine ⟨?_, .inl ⟨HOKL.out, q, rfl, (HRR.out.up HBF.out).put4 _ l (Kd.R_lower HRW.out (Nat.le_trans HB0.out.size HBW.out.size)) HIL.out⟩⟩
          exact (HBW.out.trans (HBF.out.mono HBW.out.size)).trans ⟨rfl, rfl, rfl, by simp, fun k hk => Below.heap_setCell _ ⟨q, 4, none⟩ _ k (by have h1 := HGQ.out; show k ≠ q; omega)⟩
end

end Go.Proofs.YtkcpgaplpmbmoaaGreat.PA
