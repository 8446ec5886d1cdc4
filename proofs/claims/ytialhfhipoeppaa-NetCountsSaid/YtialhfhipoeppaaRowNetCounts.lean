/- NetCounts: the row, for every input that can be read as data; no condition. -/
import Derived.Test.YtialhfhipoeppaaRows
import Derived.Test.YtialhfhipoeppaaPDx5
import Derived.Test.YtialhfhipoeppaaPureNetCounts
import Derived.Test.YtialhfhipoeppaaOpens
import Derived.WalkKit
import Derived.ProofKit
import Derived.OpenShut
import Derived.ShutString
import Derived.ChangeOld
import Derived.Below
import Derived.SizedLaws
namespace Go.Proofs.Ytialhfhipoeppaa.netCounts
open Go.ChangeShapes Go.WideShapes Go.ChangeAt Go.RowKit Go.Proofs.YtialhfhipoeppaaW.PrintWords Go.Proofs.Ytialhfhipoeppaa.Opn Go.Proofs.Ytialhfhipoeppaa.PD
open Go.ChangeMaps (open_string shut_string)
set_option linter.unusedVariables false
theorem own : ownKnob Try.prog.godebug = none := by kernel_rfl
theorem laidOut : laidOutB Try.prog = true := by kernel_rfl
theorem opens_k39 : Opens Try.prog 39 k39 Q39 :=
  opens_iso (fun x : S39 => (x.f0, x.f1, x.f2)) (fun y => ⟨y.1, y.2.1, y.2.2⟩) (fun _ => rfl) (opens_struct Try.underlying39 rfl (by kernel_rfl) (opensF_cons rfl (by kernel_rfl) (opens_int Try.underlying3) rfl (opensF_cons rfl (by kernel_rfl) (opens_int Try.underlying3) rfl (opensF_one rfl (by kernel_rfl) (opens_string Try.underlying9)))))
theorem opens_k49 : Opens Try.prog 49 k49 Q49 :=
  opens_iso (fun x : S49 => (x.f0, x.f1, x.f2)) (fun y => ⟨y.1, y.2.1, y.2.2⟩) (fun _ => rfl) (opens_struct Try.underlying49 rfl (by kernel_rfl) (opensF_cons rfl (by kernel_rfl) (opens_int Try.underlying3) rfl (opensF_cons rfl (by kernel_rfl) (opens_int Try.underlying3) rfl (opensF_one rfl (by kernel_rfl) opens_k39))))
set_option maxRecDepth 100000 in
theorem lifted (os : Os) (started : os.Started) (H : Type) (enc : TypeId × Value → H) :
    ReturnsInHanded {} Try.checked os 5 .any (Rows.netCountsSpec.pre6 enc Try.prog Try.f5 Rows.netCountsRow.domain false) (Rows.netCountsSpec.post enc Try.prog Try.f5 false true false false) := by
  refine returnsInHanded_of_change_sized (C := Try.checked) own started (by kernel_rfl) Try.func5
    (ChangeSpec.witness6 (enc := enc) (C := Try.checked) false ⟨#[], #[.slice none 0 0, .agg #[.int .i64 0, .int .i64 0, .string ByteArray.empty]], []⟩ 8 (by kernel_rfl) (by kernel_rfl) (by kernel_rfl) (by kernel_rfl)) ?_
  intro W base args ds gs before hval0 hW hcnd hsz0 _
  have hsz : (DataW.weightsEach Try.prog (Try.f5.params.toList ++ Rows.netCountsSpec.plain.varTypes Try.prog) (ds ++ gs)).all (· ≤ reachBytes) = true := hsz0
  have hval : ∀ (j : Nat) t v, Try.f5.params[j]? = some t → args[j]? = some v → Value.okWide Try.prog W .any base t v := hval0
  have hW' := hW
  obtain ⟨p, q, hA0, hV, rfl, hfz, hnd⟩ := hW
  have hA : DataW.TrodAll enc Try.prog W 0 (fun _ => true) true Try.f5.params.toList args.toList ds p := hA0
  rw [Try.params5] at hA hval hsz
  obtain ⟨v0, vs0, d0, ds0, p0, q0, hargs, rfl, rfl, h0, r0⟩ := trodAll_cons hA
  obtain ⟨v1, vs1, d1, ds1, p1, q1, rfl, rfl, rfl, h1, r1⟩ := trodAll_cons r0
  obtain ⟨rfl, rfl, rfl⟩ := trodAll_nil r1
  obtain rfl : args = #[v0, v1] := by cases args; simp_all
  obtain ⟨rfl, rfl⟩ := trodVars_none hV
  have z0 := h0
  have lt0 : ∀ x ∈ p0, x.block < W.heap.size := by obtain ⟨m, hm⟩ := z0; exact DataW.trod_lt m _ _ _ hm
  obtain ⟨a0, len0, cap0, rfl⟩ := okWide_slice Try.underlying47 (hval 0 47 v0 rfl rfl)
  obtain ⟨y0, rfl, hl0, hC0, hQ0⟩ := open_slice_arg (e := 49) (opens_slice (e := 49) (B := 48) Try.underlying47 (by kernel_rfl) (by kernel_rfl) opens_k49) h0 (weights_of hsz (j := 0) (t := 47) rfl rfl)
  have z1 := h1
  have lt1 : ∀ x ∈ p1, x.block < W.heap.size := by obtain ⟨m, hm⟩ := z1; exact DataW.trod_lt m _ _ _ hm
  obtain ⟨cs1, rfl, _⟩ := okWide_struct Try.underlying39 (hval 1 39 v1 rfl rfl)
  obtain ⟨y1, hK1, hQ1⟩ := open_arg (opens_struct Try.underlying39 rfl (by kernel_rfl) (opensF_cons rfl (by kernel_rfl) (opens_int Try.underlying3) rfl (opensF_cons rfl (by kernel_rfl) (opens_int Try.underlying3) rfl (opensF_one rfl (by kernel_rfl) (opens_string Try.underlying9))))) h1 (weights_of hsz (j := 1) (t := 39) rfl rfl)
  obtain ⟨_, _, e_, rfl, ⟨_, _, rfl, rfl, rfl⟩⟩ := hK1
  simp only [List.cons_append, List.nil_append] at e_
  obtain rfl := cells_out e_
  clear e_
  clear hA0 hval0 hsz0 hsz hval hA
  obtain ⟨k, hk⟩ := Pure.NetCounts y0 y1.1 y1.2.1 y1.2.2 hQ0 hQ1.1 hQ1.2.1 hQ1.2.2
  refine (ententelaw31_NetCounts.calls k _ _ y0 y1.1 y1.2.1 y1.2.2 true W hC0 hl0 rfl hk).mono fun e W' ⟨he, bel0⟩ => ?_
  have bel : Below W.heap.size W W' := bel0
  subst he
  exact ⟨_, rfl, _, _, _, [], _, [], hW', trodAll_mk1 (shut_bool Try.underlying4 _), (trodAll_cons_mk (Below.trod laidOut (by kernel_rfl) (of_decide_eq_true (by kernel_rfl)) z0 bel lt0) (trodAll_cons_mk (Below.trod laidOut (by kernel_rfl) (of_decide_eq_true (by kernel_rfl)) z1 bel lt1) trodAll_mk0)), rfl, bel.frame _, fun h => by cases h⟩
theorem over : Rows.netCountsRow.holds Try.pinned (OpenSpec.ofChange Rows.netCountsSpec) :=
  OpenClaim.holds_of_wide 5 Try.f5 rfl rfl rfl rfl rfl rfl rfl ⟨rfl, rfl, rfl, rfl, rfl⟩ rfl rfl rfl rfl rfl (by kernel_rfl) Try.func5 (by kernel_rfl)
    (of_decide_eq_true (by kernel_rfl)) (by unfold Func.isWrapper; first | (rw [if_pos (by decide +kernel)]; kernel_rfl) | (rw [if_neg (by decide +kernel)]; exact ⟨rfl, rfl⟩))
    (fun os started H enc _ => lifted os started H enc)
theorem proved : Rows.NetCountsSaid := over
end Go.Proofs.Ytialhfhipoeppaa.netCounts
namespace Go.Proofs.Ytialhfhipoeppaa
/-- The row, under a short name, for the claim. -/
theorem netCounts_holds : Rows.NetCountsSaid := netCounts.proved
#print axioms netCounts_holds
end Go.Proofs.Ytialhfhipoeppaa
