/- ActUndone: the row, for every input that can be read as data; no condition. -/
import Derived.Test.YtmfpgjpekmaemaaRows
import Derived.Test.YtmfpgjpekmaemaaPDx9
import Derived.Test.YtmfpgjpekmaemaaPureActUndone
import Derived.Test.YtmfpgjpekmaemaaOpens
import Derived.WalkKit
import Derived.ProofKit
import Derived.OpenShut
import Derived.ShutString
import Derived.ChangeOld
import Derived.Below
import Derived.SizedLaws
namespace Go.Proofs.Ytmfpgjpekmaemaa.actUndone
open Go.ChangeShapes Go.WideShapes Go.ChangeAt Go.RowKit Go.Proofs.YtmfpgjpekmaemaaW.PrintWords Go.Proofs.Ytmfpgjpekmaemaa.Opn Go.Proofs.Ytmfpgjpekmaemaa.PD
open Go.ChangeMaps (open_string shut_string)
set_option linter.unusedVariables false
theorem own : ownKnob Try.prog.godebug = none := by kernel_rfl
theorem laidOut : laidOutB Try.prog = true := by kernel_rfl
set_option maxRecDepth 100000 in
theorem lifted (os : Os) (started : os.Started) (H : Type) (enc : TypeId × Value → H) :
    ReturnsInHanded {} Try.checked os 6 .any (Rows.actUndoneSpec.pre6 enc Try.prog Try.f6 Rows.actUndoneRow.domain false) (Rows.actUndoneSpec.post enc Try.prog Try.f6 false true false false) := by
  refine returnsInHanded_of_change_sized (C := Try.checked) own started (by kernel_rfl) Try.func6
    (ChangeSpec.witness6 (enc := enc) (C := Try.checked) false ⟨#[], #[.agg #[.string ByteArray.empty, .int .i64 0, .int .i64 0, .int .i64 0, .int .i64 0, .int .i64 0, .int .i64 0], .agg #[.int .i64 0, .string ByteArray.empty, .int .i64 0]], []⟩ 8 (by kernel_rfl) (by kernel_rfl) (by kernel_rfl) (by kernel_rfl)) ?_
  intro W base args ds gs before hval0 hW hcnd hsz0 _
  have hsz : (DataW.weightsEach Try.prog (Try.f6.params.toList ++ Rows.actUndoneSpec.plain.varTypes Try.prog) (ds ++ gs)).all (· ≤ reachBytes) = true := hsz0
  have hval : ∀ (j : Nat) t v, Try.f6.params[j]? = some t → args[j]? = some v → Value.okWide Try.prog W .any base t v := hval0
  have hW' := hW
  obtain ⟨p, q, hA0, hV, rfl, hfz, hnd⟩ := hW
  have hA : DataW.TrodAll enc Try.prog W 0 (fun _ => true) true Try.f6.params.toList args.toList ds p := hA0
  rw [Try.params6] at hA hval hsz
  obtain ⟨v0, vs0, d0, ds0, p0, q0, hargs, rfl, rfl, h0, r0⟩ := trodAll_cons hA
  obtain ⟨v1, vs1, d1, ds1, p1, q1, rfl, rfl, rfl, h1, r1⟩ := trodAll_cons r0
  obtain ⟨rfl, rfl, rfl⟩ := trodAll_nil r1
  obtain rfl : args = #[v0, v1] := by cases args; simp_all
  obtain ⟨rfl, rfl⟩ := trodVars_none hV
  have z0 := h0
  have lt0 : ∀ x ∈ p0, x.block < W.heap.size := by obtain ⟨m, hm⟩ := z0; exact DataW.trod_lt m _ _ _ hm
  obtain ⟨cs0, rfl, _⟩ := okWide_struct Try.underlying27 (hval 0 27 v0 rfl rfl)
  obtain ⟨y0, hK0, hQ0⟩ := open_arg (opens_struct Try.underlying27 rfl (by kernel_rfl) (opensF_cons rfl (by kernel_rfl) (opens_string Try.underlying9) rfl (opensF_cons rfl (by kernel_rfl) (opens_struct Try.underlying25 rfl (by kernel_rfl) (opensF_cons rfl (by kernel_rfl) (opens_int Try.underlying2) rfl (opensF_cons rfl (by kernel_rfl) (opens_int Try.underlying2) rfl (opensF_one rfl (by kernel_rfl) (opens_int Try.underlying2))))) rfl (opensF_one rfl (by kernel_rfl) (opens_struct Try.underlying25 rfl (by kernel_rfl) (opensF_cons rfl (by kernel_rfl) (opens_int Try.underlying2) rfl (opensF_cons rfl (by kernel_rfl) (opens_int Try.underlying2) rfl (opensF_one rfl (by kernel_rfl) (opens_int Try.underlying2))))))))) h0 (weights_of hsz (j := 0) (t := 27) rfl rfl)
  obtain ⟨_, _, e_, rfl, ⟨_, _, rfl, ⟨_, _, rfl, rfl, ⟨_, _, rfl, rfl, rfl⟩⟩, ⟨_, _, rfl, rfl, ⟨_, _, rfl, rfl, rfl⟩⟩⟩⟩ := hK0
  simp only [List.cons_append, List.nil_append] at e_
  obtain rfl := cells_out e_
  clear e_
  have z1 := h1
  have lt1 : ∀ x ∈ p1, x.block < W.heap.size := by obtain ⟨m, hm⟩ := z1; exact DataW.trod_lt m _ _ _ hm
  obtain ⟨cs1, rfl, _⟩ := okWide_struct Try.underlying23 (hval 1 23 v1 rfl rfl)
  obtain ⟨y1, hK1, hQ1⟩ := open_arg (opens_struct Try.underlying23 rfl (by kernel_rfl) (opensF_cons rfl (by kernel_rfl) (opens_int Try.underlying3) rfl (opensF_cons rfl (by kernel_rfl) (opens_string Try.underlying9) rfl (opensF_one rfl (by kernel_rfl) (opens_int Try.underlying2))))) h1 (weights_of hsz (j := 1) (t := 23) rfl rfl)
  obtain ⟨_, _, e_, rfl, ⟨_, _, rfl, rfl, rfl⟩⟩ := hK1
  simp only [List.cons_append, List.nil_append] at e_
  obtain rfl := cells_out e_
  clear e_
  clear hA0 hval0 hsz0 hsz hval hA
  obtain ⟨k, hk⟩ := Pure.ActUndone y0.1 y0.2.1.1 y0.2.1.2.1 y0.2.1.2.2 y0.2.2.1 y0.2.2.2.1 y0.2.2.2.2 y1.1 y1.2.1 y1.2.2 hQ0.1 hQ0.2.1.1 hQ0.2.1.2.1 hQ0.2.1.2.2 hQ0.2.2.1 hQ0.2.2.2.1 hQ0.2.2.2.2 hQ1.1 hQ1.2.1 hQ1.2.2
  refine (ententelaw06_ActUndone.calls k y0.1 y0.2.1.1 y0.2.1.2.1 y0.2.1.2.2 y0.2.2.1 y0.2.2.2.1 y0.2.2.2.2 y1.1 y1.2.1 y1.2.2 true W  rfl hk).mono fun e W' ⟨he, bel0⟩ => ?_
  have bel : Below W.heap.size W W' := bel0
  subst he
  exact ⟨_, rfl, _, _, _, [], _, [], hW', trodAll_mk1 (shut_bool Try.underlying4 _), (trodAll_cons_mk (Below.trod laidOut (by kernel_rfl) (of_decide_eq_true (by kernel_rfl)) z0 bel lt0) (trodAll_cons_mk (Below.trod laidOut (by kernel_rfl) (of_decide_eq_true (by kernel_rfl)) z1 bel lt1) trodAll_mk0)), rfl, bel.frame _, fun h => by cases h⟩
theorem over : Rows.actUndoneRow.holds Try.pinned (OpenSpec.ofChange Rows.actUndoneSpec) :=
  OpenClaim.holds_of_wide 6 Try.f6 rfl rfl rfl rfl rfl rfl rfl ⟨rfl, rfl, rfl, rfl, rfl⟩ rfl rfl rfl rfl rfl (by kernel_rfl) Try.func6 (by kernel_rfl)
    (of_decide_eq_true (by kernel_rfl)) (by unfold Func.isWrapper; first | (rw [if_pos (by decide +kernel)]; kernel_rfl) | (rw [if_neg (by decide +kernel)]; exact ⟨rfl, rfl⟩))
    (fun os started H enc _ => lifted os started H enc)
theorem proved : Rows.ActUndoneSaid := over
end Go.Proofs.Ytmfpgjpekmaemaa.actUndone
namespace Go.Proofs.Ytmfpgjpekmaemaa
/-- The row, under a short name, for the claim. -/
theorem actUndone_holds : Rows.ActUndoneSaid := actUndone.proved
#print axioms actUndone_holds
end Go.Proofs.Ytmfpgjpekmaemaa
