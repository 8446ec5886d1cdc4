/- ActChecks: the row, for every input that can be read as data; no condition. -/
import Derived.Test.YtmfpgjpekmaemaaRows
import Derived.Test.YtmfpgjpekmaemaaPAx6
import Derived.Test.YtmfpgjpekmaemaaPureActChecks
import Derived.Test.YtmfpgjpekmaemaaOpens
import Derived.WalkKit
import Derived.ProofKit
import Derived.OpenShut
import Derived.ShutString
import Derived.ChangeOld
import Derived.Below
import Derived.SizedLaws
namespace Go.Proofs.Ytmfpgjpekmaemaa.actChecks
open Go.ChangeShapes Go.WideShapes Go.ChangeAt Go.RowKit Go.Proofs.YtmfpgjpekmaemaaW.PrintWords Go.Proofs.Ytmfpgjpekmaemaa.Opn Go.Proofs.Ytmfpgjpekmaemaa.PA
open Go.ChangeMaps (open_string shut_string)
set_option linter.unusedVariables false
theorem own : ownKnob Try.prog.godebug = none := by kernel_rfl
theorem laidOut : laidOutB Try.prog = true := by kernel_rfl
set_option maxRecDepth 100000 in
theorem lifted (os : Os) (started : os.Started) (H : Type) (enc : TypeId × Value → H) :
    ReturnsInHanded {} Try.checked os 3 .any (Rows.actChecksSpec.pre6 enc Try.prog Try.f3 Rows.actChecksRow.domain false) (Rows.actChecksSpec.post enc Try.prog Try.f3 false true false false) := by
  refine returnsInHanded_of_change_sized (C := Try.checked) own started (by kernel_rfl) Try.func3
    (ChangeSpec.witness6 (enc := enc) (C := Try.checked) false ⟨#[], #[.string ByteArray.empty, .agg #[.int .i64 0, .string ByteArray.empty, .int .i64 0], .agg #[.string ByteArray.empty, .int .i64 0, .int .i64 0, .int .i64 0, .int .i64 0, .int .i64 0, .int .i64 0]], []⟩ 8 (by kernel_rfl) (by kernel_rfl) (by kernel_rfl) (by kernel_rfl)) ?_
  intro W base args ds gs before hval0 hW hcnd hsz0 _
  have hsz : (DataW.weightsEach Try.prog (Try.f3.params.toList ++ Rows.actChecksSpec.plain.varTypes Try.prog) (ds ++ gs)).all (· ≤ reachBytes) = true := hsz0
  have hval : ∀ (j : Nat) t v, Try.f3.params[j]? = some t → args[j]? = some v → Value.okWide Try.prog W .any base t v := hval0
  have hW' := hW
  obtain ⟨p, q, hA0, hV, rfl, hfz, hnd⟩ := hW
  have hA : DataW.TrodAll enc Try.prog W 0 (fun _ => true) true Try.f3.params.toList args.toList ds p := hA0
  rw [Try.params3] at hA hval hsz
  obtain ⟨v0, vs0, d0, ds0, p0, q0, hargs, rfl, rfl, h0, r0⟩ := trodAll_cons hA
  obtain ⟨v1, vs1, d1, ds1, p1, q1, rfl, rfl, rfl, h1, r1⟩ := trodAll_cons r0
  obtain ⟨v2, vs2, d2, ds2, p2, q2, rfl, rfl, rfl, h2, r2⟩ := trodAll_cons r1
  obtain ⟨rfl, rfl, rfl⟩ := trodAll_nil r2
  obtain rfl : args = #[v0, v1, v2] := by cases args; simp_all
  obtain ⟨rfl, rfl⟩ := trodVars_none hV
  have z0 := h0
  have lt0 : ∀ x ∈ p0, x.block < W.heap.size := by obtain ⟨m, hm⟩ := z0; exact DataW.trod_lt m _ _ _ hm
  obtain ⟨a0, rfl, rfl, rfl, _⟩ := open_string Try.underlying9 (hval 0 9 v0 rfl rfl) h0
  have w0 : a0.size ≤ 140737488351232 := by
    have z := sized_string hsz (j := 0) (t := 9) rfl rfl
    rw [Array.length_toList] at z
    exact z
  have z1 := h1
  have lt1 : ∀ x ∈ p1, x.block < W.heap.size := by obtain ⟨m, hm⟩ := z1; exact DataW.trod_lt m _ _ _ hm
  obtain ⟨cs1, rfl, _⟩ := okWide_struct Try.underlying23 (hval 1 23 v1 rfl rfl)
  obtain ⟨y1, hK1, hQ1⟩ := open_arg (opens_struct Try.underlying23 rfl (by kernel_rfl) (opensF_cons rfl (by kernel_rfl) (opens_int Try.underlying3) rfl (opensF_cons rfl (by kernel_rfl) (opens_string Try.underlying9) rfl (opensF_one rfl (by kernel_rfl) (opens_int Try.underlying2))))) h1 (weights_of hsz (j := 1) (t := 23) rfl rfl)
  obtain ⟨_, _, e_, rfl, ⟨_, _, rfl, rfl, rfl⟩⟩ := hK1
  simp only [List.cons_append, List.nil_append] at e_
  obtain rfl := cells_out e_
  clear e_
  have z2 := h2
  have lt2 : ∀ x ∈ p2, x.block < W.heap.size := by obtain ⟨m, hm⟩ := z2; exact DataW.trod_lt m _ _ _ hm
  obtain ⟨cs2, rfl, _⟩ := okWide_struct Try.underlying27 (hval 2 27 v2 rfl rfl)
  obtain ⟨y2, hK2, hQ2⟩ := open_arg (opens_struct Try.underlying27 rfl (by kernel_rfl) (opensF_cons rfl (by kernel_rfl) (opens_string Try.underlying9) rfl (opensF_cons rfl (by kernel_rfl) (opens_struct Try.underlying25 rfl (by kernel_rfl) (opensF_cons rfl (by kernel_rfl) (opens_int Try.underlying2) rfl (opensF_cons rfl (by kernel_rfl) (opens_int Try.underlying2) rfl (opensF_one rfl (by kernel_rfl) (opens_int Try.underlying2))))) rfl (opensF_one rfl (by kernel_rfl) (opens_struct Try.underlying25 rfl (by kernel_rfl) (opensF_cons rfl (by kernel_rfl) (opens_int Try.underlying2) rfl (opensF_cons rfl (by kernel_rfl) (opens_int Try.underlying2) rfl (opensF_one rfl (by kernel_rfl) (opens_int Try.underlying2))))))))) h2 (weights_of hsz (j := 2) (t := 27) rfl rfl)
  obtain ⟨_, _, e_, rfl, ⟨_, _, rfl, ⟨_, _, rfl, rfl, ⟨_, _, rfl, rfl, rfl⟩⟩, ⟨_, _, rfl, rfl, ⟨_, _, rfl, rfl, rfl⟩⟩⟩⟩ := hK2
  simp only [List.cons_append, List.nil_append] at e_
  obtain rfl := cells_out e_
  clear e_
  clear hA0 hval0 hsz0 hsz hval hA
  obtain ⟨k, hk⟩ := Pure.ActChecks a0 y1.1 y1.2.1 y1.2.2 y2.1 y2.2.1.1 y2.2.1.2.1 y2.2.1.2.2 y2.2.2.1 y2.2.2.2.1 y2.2.2.2.2 w0 hQ1.1 hQ1.2.1 hQ1.2.2 hQ2.1 hQ2.2.1.1 hQ2.2.1.2.1 hQ2.2.1.2.2 hQ2.2.2.1 hQ2.2.2.2.1 hQ2.2.2.2.2
  refine (ententelaw06_ActChecks.calls k a0 y1.1 y1.2.1 y1.2.2 y2.1 y2.2.1.1 y2.2.1.2.1 y2.2.1.2.2 y2.2.2.1 y2.2.2.2.1 y2.2.2.2.2 true W  rfl hk).mono fun e W' ⟨he, bel0⟩ => ?_
  have bel : Below W.heap.size W W' := bel0
  subst he
  exact ⟨_, rfl, _, _, _, [], _, [], hW', trodAll_mk1 (shut_bool Try.underlying4 _), (trodAll_cons_mk (Below.trod laidOut (by kernel_rfl) (of_decide_eq_true (by kernel_rfl)) z0 bel lt0) (trodAll_cons_mk (Below.trod laidOut (by kernel_rfl) (of_decide_eq_true (by kernel_rfl)) z1 bel lt1) (trodAll_cons_mk (Below.trod laidOut (by kernel_rfl) (of_decide_eq_true (by kernel_rfl)) z2 bel lt2) trodAll_mk0))), rfl, bel.frame _, fun h => by cases h⟩
theorem over : Rows.actChecksRow.holds Try.pinned (OpenSpec.ofChange Rows.actChecksSpec) :=
  OpenClaim.holds_of_wide 3 Try.f3 rfl rfl rfl rfl rfl rfl rfl ⟨rfl, rfl, rfl, rfl, rfl⟩ rfl rfl rfl rfl rfl (by kernel_rfl) Try.func3 (by kernel_rfl)
    (of_decide_eq_true (by kernel_rfl)) (by unfold Func.isWrapper; first | (rw [if_pos (by decide +kernel)]; kernel_rfl) | (rw [if_neg (by decide +kernel)]; exact ⟨rfl, rfl⟩))
    (fun os started H enc _ => lifted os started H enc)
theorem proved : Rows.ActChecksSaid := over
end Go.Proofs.Ytmfpgjpekmaemaa.actChecks
namespace Go.Proofs.Ytmfpgjpekmaemaa
/-- The row, under a short name, for the claim. -/
theorem actChecks_holds : Rows.ActChecksSaid := actChecks.proved
#print axioms actChecks_holds
end Go.Proofs.Ytmfpgjpekmaemaa
