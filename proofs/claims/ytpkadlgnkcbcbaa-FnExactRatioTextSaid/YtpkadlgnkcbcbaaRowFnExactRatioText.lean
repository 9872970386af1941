/- The row of FnExactRatioText: whatever the input, the law returns true and the input reads as it did. No condition. -/
import Derived.Test.YtpkadlgnkcbcbaaRows
import Derived.Test.YtpkadlgnkcbcbaaGoFnExactRatioText
import Derived.WalkKit
import Derived.ProofKit
import Derived.OpenShut
import Derived.ShutString
import Derived.ChangeOld
import Derived.Below
import Derived.SizedLaws
import Derived.SliceStrings
import Derived.Deep.Slices
import Derived.Test.YtpkadlgnkcbcbaaOp
import Derived.Test.YtpkadlgnkcbcbaaWSized
namespace Go.Proofs.Ytpkadlgnkcbcbaa.fnExactRatioText
open Go.ChangeShapes Go.WideShapes Go.ChangeAt Go.RowKit Go.Proofs.YtpkadlgnkcbcbaaW
open Go.ChangeMaps (open_string shut_string)
set_option linter.unusedVariables false
theorem own : ownKnob Try.prog.godebug = none := by kernel_rfl
theorem laidOut : laidOutB Try.prog = true := by kernel_rfl
set_option maxRecDepth 100000 in
theorem lifted (os : Os) (started : os.Started) (H : Type) (enc : TypeId × Value → H) :
    ReturnsInHanded {} Try.checked os 6 .any (Rows.fnExactRatioTextSpec.pre6 enc Try.prog Try.f6 Rows.fnExactRatioTextRow.domain false) (Rows.fnExactRatioTextSpec.post enc Try.prog Try.f6 false true false false) := by
  refine returnsInHanded_of_change_sized (C := Try.checked) own started (by kernel_rfl) Try.func6
    (ChangeSpec.witness6 (enc := enc) (C := Try.checked) false ⟨#[], #[.agg #[.int .i64 0, .int .i64 0]], []⟩ 8 (by kernel_rfl) (by kernel_rfl) (by kernel_rfl) (by kernel_rfl)) ?_
  intro W base args ds gs before hval0 hW hcnd hsz0 _
  have hsz : (DataW.weightsEach Try.prog (Try.f6.params.toList ++ Rows.fnExactRatioTextSpec.plain.varTypes Try.prog) (ds ++ gs)).all (· ≤ reachBytes) = true := hsz0
  have hval : ∀ (j : Nat) t v, Try.f6.params[j]? = some t → args[j]? = some v → Value.okWide Try.prog W .any base t v := hval0
  have hW' := hW
  obtain ⟨p, q, hA0, hV, rfl, hfz, hnd⟩ := hW
  have hA : DataW.TrodAll enc Try.prog W 0 (fun _ => true) true Try.f6.params.toList args.toList ds p := hA0
  rw [Try.params6] at hA hval hsz
  obtain ⟨v0, vs0, d0, ds0, p0, q0, hargs, rfl, rfl, h0, r0⟩ := trodAll_cons hA
  obtain ⟨rfl, rfl, rfl⟩ := trodAll_nil r0
  obtain rfl : args = #[v0] := by cases args; simp_all
  obtain ⟨rfl, rfl⟩ := trodVars_none hV
  obtain ⟨cs0, rfl, hz0, hf0⟩ := Op.open_flds Try.underlying23 (by kernel_rfl) (by kernel_rfl) (hval 0 23 v0 rfl rfl) h0
  have k0 := h0
  have lt0 : ∀ x ∈ p0, x.block < W.heap.size := by obtain ⟨m, hm⟩ := k0; exact DataW.trod_lt m _ _ _ hm
  obtain ⟨c0_0, u0_0, n0_0, g0_0, t0_0⟩ := hf0 0 _ rfl
  obtain ⟨x0_0, e0_0, _, yx0_0⟩ := DataW.trod_int Try.underlying2 t0_0
  obtain rfl : c0_0 = .int .i64 x0_0 := by simpa using e0_0
  obtain ⟨c0_1, u0_1, n0_1, g0_1, t0_1⟩ := hf0 1 _ rfl
  obtain ⟨x0_1, e0_1, _, yx0_1⟩ := DataW.trod_int Try.underlying2 t0_1
  obtain rfl : c0_1 = .int .i64 x0_1 := by simpa using e0_1
  obtain rfl := Op.arr2 (hz0.trans rfl) g0_0 g0_1
  clear hA0 hval0 hsz0 hsz
  refine (GoFnExactRatioText.walk x0_0 x0_1 yx0_0 yx0_1 W).mono fun e W' ⟨he, bel⟩ => ?_
  subst he
  exact ⟨_, rfl, _, _, _, [], _, [], hW', trodAll_mk1 (shut_bool Try.underlying4 _), (trodAll_cons_mk (Below.trod laidOut (by kernel_rfl) (of_decide_eq_true (by kernel_rfl)) k0 bel lt0) trodAll_mk0), rfl, bel.frame _, fun h => by cases h⟩
theorem over : Rows.fnExactRatioTextRow.holds Try.pinned (OpenSpec.ofChange Rows.fnExactRatioTextSpec) :=
  OpenClaim.holds_of_wide 6 Try.f6 rfl rfl rfl rfl rfl rfl rfl ⟨rfl, rfl, rfl, rfl, rfl⟩ rfl rfl rfl rfl rfl (by kernel_rfl) Try.func6 (by kernel_rfl)
    (of_decide_eq_true (by kernel_rfl)) (by unfold Func.isWrapper; first | (rw [if_pos (by decide +kernel)]; kernel_rfl) | (rw [if_neg (by decide +kernel)]; exact ⟨rfl, rfl⟩))
    (fun os started H enc _ => lifted os started H enc)
theorem proved : Rows.FnExactRatioTextSaid := over
#print axioms proved
end Go.Proofs.Ytpkadlgnkcbcbaa.fnExactRatioText
namespace Go.Proofs.Ytpkadlgnkcbcbaa
/-- The row, under a short name, for the claim. -/
theorem fnExactRatioText_holds : Rows.FnExactRatioTextSaid := fnExactRatioText.proved
end Go.Proofs.Ytpkadlgnkcbcbaa
