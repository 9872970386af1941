/- The row of FnExactBetweenRatios: whatever the input, the law returns true and the input reads as it did. No condition. -/
import Derived.Test.YtpkadlgnkcbcbaaRows
import Derived.Test.YtpkadlgnkcbcbaaGoFnExactBetweenRatios
import Derived.WalkKit
import Derived.ProofKit
import Derived.OpenShut
import Derived.ShutString
import Derived.ChangeOld
import Derived.Below
import Derived.SizedLaws
import Derived.SliceStrings
import Derived.Deep.Slices
import Derived.Test.YtpkadlgnkcbcbaaOp
import Derived.Test.YtpkadlgnkcbcbaaWSized
namespace Go.Proofs.Ytpkadlgnkcbcbaa.fnExactBetweenRatios
open Go.ChangeShapes Go.WideShapes Go.ChangeAt Go.RowKit Go.Proofs.YtpkadlgnkcbcbaaW
open Go.ChangeMaps (open_string shut_string)
set_option linter.unusedVariables false
theorem own : ownKnob Try.prog.godebug = none := by kernel_rfl
theorem laidOut : laidOutB Try.prog = true := by kernel_rfl
set_option maxRecDepth 100000 in
theorem lifted (os : Os) (started : os.Started) (H : Type) (enc : TypeId × Value → H) :
    ReturnsInHanded {} Try.checked os 10 .any (Rows.fnExactBetweenRatiosSpec.pre6 enc Try.prog Try.f10 Rows.fnExactBetweenRatiosRow.domain false) (Rows.fnExactBetweenRatiosSpec.post enc Try.prog Try.f10 false true false false) := by
  refine returnsInHanded_of_change_sized (C := Try.checked) own started (by kernel_rfl) Try.func10
    (ChangeSpec.witness6 (enc := enc) (C := Try.checked) false ⟨#[], #[.agg #[.int .i64 0, .int .i64 0], .agg #[.int .i64 0, .int .i64 0]], []⟩ 8 (by kernel_rfl) (by kernel_rfl) (by kernel_rfl) (by kernel_rfl)) ?_
  intro W base args ds gs before hval0 hW hcnd hsz0 _
  have hsz : (DataW.weightsEach Try.prog (Try.f10.params.toList ++ Rows.fnExactBetweenRatiosSpec.plain.varTypes Try.prog) (ds ++ gs)).all (· ≤ reachBytes) = true := hsz0
  have hval : ∀ (j : Nat) t v, Try.f10.params[j]? = some t → args[j]? = some v → Value.okWide Try.prog W .any base t v := hval0
  have hW' := hW
  obtain ⟨p, q, hA0, hV, rfl, hfz, hnd⟩ := hW
  have hA : DataW.TrodAll enc Try.prog W 0 (fun _ => true) true Try.f10.params.toList args.toList ds p := hA0
  rw [Try.params10] at hA hval hsz
  obtain ⟨v0, vs0, d0, ds0, p0, q0, hargs, rfl, rfl, h0, r0⟩ := trodAll_cons hA
  obtain ⟨v1, vs1, d1, ds1, p1, q1, rfl, rfl, rfl, h1, r1⟩ := trodAll_cons r0
  obtain ⟨rfl, rfl, rfl⟩ := trodAll_nil r1
  obtain rfl : args = #[v0, v1] := by cases args; simp_all
  obtain ⟨rfl, rfl⟩ := trodVars_none hV
  obtain ⟨cs0, rfl, hz0, hf0⟩ := Op.open_flds Try.underlying23 (by kernel_rfl) (by kernel_rfl) (hval 0 23 v0 rfl rfl) h0
  have k0 := h0
  have lt0 : ∀ x ∈ p0, x.block < W.heap.size := by obtain ⟨m, hm⟩ := k0; exact DataW.trod_lt m _ _ _ hm
  obtain ⟨c0_0, u0_0, n0_0, g0_0, t0_0⟩ := hf0 0 _ rfl
  obtain ⟨x0_0, e0_0, _, yx0_0⟩ := DataW.trod_int Try.underlying2 t0_0
  obtain rfl : c0_0 = .int .i64 x0_0 := by simpa using e0_0
  obtain ⟨c0_1, u0_1, n0_1, g0_1, t0_1⟩ := hf0 1 _ rfl
  obtain ⟨x0_1, e0_1, _, yx0_1⟩ := DataW.trod_int Try.underlying2 t0_1
  obtain rfl : c0_1 = .int .i64 x0_1 := by simpa using e0_1
  obtain rfl := Op.arr2 (hz0.trans rfl) g0_0 g0_1
  obtain ⟨cs1, rfl, hz1, hf1⟩ := Op.open_flds Try.underlying23 (by kernel_rfl) (by kernel_rfl) (hval 1 23 v1 rfl rfl) h1
  have k1 := h1
  have lt1 : ∀ x ∈ p1, x.block < W.heap.size := by obtain ⟨m, hm⟩ := k1; exact DataW.trod_lt m _ _ _ hm
  obtain ⟨c1_0, u1_0, n1_0, g1_0, t1_0⟩ := hf1 0 _ rfl
  obtain ⟨x1_0, e1_0, _, yx1_0⟩ := DataW.trod_int Try.underlying2 t1_0
  obtain rfl : c1_0 = .int .i64 x1_0 := by simpa using e1_0
  obtain ⟨c1_1, u1_1, n1_1, g1_1, t1_1⟩ := hf1 1 _ rfl
  obtain ⟨x1_1, e1_1, _, yx1_1⟩ := DataW.trod_int Try.underlying2 t1_1
  obtain rfl : c1_1 = .int .i64 x1_1 := by simpa using e1_1
  obtain rfl := Op.arr2 (hz1.trans rfl) g1_0 g1_1
  clear hA0 hval0 hsz0 hsz
  refine (GoFnExactBetweenRatios.walk x0_0 x0_1 yx0_0 yx0_1 x1_0 x1_1 yx1_0 yx1_1 W).mono fun e W' ⟨he, bel⟩ => ?_
  subst he
  exact ⟨_, rfl, _, _, _, [], _, [], hW', trodAll_mk1 (shut_bool Try.underlying4 _), (trodAll_cons_mk (Below.trod laidOut (by kernel_rfl) (of_decide_eq_true (by kernel_rfl)) k0 bel lt0) (trodAll_cons_mk (Below.trod laidOut (by kernel_rfl) (of_decide_eq_true (by kernel_rfl)) k1 bel lt1) trodAll_mk0)), rfl, bel.frame _, fun h => by cases h⟩
theorem over : Rows.fnExactBetweenRatiosRow.holds Try.pinned (OpenSpec.ofChange Rows.fnExactBetweenRatiosSpec) :=
  OpenClaim.holds_of_wide 10 Try.f10 rfl rfl rfl rfl rfl rfl rfl ⟨rfl, rfl, rfl, rfl, rfl⟩ rfl rfl rfl rfl rfl (by kernel_rfl) Try.func10 (by kernel_rfl)
    (of_decide_eq_true (by kernel_rfl)) (by unfold Func.isWrapper; first | (rw [if_pos (by decide +kernel)]; kernel_rfl) | (rw [if_neg (by decide +kernel)]; exact ⟨rfl, rfl⟩))
    (fun os started H enc _ => lifted os started H enc)
theorem proved : Rows.FnExactBetweenRatiosSaid := over
#print axioms proved
end Go.Proofs.Ytpkadlgnkcbcbaa.fnExactBetweenRatios
namespace Go.Proofs.Ytpkadlgnkcbcbaa
/-- The row, under a short name, for the claim. -/
theorem fnExactBetweenRatios_holds : Rows.FnExactBetweenRatiosSaid := fnExactBetweenRatios.proved
end Go.Proofs.Ytpkadlgnkcbcbaa
