/- The row of FnExactShotWindows: whatever the input, the law returns true and the input reads as it did. No condition. -/
import Derived.Test.YtmepklccbogibaaRows
import Derived.Test.YtmepklccbogibaaGoFnExactShotWindows
import Derived.WalkKit
import Derived.ProofKit
import Derived.OpenShut
import Derived.ShutString
import Derived.ChangeOld
import Derived.Below
import Derived.SizedLaws
import Derived.SliceStrings
import Derived.Deep.Slices
import Derived.Test.YtmepklccbogibaaOp
import Derived.Test.YtmepklccbogibaaWSized
namespace Go.Proofs.Ytmepklccbogibaa.fnExactShotWindows
open Go.ChangeShapes Go.WideShapes Go.ChangeAt Go.RowKit Go.Proofs.YtmepklccbogibaaW
open Go.ChangeMaps (open_string shut_string)
set_option linter.unusedVariables false
theorem own : ownKnob Try.prog.godebug = none := by kernel_rfl
theorem laidOut : laidOutB Try.prog = true := by kernel_rfl
set_option maxRecDepth 100000 in
theorem lifted (os : Os) (started : os.Started) (H : Type) (enc : TypeId × Value → H) :
    ReturnsInHanded {} Try.checked os 8 .any (Rows.fnExactShotWindowsSpec.pre6 enc Try.prog Try.f8 Rows.fnExactShotWindowsRow.domain false) (Rows.fnExactShotWindowsSpec.post enc Try.prog Try.f8 false true false false) := by
  refine returnsInHanded_of_change_sized (C := Try.checked) own started (by kernel_rfl) Try.func8
    (ChangeSpec.witness6 (enc := enc) (C := Try.checked) false ⟨#[], #[.agg #[.string ⟨#[]⟩, .int .i64 0, .int .i64 0, .int .i64 0, .int .i64 0, .int .i64 0, .int .i64 0, .int .i64 0, .int .i64 0], .int .i64 0], []⟩ 8 (by kernel_rfl) (by kernel_rfl) (by kernel_rfl) (by kernel_rfl)) ?_
  intro W base args ds gs before hval0 hW hcnd hsz0 _
  have hsz : (DataW.weightsEach Try.prog (Try.f8.params.toList ++ Rows.fnExactShotWindowsSpec.plain.varTypes Try.prog) (ds ++ gs)).all (· ≤ reachBytes) = true := hsz0
  have hval : ∀ (j : Nat) t v, Try.f8.params[j]? = some t → args[j]? = some v → Value.okWide Try.prog W .any base t v := hval0
  have hW' := hW
  obtain ⟨p, q, hA0, hV, rfl, hfz, hnd⟩ := hW
  have hA : DataW.TrodAll enc Try.prog W 0 (fun _ => true) true Try.f8.params.toList args.toList ds p := hA0
  rw [Try.params8] at hA hval hsz
  obtain ⟨v0, vs0, d0, ds0, p0, q0, hargs, rfl, rfl, h0, r0⟩ := trodAll_cons hA
  obtain ⟨v1, vs1, d1, ds1, p1, q1, rfl, rfl, rfl, h1, r1⟩ := trodAll_cons r0
  obtain ⟨rfl, rfl, rfl⟩ := trodAll_nil r1
  obtain rfl : args = #[v0, v1] := by cases args; simp_all
  obtain ⟨rfl, rfl⟩ := trodVars_none hV
  obtain ⟨cs0, rfl, hz0, hf0⟩ := Op.open_flds Try.underlying23 (by kernel_rfl) (by kernel_rfl) (hval 0 23 v0 rfl rfl) h0
  have k0 := h0
  have lt0 : ∀ x ∈ p0, x.block < W.heap.size := by obtain ⟨m, hm⟩ := k0; exact DataW.trod_lt m _ _ _ hm
  obtain ⟨c0_0, u0_0, n0_0, g0_0, t0_0⟩ := hf0 0 _ rfl
  obtain ⟨x0_0, e0_0, _, yx0_0⟩ := DataW.trod_string Try.underlying9 t0_0
  obtain rfl : c0_0 = .string x0_0 := by simpa using e0_0
  obtain ⟨c0_1, u0_1, n0_1, g0_1, t0_1⟩ := hf0 1 _ rfl
  obtain ⟨x0_1, e0_1, _, yx0_1⟩ := DataW.trod_int Try.underlying2 t0_1
  obtain rfl : c0_1 = .int .i64 x0_1 := by simpa using e0_1
  obtain ⟨c0_2, u0_2, n0_2, g0_2, t0_2⟩ := hf0 2 _ rfl
  obtain ⟨x0_2, e0_2, _, yx0_2⟩ := DataW.trod_int Try.underlying2 t0_2
  obtain rfl : c0_2 = .int .i64 x0_2 := by simpa using e0_2
  obtain ⟨c0_3, u0_3, n0_3, g0_3, t0_3⟩ := hf0 3 _ rfl
  obtain ⟨x0_3, e0_3, _, yx0_3⟩ := DataW.trod_int Try.underlying2 t0_3
  obtain rfl : c0_3 = .int .i64 x0_3 := by simpa using e0_3
  obtain ⟨c0_4, u0_4, n0_4, g0_4, t0_4⟩ := hf0 4 _ rfl
  obtain ⟨x0_4, e0_4, _, yx0_4⟩ := DataW.trod_int Try.underlying2 t0_4
  obtain rfl : c0_4 = .int .i64 x0_4 := by simpa using e0_4
  obtain ⟨c0_5, u0_5, n0_5, g0_5, t0_5⟩ := hf0 5 _ rfl
  obtain ⟨x0_5, e0_5, _, yx0_5⟩ := DataW.trod_int Try.underlying2 t0_5
  obtain rfl : c0_5 = .int .i64 x0_5 := by simpa using e0_5
  obtain ⟨c0_6, u0_6, n0_6, g0_6, t0_6⟩ := hf0 6 _ rfl
  obtain ⟨x0_6, e0_6, _, yx0_6⟩ := DataW.trod_int Try.underlying2 t0_6
  obtain rfl : c0_6 = .int .i64 x0_6 := by simpa using e0_6
  obtain ⟨c0_7, u0_7, n0_7, g0_7, t0_7⟩ := hf0 7 _ rfl
  obtain ⟨x0_7, e0_7, _, yx0_7⟩ := DataW.trod_int Try.underlying2 t0_7
  obtain rfl : c0_7 = .int .i64 x0_7 := by simpa using e0_7
  obtain ⟨c0_8, u0_8, n0_8, g0_8, t0_8⟩ := hf0 8 _ rfl
  obtain ⟨x0_8, e0_8, _, yx0_8⟩ := DataW.trod_int Try.underlying2 t0_8
  obtain rfl : c0_8 = .int .i64 x0_8 := by simpa using e0_8
  obtain rfl := Op.arr9 (hz0.trans rfl) g0_0 g0_1 g0_2 g0_3 g0_4 g0_5 g0_6 g0_7 g0_8
  obtain ⟨a1, rfl, rfl, rfl, y1⟩ := open_int Try.underlying2 (hval 1 2 v1 rfl rfl) h1
  clear hA0 hval0 hsz0 hsz
  refine (GoFnExactShotWindows.walk x0_0 x0_1 x0_2 x0_3 x0_4 x0_5 x0_6 x0_7 x0_8 yx0_0 yx0_1 yx0_2 yx0_3 yx0_4 yx0_5 yx0_6 yx0_7 yx0_8 a1 y1 W).mono fun e W' ⟨he, bel⟩ => ?_
  subst he
  exact ⟨_, rfl, _, _, _, [], _, [], hW', trodAll_mk1 (shut_bool Try.underlying4 _), (trodAll_cons_mk (Below.trod laidOut (by kernel_rfl) (of_decide_eq_true (by kernel_rfl)) k0 bel lt0) (trodAll_cons_mk (shut_int Try.underlying2 y1) trodAll_mk0)), rfl, bel.frame _, fun h => by cases h⟩
theorem over : Rows.fnExactShotWindowsRow.holds Try.pinned (OpenSpec.ofChange Rows.fnExactShotWindowsSpec) :=
  OpenClaim.holds_of_wide 8 Try.f8 rfl rfl rfl rfl rfl rfl rfl ⟨rfl, rfl, rfl, rfl, rfl⟩ rfl rfl rfl rfl rfl (by kernel_rfl) Try.func8 (by kernel_rfl)
    (of_decide_eq_true (by kernel_rfl)) (by unfold Func.isWrapper; first | (rw [if_pos (by decide +kernel)]; kernel_rfl) | (rw [if_neg (by decide +kernel)]; exact ⟨rfl, rfl⟩))
    (fun os started H enc _ => lifted os started H enc)
theorem proved : Rows.FnExactShotWindowsSaid := over
#print axioms proved
end Go.Proofs.Ytmepklccbogibaa.fnExactShotWindows
namespace Go.Proofs.Ytmepklccbogibaa
/-- The row, under a short name, for the claim. -/
theorem fnExactShotWindows_holds : Rows.FnExactShotWindowsSaid := fnExactShotWindows.proved
end Go.Proofs.Ytmepklccbogibaa
