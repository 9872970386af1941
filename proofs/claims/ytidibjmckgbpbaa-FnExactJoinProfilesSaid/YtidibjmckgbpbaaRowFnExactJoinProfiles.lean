/- The row of FnExactJoinProfiles: whatever the input, the law returns true and the input reads as it did. No condition. -/
import Derived.Test.YtidibjmckgbpbaaRows
import Derived.Test.YtidibjmckgbpbaaGoFnExactJoinProfiles
import Derived.WalkKit
import Derived.ProofKit
import Derived.OpenShut
import Derived.ShutString
import Derived.ChangeOld
import Derived.Below
import Derived.SizedLaws
import Derived.SliceStrings
import Derived.Deep.Slices
import Derived.Test.YtidibjmckgbpbaaOp
import Derived.Test.YtidibjmckgbpbaaV
namespace Go.Proofs.Ytidibjmckgbpbaa.fnExactJoinProfiles
open Go.ChangeShapes Go.WideShapes Go.ChangeAt Go.RowKit Go.Proofs.YtidibjmckgbpbaaW
open Go.ChangeMaps (open_string shut_string)
set_option linter.unusedVariables false
theorem own : ownKnob Try.prog.godebug = none := by kernel_rfl
theorem laidOut : laidOutB Try.prog = true := by kernel_rfl
set_option maxRecDepth 100000 in
theorem lifted (os : Os) (started : os.Started) (H : Type) (enc : TypeId × Value → H) :
    ReturnsInHanded {} Try.checked os 8 .any (Rows.fnExactJoinProfilesSpec.pre6 enc Try.prog Try.f8 Rows.fnExactJoinProfilesRow.domain false) (Rows.fnExactJoinProfilesSpec.post enc Try.prog Try.f8 false true false false) := by
  refine returnsInHanded_of_change_sized (C := Try.checked) own started (by kernel_rfl) Try.func8
    (ChangeSpec.witness6 (enc := enc) (C := Try.checked) false ⟨#[], #[.slice none 0 0, .slice none 0 0], []⟩ 8 (by kernel_rfl) (by kernel_rfl) (by kernel_rfl) (by kernel_rfl)) ?_
  intro W base args ds gs before hval0 hW hcnd hsz0 _
  have hsz : (DataW.weightsEach Try.prog (Try.f8.params.toList ++ Rows.fnExactJoinProfilesSpec.plain.varTypes Try.prog) (ds ++ gs)).all (· ≤ reachBytes) = true := hsz0
  have hval : ∀ (j : Nat) t v, Try.f8.params[j]? = some t → args[j]? = some v → Value.okWide Try.prog W .any base t v := hval0
  have hW' := hW
  obtain ⟨p, q, hA0, hV, rfl, hfz, hnd⟩ := hW
  have hA : DataW.TrodAll enc Try.prog W 0 (fun _ => true) true Try.f8.params.toList args.toList ds p := hA0
  rw [Try.params8] at hA hval hsz
  obtain ⟨v0, vs0, d0, ds0, p0, q0, hargs, rfl, rfl, h0, r0⟩ := trodAll_cons hA
  obtain ⟨v1, vs1, d1, ds1, p1, q1, rfl, rfl, rfl, h1, r1⟩ := trodAll_cons r0
  obtain ⟨rfl, rfl, rfl⟩ := trodAll_nil r1
  obtain rfl : args = #[v0, v1] := by cases args; simp_all
  obtain ⟨rfl, rfl⟩ := trodVars_none hV
  obtain ⟨a0, len0, cap0, rfl⟩ := okWide_slice Try.underlying22 (hval 0 22 v0 rfl rfl)
  have k0 := h0
  have lt0 : ∀ x ∈ p0, x.block < W.heap.size := by obtain ⟨m, hm⟩ := k0; exact DataW.trod_lt m _ _ _ hm
  obtain ⟨z0, w0⟩ : ∃ zs : List (Int × Int × Int), (a0 = none ∧ len0 = 0 ∧ cap0 = 0 ∧ zs = []) ∨ ∃ x, a0 = some x ∧ len0 ≤ cap0 ∧ cap0 ≤ maxLen ∧ zs.length = len0 ∧ ∀ i p, zs[i]? = some p → (W.cell? (x.add (i * 3 + 0)) = some (.int .i64 (p.1)) ∧ W.cell? (x.add (i * 3 + 1)) = some (.int .i64 (p.2.1)) ∧ W.cell? (x.add (i * 3 + 2)) = some (.int .i64 (p.2.2)) ∧ (Lit.int .i64 p.1).wf = true ∧ (Lit.int .i64 p.2.1).wf = true ∧ (Lit.int .i64 p.2.2).wf = true) := by
    rcases Op.open_rows Try.underlying22 Try.underlying64 (by kernel_rfl) (by kernel_rfl) h0 with ⟨rfl, rfl, rfl⟩ | ⟨x, rfl, hl, hm, hel⟩
    · exact ⟨[], .inl ⟨rfl, rfl, rfl, rfl⟩⟩
    · obtain ⟨zs, hz, hp⟩ := Op.list_of len0 (fun i (p : Int × Int × Int) => W.cell? (x.add (i * 3 + 0)) = some (.int .i64 (p.1)) ∧ W.cell? (x.add (i * 3 + 1)) = some (.int .i64 (p.2.1)) ∧ W.cell? (x.add (i * 3 + 2)) = some (.int .i64 (p.2.2)) ∧ (Lit.int .i64 p.1).wf = true ∧ (Lit.int .i64 p.2.1).wf = true ∧ (Lit.int .i64 p.2.2).wf = true) (fun i hi => by
        obtain ⟨cs, hcs, hcell, hfl⟩ := hel i hi
        obtain ⟨c0, u0, n0, g0, t0⟩ := hfl 0 _ rfl
        obtain ⟨x0, e0, _, y0⟩ := DataW.trod_int Try.underlying2 t0
        obtain rfl : c0 = .int .i64 x0 := by simpa using e0
        obtain ⟨c1, u1, n1, g1, t1⟩ := hfl 1 _ rfl
        obtain ⟨x1, e1, _, y1⟩ := DataW.trod_int Try.underlying2 t1
        obtain rfl : c1 = .int .i64 x1 := by simpa using e1
        obtain ⟨c2, u2, n2, g2, t2⟩ := hfl 2 _ rfl
        obtain ⟨x2, e2, _, y2⟩ := DataW.trod_int Try.underlying2 t2
        obtain rfl : c2 = .int .i64 x2 := by simpa using e2
        exact ⟨(x0, x1, x2), hcell 0 _ g0, hcell 1 _ g1, hcell 2 _ g2, y0, y1, y2⟩)
      exact ⟨zs, .inr ⟨x, rfl, hl, hm, hz, hp⟩⟩
  obtain ⟨a1, len1, cap1, rfl⟩ := okWide_slice Try.underlying22 (hval 1 22 v1 rfl rfl)
  have k1 := h1
  have lt1 : ∀ x ∈ p1, x.block < W.heap.size := by obtain ⟨m, hm⟩ := k1; exact DataW.trod_lt m _ _ _ hm
  obtain ⟨z1, w1⟩ : ∃ zs : List (Int × Int × Int), (a1 = none ∧ len1 = 0 ∧ cap1 = 0 ∧ zs = []) ∨ ∃ x, a1 = some x ∧ len1 ≤ cap1 ∧ cap1 ≤ maxLen ∧ zs.length = len1 ∧ ∀ i p, zs[i]? = some p → (W.cell? (x.add (i * 3 + 0)) = some (.int .i64 (p.1)) ∧ W.cell? (x.add (i * 3 + 1)) = some (.int .i64 (p.2.1)) ∧ W.cell? (x.add (i * 3 + 2)) = some (.int .i64 (p.2.2)) ∧ (Lit.int .i64 p.1).wf = true ∧ (Lit.int .i64 p.2.1).wf = true ∧ (Lit.int .i64 p.2.2).wf = true) := by
    rcases Op.open_rows Try.underlying22 Try.underlying64 (by kernel_rfl) (by kernel_rfl) h1 with ⟨rfl, rfl, rfl⟩ | ⟨x, rfl, hl, hm, hel⟩
    · exact ⟨[], .inl ⟨rfl, rfl, rfl, rfl⟩⟩
    · obtain ⟨zs, hz, hp⟩ := Op.list_of len1 (fun i (p : Int × Int × Int) => W.cell? (x.add (i * 3 + 0)) = some (.int .i64 (p.1)) ∧ W.cell? (x.add (i * 3 + 1)) = some (.int .i64 (p.2.1)) ∧ W.cell? (x.add (i * 3 + 2)) = some (.int .i64 (p.2.2)) ∧ (Lit.int .i64 p.1).wf = true ∧ (Lit.int .i64 p.2.1).wf = true ∧ (Lit.int .i64 p.2.2).wf = true) (fun i hi => by
        obtain ⟨cs, hcs, hcell, hfl⟩ := hel i hi
        obtain ⟨c0, u0, n0, g0, t0⟩ := hfl 0 _ rfl
        obtain ⟨x0, e0, _, y0⟩ := DataW.trod_int Try.underlying2 t0
        obtain rfl : c0 = .int .i64 x0 := by simpa using e0
        obtain ⟨c1, u1, n1, g1, t1⟩ := hfl 1 _ rfl
        obtain ⟨x1, e1, _, y1⟩ := DataW.trod_int Try.underlying2 t1
        obtain rfl : c1 = .int .i64 x1 := by simpa using e1
        obtain ⟨c2, u2, n2, g2, t2⟩ := hfl 2 _ rfl
        obtain ⟨x2, e2, _, y2⟩ := DataW.trod_int Try.underlying2 t2
        obtain rfl : c2 = .int .i64 x2 := by simpa using e2
        exact ⟨(x0, x1, x2), hcell 0 _ g0, hcell 1 _ g1, hcell 2 _ g2, y0, y1, y2⟩)
      exact ⟨zs, .inr ⟨x, rfl, hl, hm, hz, hp⟩⟩
  clear hA0 hval0 hsz0 hsz
  refine (GoFnExactJoinProfiles.walk W a0 len0 cap0 z0 w0 a1 len1 cap1 z1 w1).mono fun e W' ⟨he, bel⟩ => ?_
  subst he
  exact ⟨_, rfl, _, _, _, [], _, [], hW', trodAll_mk1 (shut_bool Try.underlying4 _), (trodAll_cons_mk (Below.trod laidOut (by kernel_rfl) (of_decide_eq_true (by kernel_rfl)) k0 bel lt0) (trodAll_cons_mk (Below.trod laidOut (by kernel_rfl) (of_decide_eq_true (by kernel_rfl)) k1 bel lt1) trodAll_mk0)), rfl, bel.frame _, fun h => by cases h⟩
theorem over : Rows.fnExactJoinProfilesRow.holds Try.pinned (OpenSpec.ofChange Rows.fnExactJoinProfilesSpec) :=
  OpenClaim.holds_of_wide 8 Try.f8 rfl rfl rfl rfl rfl rfl rfl ⟨rfl, rfl, rfl, rfl, rfl⟩ rfl rfl rfl rfl rfl (by kernel_rfl) Try.func8 (by kernel_rfl)
    (of_decide_eq_true (by kernel_rfl)) (by unfold Func.isWrapper; first | (rw [if_pos (by decide +kernel)]; kernel_rfl) | (rw [if_neg (by decide +kernel)]; exact ⟨rfl, rfl⟩))
    (fun os started H enc _ => lifted os started H enc)
theorem proved : Rows.FnExactJoinProfilesSaid := over
#print axioms proved
end Go.Proofs.Ytidibjmckgbpbaa.fnExactJoinProfiles
namespace Go.Proofs.Ytidibjmckgbpbaa
/-- The row, under a short name, for the claim. -/
theorem fnExactJoinProfiles_holds : Rows.FnExactJoinProfilesSaid := fnExactJoinProfiles.proved
end Go.Proofs.Ytidibjmckgbpbaa
