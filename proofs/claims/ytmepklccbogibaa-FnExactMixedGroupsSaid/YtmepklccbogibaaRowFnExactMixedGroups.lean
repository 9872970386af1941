/- The row of FnExactMixedGroups: whatever the input, the law returns true and the input reads as it did. No condition. -/
import Derived.Test.YtmepklccbogibaaRows
import Derived.Test.YtmepklccbogibaaGoFnExactMixedGroups
import Derived.WalkKit
import Derived.ProofKit
import Derived.OpenShut
import Derived.ShutString
import Derived.ChangeOld
import Derived.Below
import Derived.SizedLaws
import Derived.SliceStrings
import Derived.Deep.Slices
import Derived.Test.YtmepklccbogibaaOp
import Derived.Test.YtmepklccbogibaaV
namespace Go.Proofs.Ytmepklccbogibaa.fnExactMixedGroups
open Go.ChangeShapes Go.WideShapes Go.ChangeAt Go.RowKit Go.Proofs.YtmepklccbogibaaW
open Go.ChangeMaps (open_string shut_string)
set_option linter.unusedVariables false
theorem own : ownKnob Try.prog.godebug = none := by kernel_rfl
theorem laidOut : laidOutB Try.prog = true := by kernel_rfl
def IsRow (k : IntKind) (w : World) (a : Option Addr) (len cap : Nat) (zs : List Int) : Prop :=
  (a = none ∧ len = 0 ∧ cap = 0 ∧ zs = []) ∨
  ∃ x, a = some x ∧ len ≤ cap ∧ cap ≤ maxLen ∧ zs.length = cap ∧ (∀ i, i < zs.length → w.cell? (x.add i) = some (.int k (zs.getD i 0))) ∧ ∀ n ∈ zs, (Lit.int k n).wf = true
set_option maxRecDepth 100000 in
theorem lifted (os : Os) (started : os.Started) (H : Type) (enc : TypeId × Value → H) :
    ReturnsInHanded {} Try.checked os 6 .any (Rows.fnExactMixedGroupsSpec.pre6 enc Try.prog Try.f6 Rows.fnExactMixedGroupsRow.domain false) (Rows.fnExactMixedGroupsSpec.post enc Try.prog Try.f6 false true false false) := by
  refine returnsInHanded_of_change_sized (C := Try.checked) own started (by kernel_rfl) Try.func6
    (ChangeSpec.witness6 (enc := enc) (C := Try.checked) false ⟨#[], #[.slice none 0 0, .slice none 0 0], []⟩ 8 (by kernel_rfl) (by kernel_rfl) (by kernel_rfl) (by kernel_rfl)) ?_
  intro W base args ds gs before hval0 hW hcnd hsz0 _
  have hsz : (DataW.weightsEach Try.prog (Try.f6.params.toList ++ Rows.fnExactMixedGroupsSpec.plain.varTypes Try.prog) (ds ++ gs)).all (· ≤ reachBytes) = true := hsz0
  have hval : ∀ (j : Nat) t v, Try.f6.params[j]? = some t → args[j]? = some v → Value.okWide Try.prog W .any base t v := hval0
  have hW' := hW
  obtain ⟨p, q, hA0, hV, rfl, hfz, hnd⟩ := hW
  have hA : DataW.TrodAll enc Try.prog W 0 (fun _ => true) true Try.f6.params.toList args.toList ds p := hA0
  rw [Try.params6] at hA hval hsz
  obtain ⟨v0, vs0, d0, ds0, p0, q0, hargs, rfl, rfl, h0, r0⟩ := trodAll_cons hA
  obtain ⟨v1, vs1, d1, ds1, p1, q1, rfl, rfl, rfl, h1, r1⟩ := trodAll_cons r0
  obtain ⟨rfl, rfl, rfl⟩ := trodAll_nil r1
  obtain rfl : args = #[v0, v1] := by cases args; simp_all
  obtain ⟨rfl, rfl⟩ := trodVars_none hV
  obtain ⟨a0, len0, cap0, rfl⟩ := okWide_slice Try.underlying39 (hval 0 39 v0 rfl rfl)
  have k0 := h0
  have lt0 : ∀ x ∈ p0, x.block < W.heap.size := by obtain ⟨m, hm⟩ := k0; exact DataW.trod_lt m _ _ _ hm
  obtain ⟨z0, w0⟩ : ∃ zs : List (ByteArray × Int × Int × Int × Int × Int × Int × Int × Int), (a0 = none ∧ len0 = 0 ∧ cap0 = 0 ∧ zs = []) ∨ ∃ x, a0 = some x ∧ len0 ≤ cap0 ∧ cap0 ≤ maxLen ∧ zs.length = len0 ∧ ∀ i p, zs[i]? = some p → (W.cell? (x.add (i * 9 + 0)) = some (.string (p.1)) ∧ W.cell? (x.add (i * 9 + 1)) = some (.int .i64 (p.2.1)) ∧ W.cell? (x.add (i * 9 + 2)) = some (.int .i64 (p.2.2.1)) ∧ W.cell? (x.add (i * 9 + 3)) = some (.int .i64 (p.2.2.2.1)) ∧ W.cell? (x.add (i * 9 + 4)) = some (.int .i64 (p.2.2.2.2.1)) ∧ W.cell? (x.add (i * 9 + 5)) = some (.int .i64 (p.2.2.2.2.2.1)) ∧ W.cell? (x.add (i * 9 + 6)) = some (.int .i64 (p.2.2.2.2.2.2.1)) ∧ W.cell? (x.add (i * 9 + 7)) = some (.int .i64 (p.2.2.2.2.2.2.2.1)) ∧ W.cell? (x.add (i * 9 + 8)) = some (.int .i64 (p.2.2.2.2.2.2.2.2)) ∧ (p.1).size ≤ maxLen ∧ (Lit.int .i64 p.2.1).wf = true ∧ (Lit.int .i64 p.2.2.1).wf = true ∧ (Lit.int .i64 p.2.2.2.1).wf = true ∧ (Lit.int .i64 p.2.2.2.2.1).wf = true ∧ (Lit.int .i64 p.2.2.2.2.2.1).wf = true ∧ (Lit.int .i64 p.2.2.2.2.2.2.1).wf = true ∧ (Lit.int .i64 p.2.2.2.2.2.2.2.1).wf = true ∧ (Lit.int .i64 p.2.2.2.2.2.2.2.2).wf = true) := by
    rcases Op.open_rows Try.underlying39 Try.underlying23 (by kernel_rfl) (by kernel_rfl) h0 with ⟨rfl, rfl, rfl⟩ | ⟨x, rfl, hl, hm, hel⟩
    · exact ⟨[], .inl ⟨rfl, rfl, rfl, rfl⟩⟩
    · obtain ⟨zs, hz, hp⟩ := Op.list_of len0 (fun i (p : ByteArray × Int × Int × Int × Int × Int × Int × Int × Int) => W.cell? (x.add (i * 9 + 0)) = some (.string (p.1)) ∧ W.cell? (x.add (i * 9 + 1)) = some (.int .i64 (p.2.1)) ∧ W.cell? (x.add (i * 9 + 2)) = some (.int .i64 (p.2.2.1)) ∧ W.cell? (x.add (i * 9 + 3)) = some (.int .i64 (p.2.2.2.1)) ∧ W.cell? (x.add (i * 9 + 4)) = some (.int .i64 (p.2.2.2.2.1)) ∧ W.cell? (x.add (i * 9 + 5)) = some (.int .i64 (p.2.2.2.2.2.1)) ∧ W.cell? (x.add (i * 9 + 6)) = some (.int .i64 (p.2.2.2.2.2.2.1)) ∧ W.cell? (x.add (i * 9 + 7)) = some (.int .i64 (p.2.2.2.2.2.2.2.1)) ∧ W.cell? (x.add (i * 9 + 8)) = some (.int .i64 (p.2.2.2.2.2.2.2.2)) ∧ (p.1).size ≤ maxLen ∧ (Lit.int .i64 p.2.1).wf = true ∧ (Lit.int .i64 p.2.2.1).wf = true ∧ (Lit.int .i64 p.2.2.2.1).wf = true ∧ (Lit.int .i64 p.2.2.2.2.1).wf = true ∧ (Lit.int .i64 p.2.2.2.2.2.1).wf = true ∧ (Lit.int .i64 p.2.2.2.2.2.2.1).wf = true ∧ (Lit.int .i64 p.2.2.2.2.2.2.2.1).wf = true ∧ (Lit.int .i64 p.2.2.2.2.2.2.2.2).wf = true) (fun i hi => by
        obtain ⟨cs, hcs, hcell, hfl⟩ := hel i hi
        obtain ⟨c0, u0, n0, g0, t0⟩ := hfl 0 _ rfl
        obtain ⟨x0, e0, _, y0⟩ := DataW.trod_string Try.underlying9 t0
        obtain rfl : c0 = .string x0 := by simpa using e0
        obtain ⟨c1, u1, n1, g1, t1⟩ := hfl 1 _ rfl
        obtain ⟨x1, e1, _, y1⟩ := DataW.trod_int Try.underlying2 t1
        obtain rfl : c1 = .int .i64 x1 := by simpa using e1
        obtain ⟨c2, u2, n2, g2, t2⟩ := hfl 2 _ rfl
        obtain ⟨x2, e2, _, y2⟩ := DataW.trod_int Try.underlying2 t2
        obtain rfl : c2 = .int .i64 x2 := by simpa using e2
        obtain ⟨c3, u3, n3, g3, t3⟩ := hfl 3 _ rfl
        obtain ⟨x3, e3, _, y3⟩ := DataW.trod_int Try.underlying2 t3
        obtain rfl : c3 = .int .i64 x3 := by simpa using e3
        obtain ⟨c4, u4, n4, g4, t4⟩ := hfl 4 _ rfl
        obtain ⟨x4, e4, _, y4⟩ := DataW.trod_int Try.underlying2 t4
        obtain rfl : c4 = .int .i64 x4 := by simpa using e4
        obtain ⟨c5, u5, n5, g5, t5⟩ := hfl 5 _ rfl
        obtain ⟨x5, e5, _, y5⟩ := DataW.trod_int Try.underlying2 t5
        obtain rfl : c5 = .int .i64 x5 := by simpa using e5
        obtain ⟨c6, u6, n6, g6, t6⟩ := hfl 6 _ rfl
        obtain ⟨x6, e6, _, y6⟩ := DataW.trod_int Try.underlying2 t6
        obtain rfl : c6 = .int .i64 x6 := by simpa using e6
        obtain ⟨c7, u7, n7, g7, t7⟩ := hfl 7 _ rfl
        obtain ⟨x7, e7, _, y7⟩ := DataW.trod_int Try.underlying2 t7
        obtain rfl : c7 = .int .i64 x7 := by simpa using e7
        obtain ⟨c8, u8, n8, g8, t8⟩ := hfl 8 _ rfl
        obtain ⟨x8, e8, _, y8⟩ := DataW.trod_int Try.underlying2 t8
        obtain rfl : c8 = .int .i64 x8 := by simpa using e8
        exact ⟨(x0, x1, x2, x3, x4, x5, x6, x7, x8), hcell 0 _ g0, hcell 1 _ g1, hcell 2 _ g2, hcell 3 _ g3, hcell 4 _ g4, hcell 5 _ g5, hcell 6 _ g6, hcell 7 _ g7, hcell 8 _ g8, y0, y1, y2, y3, y4, y5, y6, y7, y8⟩)
      exact ⟨zs, .inr ⟨x, rfl, hl, hm, hz, hp⟩⟩
  have y0 : len0 * 80 ≤ 140737488351232 := Op.sized_rows hsz (j := 0) (t := 39) rfl rfl Try.underlying39 (by kernel_rfl) h0
  obtain ⟨a1, len1, cap1, rfl⟩ := okWide_slice Try.underlying40 (hval 1 40 v1 rfl rfl)
  have k1 := h1
  have lt1 : ∀ x ∈ p1, x.block < W.heap.size := by obtain ⟨m, hm⟩ := k1; exact DataW.trod_lt m _ _ _ hm
  obtain ⟨z1, w1⟩ : ∃ zs, IsRow .i64 W a1 len1 cap1 zs := by
    obtain ⟨fuel, hf⟩ := h1
    rcases open_ints Try.underlying40 Try.underlying2 (by kernel_rfl) hf with ⟨hcs, _⟩ | ⟨x, l, c, zs, hcs, _, hl, hm, hz, _, hcell, hwz⟩
    · simp [Value.cells] at hcs
      obtain ⟨rfl, rfl, rfl⟩ := hcs
      exact ⟨[], .inl ⟨rfl, rfl, rfl, rfl⟩⟩
    · simp [Value.cells] at hcs
      obtain ⟨rfl, rfl, rfl⟩ := hcs
      exact ⟨zs, .inr ⟨_, rfl, hl, hm, by simpa using hz, hcell, hwz⟩⟩
  have y1 : len1 * 8 ≤ 140737488351232 := PrintWords.sized_ints hsz (j := 1) (t := 40) rfl rfl Try.underlying40 Try.underlying2 (by kernel_rfl) (by kernel_rfl) h1
  clear hA0 hval0 hsz0 hsz
  refine (GoFnExactMixedGroups.walk W a0 len0 cap0 z0 w0 y0 a1 len1 cap1 z1 w1 y1).mono fun e W' ⟨he, bel⟩ => ?_
  subst he
  exact ⟨_, rfl, _, _, _, [], _, [], hW', trodAll_mk1 (shut_bool Try.underlying4 _), (trodAll_cons_mk (Below.trod laidOut (by kernel_rfl) (of_decide_eq_true (by kernel_rfl)) k0 bel lt0) (trodAll_cons_mk (Below.trod laidOut (by kernel_rfl) (of_decide_eq_true (by kernel_rfl)) k1 bel lt1) trodAll_mk0)), rfl, bel.frame _, fun h => by cases h⟩
theorem over : Rows.fnExactMixedGroupsRow.holds Try.pinned (OpenSpec.ofChange Rows.fnExactMixedGroupsSpec) :=
  OpenClaim.holds_of_wide 6 Try.f6 rfl rfl rfl rfl rfl rfl rfl ⟨rfl, rfl, rfl, rfl, rfl⟩ rfl rfl rfl rfl rfl (by kernel_rfl) Try.func6 (by kernel_rfl)
    (of_decide_eq_true (by kernel_rfl)) (by unfold Func.isWrapper; first | (rw [if_pos (by decide +kernel)]; kernel_rfl) | (rw [if_neg (by decide +kernel)]; exact ⟨rfl, rfl⟩))
    (fun os started H enc _ => lifted os started H enc)
theorem proved : Rows.FnExactMixedGroupsSaid := over
#print axioms proved
end Go.Proofs.Ytmepklccbogibaa.fnExactMixedGroups
namespace Go.Proofs.Ytmepklccbogibaa
/-- The row, under a short name, for the claim. -/
theorem fnExactMixedGroups_holds : Rows.FnExactMixedGroupsSaid := fnExactMixedGroups.proved
end Go.Proofs.Ytmepklccbogibaa
