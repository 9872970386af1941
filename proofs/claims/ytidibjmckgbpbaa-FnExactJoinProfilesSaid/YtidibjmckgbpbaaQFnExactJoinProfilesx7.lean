-- Written by a program of this project's session, after the kit's print (a turned copy of its programs). Lean checks it.
import Derived.Test.YtidibjmckgbpbaaQFnExactJoinProfilesx0
import Derived.Test.YtidibjmckgbpbaaQFnExactJoinProfilesx6
namespace Go.Proofs.Ytidibjmckgbpbaa.QFnExactJoinProfiles
open Go.RowKit Go.Proofs.YtidibjmckgbpbaaW.PrintWords Go.Proofs.YtidibjmckgbpbaaW.PrintLast Go.Proofs.YtidibjmckgbpbaaW.PrintMore
attribute [local go_sem] max2_int min2_int max_two min_two max_three min_three max_four min_four   -- for this text's walks alone
set_option linter.unusedVariables false
set_option linter.unusedSimpArgs false

/-! ### impl_JoinProfiles: function 28 -/
mutual
def impl_JoinProfiles.j0 : Nat → List (S55) → List (S55) → Bool → Option ((List (S55)) × Int)
 | 0, _, _, _ => none
 | k + 1, x0, x1, x18 => if x18 = true then (some (([] : List (S55)), 1)) else (if 0 ≤ (wrap64 ((x0.length : Int) - 1)) then (if (wrap64 ((x0.length : Int) - 1)) < (x0.length : Int) then (if 0 ≤ (wrap64 ((x1.length : Int) - 1)) then (if (wrap64 ((x1.length : Int) - 1)) < (x1.length : Int) then (impl_JoinProfiles.l0 k x0 x1 (mn ((rd_T55 x0 (wrap64 ((x0.length : Int) - 1))).f0) ((rd_T55 x1 (wrap64 ((x1.length : Int) - 1))).f0)) ([] : List (S55)) 0 0) else (none)) else (none)) else (none)) else (none))
def impl_JoinProfiles.l0 : Nat → List (S55) → List (S55) → Int → List (S55) → Int → Int → Option ((List (S55)) × Int)
 | 0, _, _, _, _, _, _ => none
 | k + 1, x0, x1, x6, x7, x8, x9 => if x8 < (x0.length : Int) then (impl_JoinProfiles.j2 k x0 x1 x6 x7 x8 x9 (decide (x9 < (x1.length : Int)))) else (impl_JoinProfiles.j2 k x0 x1 x6 x7 x8 x9 false)
def impl_JoinProfiles.j2 : Nat → List (S55) → List (S55) → Int → List (S55) → Int → Int → Bool → Option ((List (S55)) × Int)
 | 0, _, _, _, _, _, _, _ => none
 | k + 1, x0, x1, x6, x7, x8, x9, x43 => if x43 = true then (if 0 ≤ x8 then (if x8 < (x0.length : Int) then (if 0 ≤ x9 then (if x9 < (x1.length : Int) then (if (mn ((rd_T55 x0 x8).f0) ((rd_T55 x1 x9).f0)) > x6 then (if (x7.length : Int) > 6 then (some (([] : List (S55)), 3)) else (some (x7, 0))) else (if x7.length < 5864062014805 then ((some (x7 ++ [(⟨mn ((rd_T55 x0 x8).f0) ((rd_T55 x1 x9).f0), mn ((rd_T55 x0 x8).f1) ((rd_T55 x1 x9).f1), mx ((rd_T55 x0 x8).f2) ((rd_T55 x1 x9).f2)⟩ : S55)] : List (S55))).bind fun y206 => (if ((rd_T55 x0 x8).f0) = (mn ((rd_T55 x0 x8).f0) ((rd_T55 x1 x9).f0)) then (if ((rd_T55 x1 x9).f0) = (mn ((rd_T55 x0 x8).f0) ((rd_T55 x1 x9).f0)) then (impl_JoinProfiles.l0 k x0 x1 x6 y206 (wrap64 (x8 + 1)) (wrap64 (x9 + 1))) else (impl_JoinProfiles.l0 k x0 x1 x6 y206 (wrap64 (x8 + 1)) x9)) else (if ((rd_T55 x1 x9).f0) = (mn ((rd_T55 x0 x8).f0) ((rd_T55 x1 x9).f0)) then (impl_JoinProfiles.l0 k x0 x1 x6 y206 x8 (wrap64 (x9 + 1))) else (impl_JoinProfiles.l0 k x0 x1 x6 y206 x8 x9)))) else (none))) else (none)) else (none)) else (none)) else (none)) else (if (x7.length : Int) > 6 then (some (([] : List (S55)), 3)) else (some (x7, 0)))
end
def impl_JoinProfiles.f (k : Nat) (l0 : List (S55)) (l1 : List (S55)) : Option ((List (S55)) × Int) := (impl_IsProfile.f k l0).bind fun t196 => (if t196 = true then ((impl_IsProfile.f k l1).bind fun t197 => (impl_JoinProfiles.j0 k l0 l1 (!t197))) else (impl_JoinProfiles.j0 k l0 l1 true))
theorem impl_JoinProfiles.mono_l : ∀ k, (∀ y0 y1 y2, LeO (impl_JoinProfiles.j0 k y0 y1 y2) (impl_JoinProfiles.j0 (k + 1) y0 y1 y2)) ∧ (∀ y0 y1 y2 y3 y4 y5, LeO (impl_JoinProfiles.l0 k y0 y1 y2 y3 y4 y5) (impl_JoinProfiles.l0 (k + 1) y0 y1 y2 y3 y4 y5)) ∧ (∀ y0 y1 y2 y3 y4 y5 y6, LeO (impl_JoinProfiles.j2 k y0 y1 y2 y3 y4 y5 y6) (impl_JoinProfiles.j2 (k + 1) y0 y1 y2 y3 y4 y5 y6))
 | 0 => ⟨fun _ _ _ r h => by simp [impl_JoinProfiles.j0] at h, fun _ _ _ _ _ _ r h => by simp [impl_JoinProfiles.l0] at h, fun _ _ _ _ _ _ _ r h => by simp [impl_JoinProfiles.j2] at h⟩
 | k + 1 => by
  obtain ⟨ih0, ih1, ih2⟩ := impl_JoinProfiles.mono_l k
  refine ⟨?_, ?_, ?_⟩
  ·
   intro y0 y1 y2
   unfold impl_JoinProfiles.j0
   repeat' first
   | (with_reducible exact ih0 _ _ _)
   | (with_reducible exact ih1 _ _ _ _ _ _)
   | (with_reducible exact ih2 _ _ _ _ _ _ _)
   | (with_reducible exact impl_IsProfile.mono _ _)
   | (with_reducible exact LeO.refl _)
   | (with_reducible exact LeO.none _)
   | (with_reducible refine LeO.ite ?_ ?_)
   | (with_reducible refine LeO.bind ?_ (fun _ => ?_))
   | exact ih0 _ _ _
   | exact ih1 _ _ _ _ _ _
   | exact ih2 _ _ _ _ _ _ _
   | exact impl_IsProfile.mono _ _
   | exact LeO.none _
   | refine LeO.ite ?_ ?_
   | refine LeO.bind ?_ (fun _ => ?_)
  ·
   intro y0 y1 y2 y3 y4 y5
   unfold impl_JoinProfiles.l0
   repeat' first
   | (with_reducible exact ih0 _ _ _)
   | (with_reducible exact ih1 _ _ _ _ _ _)
   | (with_reducible exact ih2 _ _ _ _ _ _ _)
   | (with_reducible exact impl_IsProfile.mono _ _)
   | (with_reducible exact LeO.refl _)
   | (with_reducible exact LeO.none _)
   | (with_reducible refine LeO.ite ?_ ?_)
   | (with_reducible refine LeO.bind ?_ (fun _ => ?_))
   | exact ih0 _ _ _
   | exact ih1 _ _ _ _ _ _
   | exact ih2 _ _ _ _ _ _ _
   | exact impl_IsProfile.mono _ _
   | exact LeO.none _
   | refine LeO.ite ?_ ?_
   | refine LeO.bind ?_ (fun _ => ?_)
  ·
   intro y0 y1 y2 y3 y4 y5 y6
   unfold impl_JoinProfiles.j2
   repeat' first
   | (with_reducible exact ih0 _ _ _)
   | (with_reducible exact ih1 _ _ _ _ _ _)
   | (with_reducible exact ih2 _ _ _ _ _ _ _)
   | (with_reducible exact impl_IsProfile.mono _ _)
   | (with_reducible exact LeO.refl _)
   | (with_reducible exact LeO.none _)
   | (with_reducible refine LeO.ite ?_ ?_)
   | (with_reducible refine LeO.bind ?_ (fun _ => ?_))
   | exact ih0 _ _ _
   | exact ih1 _ _ _ _ _ _
   | exact ih2 _ _ _ _ _ _ _
   | exact impl_IsProfile.mono _ _
   | exact LeO.none _
   | refine LeO.ite ?_ ?_
   | refine LeO.bind ?_ (fun _ => ?_)
theorem impl_JoinProfiles.mono : ∀ a0 a1 k, LeO (impl_JoinProfiles.f k a0 a1) (impl_JoinProfiles.f (k + 1) a0 a1) := by
 intro a0 a1 k
 obtain ⟨ih0, ih1, ih2⟩ := impl_JoinProfiles.mono_l k
 unfold impl_JoinProfiles.f
 repeat' first
   | (with_reducible exact ih0 _ _ _)
   | (with_reducible exact ih1 _ _ _ _ _ _)
   | (with_reducible exact ih2 _ _ _ _ _ _ _)
   | (with_reducible exact impl_IsProfile.mono _ _)
   | (with_reducible exact LeO.refl _)
   | (with_reducible exact LeO.none _)
   | (with_reducible refine LeO.ite ?_ ?_)
   | (with_reducible refine LeO.bind ?_ (fun _ => ?_))
   | exact ih0 _ _ _
   | exact ih1 _ _ _ _ _ _
   | exact ih2 _ _ _ _ _ _ _
   | exact impl_IsProfile.mono _ _
   | exact LeO.none _
   | refine LeO.ite ?_ ?_
   | refine LeO.bind ?_ (fun _ => ?_)
def impl_JoinProfiles.T3 : Bool × List (List Nat × List Nat) := (true, [([], []), ([], []), ([1], [1]), ([2], [2]), ([0, 3], [0, 3]), ([4], [4]), ([5], [5]), ([], []), ([], []), ([8], [8]), ([9], [9]), ([7, 10], [7, 10]), ([11], [11]), ([12], [12]), ([6, 13], [6, 13]), ([14, 0, 1, 2, 3, 4, 5, 6, 7, 8, 9, 10, 11, 12, 13, 14], [14])])
def impl_JoinProfiles.B3 : List Nat := [0, 0, 2, 6, 15, 31, 63, 0, 0, 256, 768, 1920, 3968, 8064, 16383, 32767]
theorem impl_JoinProfiles.tab3 : rtab .any (opsOf Try.f28 3) = impl_JoinProfiles.T3 := by kernel_rfl
theorem impl_JoinProfiles.bits3 : waitsOk impl_JoinProfiles.T3.2 impl_JoinProfiles.B3 = true := by kernel_rfl
def impl_JoinProfiles.T7 : Bool × List (List Nat × List Nat) := (true, [([], []), ([], []), ([0, 1], [0, 1]), ([2], [2]), ([3], [3]), ([], []), ([], []), ([5, 6], [5, 6]), ([7], [7]), ([8], [8]), ([4, 9], [4, 9]), ([10, 0, 1, 2, 3, 4, 5, 6, 7, 8, 9, 10], [10])])
def impl_JoinProfiles.B7 : List Nat := [0, 0, 3, 7, 15, 0, 0, 96, 224, 480, 1023, 2047]
theorem impl_JoinProfiles.tab7 : rtab .any (opsOf Try.f28 7) = impl_JoinProfiles.T7 := by kernel_rfl
theorem impl_JoinProfiles.bits7 : waitsOk impl_JoinProfiles.T7.2 impl_JoinProfiles.B7 = true := by kernel_rfl
def impl_JoinProfiles.T9 : Bool × List (List Nat × List Nat) := (true, [([], []), ([], []), ([], []), ([], []), ([2, 3], [2, 3]), ([4], [4]), ([5], [5]), ([], []), ([], []), ([7, 8], [7, 8]), ([9], [9]), ([10], [10]), ([6, 11], [6, 11]), ([], []), ([], []), ([13, 14], [13, 14]), ([15], [15]), ([16], [16]), ([], []), ([], []), ([18, 19], [18, 19]), ([20], [20]), ([21], [21]), ([17, 22], [17, 22]), ([1, 12, 23], [1, 12, 23]), ([24], [24]), ([0, 25], [0, 25]), ([26, 26, 0, 1, 2, 3, 4, 5, 6, 7, 8, 9, 10, 11, 12, 13, 14, 15, 16, 17, 18, 19, 20, 21, 22, 23, 24, 25, 26], [0, 26])])
def impl_JoinProfiles.B9 : List Nat := [0, 0, 0, 0, 12, 28, 60, 0, 0, 384, 896, 1920, 4092, 0, 0, 24576, 57344, 122880, 0, 0, 786432, 1835008, 3932160, 8380416, 16777214, 33554430, 67108863, 134217727]
theorem impl_JoinProfiles.tab9 : rtab .any (opsOf Try.f28 9) = impl_JoinProfiles.T9 := by kernel_rfl
theorem impl_JoinProfiles.bits9 : waitsOk impl_JoinProfiles.T9.2 impl_JoinProfiles.B9 = true := by kernel_rfl
set_option maxHeartbeats 40000000 in
set_option maxRecDepth 100000 in
theorem impl_JoinProfiles.calls (k : Nat) (A0 : Option Addr) (c0 : Nat) (l0 : List (S55)) (A1 : Option Addr) (c1 : Nat) (l1 : List (S55)) (r1 : List (S55)) (r2 : Int) (w : World) (hr0 : Kd.C k55 w A0 l0.length l0) (hc0 : l0.length ≤ c0) (hr1 : Kd.C k55 w A1 l1.length l1) (hc1 : l1.length ≤ c1) (h : impl_JoinProfiles.f k l0 l1 = some (r1, r2)) :
  Calls Try.prog 28 #[.slice A0 l0.length c0, .slice A1 l1.length c1] w fun e w' => ∃ v0_ : Value, e = .returned (.tuple #[v0_, .int .i64 r2]) ∧ Kd.R k55 55 w' w.heap.size (fun _ => True) v0_ r1 ∧ Below w.heap.size w w' := by
 have hu55 := Try.underlying55
 have HR0 := Aside0.mk hr0
 have HC0 := Aside0.mk hc0
 clear hr0 hc0
 have HR1 := Aside0.mk hr1
 have HC1 := Aside0.mk hc1
 clear hr1 hc1
 have HB := Aside0.mk (Below.refl w.heap.size w)
 have H : ((impl_IsProfile.f k l0).bind fun t196 => (if t196 = true then ((impl_IsProfile.f k l1).bind fun t197 => (impl_JoinProfiles.j0 k l0 l1 (!t197))) else (impl_JoinProfiles.j0 k l0 l1 true))) = some (r1, r2) := h
 clear h
 have HC3 := Aside0.mk H
 clear H
 go_enter Try.func28, Try.ntmps28
 go_upto_region 1 with (fail)
 go_cut [18] (fun v18 wc => ∃ (kq : Nat) (x18_2 : Bool), v18 = .bool x18_2 ∧ Aside0 (impl_JoinProfiles.j0 kq l0 l1 x18_2 = some (r1, r2)) ∧ Aside0 (kq ≤ k) ∧ Aside0 (Below w.heap.size w wc))
 case first =>
  have H := HC3.out
  clear HC3
  replace H := Option.bind_eq_some_iff.mp H
  obtain ⟨t196, A40, H⟩ := H
  replace H : (if t196 = true then ((impl_IsProfile.f k l1).bind fun t197 => (impl_JoinProfiles.j0 k l0 l1 (!t197))) else (impl_JoinProfiles.j0 k l0 l1 true)) = some (r1, r2) := H
  have A4 := Aside0.mk A40
  clear A40
  by_cases c5 : t196 = true
  ·
   subst c5
   have H1 : ((impl_IsProfile.f k l1).bind fun t197 => (impl_JoinProfiles.j0 k l0 l1 (!t197))) = some (r1, r2) := by rw [if_pos rfl] at H; exact H
   clear H
   have H := H1
   clear H1
   replace H := Option.bind_eq_some_iff.mp H
   obtain ⟨t197, A60, H⟩ := H
   replace H : (impl_JoinProfiles.j0 k l0 l1 (!t197)) = some (r1, r2) := H
   have A6 := Aside0.mk A60
   clear A60
   have H' := Aside0.mk H
   clear H
   go_wp2_with (first | ((with_reducible refine gate_callee (f := 17) rfl ?_); refine goesL_ (some 12) rfl rfl Try.func17 (by kernel_rfl) rfl #[.slice A0 l0.length c0] rfl (by (try simp only [List.map_toArray, List.map_cons, List.map_nil]); first | done | rfl | (go_simp; done) | simp) ?_; (with_reducible refine (impl_IsProfile.calls k _ _ l0 true _ ?side1 ?side2 A4.out).mono ?_); (case side1 => repeat (first | exact (Kd.C_below HR0.out HB.out) | (with_reducible first | apply cA | apply cN | apply cD))); (case side2 => exact HC0.out); rintro e w7 ⟨rfl, hb⟩; refine ⟨_, rfl, ?_⟩; have n0_ := Aside0.mk (below_step (by repeat (first | (with_reducible first | exact HB.out | apply lA | apply lN | apply lD) | exact HB.out)) hb); clear HB; have HB := n0_; clear n0_; (try clear hb); (try clear hb2); (try clear hk); (try clear hi)) | (go_at_call 17; (with_reducible refine (impl_IsProfile.calls k _ _ l1 t197 _ ?side1 ?side2 A6.out).mono ?_); (case side1 => repeat (first | exact (Kd.C_below HR1.out HB.out) | (with_reducible first | apply cA | apply cN | apply cD))); (case side2 => exact HC1.out); rintro e w8 ⟨rfl, hb⟩; have n0_ := Aside0.mk (below_step (by repeat (first | (with_reducible first | exact HB.out | apply lA | apply lN | apply lD) | exact HB.out)) hb); clear HB; have HB := n0_; clear n0_; (try clear hb); (try clear hb2); (try clear hk); (try clear hi)))
   go_meet
   case rel => exact ⟨_, (!t197), (by first | rfl | (simp; done) | (simp [*]; done)), H', ⟨by first | omega | exact Nat.le_refl _⟩, ⟨by repeat (first | (with_reducible first | exact HB.out | apply lA | apply lN | apply lD) | exact HB.out)⟩⟩
  ·
   replace c5 := Bool.eq_false_iff.mpr c5
   subst c5
   have H1 : (impl_JoinProfiles.j0 k l0 l1 true) = some (r1, r2) := by rw [if_neg (show ¬ (false = true) by decide)] at H; exact H
   clear H
   have H := H1
   clear H1
   have H' := Aside0.mk H
   clear H
   go_wp2_with (first | ((with_reducible refine gate_callee (f := 17) rfl ?_); refine goesL_ (some 12) rfl rfl Try.func17 (by kernel_rfl) rfl #[.slice A0 l0.length c0] rfl (by (try simp only [List.map_toArray, List.map_cons, List.map_nil]); first | done | rfl | (go_simp; done) | simp) ?_; (with_reducible refine (impl_IsProfile.calls k _ _ l0 false _ ?side1 ?side2 A4.out).mono ?_); (case side1 => repeat (first | exact (Kd.C_below HR0.out HB.out) | (with_reducible first | apply cA | apply cN | apply cD))); (case side2 => exact HC0.out); rintro e w9 ⟨rfl, hb⟩; refine ⟨_, rfl, ?_⟩; have n0_ := Aside0.mk (below_step (by repeat (first | (with_reducible first | exact HB.out | apply lA | apply lN | apply lD) | exact HB.out)) hb); clear HB; have HB := n0_; clear n0_; (try clear hb); (try clear hb2); (try clear hk); (try clear hi)))
   go_meet
   case rel => exact ⟨_, (true), (by first | rfl | (simp; done) | (simp [*]; done)), H', ⟨by first | omega | exact Nat.le_refl _⟩, ⟨by repeat (first | (with_reducible first | exact HB.out | apply lA | apply lN | apply lD) | exact HB.out)⟩⟩
 case rest =>
  clear HC3
  try clear c1
  try clear c2
  try clear p2
  try clear c5
  obtain ⟨kq, x18_2, rfl, HA, HJ2, HB⟩ := hcut
  cases kq with
  | zero => exact absurd HA.out (by simp [impl_JoinProfiles.j0])
  | succ kj2 =>
   have H := HA.out
   clear HA
   simp only [impl_JoinProfiles.j0] at H
   by_cases c10 : x18_2 = true
   ·
    subst c10
    have H1 : (some (([] : List (S55)), 1)) = some (r1, r2) := by rw [if_pos rfl] at H; exact H
    clear H
    have H := H1
    clear H1
    simp only [Option.some.injEq, Prod.mk.injEq] at H
    obtain ⟨rfl, rfl⟩ := H
    go_wp2
    go_ret2
    exact ⟨_, by first | rfl | (simp [errW_none, errW_some] <;> rfl) | (simp [*, errW_none, errW_some] <;> rfl), by first | exact Kd.R_nil _ _ _ _ _ | exact Kd.N_nil _ _ _ _ _ | exact Kd.V_nil _ _ _ _ _ | exact Kd.Q_nil _ _ _ _ _ | exact Kd.S_nil _ _ _ _ _, by repeat (first | (with_reducible first | exact HB.out | apply lA | apply lN | apply lD) | exact HB.out)⟩
   ·
    replace c10 := Bool.eq_false_iff.mpr c10
    subst c10
    have H1 : (if 0 ≤ (wrap64 ((l0.length : Int) - 1)) then (if (wrap64 ((l0.length : Int) - 1)) < (l0.length : Int) then (if 0 ≤ (wrap64 ((l1.length : Int) - 1)) then (if (wrap64 ((l1.length : Int) - 1)) < (l1.length : Int) then (impl_JoinProfiles.l0 kj2 l0 l1 (mn ((rd_T55 l0 (wrap64 ((l0.length : Int) - 1))).f0) ((rd_T55 l1 (wrap64 ((l1.length : Int) - 1))).f0)) ([] : List (S55)) 0 0) else (none)) else (none)) else (none)) else (none)) = some (r1, r2) := by rw [if_neg (show ¬ (false = true) by decide)] at H; exact H
    clear H
    have H := H1
    clear H1
    obtain ⟨ji11, hji11⟩ : ∃ j_ : Int, (wrap64 ((l0.length : Int) - 1)) = j_ := ⟨_, rfl⟩
    replace H : (if 0 ≤ (ji11) then (if (ji11) < (l0.length : Int) then (if 0 ≤ (wrap64 ((l1.length : Int) - 1)) then (if (wrap64 ((l1.length : Int) - 1)) < (l1.length : Int) then (impl_JoinProfiles.l0 kj2 l0 l1 (mn ((rd_T55 l0 (ji11)).f0) ((rd_T55 l1 (wrap64 ((l1.length : Int) - 1))).f0)) ([] : List (S55)) 0 0) else (none)) else (none)) else (none)) else (none)) = some (r1, r2) := by first | (rw [hji11] at H; exact H) | (simp only [hji11] at H ⊢; exact H)
    have hji11w : (IntKind.i64.wrap ((l0.length : Int) - 1)) = ji11 := (i64_w _).trans hji11
    by_cases c12 : 0 ≤ (ji11)
    ·
     rw [if_pos c12] at H
     have c12b0 : decide (0 ≤ (ji11)) = true := decide_eq_true c12
     clear c12
     by_cases c13 : (ji11) < (l0.length : Int)
     ·
      rw [if_pos c13] at H
      have c13b0 : decide ((ji11) < (l0.length : Int)) = true := decide_eq_true c13
      clear c13
      obtain ⟨ji14, hji14⟩ : ∃ j_ : Int, (wrap64 ((l1.length : Int) - 1)) = j_ := ⟨_, rfl⟩
      replace H : (if 0 ≤ (ji14) then (if (ji14) < (l1.length : Int) then (impl_JoinProfiles.l0 kj2 l0 l1 (mn ((rd_T55 l0 (ji11)).f0) ((rd_T55 l1 (ji14)).f0)) ([] : List (S55)) 0 0) else (none)) else (none)) = some (r1, r2) := by first | (rw [hji14] at H; exact H) | (simp only [hji14] at H ⊢; exact H)
      have hji14w : (IntKind.i64.wrap ((l1.length : Int) - 1)) = ji14 := (i64_w _).trans hji14
      by_cases c15 : 0 ≤ (ji14)
      ·
       rw [if_pos c15] at H
       have c15b0 : decide (0 ≤ (ji14)) = true := decide_eq_true c15
       clear c15
       by_cases c16 : (ji14) < (l1.length : Int)
       ·
        rw [if_pos c16] at H
        have c16b0 : decide ((ji14) < (l1.length : Int)) = true := decide_eq_true c16
        clear c16
        obtain ⟨ji17, hji17⟩ : ∃ j_ : Int, (mn ((rd_T55 l0 (ji11)).f0) ((rd_T55 l1 (ji14)).f0)) = j_ := ⟨_, rfl⟩
        replace H : (impl_JoinProfiles.l0 kj2 l0 l1 ji17 ([] : List (S55)) 0 0) = some (r1, r2) := by first | (rw [hji17] at H; exact H) | (simp only [hji17] at H ⊢; exact H)
        have hji17_ : (if ((rd_T55 l1 (ji14)).f0) < ((rd_T55 l0 (ji11)).f0) then ((rd_T55 l1 (ji14)).f0) else ((rd_T55 l0 (ji11)).f0)) = ji17 := hji17
        have H' := Aside0.mk H
        clear H
        try go_wp2
        have n0_ := Aside0.mk (below_drew1 HB.out)
        clear HB
        have HB := n0_
        clear n0_
        have p198 : 0 ≤ ((ji11) : Int) := of_decide_eq_true (by with_reducible assumption)
        have q198 : (ji11) < (l0.length : Int) := of_decide_eq_true (by with_reducible assumption)
        obtain ⟨ad198, e198, hx198_0, hx198_1, hx198_2⟩ := at_T55 HR0.out (ji11) p198 q198
        have hw198_2 := hx198_2
        have hw198_1 := hx198_1
        have hw198_0 := hx198_0
        cases e198
        replace hx198_0 := cB HB.out hx198_0
        replace hx198_1 := cB HB.out hx198_1
        replace hx198_2 := cB HB.out hx198_2
        replace p198 := eq_true p198
        replace q198 := eq_true q198
        have p199 : 0 ≤ ((ji14) : Int) := of_decide_eq_true (by with_reducible assumption)
        have q199 : (ji14) < (l1.length : Int) := of_decide_eq_true (by with_reducible assumption)
        obtain ⟨ad199, e199, hx199_0, hx199_1, hx199_2⟩ := at_T55 HR1.out (ji14) p199 q199
        have hw199_2 := hx199_2
        have hw199_1 := hx199_1
        have hw199_0 := hx199_0
        cases e199
        replace hx199_0 := cB HB.out hx199_0
        replace hx199_1 := cB HB.out hx199_1
        replace hx199_2 := cB HB.out hx199_2
        replace p199 := eq_true p199
        replace q199 := eq_true q199
        refine start_ (n := 16) (S := fun w' => w'.cell? (ad198.add (((ji11)).toNat * 3)) = some (.int .i64 ((rd_T55 l0 (ji11)).f0)) ∧ w'.cell? ⟨(ad198.add (((ji11)).toNat * 3)).block, (ad198.add (((ji11)).toNat * 3)).off + 1, none⟩ = some (.int .i64 ((rd_T55 l0 (ji11)).f1)) ∧ w'.cell? ⟨(ad198.add (((ji11)).toNat * 3)).block, (ad198.add (((ji11)).toNat * 3)).off + 2, none⟩ = some (.int .i64 ((rd_T55 l0 (ji11)).f2)) ∧ w'.cell? (ad199.add (((ji14)).toNat * 3)) = some (.int .i64 ((rd_T55 l1 (ji14)).f0)) ∧ w'.cell? ⟨(ad199.add (((ji14)).toNat * 3)).block, (ad199.add (((ji14)).toNat * 3)).off + 1, none⟩ = some (.int .i64 ((rd_T55 l1 (ji14)).f1)) ∧ w'.cell? ⟨(ad199.add (((ji14)).toNat * 3)).block, (ad199.add (((ji14)).toNat * 3)).off + 2, none⟩ = some (.int .i64 ((rd_T55 l1 (ji14)).f2))) (ds := []) #[false, false, false, false, false, false, false, false, false, false, false, false, false, false, false, false] (by kernel_rfl) rfl rfl ⟨((HB.out.cell (World.block_lt_of_cell? _ _ hw198_0)).trans hw198_0), ((HB.out.cell (World.block_lt_of_cell? _ _ hw198_1)).trans hw198_1), ((HB.out.cell (World.block_lt_of_cell? _ _ hw198_2)).trans hw198_2), ((HB.out.cell (World.block_lt_of_cell? _ _ hw199_0)).trans hw199_0), ((HB.out.cell (World.block_lt_of_cell? _ _ hw199_1)).trans hw199_1), ((HB.out.cell (World.block_lt_of_cell? _ _ hw199_2)).trans hw199_2)⟩ (fun hHeld => ?_); refine with_tabW impl_JoinProfiles.tab3 impl_JoinProfiles.bits3 (fun HT_ HW_ => ?_)
        generalize wc.drew = w18 at HB hx198_0 hx198_1 hx198_2 hx199_0 hx199_1 hx199_2 hHeld ⊢
        refine pure_ (i := 0) (N := some 19) (v := ?_) (a' := ?_) #[true, false, false, false, false, false, false, false, false, false, false, false, false, false, false, false] rfl rfl (any_of HT_.out (by kernel_rfl)) (fun _ _ _ h => h) (Or.inl ⟨by rfl, ?_⟩) ?_ ?_
        rotate_left
        ·
         intro w'
         go_simp
         with_reducible rfl
        rotate_left
        ·
         simp only [Act.put, sT, s0, sS, i64_w, i32_w]
         rfl
        refine pure_ (i := 1) (N := some 20) (v := ?_) (a' := ?_) #[true, true, false, false, false, false, false, false, false, false, false, false, false, false, false, false] rfl rfl (any_of HT_.out (by kernel_rfl)) (fun _ _ _ h => h) (Or.inl ⟨by rfl, ?_⟩) ?_ ?_
        rotate_left
        ·
         intro w'
         go_simp
         with_reducible rfl
        rotate_left
        ·
         simp only [Act.put, sT, s0, sS, i64_w, i32_w]
         rfl
        refine pure_ (i := 2) (N := some 21) (v := ?_) (a' := ?_) #[true, true, true, false, false, false, false, false, false, false, false, false, false, false, false, false] rfl rfl (any_of HT_.out (by kernel_rfl)) (fun _ _ _ h => h) (Or.inl ⟨by rfl, ?_⟩) ?_ ?_
        rotate_left
        ·
         intro w'
         go_simp
         with_reducible rfl
        rotate_left
        ·
         simp only [Act.put, sT, s0, sS, i64_w, i32_w]
         rfl
        refine pure_ (i := 3) (N := some 22) (v := ?_) (a' := ?_) #[true, true, true, true, false, false, false, false, false, false, false, false, false, false, false, false] rfl rfl (any_of HT_.out (by kernel_rfl)) (fun _ _ _ h => h) (Or.inl ⟨by rfl, ?_⟩) ?_ ?_
        rotate_left
        ·
         intro w'
         go_simp
         with_reducible rfl
        rotate_left
        ·
         simp only [Act.put, sT, s0, sS, i64_w, i32_w]
         rfl
        refine pure_ (i := 4) (N := some 23) (v := ?_) (a' := ?_) #[true, true, true, true, true, false, false, false, false, false, false, false, false, false, false, false] rfl rfl (any_of HT_.out (by kernel_rfl)) (fun _ _ _ h => h) (Or.inl ⟨by rfl, ?_⟩) ?_ ?_
        rotate_left
        ·
         intro w'
         go_simp
         with_reducible rfl
        rotate_left
        ·
         simp only [Act.put, sT, s0, sS, i64_w, i32_w]
         rfl
        refine pure_ (i := 5) (N := some 24) (v := ?_) (a' := ?_) #[true, true, true, true, true, true, false, false, false, false, false, false, false, false, false, false] rfl rfl (any_of HT_.out (by kernel_rfl)) (fun _ _ _ h => h) (Or.inl ⟨by rfl, ?_⟩) ?_ ?_
        rotate_left
        ·
         intro w'
         go_simp
         with_reducible rfl
        rotate_left
        ·
         simp only [Act.put, sT, s0, sS, i64_w, i32_w]
         rfl
        refine pure_ (i := 7) (N := some 26) (v := ?_) (a' := ?_) #[true, true, true, true, true, true, false, true, false, false, false, false, false, false, false, false] rfl rfl (any_of HT_.out (by kernel_rfl)) (fun _ _ _ h => h) (Or.inl ⟨by rfl, ?_⟩) ?_ ?_
        rotate_left
        ·
         intro w'
         go_simp
         with_reducible rfl
        rotate_left
        ·
         simp only [Act.put, sT, s0, sS, i64_w, i32_w]
         rfl
        refine pure_ (i := 8) (N := some 27) (v := ?_) (a' := ?_) #[true, true, true, true, true, true, false, true, true, false, false, false, false, false, false, false] rfl rfl (any_of HT_.out (by kernel_rfl)) (fun _ _ _ h => h) (Or.inl ⟨by rfl, ?_⟩) ?_ ?_
        rotate_left
        ·
         intro w'
         go_simp
         with_reducible rfl
        rotate_left
        ·
         simp only [Act.put, sT, s0, sS, i64_w, i32_w]
         rfl
        refine pure_ (i := 9) (N := some 28) (v := ?_) (a' := ?_) #[true, true, true, true, true, true, false, true, true, true, false, false, false, false, false, false] rfl rfl (any_of HT_.out (by kernel_rfl)) (fun _ _ _ h => h) (Or.inl ⟨by rfl, ?_⟩) ?_ ?_
        rotate_left
        ·
         intro w'
         go_simp
         with_reducible rfl
        rotate_left
        ·
         simp only [Act.put, sT, s0, sS, i64_w, i32_w]
         rfl
        refine pure_ (i := 10) (N := some 29) (v := ?_) (a' := ?_) #[true, true, true, true, true, true, false, true, true, true, true, false, false, false, false, false] rfl rfl (any_of HT_.out (by kernel_rfl)) (fun _ _ _ h => h) (Or.inl ⟨by rfl, ?_⟩) ?_ ?_
        rotate_left
        ·
         intro w'
         go_simp
         with_reducible rfl
        rotate_left
        ·
         simp only [Act.put, sT, s0, sS, i64_w, i32_w]
         rfl
        refine pure_ (i := 11) (N := some 30) (v := ?_) (a' := ?_) #[true, true, true, true, true, true, false, true, true, true, true, true, false, false, false, false] rfl rfl (any_of HT_.out (by kernel_rfl)) (fun _ _ _ h => h) (Or.inl ⟨by rfl, ?_⟩) ?_ ?_
        rotate_left
        ·
         intro w'
         go_simp
         with_reducible rfl
        rotate_left
        ·
         simp only [Act.put, sT, s0, sS, i64_w, i32_w]
         rfl
        refine pure_ (i := 12) (N := some 31) (v := ?_) (a' := ?_) #[true, true, true, true, true, true, false, true, true, true, true, true, true, false, false, false] rfl rfl (any_of HT_.out (by kernel_rfl)) (fun _ _ _ h => h) (Or.inl ⟨by rfl, ?_⟩) ?_ ?_
        rotate_left
        ·
         intro w'
         go_simp
         with_reducible rfl
        rotate_left
        ·
         simp only [Act.put, sT, s0, sS, i64_w, i32_w]
         rfl
        refine take_ (i := 6) (N := some 25) (v := ?_) (a' := ?_) #[true, true, true, true, true, true, true, true, true, true, true, true, true, false, false, false] rfl rfl (take_ofW HT_.out HW_.out (by kernel_rfl)) (fun _ _ _ h => h) (Or.inl ⟨by rfl, ?_⟩) hHeld ?_ ?_
        rotate_left
        ·
         rintro w' ⟨s0, s1, s2, s3, s4, s5⟩
         go_simp
         with_reducible rfl
        rotate_left
        ·
         simp only [Act.put, sT, s0, sS, i64_w, i32_w]
         rfl
        refine take_ (i := 13) (N := some 32) (v := ?_) (a' := ?_) #[true, true, true, true, true, true, true, true, true, true, true, true, true, true, false, false] rfl rfl (take_ofW HT_.out HW_.out (by kernel_rfl)) (fun _ _ _ h => h) (Or.inl ⟨by rfl, ?_⟩) hHeld ?_ ?_
        rotate_left
        ·
         rintro w' ⟨s0, s1, s2, s3, s4, s5⟩
         go_simp
         with_reducible rfl
        rotate_left
        ·
         simp only [Act.put, sT, s0, sS, i64_w, i32_w]
         rfl
        refine pure_ (i := 14) (N := some 33) (v := ?_) (a' := ?_) #[true, true, true, true, true, true, true, true, true, true, true, true, true, true, true, false] rfl rfl (any_of HT_.out (by kernel_rfl)) (fun _ _ _ h => h) (Or.inl ⟨by rfl, ?_⟩) ?_ ?_
        rotate_left
        ·
         intro w'
         go_simp
         with_reducible rfl
        rotate_left
        ·
         simp only [Act.put, sT, s0, sS, i64_w, i32_w]
         rfl
        refine pure_ (i := 15) (N := some 6) (v := ?_) (a' := ?_) #[true, true, true, true, true, true, true, true, true, true, true, true, true, true, true, true] rfl rfl (any_of HT_.out (by kernel_rfl)) (fun _ _ _ h => h) (Or.inl ⟨by rfl, ?_⟩) ?_ ?_
        rotate_left
        ·
         intro w'
         go_simp
         with_reducible rfl
        rotate_left
        ·
         simp only [Act.put, sT, s0, sS, i64_w, i32_w]
         rfl
        refine done_ (done_of HT_.out (by kernel_rfl)) ?_
        try go_wp2
        go_loopg [7, 8, 9] kj2 (fun kq v7 v8 v9 w' => ∃ (x7_2 : List (S55)) (x8_2 : Int) (x9_2 : Int), v8 = .int .i64 x8_2 ∧ v9 = .int .i64 x9_2 ∧ Aside0 (impl_JoinProfiles.l0 kq l0 l1 ji17 x7_2 x8_2 x9_2 = some (r1, r2)) ∧ Aside0 (kq ≤ kj2) ∧ Aside0 (Kd.R k55 55 w' w.heap.size (fun _ => True) v7 x7_2) ∧ Aside0 (Below w.heap.size w w'))
        case atStart => exact ⟨(([] : List (S55))), (0), (0), (by first | rfl | (simp; done) | (simp [*]; done)), (by first | rfl | (simp; done) | (simp [*]; done)), H', ⟨Nat.le_refl _⟩, ⟨by first | exact Kd.R_nil _ _ _ _ _ | exact Kd.N_nil _ _ _ _ _ | exact Kd.V_nil _ _ _ _ _ | exact Kd.Q_nil _ _ _ _ _ | exact Kd.S_nil _ _ _ _ _⟩, ⟨by repeat (first | (with_reducible first | exact HB.out | apply lA | apply lN | apply lD) | exact HB.out)⟩⟩
        case round =>
         clear H'
         try clear c1
         try clear p1
         try clear q1
         try clear hx1
         try clear c2
         try clear p2
         try clear c5
         try clear p6
         try clear c10
         try clear c12
         try clear c12b0
         try clear c13
         try clear c13b0
         try clear c15
         try clear c15b0
         try clear c16
         try clear c16b0
         try clear c17
         try clear hx198_0
         try clear hx198_1
         try clear hx198_2
         try clear hx199_0
         try clear hx199_1
         try clear hx199_2
         try clear p198
         try clear p199
         try clear p2
         try clear q198
         try clear q199
         obtain ⟨x7_2, x8_2, x9_2, rfl, rfl, HA, HK2, HO_7, HB⟩ := hrel
         cases gk with
         | zero => exact absurd HA.out (by simp [impl_JoinProfiles.l0])
         | succ k2 =>
          have H := HA.out
          clear HA
          simp only [impl_JoinProfiles.l0] at H
          have HC19 := Aside0.mk H
          clear H
          go_upto_region 6 with (fail)
          go_cut [43] (fun v43 wc => ∃ (kq : Nat) (x43_18 : Bool), v43 = .bool x43_18 ∧ Aside0 (impl_JoinProfiles.j2 kq l0 l1 ji17 x7_2 x8_2 x9_2 x43_18 = some (r1, r2)) ∧ Aside0 (kq ≤ k2) ∧ Aside0 (Kd.R k55 55 wc w.heap.size (fun _ => True) u7 x7_2) ∧ Aside0 (Below w.heap.size w wc))
          case first =>
           have H := HC19.out
           clear HC19
           by_cases c20 : x8_2 < (l0.length : Int)
           ·
            rw [if_pos c20] at H
            have c20b0 : decide (x8_2 < (l0.length : Int)) = true := decide_eq_true c20
            clear c20
            (first | rw [c20b0] | (simp only [i64_w, i32_w]; rw [c20b0]) | skip)
            have H' := Aside0.mk H
            clear H
            go_wp2
            go_meet
            case rel => exact ⟨_, (decide (x9_2 < (l1.length : Int))), (by first | rfl | (simp; done) | (simp [*]; done)), (by first | exact H' | (simp only [hji11, hji14, hji17]; exact H') | (have H2_ := H'; simp only [← hji11, ← hji14, ← hji17] at H2_; exact H2_)), ⟨by have := HJ2.out; have := HK2.out; first | omega | exact Nat.le_refl _⟩, ⟨by (with_reducible repeat (first | apply rA | apply rN | apply rD)); exact HO_7.out⟩, ⟨by repeat (first | (with_reducible first | exact HB.out | apply lA | apply lN | apply lD) | exact HB.out)⟩⟩
           ·
            rw [if_neg c20] at H
            have c20b0 : decide (x8_2 < (l0.length : Int)) = false := decide_eq_false c20
            clear c20
            (first | rw [c20b0] | (simp only [i64_w, i32_w]; rw [c20b0]) | skip)
            have H' := Aside0.mk H
            clear H
            go_wp2
            go_meet
            case rel => exact ⟨_, (false), (by first | rfl | (simp; done) | (simp [*]; done)), (by first | exact H' | (simp only [hji11, hji14, hji17]; exact H') | (have H2_ := H'; simp only [← hji11, ← hji14, ← hji17] at H2_; exact H2_)), ⟨by have := HJ2.out; have := HK2.out; first | omega | exact Nat.le_refl _⟩, ⟨by (with_reducible repeat (first | apply rA | apply rN | apply rD)); exact HO_7.out⟩, ⟨by repeat (first | (with_reducible first | exact HB.out | apply lA | apply lN | apply lD) | exact HB.out)⟩⟩
          case rest =>
           clear HC19
           try clear c1
           try clear p1
           try clear q1
           try clear hx1
           try clear c2
           try clear p2
           try clear c5
           try clear p6
           try clear c10
           try clear c12
           try clear c12b0
           try clear c13
           try clear c13b0
           try clear c15
           try clear c15b0
           try clear c16
           try clear c16b0
           try clear c17
           try clear p19
           try clear q19
           try clear hx19
           try clear c20
           try clear c20b0
           try clear hx198_0
           try clear hx198_1
           try clear hx198_2
           try clear hx199_0
           try clear hx199_1
           try clear hx199_2
           try clear p1
           try clear p198
           try clear p199
           try clear p2
           try clear p6
           try clear q1
           try clear q198
           try clear q199
           obtain ⟨kq, x43_18, rfl, HA, HJ18, HO_7, HB⟩ := hcut
           cases kq with
           | zero => exact absurd HA.out (by simp [impl_JoinProfiles.j2])
           | succ kj18 =>
            have H := HA.out
            clear HA
            simp only [impl_JoinProfiles.j2] at H
            by_cases c21 : x43_18 = true
            ·
             subst c21
             have H1 : (if 0 ≤ x8_2 then (if x8_2 < (l0.length : Int) then (if 0 ≤ x9_2 then (if x9_2 < (l1.length : Int) then (if (mn ((rd_T55 l0 x8_2).f0) ((rd_T55 l1 x9_2).f0)) > ji17 then (if (x7_2.length : Int) > 6 then (some (([] : List (S55)), 3)) else (some (x7_2, 0))) else (if x7_2.length < 5864062014805 then ((some (x7_2 ++ [(⟨mn ((rd_T55 l0 x8_2).f0) ((rd_T55 l1 x9_2).f0), mn ((rd_T55 l0 x8_2).f1) ((rd_T55 l1 x9_2).f1), mx ((rd_T55 l0 x8_2).f2) ((rd_T55 l1 x9_2).f2)⟩ : S55)] : List (S55))).bind fun y206 => (if ((rd_T55 l0 x8_2).f0) = (mn ((rd_T55 l0 x8_2).f0) ((rd_T55 l1 x9_2).f0)) then (if ((rd_T55 l1 x9_2).f0) = (mn ((rd_T55 l0 x8_2).f0) ((rd_T55 l1 x9_2).f0)) then (impl_JoinProfiles.l0 kj18 l0 l1 ji17 y206 (wrap64 (x8_2 + 1)) (wrap64 (x9_2 + 1))) else (impl_JoinProfiles.l0 kj18 l0 l1 ji17 y206 (wrap64 (x8_2 + 1)) x9_2)) else (if ((rd_T55 l1 x9_2).f0) = (mn ((rd_T55 l0 x8_2).f0) ((rd_T55 l1 x9_2).f0)) then (impl_JoinProfiles.l0 kj18 l0 l1 ji17 y206 x8_2 (wrap64 (x9_2 + 1))) else (impl_JoinProfiles.l0 kj18 l0 l1 ji17 y206 x8_2 x9_2)))) else (none))) else (none)) else (none)) else (none)) else (none)) = some (r1, r2) := by rw [if_pos rfl] at H; exact H
             clear H
             have H := H1
             clear H1
             by_cases c22 : 0 ≤ x8_2
             ·
              rw [if_pos c22] at H
              have c22b0 : decide (0 ≤ x8_2) = true := decide_eq_true c22
              clear c22
              by_cases c23 : x8_2 < (l0.length : Int)
              ·
               rw [if_pos c23] at H
               have c23b0 : decide (x8_2 < (l0.length : Int)) = true := decide_eq_true c23
               clear c23
               by_cases c24 : 0 ≤ x9_2
               ·
                rw [if_pos c24] at H
                have c24b0 : decide (0 ≤ x9_2) = true := decide_eq_true c24
                clear c24
                by_cases c25 : x9_2 < (l1.length : Int)
                ·
                 rw [if_pos c25] at H
                 have c25b0 : decide (x9_2 < (l1.length : Int)) = true := decide_eq_true c25
                 clear c25
                 obtain ⟨ji26, hji26⟩ : ∃ j_ : Int, (mn ((rd_T55 l0 x8_2).f0) ((rd_T55 l1 x9_2).f0)) = j_ := ⟨_, rfl⟩
                 replace H : (if (ji26) > ji17 then (if (x7_2.length : Int) > 6 then (some (([] : List (S55)), 3)) else (some (x7_2, 0))) else (if x7_2.length < 5864062014805 then ((some (x7_2 ++ [(⟨ji26, mn ((rd_T55 l0 x8_2).f1) ((rd_T55 l1 x9_2).f1), mx ((rd_T55 l0 x8_2).f2) ((rd_T55 l1 x9_2).f2)⟩ : S55)] : List (S55))).bind fun y206 => (if ((rd_T55 l0 x8_2).f0) = (ji26) then (if ((rd_T55 l1 x9_2).f0) = (ji26) then (impl_JoinProfiles.l0 kj18 l0 l1 ji17 y206 (wrap64 (x8_2 + 1)) (wrap64 (x9_2 + 1))) else (impl_JoinProfiles.l0 kj18 l0 l1 ji17 y206 (wrap64 (x8_2 + 1)) x9_2)) else (if ((rd_T55 l1 x9_2).f0) = (ji26) then (impl_JoinProfiles.l0 kj18 l0 l1 ji17 y206 x8_2 (wrap64 (x9_2 + 1))) else (impl_JoinProfiles.l0 kj18 l0 l1 ji17 y206 x8_2 x9_2)))) else (none))) = some (r1, r2) := by first | (rw [hji26] at H; exact H) | (simp only [hji26] at H ⊢; exact H)
                 have hji26_ : (if ((rd_T55 l1 x9_2).f0) < ((rd_T55 l0 x8_2).f0) then ((rd_T55 l1 x9_2).f0) else ((rd_T55 l0 x8_2).f0)) = ji26 := hji26
                 by_cases c27 : (ji26) > ji17
                 ·
                  rw [if_pos c27] at H
                  have c27b0 : decide (ji17 < (ji26)) = true := decide_eq_true c27
                  clear c27
                  by_cases c28 : (x7_2.length : Int) > 6
                  ·
                   rw [if_pos c28] at H
                   have c28b0 : decide (6 < (x7_2.length : Int)) = true := decide_eq_true c28
                   have c28b1 : decide (6 < x7_2.length) = true := decide_eq_true (by omega)
                   clear c28
                   simp only [Option.some.injEq, Prod.mk.injEq] at H
                   obtain ⟨rfl, rfl⟩ := H
                   try go_wp2
                   have n0_ := Aside0.mk (Kd.R_drew HO_7.out)
                   have n1_ := Aside0.mk (below_drew1 HB.out)
                   clear HO_7
                   clear HB
                   have HO_7 := n0_
                   have HB := n1_
                   clear n0_ n1_
                   have p200 : 0 ≤ (x8_2 : Int) := of_decide_eq_true (by with_reducible assumption)
                   have q200 : x8_2 < (l0.length : Int) := of_decide_eq_true (by with_reducible assumption)
                   obtain ⟨ad200, e200, hx200_0, hx200_1, hx200_2⟩ := at_T55 HR0.out x8_2 p200 q200
                   have hw200_2 := hx200_2
                   have hw200_1 := hx200_1
                   have hw200_0 := hx200_0
                   obtain rfl : ad198 = ad200 := (by injection e200)
                   replace hx200_0 := cB HB.out hx200_0
                   replace hx200_1 := cB HB.out hx200_1
                   replace hx200_2 := cB HB.out hx200_2
                   replace p200 := eq_true p200
                   replace q200 := eq_true q200
                   have p201 : 0 ≤ (x9_2 : Int) := of_decide_eq_true (by with_reducible assumption)
                   have q201 : x9_2 < (l1.length : Int) := of_decide_eq_true (by with_reducible assumption)
                   obtain ⟨ad201, e201, hx201_0, hx201_1, hx201_2⟩ := at_T55 HR1.out x9_2 p201 q201
                   have hw201_2 := hx201_2
                   have hw201_1 := hx201_1
                   have hw201_0 := hx201_0
                   obtain rfl : ad199 = ad201 := (by injection e201)
                   replace hx201_0 := cB HB.out hx201_0
                   replace hx201_1 := cB HB.out hx201_1
                   replace hx201_2 := cB HB.out hx201_2
                   replace p201 := eq_true p201
                   replace q201 := eq_true q201
                   refine start_ (n := 12) (S := fun w' => w'.cell? (ad198.add ((x8_2).toNat * 3)) = some (.int .i64 ((rd_T55 l0 x8_2).f0)) ∧ w'.cell? ⟨(ad198.add ((x8_2).toNat * 3)).block, (ad198.add ((x8_2).toNat * 3)).off + 1, none⟩ = some (.int .i64 ((rd_T55 l0 x8_2).f1)) ∧ w'.cell? ⟨(ad198.add ((x8_2).toNat * 3)).block, (ad198.add ((x8_2).toNat * 3)).off + 2, none⟩ = some (.int .i64 ((rd_T55 l0 x8_2).f2)) ∧ w'.cell? (ad199.add ((x9_2).toNat * 3)) = some (.int .i64 ((rd_T55 l1 x9_2).f0)) ∧ w'.cell? ⟨(ad199.add ((x9_2).toNat * 3)).block, (ad199.add ((x9_2).toNat * 3)).off + 1, none⟩ = some (.int .i64 ((rd_T55 l1 x9_2).f1)) ∧ w'.cell? ⟨(ad199.add ((x9_2).toNat * 3)).block, (ad199.add ((x9_2).toNat * 3)).off + 2, none⟩ = some (.int .i64 ((rd_T55 l1 x9_2).f2))) (ds := []) #[false, false, false, false, false, false, false, false, false, false, false, false] (by kernel_rfl) rfl rfl ⟨((HB.out.cell (World.block_lt_of_cell? _ _ hw200_0)).trans hw200_0), ((HB.out.cell (World.block_lt_of_cell? _ _ hw200_1)).trans hw200_1), ((HB.out.cell (World.block_lt_of_cell? _ _ hw200_2)).trans hw200_2), ((HB.out.cell (World.block_lt_of_cell? _ _ hw201_0)).trans hw201_0), ((HB.out.cell (World.block_lt_of_cell? _ _ hw201_1)).trans hw201_1), ((HB.out.cell (World.block_lt_of_cell? _ _ hw201_2)).trans hw201_2)⟩ (fun hHeld => ?_); refine with_tabW impl_JoinProfiles.tab7 impl_JoinProfiles.bits7 (fun HT_ HW_ => ?_)
                   generalize wc.drew = w29 at HO_7 HB hx200_0 hx200_1 hx200_2 hx201_0 hx201_1 hx201_2 hHeld ⊢
                   refine pure_ (i := 0) (N := some 44) (v := ?_) (a' := ?_) #[true, false, false, false, false, false, false, false, false, false, false, false] rfl rfl (any_of HT_.out (by kernel_rfl)) (fun _ _ _ h => h) (Or.inl ⟨by rfl, ?_⟩) ?_ ?_
                   rotate_left
                   ·
                    intro w'
                    go_simp
                    with_reducible rfl
                   rotate_left
                   ·
                    simp only [Act.put, sT, s0, sS, i64_w, i32_w]
                    rfl
                   refine pure_ (i := 1) (N := some 45) (v := ?_) (a' := ?_) #[true, true, false, false, false, false, false, false, false, false, false, false] rfl rfl (any_of HT_.out (by kernel_rfl)) (fun _ _ _ h => h) (Or.inl ⟨by rfl, ?_⟩) ?_ ?_
                   rotate_left
                   ·
                    intro w'
                    go_simp
                    with_reducible rfl
                   rotate_left
                   ·
                    simp only [Act.put, sT, s0, sS, i64_w, i32_w]
                    rfl
                   refine pure_ (i := 2) (N := some 46) (v := ?_) (a' := ?_) #[true, true, true, false, false, false, false, false, false, false, false, false] rfl rfl (any_of HT_.out (by kernel_rfl)) (fun _ _ _ h => h) (Or.inl ⟨by rfl, ?_⟩) ?_ ?_
                   rotate_left
                   ·
                    intro w'
                    go_simp
                    with_reducible rfl
                   rotate_left
                   ·
                    simp only [Act.put, sT, s0, sS, i64_w, i32_w]
                    rfl
                   refine pure_ (i := 3) (N := some 47) (v := ?_) (a' := ?_) #[true, true, true, true, false, false, false, false, false, false, false, false] rfl rfl (any_of HT_.out (by kernel_rfl)) (fun _ _ _ h => h) (Or.inl ⟨by rfl, ?_⟩) ?_ ?_
                   rotate_left
                   ·
                    intro w'
                    go_simp
                    with_reducible rfl
                   rotate_left
                   ·
                    simp only [Act.put, sT, s0, sS, i64_w, i32_w]
                    rfl
                   refine pure_ (i := 5) (N := some 49) (v := ?_) (a' := ?_) #[true, true, true, true, false, true, false, false, false, false, false, false] rfl rfl (any_of HT_.out (by kernel_rfl)) (fun _ _ _ h => h) (Or.inl ⟨by rfl, ?_⟩) ?_ ?_
                   rotate_left
                   ·
                    intro w'
                    go_simp
                    with_reducible rfl
                   rotate_left
                   ·
                    simp only [Act.put, sT, s0, sS, i64_w, i32_w]
                    rfl
                   refine pure_ (i := 6) (N := some 50) (v := ?_) (a' := ?_) #[true, true, true, true, false, true, true, false, false, false, false, false] rfl rfl (any_of HT_.out (by kernel_rfl)) (fun _ _ _ h => h) (Or.inl ⟨by rfl, ?_⟩) ?_ ?_
                   rotate_left
                   ·
                    intro w'
                    go_simp
                    with_reducible rfl
                   rotate_left
                   ·
                    simp only [Act.put, sT, s0, sS, i64_w, i32_w]
                    rfl
                   refine pure_ (i := 7) (N := some 51) (v := ?_) (a' := ?_) #[true, true, true, true, false, true, true, true, false, false, false, false] rfl rfl (any_of HT_.out (by kernel_rfl)) (fun _ _ _ h => h) (Or.inl ⟨by rfl, ?_⟩) ?_ ?_
                   rotate_left
                   ·
                    intro w'
                    go_simp
                    with_reducible rfl
                   rotate_left
                   ·
                    simp only [Act.put, sT, s0, sS, i64_w, i32_w]
                    rfl
                   refine pure_ (i := 8) (N := some 52) (v := ?_) (a' := ?_) #[true, true, true, true, false, true, true, true, true, false, false, false] rfl rfl (any_of HT_.out (by kernel_rfl)) (fun _ _ _ h => h) (Or.inl ⟨by rfl, ?_⟩) ?_ ?_
                   rotate_left
                   ·
                    intro w'
                    go_simp
                    with_reducible rfl
                   rotate_left
                   ·
                    simp only [Act.put, sT, s0, sS, i64_w, i32_w]
                    rfl
                   refine take_ (i := 4) (N := some 48) (v := ?_) (a' := ?_) #[true, true, true, true, true, true, true, true, true, false, false, false] rfl rfl (take_ofW HT_.out HW_.out (by kernel_rfl)) (fun _ _ _ h => h) (Or.inl ⟨by rfl, ?_⟩) hHeld ?_ ?_
                   rotate_left
                   ·
                    rintro w' ⟨s0, s1, s2, s3, s4, s5⟩
                    go_simp
                    with_reducible rfl
                   rotate_left
                   ·
                    simp only [Act.put, sT, s0, sS, i64_w, i32_w]
                    rfl
                   refine take_ (i := 9) (N := some 53) (v := ?_) (a' := ?_) #[true, true, true, true, true, true, true, true, true, true, false, false] rfl rfl (take_ofW HT_.out HW_.out (by kernel_rfl)) (fun _ _ _ h => h) (Or.inl ⟨by rfl, ?_⟩) hHeld ?_ ?_
                   rotate_left
                   ·
                    rintro w' ⟨s0, s1, s2, s3, s4, s5⟩
                    go_simp
                    with_reducible rfl
                   rotate_left
                   ·
                    simp only [Act.put, sT, s0, sS, i64_w, i32_w]
                    rfl
                   refine pure_ (i := 10) (N := some 54) (v := ?_) (a' := ?_) #[true, true, true, true, true, true, true, true, true, true, true, false] rfl rfl (any_of HT_.out (by kernel_rfl)) (fun _ _ _ h => h) (Or.inl ⟨by rfl, ?_⟩) ?_ ?_
                   rotate_left
                   ·
                    intro w'
                    go_simp
                    with_reducible rfl
                   rotate_left
                   ·
                    simp only [Act.put, sT, s0, sS, i64_w, i32_w]
                    rfl
                   refine pure_ (i := 11) (N := some 10) (v := ?_) (a' := ?_) #[true, true, true, true, true, true, true, true, true, true, true, true] rfl rfl (any_of HT_.out (by kernel_rfl)) (fun _ _ _ h => h) (Or.inl ⟨by rfl, ?_⟩) ?_ ?_
                   rotate_left
                   ·
                    intro w'
                    go_simp
                    with_reducible rfl
                   rotate_left
                   ·
                    simp only [Act.put, sT, s0, sS, i64_w, i32_w]
                    rfl
                   refine done_ (done_of HT_.out (by kernel_rfl)) ?_
                   obtain ⟨Ao30, co30, eo30⟩ := Kd.R_slice HO_7.out
                   subst eo30
                   try go_wp2
                   go_ret2
                   exact ⟨_, by first | rfl | (simp [errW_none, errW_some] <;> rfl) | (simp only [← hji11, ← hji14, ← hji17, ← hji26]; first | rfl | (simp [errW_none, errW_some] <;> rfl)) | (simp [*, errW_none, errW_some] <;> rfl), by first | exact Kd.R_nil _ _ _ _ _ | exact Kd.N_nil _ _ _ _ _ | exact Kd.V_nil _ _ _ _ _ | exact Kd.Q_nil _ _ _ _ _ | exact Kd.S_nil _ _ _ _ _, by repeat (first | (with_reducible first | exact HB.out | apply lA | apply lN | apply lD) | exact HB.out)⟩
                  ·
                   rw [if_neg c28] at H
                   have c28b0 : decide (6 < (x7_2.length : Int)) = false := decide_eq_false c28
                   have c28b1 : decide (6 < x7_2.length) = false := decide_eq_false (by omega)
                   clear c28
                   simp only [Option.some.injEq, Prod.mk.injEq] at H
                   obtain ⟨rfl, rfl⟩ := H
                   try go_wp2
                   have n0_ := Aside0.mk (Kd.R_drew HO_7.out)
                   have n1_ := Aside0.mk (below_drew1 HB.out)
                   clear HO_7
                   clear HB
                   have HO_7 := n0_
                   have HB := n1_
                   clear n0_ n1_
                   have p200 : 0 ≤ (x8_2 : Int) := of_decide_eq_true (by with_reducible assumption)
                   have q200 : x8_2 < (l0.length : Int) := of_decide_eq_true (by with_reducible assumption)
                   obtain ⟨ad200, e200, hx200_0, hx200_1, hx200_2⟩ := at_T55 HR0.out x8_2 p200 q200
                   have hw200_2 := hx200_2
                   have hw200_1 := hx200_1
                   have hw200_0 := hx200_0
                   obtain rfl : ad198 = ad200 := (by injection e200)
                   replace hx200_0 := cB HB.out hx200_0
                   replace hx200_1 := cB HB.out hx200_1
                   replace hx200_2 := cB HB.out hx200_2
                   replace p200 := eq_true p200
                   replace q200 := eq_true q200
                   have p201 : 0 ≤ (x9_2 : Int) := of_decide_eq_true (by with_reducible assumption)
                   have q201 : x9_2 < (l1.length : Int) := of_decide_eq_true (by with_reducible assumption)
                   obtain ⟨ad201, e201, hx201_0, hx201_1, hx201_2⟩ := at_T55 HR1.out x9_2 p201 q201
                   have hw201_2 := hx201_2
                   have hw201_1 := hx201_1
                   have hw201_0 := hx201_0
                   obtain rfl : ad199 = ad201 := (by injection e201)
                   replace hx201_0 := cB HB.out hx201_0
                   replace hx201_1 := cB HB.out hx201_1
                   replace hx201_2 := cB HB.out hx201_2
                   replace p201 := eq_true p201
                   replace q201 := eq_true q201
                   refine start_ (n := 12) (S := fun w' => w'.cell? (ad198.add ((x8_2).toNat * 3)) = some (.int .i64 ((rd_T55 l0 x8_2).f0)) ∧ w'.cell? ⟨(ad198.add ((x8_2).toNat * 3)).block, (ad198.add ((x8_2).toNat * 3)).off + 1, none⟩ = some (.int .i64 ((rd_T55 l0 x8_2).f1)) ∧ w'.cell? ⟨(ad198.add ((x8_2).toNat * 3)).block, (ad198.add ((x8_2).toNat * 3)).off + 2, none⟩ = some (.int .i64 ((rd_T55 l0 x8_2).f2)) ∧ w'.cell? (ad199.add ((x9_2).toNat * 3)) = some (.int .i64 ((rd_T55 l1 x9_2).f0)) ∧ w'.cell? ⟨(ad199.add ((x9_2).toNat * 3)).block, (ad199.add ((x9_2).toNat * 3)).off + 1, none⟩ = some (.int .i64 ((rd_T55 l1 x9_2).f1)) ∧ w'.cell? ⟨(ad199.add ((x9_2).toNat * 3)).block, (ad199.add ((x9_2).toNat * 3)).off + 2, none⟩ = some (.int .i64 ((rd_T55 l1 x9_2).f2))) (ds := []) #[false, false, false, false, false, false, false, false, false, false, false, false] (by kernel_rfl) rfl rfl ⟨((HB.out.cell (World.block_lt_of_cell? _ _ hw200_0)).trans hw200_0), ((HB.out.cell (World.block_lt_of_cell? _ _ hw200_1)).trans hw200_1), ((HB.out.cell (World.block_lt_of_cell? _ _ hw200_2)).trans hw200_2), ((HB.out.cell (World.block_lt_of_cell? _ _ hw201_0)).trans hw201_0), ((HB.out.cell (World.block_lt_of_cell? _ _ hw201_1)).trans hw201_1), ((HB.out.cell (World.block_lt_of_cell? _ _ hw201_2)).trans hw201_2)⟩ (fun hHeld => ?_); refine with_tabW impl_JoinProfiles.tab7 impl_JoinProfiles.bits7 (fun HT_ HW_ => ?_)
                   generalize wc.drew = w31 at HO_7 HB hx200_0 hx200_1 hx200_2 hx201_0 hx201_1 hx201_2 hHeld ⊢
                   refine pure_ (i := 0) (N := some 44) (v := ?_) (a' := ?_) #[true, false, false, false, false, false, false, false, false, false, false, false] rfl rfl (any_of HT_.out (by kernel_rfl)) (fun _ _ _ h => h) (Or.inl ⟨by rfl, ?_⟩) ?_ ?_
                   rotate_left
                   ·
                    intro w'
                    go_simp
                    with_reducible rfl
                   rotate_left
                   ·
                    simp only [Act.put, sT, s0, sS, i64_w, i32_w]
                    rfl
                   refine pure_ (i := 1) (N := some 45) (v := ?_) (a' := ?_) #[true, true, false, false, false, false, false, false, false, false, false, false] rfl rfl (any_of HT_.out (by kernel_rfl)) (fun _ _ _ h => h) (Or.inl ⟨by rfl, ?_⟩) ?_ ?_
                   rotate_left
                   ·
                    intro w'
                    go_simp
                    with_reducible rfl
                   rotate_left
                   ·
                    simp only [Act.put, sT, s0, sS, i64_w, i32_w]
                    rfl
                   refine pure_ (i := 2) (N := some 46) (v := ?_) (a' := ?_) #[true, true, true, false, false, false, false, false, false, false, false, false] rfl rfl (any_of HT_.out (by kernel_rfl)) (fun _ _ _ h => h) (Or.inl ⟨by rfl, ?_⟩) ?_ ?_
                   rotate_left
                   ·
                    intro w'
                    go_simp
                    with_reducible rfl
                   rotate_left
                   ·
                    simp only [Act.put, sT, s0, sS, i64_w, i32_w]
                    rfl
                   refine pure_ (i := 3) (N := some 47) (v := ?_) (a' := ?_) #[true, true, true, true, false, false, false, false, false, false, false, false] rfl rfl (any_of HT_.out (by kernel_rfl)) (fun _ _ _ h => h) (Or.inl ⟨by rfl, ?_⟩) ?_ ?_
                   rotate_left
                   ·
                    intro w'
                    go_simp
                    with_reducible rfl
                   rotate_left
                   ·
                    simp only [Act.put, sT, s0, sS, i64_w, i32_w]
                    rfl
                   refine pure_ (i := 5) (N := some 49) (v := ?_) (a' := ?_) #[true, true, true, true, false, true, false, false, false, false, false, false] rfl rfl (any_of HT_.out (by kernel_rfl)) (fun _ _ _ h => h) (Or.inl ⟨by rfl, ?_⟩) ?_ ?_
                   rotate_left
                   ·
                    intro w'
                    go_simp
                    with_reducible rfl
                   rotate_left
                   ·
                    simp only [Act.put, sT, s0, sS, i64_w, i32_w]
                    rfl
                   refine pure_ (i := 6) (N := some 50) (v := ?_) (a' := ?_) #[true, true, true, true, false, true, true, false, false, false, false, false] rfl rfl (any_of HT_.out (by kernel_rfl)) (fun _ _ _ h => h) (Or.inl ⟨by rfl, ?_⟩) ?_ ?_
                   rotate_left
                   ·
                    intro w'
                    go_simp
                    with_reducible rfl
                   rotate_left
                   ·
                    simp only [Act.put, sT, s0, sS, i64_w, i32_w]
                    rfl
                   refine pure_ (i := 7) (N := some 51) (v := ?_) (a' := ?_) #[true, true, true, true, false, true, true, true, false, false, false, false] rfl rfl (any_of HT_.out (by kernel_rfl)) (fun _ _ _ h => h) (Or.inl ⟨by rfl, ?_⟩) ?_ ?_
                   rotate_left
                   ·
                    intro w'
                    go_simp
                    with_reducible rfl
                   rotate_left
                   ·
                    simp only [Act.put, sT, s0, sS, i64_w, i32_w]
                    rfl
                   refine pure_ (i := 8) (N := some 52) (v := ?_) (a' := ?_) #[true, true, true, true, false, true, true, true, true, false, false, false] rfl rfl (any_of HT_.out (by kernel_rfl)) (fun _ _ _ h => h) (Or.inl ⟨by rfl, ?_⟩) ?_ ?_
                   rotate_left
                   ·
                    intro w'
                    go_simp
                    with_reducible rfl
                   rotate_left
                   ·
                    simp only [Act.put, sT, s0, sS, i64_w, i32_w]
                    rfl
                   refine take_ (i := 4) (N := some 48) (v := ?_) (a' := ?_) #[true, true, true, true, true, true, true, true, true, false, false, false] rfl rfl (take_ofW HT_.out HW_.out (by kernel_rfl)) (fun _ _ _ h => h) (Or.inl ⟨by rfl, ?_⟩) hHeld ?_ ?_
                   rotate_left
                   ·
                    rintro w' ⟨s0, s1, s2, s3, s4, s5⟩
                    go_simp
                    with_reducible rfl
                   rotate_left
                   ·
                    simp only [Act.put, sT, s0, sS, i64_w, i32_w]
                    rfl
                   refine take_ (i := 9) (N := some 53) (v := ?_) (a' := ?_) #[true, true, true, true, true, true, true, true, true, true, false, false] rfl rfl (take_ofW HT_.out HW_.out (by kernel_rfl)) (fun _ _ _ h => h) (Or.inl ⟨by rfl, ?_⟩) hHeld ?_ ?_
                   rotate_left
                   ·
                    rintro w' ⟨s0, s1, s2, s3, s4, s5⟩
                    go_simp
                    with_reducible rfl
                   rotate_left
                   ·
                    simp only [Act.put, sT, s0, sS, i64_w, i32_w]
                    rfl
                   refine pure_ (i := 10) (N := some 54) (v := ?_) (a' := ?_) #[true, true, true, true, true, true, true, true, true, true, true, false] rfl rfl (any_of HT_.out (by kernel_rfl)) (fun _ _ _ h => h) (Or.inl ⟨by rfl, ?_⟩) ?_ ?_
                   rotate_left
                   ·
                    intro w'
                    go_simp
                    with_reducible rfl
                   rotate_left
                   ·
                    simp only [Act.put, sT, s0, sS, i64_w, i32_w]
                    rfl
                   refine pure_ (i := 11) (N := some 10) (v := ?_) (a' := ?_) #[true, true, true, true, true, true, true, true, true, true, true, true] rfl rfl (any_of HT_.out (by kernel_rfl)) (fun _ _ _ h => h) (Or.inl ⟨by rfl, ?_⟩) ?_ ?_
                   rotate_left
                   ·
                    intro w'
                    go_simp
                    with_reducible rfl
                   rotate_left
                   ·
                    simp only [Act.put, sT, s0, sS, i64_w, i32_w]
                    rfl
                   refine done_ (done_of HT_.out (by kernel_rfl)) ?_
                   obtain ⟨Ao32, co32, eo32⟩ := Kd.R_slice HO_7.out
                   subst eo32
                   try go_wp2
                   go_ret2
                   exact ⟨_, by first | rfl | (simp [errW_none, errW_some] <;> rfl) | (simp only [← hji11, ← hji14, ← hji17, ← hji26]; first | rfl | (simp [errW_none, errW_some] <;> rfl)) | (simp [*, errW_none, errW_some] <;> rfl), by (with_reducible repeat (first | apply rA | apply rN | apply rD)); exact HO_7.out, by repeat (first | (with_reducible first | exact HB.out | apply lA | apply lN | apply lD) | exact HB.out)⟩
                 ·
                  rw [if_neg c27] at H
                  have c27b0 : decide (ji17 < (ji26)) = false := decide_eq_false c27
                  clear c27
                  obtain ⟨ji33, hji33⟩ : ∃ j_ : Int, (mn ((rd_T55 l0 x8_2).f1) ((rd_T55 l1 x9_2).f1)) = j_ := ⟨_, rfl⟩
                  replace H : (if x7_2.length < 5864062014805 then ((some (x7_2 ++ [(⟨ji26, ji33, mx ((rd_T55 l0 x8_2).f2) ((rd_T55 l1 x9_2).f2)⟩ : S55)] : List (S55))).bind fun y206 => (if ((rd_T55 l0 x8_2).f0) = (ji26) then (if ((rd_T55 l1 x9_2).f0) = (ji26) then (impl_JoinProfiles.l0 kj18 l0 l1 ji17 y206 (wrap64 (x8_2 + 1)) (wrap64 (x9_2 + 1))) else (impl_JoinProfiles.l0 kj18 l0 l1 ji17 y206 (wrap64 (x8_2 + 1)) x9_2)) else (if ((rd_T55 l1 x9_2).f0) = (ji26) then (impl_JoinProfiles.l0 kj18 l0 l1 ji17 y206 x8_2 (wrap64 (x9_2 + 1))) else (impl_JoinProfiles.l0 kj18 l0 l1 ji17 y206 x8_2 x9_2)))) else (none)) = some (r1, r2) := by first | (rw [hji33] at H; exact H) | (simp only [hji33] at H ⊢; exact H)
                  have hji33_ : (if ((rd_T55 l1 x9_2).f1) < ((rd_T55 l0 x8_2).f1) then ((rd_T55 l1 x9_2).f1) else ((rd_T55 l0 x8_2).f1)) = ji33 := hji33
                  obtain ⟨ji34, hji34⟩ : ∃ j_ : Int, (mx ((rd_T55 l0 x8_2).f2) ((rd_T55 l1 x9_2).f2)) = j_ := ⟨_, rfl⟩
                  replace H : (if x7_2.length < 5864062014805 then ((some (x7_2 ++ [(⟨ji26, ji33, ji34⟩ : S55)] : List (S55))).bind fun y206 => (if ((rd_T55 l0 x8_2).f0) = (ji26) then (if ((rd_T55 l1 x9_2).f0) = (ji26) then (impl_JoinProfiles.l0 kj18 l0 l1 ji17 y206 (wrap64 (x8_2 + 1)) (wrap64 (x9_2 + 1))) else (impl_JoinProfiles.l0 kj18 l0 l1 ji17 y206 (wrap64 (x8_2 + 1)) x9_2)) else (if ((rd_T55 l1 x9_2).f0) = (ji26) then (impl_JoinProfiles.l0 kj18 l0 l1 ji17 y206 x8_2 (wrap64 (x9_2 + 1))) else (impl_JoinProfiles.l0 kj18 l0 l1 ji17 y206 x8_2 x9_2)))) else (none)) = some (r1, r2) := by first | (rw [hji34] at H; exact H) | (simp only [hji34] at H ⊢; exact H)
                  have hji34_ : (if ((rd_T55 l0 x8_2).f2) < ((rd_T55 l1 x9_2).f2) then ((rd_T55 l1 x9_2).f2) else ((rd_T55 l0 x8_2).f2)) = ji34 := hji34
                  by_cases c35 : x7_2.length < 5864062014805
                  ·
                   rw [if_pos c35] at H
                   have LMc35 := Aside0.mk c35
                   clear c35
                   obtain ⟨y206, hy206⟩ : ∃ y_ : List (S55), y_ = (x7_2 ++ [(⟨ji26, ji33, ji34⟩ : S55)]) := ⟨_, rfl⟩
                   replace H : (if ((rd_T55 l0 x8_2).f0) = (ji26) then (if ((rd_T55 l1 x9_2).f0) = (ji26) then (impl_JoinProfiles.l0 kj18 l0 l1 ji17 y206 (wrap64 (x8_2 + 1)) (wrap64 (x9_2 + 1))) else (impl_JoinProfiles.l0 kj18 l0 l1 ji17 y206 (wrap64 (x8_2 + 1)) x9_2)) else (if ((rd_T55 l1 x9_2).f0) = (ji26) then (impl_JoinProfiles.l0 kj18 l0 l1 ji17 y206 x8_2 (wrap64 (x9_2 + 1))) else (impl_JoinProfiles.l0 kj18 l0 l1 ji17 y206 x8_2 x9_2))) = some (r1, r2) := by first | (rw [hy206]; with_reducible exact H) | (have H2_ := (Option.bind_some _ _).symm.trans H; rw [hy206]; with_reducible exact H2_) | (have H2_ := (Option.bind_some _ _).symm.trans H; with_reducible exact H2_) | with_reducible exact H | (rw [hy206]; exact H) | exact H
                   have Ny206 := Aside0.mk hy206
                   clear hy206
                   by_cases c36 : ((rd_T55 l0 x8_2).f0) = (ji26)
                   ·
                    rw [if_pos c36] at H
                    have c36b0 : (((rd_T55 l0 x8_2).f0) == (ji26)) = true := beq_iff_eq.mpr c36
                    have c36b1 : (((rd_T55 l0 x8_2).f0) != (ji26)) = false := bne_eq_false_iff_eq.mpr c36
                    clear c36
                    by_cases c37 : ((rd_T55 l1 x9_2).f0) = (ji26)
                    ·
                     rw [if_pos c37] at H
                     have c37b0 : (((rd_T55 l1 x9_2).f0) == (ji26)) = true := beq_iff_eq.mpr c37
                     have c37b1 : (((rd_T55 l1 x9_2).f0) != (ji26)) = false := bne_eq_false_iff_eq.mpr c37
                     clear c37
                     have H' := Aside0.mk H
                     clear H
                     try go_wp2
                     have n0_ := Aside0.mk (Kd.R_drew HO_7.out)
                     have n1_ := Aside0.mk (below_drew1 HB.out)
                     clear HO_7
                     clear HB
                     have HO_7 := n0_
                     have HB := n1_
                     clear n0_ n1_
                     have p200 : 0 ≤ (x8_2 : Int) := of_decide_eq_true (by with_reducible assumption)
                     have q200 : x8_2 < (l0.length : Int) := of_decide_eq_true (by with_reducible assumption)
                     obtain ⟨ad200, e200, hx200_0, hx200_1, hx200_2⟩ := at_T55 HR0.out x8_2 p200 q200
                     have hw200_2 := hx200_2
                     have hw200_1 := hx200_1
                     have hw200_0 := hx200_0
                     obtain rfl : ad198 = ad200 := (by injection e200)
                     replace hx200_0 := cB HB.out hx200_0
                     replace hx200_1 := cB HB.out hx200_1
                     replace hx200_2 := cB HB.out hx200_2
                     replace p200 := eq_true p200
                     replace q200 := eq_true q200
                     have p201 : 0 ≤ (x9_2 : Int) := of_decide_eq_true (by with_reducible assumption)
                     have q201 : x9_2 < (l1.length : Int) := of_decide_eq_true (by with_reducible assumption)
                     obtain ⟨ad201, e201, hx201_0, hx201_1, hx201_2⟩ := at_T55 HR1.out x9_2 p201 q201
                     have hw201_2 := hx201_2
                     have hw201_1 := hx201_1
                     have hw201_0 := hx201_0
                     obtain rfl : ad199 = ad201 := (by injection e201)
                     replace hx201_0 := cB HB.out hx201_0
                     replace hx201_1 := cB HB.out hx201_1
                     replace hx201_2 := cB HB.out hx201_2
                     replace p201 := eq_true p201
                     replace q201 := eq_true q201
                     refine start_ (n := 12) (S := fun w' => w'.cell? (ad198.add ((x8_2).toNat * 3)) = some (.int .i64 ((rd_T55 l0 x8_2).f0)) ∧ w'.cell? ⟨(ad198.add ((x8_2).toNat * 3)).block, (ad198.add ((x8_2).toNat * 3)).off + 1, none⟩ = some (.int .i64 ((rd_T55 l0 x8_2).f1)) ∧ w'.cell? ⟨(ad198.add ((x8_2).toNat * 3)).block, (ad198.add ((x8_2).toNat * 3)).off + 2, none⟩ = some (.int .i64 ((rd_T55 l0 x8_2).f2)) ∧ w'.cell? (ad199.add ((x9_2).toNat * 3)) = some (.int .i64 ((rd_T55 l1 x9_2).f0)) ∧ w'.cell? ⟨(ad199.add ((x9_2).toNat * 3)).block, (ad199.add ((x9_2).toNat * 3)).off + 1, none⟩ = some (.int .i64 ((rd_T55 l1 x9_2).f1)) ∧ w'.cell? ⟨(ad199.add ((x9_2).toNat * 3)).block, (ad199.add ((x9_2).toNat * 3)).off + 2, none⟩ = some (.int .i64 ((rd_T55 l1 x9_2).f2))) (ds := []) #[false, false, false, false, false, false, false, false, false, false, false, false] (by kernel_rfl) rfl rfl ⟨((HB.out.cell (World.block_lt_of_cell? _ _ hw200_0)).trans hw200_0), ((HB.out.cell (World.block_lt_of_cell? _ _ hw200_1)).trans hw200_1), ((HB.out.cell (World.block_lt_of_cell? _ _ hw200_2)).trans hw200_2), ((HB.out.cell (World.block_lt_of_cell? _ _ hw201_0)).trans hw201_0), ((HB.out.cell (World.block_lt_of_cell? _ _ hw201_1)).trans hw201_1), ((HB.out.cell (World.block_lt_of_cell? _ _ hw201_2)).trans hw201_2)⟩ (fun hHeld => ?_); refine with_tabW impl_JoinProfiles.tab7 impl_JoinProfiles.bits7 (fun HT_ HW_ => ?_)
                     generalize wc.drew = w38 at HO_7 HB hx200_0 hx200_1 hx200_2 hx201_0 hx201_1 hx201_2 hHeld ⊢
                     refine pure_ (i := 0) (N := some 44) (v := ?_) (a' := ?_) #[true, false, false, false, false, false, false, false, false, false, false, false] rfl rfl (any_of HT_.out (by kernel_rfl)) (fun _ _ _ h => h) (Or.inl ⟨by rfl, ?_⟩) ?_ ?_
                     rotate_left
                     ·
                      intro w'
                      go_simp
                      with_reducible rfl
                     rotate_left
                     ·
                      simp only [Act.put, sT, s0, sS, i64_w, i32_w]
                      rfl
                     refine pure_ (i := 1) (N := some 45) (v := ?_) (a' := ?_) #[true, true, false, false, false, false, false, false, false, false, false, false] rfl rfl (any_of HT_.out (by kernel_rfl)) (fun _ _ _ h => h) (Or.inl ⟨by rfl, ?_⟩) ?_ ?_
                     rotate_left
                     ·
                      intro w'
                      go_simp
                      with_reducible rfl
                     rotate_left
                     ·
                      simp only [Act.put, sT, s0, sS, i64_w, i32_w]
                      rfl
                     refine pure_ (i := 2) (N := some 46) (v := ?_) (a' := ?_) #[true, true, true, false, false, false, false, false, false, false, false, false] rfl rfl (any_of HT_.out (by kernel_rfl)) (fun _ _ _ h => h) (Or.inl ⟨by rfl, ?_⟩) ?_ ?_
                     rotate_left
                     ·
                      intro w'
                      go_simp
                      with_reducible rfl
                     rotate_left
                     ·
                      simp only [Act.put, sT, s0, sS, i64_w, i32_w]
                      rfl
                     refine pure_ (i := 3) (N := some 47) (v := ?_) (a' := ?_) #[true, true, true, true, false, false, false, false, false, false, false, false] rfl rfl (any_of HT_.out (by kernel_rfl)) (fun _ _ _ h => h) (Or.inl ⟨by rfl, ?_⟩) ?_ ?_
                     rotate_left
                     ·
                      intro w'
                      go_simp
                      with_reducible rfl
                     rotate_left
                     ·
                      simp only [Act.put, sT, s0, sS, i64_w, i32_w]
                      rfl
                     refine pure_ (i := 5) (N := some 49) (v := ?_) (a' := ?_) #[true, true, true, true, false, true, false, false, false, false, false, false] rfl rfl (any_of HT_.out (by kernel_rfl)) (fun _ _ _ h => h) (Or.inl ⟨by rfl, ?_⟩) ?_ ?_
                     rotate_left
                     ·
                      intro w'
                      go_simp
                      with_reducible rfl
                     rotate_left
                     ·
                      simp only [Act.put, sT, s0, sS, i64_w, i32_w]
                      rfl
                     refine pure_ (i := 6) (N := some 50) (v := ?_) (a' := ?_) #[true, true, true, true, false, true, true, false, false, false, false, false] rfl rfl (any_of HT_.out (by kernel_rfl)) (fun _ _ _ h => h) (Or.inl ⟨by rfl, ?_⟩) ?_ ?_
                     rotate_left
                     ·
                      intro w'
                      go_simp
                      with_reducible rfl
                     rotate_left
                     ·
                      simp only [Act.put, sT, s0, sS, i64_w, i32_w]
                      rfl
                     refine pure_ (i := 7) (N := some 51) (v := ?_) (a' := ?_) #[true, true, true, true, false, true, true, true, false, false, false, false] rfl rfl (any_of HT_.out (by kernel_rfl)) (fun _ _ _ h => h) (Or.inl ⟨by rfl, ?_⟩) ?_ ?_
                     rotate_left
                     ·
                      intro w'
                      go_simp
                      with_reducible rfl
                     rotate_left
                     ·
                      simp only [Act.put, sT, s0, sS, i64_w, i32_w]
                      rfl
                     refine pure_ (i := 8) (N := some 52) (v := ?_) (a' := ?_) #[true, true, true, true, false, true, true, true, true, false, false, false] rfl rfl (any_of HT_.out (by kernel_rfl)) (fun _ _ _ h => h) (Or.inl ⟨by rfl, ?_⟩) ?_ ?_
                     rotate_left
                     ·
                      intro w'
                      go_simp
                      with_reducible rfl
                     rotate_left
                     ·
                      simp only [Act.put, sT, s0, sS, i64_w, i32_w]
                      rfl
                     refine take_ (i := 4) (N := some 48) (v := ?_) (a' := ?_) #[true, true, true, true, true, true, true, true, true, false, false, false] rfl rfl (take_ofW HT_.out HW_.out (by kernel_rfl)) (fun _ _ _ h => h) (Or.inl ⟨by rfl, ?_⟩) hHeld ?_ ?_
                     rotate_left
                     ·
                      rintro w' ⟨s0, s1, s2, s3, s4, s5⟩
                      go_simp
                      with_reducible rfl
                     rotate_left
                     ·
                      simp only [Act.put, sT, s0, sS, i64_w, i32_w]
                      rfl
                     refine take_ (i := 9) (N := some 53) (v := ?_) (a' := ?_) #[true, true, true, true, true, true, true, true, true, true, false, false] rfl rfl (take_ofW HT_.out HW_.out (by kernel_rfl)) (fun _ _ _ h => h) (Or.inl ⟨by rfl, ?_⟩) hHeld ?_ ?_
                     rotate_left
                     ·
                      rintro w' ⟨s0, s1, s2, s3, s4, s5⟩
                      go_simp
                      with_reducible rfl
                     rotate_left
                     ·
                      simp only [Act.put, sT, s0, sS, i64_w, i32_w]
                      rfl
                     refine pure_ (i := 10) (N := some 54) (v := ?_) (a' := ?_) #[true, true, true, true, true, true, true, true, true, true, true, false] rfl rfl (any_of HT_.out (by kernel_rfl)) (fun _ _ _ h => h) (Or.inl ⟨by rfl, ?_⟩) ?_ ?_
                     rotate_left
                     ·
                      intro w'
                      go_simp
                      with_reducible rfl
                     rotate_left
                     ·
                      simp only [Act.put, sT, s0, sS, i64_w, i32_w]
                      rfl
                     refine pure_ (i := 11) (N := some 10) (v := ?_) (a' := ?_) #[true, true, true, true, true, true, true, true, true, true, true, true] rfl rfl (any_of HT_.out (by kernel_rfl)) (fun _ _ _ h => h) (Or.inl ⟨by rfl, ?_⟩) ?_ ?_
                     rotate_left
                     ·
                      intro w'
                      go_simp
                      with_reducible rfl
                     rotate_left
                     ·
                      simp only [Act.put, sT, s0, sS, i64_w, i32_w]
                      rfl
                     refine done_ (done_of HT_.out (by kernel_rfl)) ?_
                     try go_wp2
                     have n0_ := Aside0.mk (Kd.R_drew HO_7.out)
                     have n1_ := Aside0.mk (below_drew1 HB.out)
                     clear HO_7
                     clear HB
                     have HO_7 := n0_
                     have HB := n1_
                     clear n0_ n1_
                     have p202 : 0 ≤ (x8_2 : Int) := of_decide_eq_true (by with_reducible assumption)
                     have q202 : x8_2 < (l0.length : Int) := of_decide_eq_true (by with_reducible assumption)
                     obtain ⟨ad202, e202, hx202_0, hx202_1, hx202_2⟩ := at_T55 HR0.out x8_2 p202 q202
                     have hw202_2 := hx202_2
                     have hw202_1 := hx202_1
                     have hw202_0 := hx202_0
                     obtain rfl : ad198 = ad202 := (by injection e202)
                     replace hx202_0 := cB HB.out hx202_0
                     replace hx202_1 := cB HB.out hx202_1
                     replace hx202_2 := cB HB.out hx202_2
                     replace p202 := eq_true p202
                     replace q202 := eq_true q202
                     have p203 : 0 ≤ (x9_2 : Int) := of_decide_eq_true (by with_reducible assumption)
                     have q203 : x9_2 < (l1.length : Int) := of_decide_eq_true (by with_reducible assumption)
                     obtain ⟨ad203, e203, hx203_0, hx203_1, hx203_2⟩ := at_T55 HR1.out x9_2 p203 q203
                     have hw203_2 := hx203_2
                     have hw203_1 := hx203_1
                     have hw203_0 := hx203_0
                     obtain rfl : ad199 = ad203 := (by injection e203)
                     replace hx203_0 := cB HB.out hx203_0
                     replace hx203_1 := cB HB.out hx203_1
                     replace hx203_2 := cB HB.out hx203_2
                     replace p203 := eq_true p203
                     replace q203 := eq_true q203
                     have p204 : 0 ≤ (x8_2 : Int) := of_decide_eq_true (by with_reducible assumption)
                     have q204 : x8_2 < (l0.length : Int) := of_decide_eq_true (by with_reducible assumption)
                     obtain ⟨ad204, e204, hx204_0, hx204_1, hx204_2⟩ := at_T55 HR0.out x8_2 p204 q204
                     have hw204_2 := hx204_2
                     have hw204_1 := hx204_1
                     have hw204_0 := hx204_0
                     obtain rfl : ad198 = ad204 := (by injection e204)
                     replace hx204_0 := cB HB.out hx204_0
                     replace hx204_1 := cB HB.out hx204_1
                     replace hx204_2 := cB HB.out hx204_2
                     replace p204 := eq_true p204
                     replace q204 := eq_true q204
                     have p205 : 0 ≤ (x9_2 : Int) := of_decide_eq_true (by with_reducible assumption)
                     have q205 : x9_2 < (l1.length : Int) := of_decide_eq_true (by with_reducible assumption)
                     obtain ⟨ad205, e205, hx205_0, hx205_1, hx205_2⟩ := at_T55 HR1.out x9_2 p205 q205
                     have hw205_2 := hx205_2
                     have hw205_1 := hx205_1
                     have hw205_0 := hx205_0
                     obtain rfl : ad199 = ad205 := (by injection e205)
                     replace hx205_0 := cB HB.out hx205_0
                     replace hx205_1 := cB HB.out hx205_1
                     replace hx205_2 := cB HB.out hx205_2
                     replace p205 := eq_true p205
                     replace q205 := eq_true q205
                     refine start_ (n := 28) (S := fun w' => w'.cell? (ad198.add ((x8_2).toNat * 3)) = some (.int .i64 ((rd_T55 l0 x8_2).f0)) ∧ w'.cell? ⟨(ad198.add ((x8_2).toNat * 3)).block, (ad198.add ((x8_2).toNat * 3)).off + 1, none⟩ = some (.int .i64 ((rd_T55 l0 x8_2).f1)) ∧ w'.cell? ⟨(ad198.add ((x8_2).toNat * 3)).block, (ad198.add ((x8_2).toNat * 3)).off + 2, none⟩ = some (.int .i64 ((rd_T55 l0 x8_2).f2)) ∧ w'.cell? (ad199.add ((x9_2).toNat * 3)) = some (.int .i64 ((rd_T55 l1 x9_2).f0)) ∧ w'.cell? ⟨(ad199.add ((x9_2).toNat * 3)).block, (ad199.add ((x9_2).toNat * 3)).off + 1, none⟩ = some (.int .i64 ((rd_T55 l1 x9_2).f1)) ∧ w'.cell? ⟨(ad199.add ((x9_2).toNat * 3)).block, (ad199.add ((x9_2).toNat * 3)).off + 2, none⟩ = some (.int .i64 ((rd_T55 l1 x9_2).f2)) ∧ w'.cell? (ad198.add ((x8_2).toNat * 3)) = some (.int .i64 ((rd_T55 l0 x8_2).f0)) ∧ w'.cell? ⟨(ad198.add ((x8_2).toNat * 3)).block, (ad198.add ((x8_2).toNat * 3)).off + 1, none⟩ = some (.int .i64 ((rd_T55 l0 x8_2).f1)) ∧ w'.cell? ⟨(ad198.add ((x8_2).toNat * 3)).block, (ad198.add ((x8_2).toNat * 3)).off + 2, none⟩ = some (.int .i64 ((rd_T55 l0 x8_2).f2)) ∧ w'.cell? (ad199.add ((x9_2).toNat * 3)) = some (.int .i64 ((rd_T55 l1 x9_2).f0)) ∧ w'.cell? ⟨(ad199.add ((x9_2).toNat * 3)).block, (ad199.add ((x9_2).toNat * 3)).off + 1, none⟩ = some (.int .i64 ((rd_T55 l1 x9_2).f1)) ∧ w'.cell? ⟨(ad199.add ((x9_2).toNat * 3)).block, (ad199.add ((x9_2).toNat * 3)).off + 2, none⟩ = some (.int .i64 ((rd_T55 l1 x9_2).f2))) (ds := []) #[false, false, false, false, false, false, false, false, false, false, false, false, false, false, false, false, false, false, false, false, false, false, false, false, false, false, false, false] (by kernel_rfl) rfl rfl ⟨((HB.out.cell (World.block_lt_of_cell? _ _ hw202_0)).trans hw202_0), ((HB.out.cell (World.block_lt_of_cell? _ _ hw202_1)).trans hw202_1), ((HB.out.cell (World.block_lt_of_cell? _ _ hw202_2)).trans hw202_2), ((HB.out.cell (World.block_lt_of_cell? _ _ hw203_0)).trans hw203_0), ((HB.out.cell (World.block_lt_of_cell? _ _ hw203_1)).trans hw203_1), ((HB.out.cell (World.block_lt_of_cell? _ _ hw203_2)).trans hw203_2), ((HB.out.cell (World.block_lt_of_cell? _ _ hw204_0)).trans hw204_0), ((HB.out.cell (World.block_lt_of_cell? _ _ hw204_1)).trans hw204_1), ((HB.out.cell (World.block_lt_of_cell? _ _ hw204_2)).trans hw204_2), ((HB.out.cell (World.block_lt_of_cell? _ _ hw205_0)).trans hw205_0), ((HB.out.cell (World.block_lt_of_cell? _ _ hw205_1)).trans hw205_1), ((HB.out.cell (World.block_lt_of_cell? _ _ hw205_2)).trans hw205_2)⟩ (fun hHeld => ?_); refine with_tabW impl_JoinProfiles.tab9 impl_JoinProfiles.bits9 (fun HT_ HW_ => ?_)
                     generalize w38.drew = w39 at HO_7 HB hx202_0 hx202_1 hx202_2 hx203_0 hx203_1 hx203_2 hx204_0 hx204_1 hx204_2 hx205_0 hx205_1 hx205_2 hHeld ⊢
                     refine pure_ (i := 0) (N := some 58) (v := ?_) (a' := ?_) #[true, false, false, false, false, false, false, false, false, false, false, false, false, false, false, false, false, false, false, false, false, false, false, false, false, false, false, false] rfl rfl (any_of HT_.out (by kernel_rfl)) (fun _ _ _ h => h) (Or.inl ⟨by rfl, ?_⟩) ?_ ?_
                     rotate_left
                     ·
                      intro w'
                      go_simp
                      with_reducible rfl
                     rotate_left
                     ·
                      simp only [Act.put, sT, s0, sS, i64_w, i32_w]
                      rfl
                     refine pure_ (i := 1) (N := some 59) (v := ?_) (a' := ?_) #[true, true, false, false, false, false, false, false, false, false, false, false, false, false, false, false, false, false, false, false, false, false, false, false, false, false, false, false] rfl rfl (any_of HT_.out (by kernel_rfl)) (fun _ _ _ h => h) (Or.inl ⟨by rfl, ?_⟩) ?_ ?_
                     rotate_left
                     ·
                      intro w'
                      go_simp
                      with_reducible rfl
                     rotate_left
                     ·
                      simp only [Act.put, sT, s0, sS, i64_w, i32_w]
                      rfl
                     refine pure_ (i := 2) (N := some 60) (v := ?_) (a' := ?_) #[true, true, true, false, false, false, false, false, false, false, false, false, false, false, false, false, false, false, false, false, false, false, false, false, false, false, false, false] rfl rfl (any_of HT_.out (by kernel_rfl)) (fun _ _ _ h => h) (Or.inl ⟨by rfl, ?_⟩) ?_ ?_
                     rotate_left
                     ·
                      intro w'
                      go_simp
                      with_reducible rfl
                     rotate_left
                     ·
                      simp only [Act.put, sT, s0, sS, i64_w, i32_w]
                      rfl
                     refine pure_ (i := 3) (N := some 61) (v := ?_) (a' := ?_) #[true, true, true, true, false, false, false, false, false, false, false, false, false, false, false, false, false, false, false, false, false, false, false, false, false, false, false, false] rfl rfl (any_of HT_.out (by kernel_rfl)) (fun _ _ _ h => h) (Or.inl ⟨by rfl, ?_⟩) ?_ ?_
                     rotate_left
                     ·
                      intro w'
                      go_simp
                      with_reducible rfl
                     rotate_left
                     ·
                      simp only [Act.put, sT, s0, sS, i64_w, i32_w]
                      rfl
                     refine pure_ (i := 4) (N := some 62) (v := ?_) (a' := ?_) #[true, true, true, true, true, false, false, false, false, false, false, false, false, false, false, false, false, false, false, false, false, false, false, false, false, false, false, false] rfl rfl (any_of HT_.out (by kernel_rfl)) (fun _ _ _ h => h) (Or.inl ⟨by rfl, ?_⟩) ?_ ?_
                     rotate_left
                     ·
                      intro w'
                      go_simp
                      with_reducible rfl
                     rotate_left
                     ·
                      simp only [Act.put, sT, s0, sS, i64_w, i32_w]
                      rfl
                     refine pure_ (i := 5) (N := some 63) (v := ?_) (a' := ?_) #[true, true, true, true, true, true, false, false, false, false, false, false, false, false, false, false, false, false, false, false, false, false, false, false, false, false, false, false] rfl rfl (any_of HT_.out (by kernel_rfl)) (fun _ _ _ h => h) (Or.inl ⟨by rfl, ?_⟩) ?_ ?_
                     rotate_left
                     ·
                      intro w'
                      go_simp
                      with_reducible rfl
                     rotate_left
                     ·
                      simp only [Act.put, sT, s0, sS, i64_w, i32_w]
                      rfl
                     refine pure_ (i := 7) (N := some 65) (v := ?_) (a' := ?_) #[true, true, true, true, true, true, false, true, false, false, false, false, false, false, false, false, false, false, false, false, false, false, false, false, false, false, false, false] rfl rfl (any_of HT_.out (by kernel_rfl)) (fun _ _ _ h => h) (Or.inl ⟨by rfl, ?_⟩) ?_ ?_
                     rotate_left
                     ·
                      intro w'
                      go_simp
                      with_reducible rfl
                     rotate_left
                     ·
                      simp only [Act.put, sT, s0, sS, i64_w, i32_w]
                      rfl
                     refine pure_ (i := 8) (N := some 66) (v := ?_) (a' := ?_) #[true, true, true, true, true, true, false, true, true, false, false, false, false, false, false, false, false, false, false, false, false, false, false, false, false, false, false, false] rfl rfl (any_of HT_.out (by kernel_rfl)) (fun _ _ _ h => h) (Or.inl ⟨by rfl, ?_⟩) ?_ ?_
                     rotate_left
                     ·
                      intro w'
                      go_simp
                      with_reducible rfl
                     rotate_left
                     ·
                      simp only [Act.put, sT, s0, sS, i64_w, i32_w]
                      rfl
                     refine pure_ (i := 9) (N := some 67) (v := ?_) (a' := ?_) #[true, true, true, true, true, true, false, true, true, true, false, false, false, false, false, false, false, false, false, false, false, false, false, false, false, false, false, false] rfl rfl (any_of HT_.out (by kernel_rfl)) (fun _ _ _ h => h) (Or.inl ⟨by rfl, ?_⟩) ?_ ?_
                     rotate_left
                     ·
                      intro w'
                      go_simp
                      with_reducible rfl
                     rotate_left
                     ·
                      simp only [Act.put, sT, s0, sS, i64_w, i32_w]
                      rfl
                     refine pure_ (i := 10) (N := some 68) (v := ?_) (a' := ?_) #[true, true, true, true, true, true, false, true, true, true, true, false, false, false, false, false, false, false, false, false, false, false, false, false, false, false, false, false] rfl rfl (any_of HT_.out (by kernel_rfl)) (fun _ _ _ h => h) (Or.inl ⟨by rfl, ?_⟩) ?_ ?_
                     rotate_left
                     ·
                      intro w'
                      go_simp
                      with_reducible rfl
                     rotate_left
                     ·
                      simp only [Act.put, sT, s0, sS, i64_w, i32_w]
                      rfl
                     refine pure_ (i := 13) (N := some 71) (v := ?_) (a' := ?_) #[true, true, true, true, true, true, false, true, true, true, true, false, false, true, false, false, false, false, false, false, false, false, false, false, false, false, false, false] rfl rfl (any_of HT_.out (by kernel_rfl)) (fun _ _ _ h => h) (Or.inl ⟨by rfl, ?_⟩) ?_ ?_
                     rotate_left
                     ·
                      intro w'
                      go_simp
                      with_reducible rfl
                     rotate_left
                     ·
                      simp only [Act.put, sT, s0, sS, i64_w, i32_w]
                      rfl
                     refine pure_ (i := 14) (N := some 72) (v := ?_) (a' := ?_) #[true, true, true, true, true, true, false, true, true, true, true, false, false, true, true, false, false, false, false, false, false, false, false, false, false, false, false, false] rfl rfl (any_of HT_.out (by kernel_rfl)) (fun _ _ _ h => h) (Or.inl ⟨by rfl, ?_⟩) ?_ ?_
                     rotate_left
                     ·
                      intro w'
                      go_simp
                      with_reducible rfl
                     rotate_left
                     ·
                      simp only [Act.put, sT, s0, sS, i64_w, i32_w]
                      rfl
                     refine pure_ (i := 15) (N := some 73) (v := ?_) (a' := ?_) #[true, true, true, true, true, true, false, true, true, true, true, false, false, true, true, true, false, false, false, false, false, false, false, false, false, false, false, false] rfl rfl (any_of HT_.out (by kernel_rfl)) (fun _ _ _ h => h) (Or.inl ⟨by rfl, ?_⟩) ?_ ?_
                     rotate_left
                     ·
                      intro w'
                      go_simp
                      with_reducible rfl
                     rotate_left
                     ·
                      simp only [Act.put, sT, s0, sS, i64_w, i32_w]
                      rfl
                     refine pure_ (i := 16) (N := some 74) (v := ?_) (a' := ?_) #[true, true, true, true, true, true, false, true, true, true, true, false, false, true, true, true, true, false, false, false, false, false, false, false, false, false, false, false] rfl rfl (any_of HT_.out (by kernel_rfl)) (fun _ _ _ h => h) (Or.inl ⟨by rfl, ?_⟩) ?_ ?_
                     rotate_left
                     ·
                      intro w'
                      go_simp
                      with_reducible rfl
                     rotate_left
                     ·
                      simp only [Act.put, sT, s0, sS, i64_w, i32_w]
                      rfl
                     refine pure_ (i := 18) (N := some 76) (v := ?_) (a' := ?_) #[true, true, true, true, true, true, false, true, true, true, true, false, false, true, true, true, true, false, true, false, false, false, false, false, false, false, false, false] rfl rfl (any_of HT_.out (by kernel_rfl)) (fun _ _ _ h => h) (Or.inl ⟨by rfl, ?_⟩) ?_ ?_
                     rotate_left
                     ·
                      intro w'
                      go_simp
                      with_reducible rfl
                     rotate_left
                     ·
                      simp only [Act.put, sT, s0, sS, i64_w, i32_w]
                      rfl
                     refine pure_ (i := 19) (N := some 77) (v := ?_) (a' := ?_) #[true, true, true, true, true, true, false, true, true, true, true, false, false, true, true, true, true, false, true, true, false, false, false, false, false, false, false, false] rfl rfl (any_of HT_.out (by kernel_rfl)) (fun _ _ _ h => h) (Or.inl ⟨by rfl, ?_⟩) ?_ ?_
                     rotate_left
                     ·
                      intro w'
                      go_simp
                      with_reducible rfl
                     rotate_left
                     ·
                      simp only [Act.put, sT, s0, sS, i64_w, i32_w]
                      rfl
                     refine pure_ (i := 20) (N := some 78) (v := ?_) (a' := ?_) #[true, true, true, true, true, true, false, true, true, true, true, false, false, true, true, true, true, false, true, true, true, false, false, false, false, false, false, false] rfl rfl (any_of HT_.out (by kernel_rfl)) (fun _ _ _ h => h) (Or.inl ⟨by rfl, ?_⟩) ?_ ?_
                     rotate_left
                     ·
                      intro w'
                      go_simp
                      with_reducible rfl
                     rotate_left
                     ·
                      simp only [Act.put, sT, s0, sS, i64_w, i32_w]
                      rfl
                     refine pure_ (i := 21) (N := some 79) (v := ?_) (a' := ?_) #[true, true, true, true, true, true, false, true, true, true, true, false, false, true, true, true, true, false, true, true, true, true, false, false, false, false, false, false] rfl rfl (any_of HT_.out (by kernel_rfl)) (fun _ _ _ h => h) (Or.inl ⟨by rfl, ?_⟩) ?_ ?_
                     rotate_left
                     ·
                      intro w'
                      go_simp
                      with_reducible rfl
                     rotate_left
                     ·
                      simp only [Act.put, sT, s0, sS, i64_w, i32_w]
                      rfl
                     refine take_ (i := 6) (N := some 64) (v := ?_) (a' := ?_) #[true, true, true, true, true, true, true, true, true, true, true, false, false, true, true, true, true, false, true, true, true, true, false, false, false, false, false, false] rfl rfl (take_ofW HT_.out HW_.out (by kernel_rfl)) (fun _ _ _ h => h) (Or.inl ⟨by rfl, ?_⟩) hHeld ?_ ?_
                     rotate_left
                     ·
                      rintro w' ⟨s0, s1, s2, s3, s4, s5, s6, s7, s8, s9, s10, s11⟩
                      go_simp
                      with_reducible rfl
                     rotate_left
                     ·
                      simp only [Act.put, sT, s0, sS, i64_w, i32_w]
                      rfl
                     refine take_ (i := 11) (N := some 69) (v := ?_) (a' := ?_) #[true, true, true, true, true, true, true, true, true, true, true, true, false, true, true, true, true, false, true, true, true, true, false, false, false, false, false, false] rfl rfl (take_ofW HT_.out HW_.out (by kernel_rfl)) (fun _ _ _ h => h) (Or.inl ⟨by rfl, ?_⟩) hHeld ?_ ?_
                     rotate_left
                     ·
                      rintro w' ⟨s0, s1, s2, s3, s4, s5, s6, s7, s8, s9, s10, s11⟩
                      go_simp
                      with_reducible rfl
                     rotate_left
                     ·
                      simp only [Act.put, sT, s0, sS, i64_w, i32_w]
                      rfl
                     refine pure_ (i := 12) (N := some 70) (v := ?_) (a' := ?_) #[true, true, true, true, true, true, true, true, true, true, true, true, true, true, true, true, true, false, true, true, true, true, false, false, false, false, false, false] rfl rfl (any_of HT_.out (by kernel_rfl)) (fun _ _ _ h => h) (Or.inl ⟨by rfl, ?_⟩) ?_ ?_
                     rotate_left
                     ·
                      intro w'
                      go_simp
                      with_reducible rfl
                     rotate_left
                     ·
                      simp only [Act.put, sT, s0, sS, i64_w, i32_w]
                      rfl
                     refine take_ (i := 17) (N := some 75) (v := ?_) (a' := ?_) #[true, true, true, true, true, true, true, true, true, true, true, true, true, true, true, true, true, true, true, true, true, true, false, false, false, false, false, false] rfl rfl (take_ofW HT_.out HW_.out (by kernel_rfl)) (fun _ _ _ h => h) (Or.inl ⟨by rfl, ?_⟩) hHeld ?_ ?_
                     rotate_left
                     ·
                      rintro w' ⟨s0, s1, s2, s3, s4, s5, s6, s7, s8, s9, s10, s11⟩
                      go_simp
                      with_reducible rfl
                     rotate_left
                     ·
                      simp only [Act.put, sT, s0, sS, i64_w, i32_w]
                      rfl
                     refine take_ (i := 22) (N := some 80) (v := ?_) (a' := ?_) #[true, true, true, true, true, true, true, true, true, true, true, true, true, true, true, true, true, true, true, true, true, true, true, false, false, false, false, false] rfl rfl (take_ofW HT_.out HW_.out (by kernel_rfl)) (fun _ _ _ h => h) (Or.inl ⟨by rfl, ?_⟩) hHeld ?_ ?_
                     rotate_left
                     ·
                      rintro w' ⟨s0, s1, s2, s3, s4, s5, s6, s7, s8, s9, s10, s11⟩
                      go_simp
                      with_reducible rfl
                     rotate_left
                     ·
                      simp only [Act.put, sT, s0, sS, i64_w, i32_w]
                      rfl
                     refine pure_ (i := 23) (N := some 81) (v := ?_) (a' := ?_) #[true, true, true, true, true, true, true, true, true, true, true, true, true, true, true, true, true, true, true, true, true, true, true, true, false, false, false, false] rfl rfl (any_of HT_.out (by kernel_rfl)) (fun _ _ _ h => h) (Or.inl ⟨by rfl, ?_⟩) ?_ ?_
                     rotate_left
                     ·
                      intro w'
                      go_simp
                      with_reducible rfl
                     rotate_left
                     ·
                      simp only [Act.put, sT, s0, sS, i64_w, i32_w]
                      rfl
                     refine pure_ (i := 24) (N := some 82) (v := ?_) (a' := ?_) #[true, true, true, true, true, true, true, true, true, true, true, true, true, true, true, true, true, true, true, true, true, true, true, true, true, false, false, false] rfl rfl (any_of HT_.out (by kernel_rfl)) (fun _ _ _ h => h) (Or.inl ⟨by rfl, ?_⟩) ?_ ?_
                     rotate_left
                     ·
                      intro w'
                      go_simp
                      with_reducible rfl
                     rotate_left
                     ·
                      simp only [Act.put, sT, s0, sS, i64_w, i32_w]
                      rfl
                     refine one_ (i := 25) (N := some 83) #[true, true, true, true, true, true, true, true, true, true, true, true, true, true, true, true, true, true, true, true, true, true, true, true, true, true, false, false] rfl rfl (one_of HT_.out (by kernel_rfl)) (by decide) (fun K hK => ?_)
                     refine value_ (w1 := ?_) (v := ?_) (by rfl) rfl ?_ ?_
                     rotate_left 2
                     ·
                      go_simp
                      constructor
                      ·
                       rfl
                      ·
                       rfl
                     refine hK.out _ _ ⟨(World.cell?_alloc_lt _ _ _ (World.block_lt_of_cell? _ _ (((HB.out.cell (World.block_lt_of_cell? _ _ hw202_0)).trans hw202_0)))).trans (((HB.out.cell (World.block_lt_of_cell? _ _ hw202_0)).trans hw202_0)), (World.cell?_alloc_lt _ _ _ (World.block_lt_of_cell? _ _ (((HB.out.cell (World.block_lt_of_cell? _ _ hw202_1)).trans hw202_1)))).trans (((HB.out.cell (World.block_lt_of_cell? _ _ hw202_1)).trans hw202_1)), (World.cell?_alloc_lt _ _ _ (World.block_lt_of_cell? _ _ (((HB.out.cell (World.block_lt_of_cell? _ _ hw202_2)).trans hw202_2)))).trans (((HB.out.cell (World.block_lt_of_cell? _ _ hw202_2)).trans hw202_2)), (World.cell?_alloc_lt _ _ _ (World.block_lt_of_cell? _ _ (((HB.out.cell (World.block_lt_of_cell? _ _ hw203_0)).trans hw203_0)))).trans (((HB.out.cell (World.block_lt_of_cell? _ _ hw203_0)).trans hw203_0)), (World.cell?_alloc_lt _ _ _ (World.block_lt_of_cell? _ _ (((HB.out.cell (World.block_lt_of_cell? _ _ hw203_1)).trans hw203_1)))).trans (((HB.out.cell (World.block_lt_of_cell? _ _ hw203_1)).trans hw203_1)), (World.cell?_alloc_lt _ _ _ (World.block_lt_of_cell? _ _ (((HB.out.cell (World.block_lt_of_cell? _ _ hw203_2)).trans hw203_2)))).trans (((HB.out.cell (World.block_lt_of_cell? _ _ hw203_2)).trans hw203_2)), (World.cell?_alloc_lt _ _ _ (World.block_lt_of_cell? _ _ (((HB.out.cell (World.block_lt_of_cell? _ _ hw204_0)).trans hw204_0)))).trans (((HB.out.cell (World.block_lt_of_cell? _ _ hw204_0)).trans hw204_0)), (World.cell?_alloc_lt _ _ _ (World.block_lt_of_cell? _ _ (((HB.out.cell (World.block_lt_of_cell? _ _ hw204_1)).trans hw204_1)))).trans (((HB.out.cell (World.block_lt_of_cell? _ _ hw204_1)).trans hw204_1)), (World.cell?_alloc_lt _ _ _ (World.block_lt_of_cell? _ _ (((HB.out.cell (World.block_lt_of_cell? _ _ hw204_2)).trans hw204_2)))).trans (((HB.out.cell (World.block_lt_of_cell? _ _ hw204_2)).trans hw204_2)), (World.cell?_alloc_lt _ _ _ (World.block_lt_of_cell? _ _ (((HB.out.cell (World.block_lt_of_cell? _ _ hw205_0)).trans hw205_0)))).trans (((HB.out.cell (World.block_lt_of_cell? _ _ hw205_0)).trans hw205_0)), (World.cell?_alloc_lt _ _ _ (World.block_lt_of_cell? _ _ (((HB.out.cell (World.block_lt_of_cell? _ _ hw205_1)).trans hw205_1)))).trans (((HB.out.cell (World.block_lt_of_cell? _ _ hw205_1)).trans hw205_1)), (World.cell?_alloc_lt _ _ _ (World.block_lt_of_cell? _ _ (((HB.out.cell (World.block_lt_of_cell? _ _ hw205_2)).trans hw205_2)))).trans (((HB.out.cell (World.block_lt_of_cell? _ _ hw205_2)).trans hw205_2))⟩ (fun hHeld => ?_)
                     clear hK K
                     refine norm_ (a' := ?_) ?_ ?_
                     rotate_left
                     ·
                      show Act.put _ (some 83) _ = _
                      simp only [Act.put, sT, s0, sS, i64_w, i32_w]
                      rfl
                     refine one_ (i := 26) (N := some 84) #[true, true, true, true, true, true, true, true, true, true, true, true, true, true, true, true, true, true, true, true, true, true, true, true, true, true, true, false] rfl rfl (one_of HT_.out (by kernel_rfl)) (by decide) (fun K hK => ?_)
                     refine Kd.R_append_step k55 (w0 := w) w.heap.size (by rfl) (.tmp 58) (.tmp 83) 25 55 (.agg #[(.int .i64 0), (.int .i64 0), (.int .i64 0)]) 24 rfl Try.underlying25 info55 rfl (by decide) (by omega) u7 x7_2 (⟨ji26, ji33, ji34⟩ : S55) [.int .i64 ji26, .int .i64 ji33, .int .i64 ji34] (fun _ => True) (fun _ => False) rfl rfl ?aP (fun _ hk => hk.elim) ?aF ?aO ?aB ?aS ?aL ?_
                     (case aP => exact k55_mkM _ _ _ (⟨ji26, ji33, ji34⟩ : S55))
                     (case aB => exact (by repeat (first | (with_reducible first | exact HB.out | apply lA | apply lN | apply lD) | exact HB.out)))
                     (case aF => exact (fun _ _ => trivial))
                     (case aO => exact (by (with_reducible repeat (first | apply rA | apply rN | apply rD)); exact HO_7.out))
                     (case aS => exact (below_size (by repeat (first | (with_reducible first | exact HB.out | apply lA | apply lN | apply lD) | exact HB.out))))
                     (case aL => have := LMc35.out; omega)
                     intro v207 w40 ho hb hg hat
                     rw [← Ny206.out] at ho
                     have n0_ := Aside0.mk (hb)
                     have n1_ := Aside0.mk (ho)
                     clear HB
                     clear HO_7
                     have HB := n0_
                     have HO208 := n1_
                     clear n0_ n1_
                     clear ho hb hg hat
                     refine hK.out _ _ ⟨((HB.out.cell (World.block_lt_of_cell? _ _ hw202_0)).trans hw202_0), ((HB.out.cell (World.block_lt_of_cell? _ _ hw202_1)).trans hw202_1), ((HB.out.cell (World.block_lt_of_cell? _ _ hw202_2)).trans hw202_2), ((HB.out.cell (World.block_lt_of_cell? _ _ hw203_0)).trans hw203_0), ((HB.out.cell (World.block_lt_of_cell? _ _ hw203_1)).trans hw203_1), ((HB.out.cell (World.block_lt_of_cell? _ _ hw203_2)).trans hw203_2), ((HB.out.cell (World.block_lt_of_cell? _ _ hw204_0)).trans hw204_0), ((HB.out.cell (World.block_lt_of_cell? _ _ hw204_1)).trans hw204_1), ((HB.out.cell (World.block_lt_of_cell? _ _ hw204_2)).trans hw204_2), ((HB.out.cell (World.block_lt_of_cell? _ _ hw205_0)).trans hw205_0), ((HB.out.cell (World.block_lt_of_cell? _ _ hw205_1)).trans hw205_1), ((HB.out.cell (World.block_lt_of_cell? _ _ hw205_2)).trans hw205_2)⟩ (fun hHeld => ?_)
                     clear hK K
                     refine norm_ (a' := ?_) ?_ ?_
                     rotate_left
                     ·
                      show Act.put _ (some 84) _ = _
                      simp only [Act.put, sT, s0, sS, i64_w, i32_w]
                      rfl
                     refine pure_ (i := 27) (N := some 7) (v := ?_) (a' := ?_) #[true, true, true, true, true, true, true, true, true, true, true, true, true, true, true, true, true, true, true, true, true, true, true, true, true, true, true, true] rfl rfl (any_of HT_.out (by kernel_rfl)) (fun _ _ _ h => h) (Or.inl ⟨by rfl, ?_⟩) ?_ ?_
                     rotate_left
                     ·
                      intro w'
                      go_simp
                      with_reducible rfl
                     rotate_left
                     ·
                      simp only [Act.put, sT, s0, sS, i64_w, i32_w]
                      rfl
                     refine done_ (done_of HT_.out (by kernel_rfl)) ?_
                     have p209 : 0 ≤ (x8_2 : Int) := of_decide_eq_true (by with_reducible assumption)
                     have q209 : x8_2 < (l0.length : Int) := of_decide_eq_true (by with_reducible assumption)
                     obtain ⟨ad209, e209, hx209_0, hx209_1, hx209_2⟩ := at_T55 HR0.out x8_2 p209 q209
                     obtain rfl : ad198 = ad209 := (by injection e209)
                     replace hx209_0 := cB HB.out hx209_0
                     replace hx209_1 := cB HB.out hx209_1
                     replace hx209_2 := cB HB.out hx209_2
                     replace p209 := eq_true p209
                     replace q209 := eq_true q209
                     have p210 : 0 ≤ (x9_2 : Int) := of_decide_eq_true (by with_reducible assumption)
                     have q210 : x9_2 < (l1.length : Int) := of_decide_eq_true (by with_reducible assumption)
                     obtain ⟨ad210, e210, hx210_0, hx210_1, hx210_2⟩ := at_T55 HR1.out x9_2 p210 q210
                     obtain rfl : ad199 = ad210 := (by injection e210)
                     replace hx210_0 := cB HB.out hx210_0
                     replace hx210_1 := cB HB.out hx210_1
                     replace hx210_2 := cB HB.out hx210_2
                     replace p210 := eq_true p210
                     replace q210 := eq_true q210
                     try go_wp2
                     go_roundg kj18
                     case measure => have := HJ2.out; have := HK2.out; have := HJ18.out; omega
                     case rel => exact ⟨(y206), (wrap64 (x8_2 + 1)), (wrap64 (x9_2 + 1)), (by first | rfl | (simp; done) | (simp [*]; done)), (by first | rfl | (simp; done) | (simp [*]; done)), (by first | exact H' | (simp only [hji11, hji14, hji17, hji26, hji33, hji34]; exact H') | (have H2_ := H'; simp only [← hji11, ← hji14, ← hji17, ← hji26, ← hji33, ← hji34] at H2_; exact H2_)), ⟨by have := HJ2.out; have := HK2.out; have := HJ18.out; omega⟩, ⟨by (with_reducible repeat (first | apply rA | apply rN | apply rD)); exact HO208.out⟩, ⟨by repeat (first | (with_reducible first | exact HB.out | apply lA | apply lN | apply lD) | exact HB.out)⟩⟩
                    ·
                     rw [if_neg c37] at H
                     have c37b0 : (((rd_T55 l1 x9_2).f0) == (ji26)) = false := beq_eq_false_iff_ne.mpr c37
                     have c37b1 : (((rd_T55 l1 x9_2).f0) != (ji26)) = true := bne_iff_ne.mpr c37
                     have H' := Aside0.mk H
                     clear H
                     try go_wp2
                     have n0_ := Aside0.mk (Kd.R_drew HO_7.out)
                     have n1_ := Aside0.mk (below_drew1 HB.out)
                     clear HO_7
                     clear HB
                     have HO_7 := n0_
                     have HB := n1_
                     clear n0_ n1_
                     have p200 : 0 ≤ (x8_2 : Int) := of_decide_eq_true (by with_reducible assumption)
                     have q200 : x8_2 < (l0.length : Int) := of_decide_eq_true (by with_reducible assumption)
                     obtain ⟨ad200, e200, hx200_0, hx200_1, hx200_2⟩ := at_T55 HR0.out x8_2 p200 q200
                     have hw200_2 := hx200_2
                     have hw200_1 := hx200_1
                     have hw200_0 := hx200_0
                     obtain rfl : ad198 = ad200 := (by injection e200)
                     replace hx200_0 := cB HB.out hx200_0
                     replace hx200_1 := cB HB.out hx200_1
                     replace hx200_2 := cB HB.out hx200_2
                     replace p200 := eq_true p200
                     replace q200 := eq_true q200
                     have p201 : 0 ≤ (x9_2 : Int) := of_decide_eq_true (by with_reducible assumption)
                     have q201 : x9_2 < (l1.length : Int) := of_decide_eq_true (by with_reducible assumption)
                     obtain ⟨ad201, e201, hx201_0, hx201_1, hx201_2⟩ := at_T55 HR1.out x9_2 p201 q201
                     have hw201_2 := hx201_2
                     have hw201_1 := hx201_1
                     have hw201_0 := hx201_0
                     obtain rfl : ad199 = ad201 := (by injection e201)
                     replace hx201_0 := cB HB.out hx201_0
                     replace hx201_1 := cB HB.out hx201_1
                     replace hx201_2 := cB HB.out hx201_2
                     replace p201 := eq_true p201
                     replace q201 := eq_true q201
                     refine start_ (n := 12) (S := fun w' => w'.cell? (ad198.add ((x8_2).toNat * 3)) = some (.int .i64 ((rd_T55 l0 x8_2).f0)) ∧ w'.cell? ⟨(ad198.add ((x8_2).toNat * 3)).block, (ad198.add ((x8_2).toNat * 3)).off + 1, none⟩ = some (.int .i64 ((rd_T55 l0 x8_2).f1)) ∧ w'.cell? ⟨(ad198.add ((x8_2).toNat * 3)).block, (ad198.add ((x8_2).toNat * 3)).off + 2, none⟩ = some (.int .i64 ((rd_T55 l0 x8_2).f2)) ∧ w'.cell? (ad199.add ((x9_2).toNat * 3)) = some (.int .i64 ((rd_T55 l1 x9_2).f0)) ∧ w'.cell? ⟨(ad199.add ((x9_2).toNat * 3)).block, (ad199.add ((x9_2).toNat * 3)).off + 1, none⟩ = some (.int .i64 ((rd_T55 l1 x9_2).f1)) ∧ w'.cell? ⟨(ad199.add ((x9_2).toNat * 3)).block, (ad199.add ((x9_2).toNat * 3)).off + 2, none⟩ = some (.int .i64 ((rd_T55 l1 x9_2).f2))) (ds := []) #[false, false, false, false, false, false, false, false, false, false, false, false] (by kernel_rfl) rfl rfl ⟨((HB.out.cell (World.block_lt_of_cell? _ _ hw200_0)).trans hw200_0), ((HB.out.cell (World.block_lt_of_cell? _ _ hw200_1)).trans hw200_1), ((HB.out.cell (World.block_lt_of_cell? _ _ hw200_2)).trans hw200_2), ((HB.out.cell (World.block_lt_of_cell? _ _ hw201_0)).trans hw201_0), ((HB.out.cell (World.block_lt_of_cell? _ _ hw201_1)).trans hw201_1), ((HB.out.cell (World.block_lt_of_cell? _ _ hw201_2)).trans hw201_2)⟩ (fun hHeld => ?_); refine with_tabW impl_JoinProfiles.tab7 impl_JoinProfiles.bits7 (fun HT_ HW_ => ?_)
                     generalize wc.drew = w41 at HO_7 HB hx200_0 hx200_1 hx200_2 hx201_0 hx201_1 hx201_2 hHeld ⊢
                     refine pure_ (i := 0) (N := some 44) (v := ?_) (a' := ?_) #[true, false, false, false, false, false, false, false, false, false, false, false] rfl rfl (any_of HT_.out (by kernel_rfl)) (fun _ _ _ h => h) (Or.inl ⟨by rfl, ?_⟩) ?_ ?_
                     rotate_left
                     ·
                      intro w'
                      go_simp
                      with_reducible rfl
                     rotate_left
                     ·
                      simp only [Act.put, sT, s0, sS, i64_w, i32_w]
                      rfl
                     refine pure_ (i := 1) (N := some 45) (v := ?_) (a' := ?_) #[true, true, false, false, false, false, false, false, false, false, false, false] rfl rfl (any_of HT_.out (by kernel_rfl)) (fun _ _ _ h => h) (Or.inl ⟨by rfl, ?_⟩) ?_ ?_
                     rotate_left
                     ·
                      intro w'
                      go_simp
                      with_reducible rfl
                     rotate_left
                     ·
                      simp only [Act.put, sT, s0, sS, i64_w, i32_w]
                      rfl
                     refine pure_ (i := 2) (N := some 46) (v := ?_) (a' := ?_) #[true, true, true, false, false, false, false, false, false, false, false, false] rfl rfl (any_of HT_.out (by kernel_rfl)) (fun _ _ _ h => h) (Or.inl ⟨by rfl, ?_⟩) ?_ ?_
                     rotate_left
                     ·
                      intro w'
                      go_simp
                      with_reducible rfl
                     rotate_left
                     ·
                      simp only [Act.put, sT, s0, sS, i64_w, i32_w]
                      rfl
                     refine pure_ (i := 3) (N := some 47) (v := ?_) (a' := ?_) #[true, true, true, true, false, false, false, false, false, false, false, false] rfl rfl (any_of HT_.out (by kernel_rfl)) (fun _ _ _ h => h) (Or.inl ⟨by rfl, ?_⟩) ?_ ?_
                     rotate_left
                     ·
                      intro w'
                      go_simp
                      with_reducible rfl
                     rotate_left
                     ·
                      simp only [Act.put, sT, s0, sS, i64_w, i32_w]
                      rfl
                     refine pure_ (i := 5) (N := some 49) (v := ?_) (a' := ?_) #[true, true, true, true, false, true, false, false, false, false, false, false] rfl rfl (any_of HT_.out (by kernel_rfl)) (fun _ _ _ h => h) (Or.inl ⟨by rfl, ?_⟩) ?_ ?_
                     rotate_left
                     ·
                      intro w'
                      go_simp
                      with_reducible rfl
                     rotate_left
                     ·
                      simp only [Act.put, sT, s0, sS, i64_w, i32_w]
                      rfl
                     refine pure_ (i := 6) (N := some 50) (v := ?_) (a' := ?_) #[true, true, true, true, false, true, true, false, false, false, false, false] rfl rfl (any_of HT_.out (by kernel_rfl)) (fun _ _ _ h => h) (Or.inl ⟨by rfl, ?_⟩) ?_ ?_
                     rotate_left
                     ·
                      intro w'
                      go_simp
                      with_reducible rfl
                     rotate_left
                     ·
                      simp only [Act.put, sT, s0, sS, i64_w, i32_w]
                      rfl
                     refine pure_ (i := 7) (N := some 51) (v := ?_) (a' := ?_) #[true, true, true, true, false, true, true, true, false, false, false, false] rfl rfl (any_of HT_.out (by kernel_rfl)) (fun _ _ _ h => h) (Or.inl ⟨by rfl, ?_⟩) ?_ ?_
                     rotate_left
                     ·
                      intro w'
                      go_simp
                      with_reducible rfl
                     rotate_left
                     ·
                      simp only [Act.put, sT, s0, sS, i64_w, i32_w]
                      rfl
                     refine pure_ (i := 8) (N := some 52) (v := ?_) (a' := ?_) #[true, true, true, true, false, true, true, true, true, false, false, false] rfl rfl (any_of HT_.out (by kernel_rfl)) (fun _ _ _ h => h) (Or.inl ⟨by rfl, ?_⟩) ?_ ?_
                     rotate_left
                     ·
                      intro w'
                      go_simp
                      with_reducible rfl
                     rotate_left
                     ·
                      simp only [Act.put, sT, s0, sS, i64_w, i32_w]
                      rfl
                     refine take_ (i := 4) (N := some 48) (v := ?_) (a' := ?_) #[true, true, true, true, true, true, true, true, true, false, false, false] rfl rfl (take_ofW HT_.out HW_.out (by kernel_rfl)) (fun _ _ _ h => h) (Or.inl ⟨by rfl, ?_⟩) hHeld ?_ ?_
                     rotate_left
                     ·
                      rintro w' ⟨s0, s1, s2, s3, s4, s5⟩
                      go_simp
                      with_reducible rfl
                     rotate_left
                     ·
                      simp only [Act.put, sT, s0, sS, i64_w, i32_w]
                      rfl
                     refine take_ (i := 9) (N := some 53) (v := ?_) (a' := ?_) #[true, true, true, true, true, true, true, true, true, true, false, false] rfl rfl (take_ofW HT_.out HW_.out (by kernel_rfl)) (fun _ _ _ h => h) (Or.inl ⟨by rfl, ?_⟩) hHeld ?_ ?_
                     rotate_left
                     ·
                      rintro w' ⟨s0, s1, s2, s3, s4, s5⟩
                      go_simp
                      with_reducible rfl
                     rotate_left
                     ·
                      simp only [Act.put, sT, s0, sS, i64_w, i32_w]
                      rfl
                     refine pure_ (i := 10) (N := some 54) (v := ?_) (a' := ?_) #[true, true, true, true, true, true, true, true, true, true, true, false] rfl rfl (any_of HT_.out (by kernel_rfl)) (fun _ _ _ h => h) (Or.inl ⟨by rfl, ?_⟩) ?_ ?_
                     rotate_left
                     ·
                      intro w'
                      go_simp
                      with_reducible rfl
                     rotate_left
                     ·
                      simp only [Act.put, sT, s0, sS, i64_w, i32_w]
                      rfl
                     refine pure_ (i := 11) (N := some 10) (v := ?_) (a' := ?_) #[true, true, true, true, true, true, true, true, true, true, true, true] rfl rfl (any_of HT_.out (by kernel_rfl)) (fun _ _ _ h => h) (Or.inl ⟨by rfl, ?_⟩) ?_ ?_
                     rotate_left
                     ·
                      intro w'
                      go_simp
                      with_reducible rfl
                     rotate_left
                     ·
                      simp only [Act.put, sT, s0, sS, i64_w, i32_w]
                      rfl
                     refine done_ (done_of HT_.out (by kernel_rfl)) ?_
                     try go_wp2
                     have n0_ := Aside0.mk (Kd.R_drew HO_7.out)
                     have n1_ := Aside0.mk (below_drew1 HB.out)
                     clear HO_7
                     clear HB
                     have HO_7 := n0_
                     have HB := n1_
                     clear n0_ n1_
                     have p202 : 0 ≤ (x8_2 : Int) := of_decide_eq_true (by with_reducible assumption)
                     have q202 : x8_2 < (l0.length : Int) := of_decide_eq_true (by with_reducible assumption)
                     obtain ⟨ad202, e202, hx202_0, hx202_1, hx202_2⟩ := at_T55 HR0.out x8_2 p202 q202
                     have hw202_2 := hx202_2
                     have hw202_1 := hx202_1
                     have hw202_0 := hx202_0
                     obtain rfl : ad198 = ad202 := (by injection e202)
                     replace hx202_0 := cB HB.out hx202_0
                     replace hx202_1 := cB HB.out hx202_1
                     replace hx202_2 := cB HB.out hx202_2
                     replace p202 := eq_true p202
                     replace q202 := eq_true q202
                     have p203 : 0 ≤ (x9_2 : Int) := of_decide_eq_true (by with_reducible assumption)
                     have q203 : x9_2 < (l1.length : Int) := of_decide_eq_true (by with_reducible assumption)
                     obtain ⟨ad203, e203, hx203_0, hx203_1, hx203_2⟩ := at_T55 HR1.out x9_2 p203 q203
                     have hw203_2 := hx203_2
                     have hw203_1 := hx203_1
                     have hw203_0 := hx203_0
                     obtain rfl : ad199 = ad203 := (by injection e203)
                     replace hx203_0 := cB HB.out hx203_0
                     replace hx203_1 := cB HB.out hx203_1
                     replace hx203_2 := cB HB.out hx203_2
                     replace p203 := eq_true p203
                     replace q203 := eq_true q203
                     have p204 : 0 ≤ (x8_2 : Int) := of_decide_eq_true (by with_reducible assumption)
                     have q204 : x8_2 < (l0.length : Int) := of_decide_eq_true (by with_reducible assumption)
                     obtain ⟨ad204, e204, hx204_0, hx204_1, hx204_2⟩ := at_T55 HR0.out x8_2 p204 q204
                     have hw204_2 := hx204_2
                     have hw204_1 := hx204_1
                     have hw204_0 := hx204_0
                     obtain rfl : ad198 = ad204 := (by injection e204)
                     replace hx204_0 := cB HB.out hx204_0
                     replace hx204_1 := cB HB.out hx204_1
                     replace hx204_2 := cB HB.out hx204_2
                     replace p204 := eq_true p204
                     replace q204 := eq_true q204
                     have p205 : 0 ≤ (x9_2 : Int) := of_decide_eq_true (by with_reducible assumption)
                     have q205 : x9_2 < (l1.length : Int) := of_decide_eq_true (by with_reducible assumption)
                     obtain ⟨ad205, e205, hx205_0, hx205_1, hx205_2⟩ := at_T55 HR1.out x9_2 p205 q205
                     have hw205_2 := hx205_2
                     have hw205_1 := hx205_1
                     have hw205_0 := hx205_0
                     obtain rfl : ad199 = ad205 := (by injection e205)
                     replace hx205_0 := cB HB.out hx205_0
                     replace hx205_1 := cB HB.out hx205_1
                     replace hx205_2 := cB HB.out hx205_2
                     replace p205 := eq_true p205
                     replace q205 := eq_true q205
                     refine start_ (n := 28) (S := fun w' => w'.cell? (ad198.add ((x8_2).toNat * 3)) = some (.int .i64 ((rd_T55 l0 x8_2).f0)) ∧ w'.cell? ⟨(ad198.add ((x8_2).toNat * 3)).block, (ad198.add ((x8_2).toNat * 3)).off + 1, none⟩ = some (.int .i64 ((rd_T55 l0 x8_2).f1)) ∧ w'.cell? ⟨(ad198.add ((x8_2).toNat * 3)).block, (ad198.add ((x8_2).toNat * 3)).off + 2, none⟩ = some (.int .i64 ((rd_T55 l0 x8_2).f2)) ∧ w'.cell? (ad199.add ((x9_2).toNat * 3)) = some (.int .i64 ((rd_T55 l1 x9_2).f0)) ∧ w'.cell? ⟨(ad199.add ((x9_2).toNat * 3)).block, (ad199.add ((x9_2).toNat * 3)).off + 1, none⟩ = some (.int .i64 ((rd_T55 l1 x9_2).f1)) ∧ w'.cell? ⟨(ad199.add ((x9_2).toNat * 3)).block, (ad199.add ((x9_2).toNat * 3)).off + 2, none⟩ = some (.int .i64 ((rd_T55 l1 x9_2).f2)) ∧ w'.cell? (ad198.add ((x8_2).toNat * 3)) = some (.int .i64 ((rd_T55 l0 x8_2).f0)) ∧ w'.cell? ⟨(ad198.add ((x8_2).toNat * 3)).block, (ad198.add ((x8_2).toNat * 3)).off + 1, none⟩ = some (.int .i64 ((rd_T55 l0 x8_2).f1)) ∧ w'.cell? ⟨(ad198.add ((x8_2).toNat * 3)).block, (ad198.add ((x8_2).toNat * 3)).off + 2, none⟩ = some (.int .i64 ((rd_T55 l0 x8_2).f2)) ∧ w'.cell? (ad199.add ((x9_2).toNat * 3)) = some (.int .i64 ((rd_T55 l1 x9_2).f0)) ∧ w'.cell? ⟨(ad199.add ((x9_2).toNat * 3)).block, (ad199.add ((x9_2).toNat * 3)).off + 1, none⟩ = some (.int .i64 ((rd_T55 l1 x9_2).f1)) ∧ w'.cell? ⟨(ad199.add ((x9_2).toNat * 3)).block, (ad199.add ((x9_2).toNat * 3)).off + 2, none⟩ = some (.int .i64 ((rd_T55 l1 x9_2).f2))) (ds := []) #[false, false, false, false, false, false, false, false, false, false, false, false, false, false, false, false, false, false, false, false, false, false, false, false, false, false, false, false] (by kernel_rfl) rfl rfl ⟨((HB.out.cell (World.block_lt_of_cell? _ _ hw202_0)).trans hw202_0), ((HB.out.cell (World.block_lt_of_cell? _ _ hw202_1)).trans hw202_1), ((HB.out.cell (World.block_lt_of_cell? _ _ hw202_2)).trans hw202_2), ((HB.out.cell (World.block_lt_of_cell? _ _ hw203_0)).trans hw203_0), ((HB.out.cell (World.block_lt_of_cell? _ _ hw203_1)).trans hw203_1), ((HB.out.cell (World.block_lt_of_cell? _ _ hw203_2)).trans hw203_2), ((HB.out.cell (World.block_lt_of_cell? _ _ hw204_0)).trans hw204_0), ((HB.out.cell (World.block_lt_of_cell? _ _ hw204_1)).trans hw204_1), ((HB.out.cell (World.block_lt_of_cell? _ _ hw204_2)).trans hw204_2), ((HB.out.cell (World.block_lt_of_cell? _ _ hw205_0)).trans hw205_0), ((HB.out.cell (World.block_lt_of_cell? _ _ hw205_1)).trans hw205_1), ((HB.out.cell (World.block_lt_of_cell? _ _ hw205_2)).trans hw205_2)⟩ (fun hHeld => ?_); refine with_tabW impl_JoinProfiles.tab9 impl_JoinProfiles.bits9 (fun HT_ HW_ => ?_)
                     generalize w41.drew = w42 at HO_7 HB hx202_0 hx202_1 hx202_2 hx203_0 hx203_1 hx203_2 hx204_0 hx204_1 hx204_2 hx205_0 hx205_1 hx205_2 hHeld ⊢
                     refine pure_ (i := 0) (N := some 58) (v := ?_) (a' := ?_) #[true, false, false, false, false, false, false, false, false, false, false, false, false, false, false, false, false, false, false, false, false, false, false, false, false, false, false, false] rfl rfl (any_of HT_.out (by kernel_rfl)) (fun _ _ _ h => h) (Or.inl ⟨by rfl, ?_⟩) ?_ ?_
                     rotate_left
                     ·
                      intro w'
                      go_simp
                      with_reducible rfl
                     rotate_left
                     ·
                      simp only [Act.put, sT, s0, sS, i64_w, i32_w]
                      rfl
                     refine pure_ (i := 1) (N := some 59) (v := ?_) (a' := ?_) #[true, true, false, false, false, false, false, false, false, false, false, false, false, false, false, false, false, false, false, false, false, false, false, false, false, false, false, false] rfl rfl (any_of HT_.out (by kernel_rfl)) (fun _ _ _ h => h) (Or.inl ⟨by rfl, ?_⟩) ?_ ?_
                     rotate_left
                     ·
                      intro w'
                      go_simp
                      with_reducible rfl
                     rotate_left
                     ·
                      simp only [Act.put, sT, s0, sS, i64_w, i32_w]
                      rfl
                     refine pure_ (i := 2) (N := some 60) (v := ?_) (a' := ?_) #[true, true, true, false, false, false, false, false, false, false, false, false, false, false, false, false, false, false, false, false, false, false, false, false, false, false, false, false] rfl rfl (any_of HT_.out (by kernel_rfl)) (fun _ _ _ h => h) (Or.inl ⟨by rfl, ?_⟩) ?_ ?_
                     rotate_left
                     ·
                      intro w'
                      go_simp
                      with_reducible rfl
                     rotate_left
                     ·
                      simp only [Act.put, sT, s0, sS, i64_w, i32_w]
                      rfl
                     refine pure_ (i := 3) (N := some 61) (v := ?_) (a' := ?_) #[true, true, true, true, false, false, false, false, false, false, false, false, false, false, false, false, false, false, false, false, false, false, false, false, false, false, false, false] rfl rfl (any_of HT_.out (by kernel_rfl)) (fun _ _ _ h => h) (Or.inl ⟨by rfl, ?_⟩) ?_ ?_
                     rotate_left
                     ·
                      intro w'
                      go_simp
                      with_reducible rfl
                     rotate_left
                     ·
                      simp only [Act.put, sT, s0, sS, i64_w, i32_w]
                      rfl
                     refine pure_ (i := 4) (N := some 62) (v := ?_) (a' := ?_) #[true, true, true, true, true, false, false, false, false, false, false, false, false, false, false, false, false, false, false, false, false, false, false, false, false, false, false, false] rfl rfl (any_of HT_.out (by kernel_rfl)) (fun _ _ _ h => h) (Or.inl ⟨by rfl, ?_⟩) ?_ ?_
                     rotate_left
                     ·
                      intro w'
                      go_simp
                      with_reducible rfl
                     rotate_left
                     ·
                      simp only [Act.put, sT, s0, sS, i64_w, i32_w]
                      rfl
                     refine pure_ (i := 5) (N := some 63) (v := ?_) (a' := ?_) #[true, true, true, true, true, true, false, false, false, false, false, false, false, false, false, false, false, false, false, false, false, false, false, false, false, false, false, false] rfl rfl (any_of HT_.out (by kernel_rfl)) (fun _ _ _ h => h) (Or.inl ⟨by rfl, ?_⟩) ?_ ?_
                     rotate_left
                     ·
                      intro w'
                      go_simp
                      with_reducible rfl
                     rotate_left
                     ·
                      simp only [Act.put, sT, s0, sS, i64_w, i32_w]
                      rfl
                     refine pure_ (i := 7) (N := some 65) (v := ?_) (a' := ?_) #[true, true, true, true, true, true, false, true, false, false, false, false, false, false, false, false, false, false, false, false, false, false, false, false, false, false, false, false] rfl rfl (any_of HT_.out (by kernel_rfl)) (fun _ _ _ h => h) (Or.inl ⟨by rfl, ?_⟩) ?_ ?_
                     rotate_left
                     ·
                      intro w'
                      go_simp
                      with_reducible rfl
                     rotate_left
                     ·
                      simp only [Act.put, sT, s0, sS, i64_w, i32_w]
                      rfl
                     refine pure_ (i := 8) (N := some 66) (v := ?_) (a' := ?_) #[true, true, true, true, true, true, false, true, true, false, false, false, false, false, false, false, false, false, false, false, false, false, false, false, false, false, false, false] rfl rfl (any_of HT_.out (by kernel_rfl)) (fun _ _ _ h => h) (Or.inl ⟨by rfl, ?_⟩) ?_ ?_
                     rotate_left
                     ·
                      intro w'
                      go_simp
                      with_reducible rfl
                     rotate_left
                     ·
                      simp only [Act.put, sT, s0, sS, i64_w, i32_w]
                      rfl
                     refine pure_ (i := 9) (N := some 67) (v := ?_) (a' := ?_) #[true, true, true, true, true, true, false, true, true, true, false, false, false, false, false, false, false, false, false, false, false, false, false, false, false, false, false, false] rfl rfl (any_of HT_.out (by kernel_rfl)) (fun _ _ _ h => h) (Or.inl ⟨by rfl, ?_⟩) ?_ ?_
                     rotate_left
                     ·
                      intro w'
                      go_simp
                      with_reducible rfl
                     rotate_left
                     ·
                      simp only [Act.put, sT, s0, sS, i64_w, i32_w]
                      rfl
                     refine pure_ (i := 10) (N := some 68) (v := ?_) (a' := ?_) #[true, true, true, true, true, true, false, true, true, true, true, false, false, false, false, false, false, false, false, false, false, false, false, false, false, false, false, false] rfl rfl (any_of HT_.out (by kernel_rfl)) (fun _ _ _ h => h) (Or.inl ⟨by rfl, ?_⟩) ?_ ?_
                     rotate_left
                     ·
                      intro w'
                      go_simp
                      with_reducible rfl
                     rotate_left
                     ·
                      simp only [Act.put, sT, s0, sS, i64_w, i32_w]
                      rfl
                     refine pure_ (i := 13) (N := some 71) (v := ?_) (a' := ?_) #[true, true, true, true, true, true, false, true, true, true, true, false, false, true, false, false, false, false, false, false, false, false, false, false, false, false, false, false] rfl rfl (any_of HT_.out (by kernel_rfl)) (fun _ _ _ h => h) (Or.inl ⟨by rfl, ?_⟩) ?_ ?_
                     rotate_left
                     ·
                      intro w'
                      go_simp
                      with_reducible rfl
                     rotate_left
                     ·
                      simp only [Act.put, sT, s0, sS, i64_w, i32_w]
                      rfl
                     refine pure_ (i := 14) (N := some 72) (v := ?_) (a' := ?_) #[true, true, true, true, true, true, false, true, true, true, true, false, false, true, true, false, false, false, false, false, false, false, false, false, false, false, false, false] rfl rfl (any_of HT_.out (by kernel_rfl)) (fun _ _ _ h => h) (Or.inl ⟨by rfl, ?_⟩) ?_ ?_
                     rotate_left
                     ·
                      intro w'
                      go_simp
                      with_reducible rfl
                     rotate_left
                     ·
                      simp only [Act.put, sT, s0, sS, i64_w, i32_w]
                      rfl
                     refine pure_ (i := 15) (N := some 73) (v := ?_) (a' := ?_) #[true, true, true, true, true, true, false, true, true, true, true, false, false, true, true, true, false, false, false, false, false, false, false, false, false, false, false, false] rfl rfl (any_of HT_.out (by kernel_rfl)) (fun _ _ _ h => h) (Or.inl ⟨by rfl, ?_⟩) ?_ ?_
                     rotate_left
                     ·
                      intro w'
                      go_simp
                      with_reducible rfl
                     rotate_left
                     ·
                      simp only [Act.put, sT, s0, sS, i64_w, i32_w]
                      rfl
                     refine pure_ (i := 16) (N := some 74) (v := ?_) (a' := ?_) #[true, true, true, true, true, true, false, true, true, true, true, false, false, true, true, true, true, false, false, false, false, false, false, false, false, false, false, false] rfl rfl (any_of HT_.out (by kernel_rfl)) (fun _ _ _ h => h) (Or.inl ⟨by rfl, ?_⟩) ?_ ?_
                     rotate_left
                     ·
                      intro w'
                      go_simp
                      with_reducible rfl
                     rotate_left
                     ·
                      simp only [Act.put, sT, s0, sS, i64_w, i32_w]
                      rfl
                     refine pure_ (i := 18) (N := some 76) (v := ?_) (a' := ?_) #[true, true, true, true, true, true, false, true, true, true, true, false, false, true, true, true, true, false, true, false, false, false, false, false, false, false, false, false] rfl rfl (any_of HT_.out (by kernel_rfl)) (fun _ _ _ h => h) (Or.inl ⟨by rfl, ?_⟩) ?_ ?_
                     rotate_left
                     ·
                      intro w'
                      go_simp
                      with_reducible rfl
                     rotate_left
                     ·
                      simp only [Act.put, sT, s0, sS, i64_w, i32_w]
                      rfl
                     refine pure_ (i := 19) (N := some 77) (v := ?_) (a' := ?_) #[true, true, true, true, true, true, false, true, true, true, true, false, false, true, true, true, true, false, true, true, false, false, false, false, false, false, false, false] rfl rfl (any_of HT_.out (by kernel_rfl)) (fun _ _ _ h => h) (Or.inl ⟨by rfl, ?_⟩) ?_ ?_
                     rotate_left
                     ·
                      intro w'
                      go_simp
                      with_reducible rfl
                     rotate_left
                     ·
                      simp only [Act.put, sT, s0, sS, i64_w, i32_w]
                      rfl
                     refine pure_ (i := 20) (N := some 78) (v := ?_) (a' := ?_) #[true, true, true, true, true, true, false, true, true, true, true, false, false, true, true, true, true, false, true, true, true, false, false, false, false, false, false, false] rfl rfl (any_of HT_.out (by kernel_rfl)) (fun _ _ _ h => h) (Or.inl ⟨by rfl, ?_⟩) ?_ ?_
                     rotate_left
                     ·
                      intro w'
                      go_simp
                      with_reducible rfl
                     rotate_left
                     ·
                      simp only [Act.put, sT, s0, sS, i64_w, i32_w]
                      rfl
                     refine pure_ (i := 21) (N := some 79) (v := ?_) (a' := ?_) #[true, true, true, true, true, true, false, true, true, true, true, false, false, true, true, true, true, false, true, true, true, true, false, false, false, false, false, false] rfl rfl (any_of HT_.out (by kernel_rfl)) (fun _ _ _ h => h) (Or.inl ⟨by rfl, ?_⟩) ?_ ?_
                     rotate_left
                     ·
                      intro w'
                      go_simp
                      with_reducible rfl
                     rotate_left
                     ·
                      simp only [Act.put, sT, s0, sS, i64_w, i32_w]
                      rfl
                     refine take_ (i := 6) (N := some 64) (v := ?_) (a' := ?_) #[true, true, true, true, true, true, true, true, true, true, true, false, false, true, true, true, true, false, true, true, true, true, false, false, false, false, false, false] rfl rfl (take_ofW HT_.out HW_.out (by kernel_rfl)) (fun _ _ _ h => h) (Or.inl ⟨by rfl, ?_⟩) hHeld ?_ ?_
                     rotate_left
                     ·
                      rintro w' ⟨s0, s1, s2, s3, s4, s5, s6, s7, s8, s9, s10, s11⟩
                      go_simp
                      with_reducible rfl
                     rotate_left
                     ·
                      simp only [Act.put, sT, s0, sS, i64_w, i32_w]
                      rfl
                     refine take_ (i := 11) (N := some 69) (v := ?_) (a' := ?_) #[true, true, true, true, true, true, true, true, true, true, true, true, false, true, true, true, true, false, true, true, true, true, false, false, false, false, false, false] rfl rfl (take_ofW HT_.out HW_.out (by kernel_rfl)) (fun _ _ _ h => h) (Or.inl ⟨by rfl, ?_⟩) hHeld ?_ ?_
                     rotate_left
                     ·
                      rintro w' ⟨s0, s1, s2, s3, s4, s5, s6, s7, s8, s9, s10, s11⟩
                      go_simp
                      with_reducible rfl
                     rotate_left
                     ·
                      simp only [Act.put, sT, s0, sS, i64_w, i32_w]
                      rfl
                     refine pure_ (i := 12) (N := some 70) (v := ?_) (a' := ?_) #[true, true, true, true, true, true, true, true, true, true, true, true, true, true, true, true, true, false, true, true, true, true, false, false, false, false, false, false] rfl rfl (any_of HT_.out (by kernel_rfl)) (fun _ _ _ h => h) (Or.inl ⟨by rfl, ?_⟩) ?_ ?_
                     rotate_left
                     ·
                      intro w'
                      go_simp
                      with_reducible rfl
                     rotate_left
                     ·
                      simp only [Act.put, sT, s0, sS, i64_w, i32_w]
                      rfl
                     refine take_ (i := 17) (N := some 75) (v := ?_) (a' := ?_) #[true, true, true, true, true, true, true, true, true, true, true, true, true, true, true, true, true, true, true, true, true, true, false, false, false, false, false, false] rfl rfl (take_ofW HT_.out HW_.out (by kernel_rfl)) (fun _ _ _ h => h) (Or.inl ⟨by rfl, ?_⟩) hHeld ?_ ?_
                     rotate_left
                     ·
                      rintro w' ⟨s0, s1, s2, s3, s4, s5, s6, s7, s8, s9, s10, s11⟩
                      go_simp
                      with_reducible rfl
                     rotate_left
                     ·
                      simp only [Act.put, sT, s0, sS, i64_w, i32_w]
                      rfl
                     refine take_ (i := 22) (N := some 80) (v := ?_) (a' := ?_) #[true, true, true, true, true, true, true, true, true, true, true, true, true, true, true, true, true, true, true, true, true, true, true, false, false, false, false, false] rfl rfl (take_ofW HT_.out HW_.out (by kernel_rfl)) (fun _ _ _ h => h) (Or.inl ⟨by rfl, ?_⟩) hHeld ?_ ?_
                     rotate_left
                     ·
                      rintro w' ⟨s0, s1, s2, s3, s4, s5, s6, s7, s8, s9, s10, s11⟩
                      go_simp
                      with_reducible rfl
                     rotate_left
                     ·
                      simp only [Act.put, sT, s0, sS, i64_w, i32_w]
                      rfl
                     refine pure_ (i := 23) (N := some 81) (v := ?_) (a' := ?_) #[true, true, true, true, true, true, true, true, true, true, true, true, true, true, true, true, true, true, true, true, true, true, true, true, false, false, false, false] rfl rfl (any_of HT_.out (by kernel_rfl)) (fun _ _ _ h => h) (Or.inl ⟨by rfl, ?_⟩) ?_ ?_
                     rotate_left
                     ·
                      intro w'
                      go_simp
                      with_reducible rfl
                     rotate_left
                     ·
                      simp only [Act.put, sT, s0, sS, i64_w, i32_w]
                      rfl
                     refine pure_ (i := 24) (N := some 82) (v := ?_) (a' := ?_) #[true, true, true, true, true, true, true, true, true, true, true, true, true, true, true, true, true, true, true, true, true, true, true, true, true, false, false, false] rfl rfl (any_of HT_.out (by kernel_rfl)) (fun _ _ _ h => h) (Or.inl ⟨by rfl, ?_⟩) ?_ ?_
                     rotate_left
                     ·
                      intro w'
                      go_simp
                      with_reducible rfl
                     rotate_left
                     ·
                      simp only [Act.put, sT, s0, sS, i64_w, i32_w]
                      rfl
                     refine one_ (i := 25) (N := some 83) #[true, true, true, true, true, true, true, true, true, true, true, true, true, true, true, true, true, true, true, true, true, true, true, true, true, true, false, false] rfl rfl (one_of HT_.out (by kernel_rfl)) (by decide) (fun K hK => ?_)
                     refine value_ (w1 := ?_) (v := ?_) (by rfl) rfl ?_ ?_
                     rotate_left 2
                     ·
                      go_simp
                      constructor
                      ·
                       rfl
                      ·
                       rfl
                     refine hK.out _ _ ⟨(World.cell?_alloc_lt _ _ _ (World.block_lt_of_cell? _ _ (((HB.out.cell (World.block_lt_of_cell? _ _ hw202_0)).trans hw202_0)))).trans (((HB.out.cell (World.block_lt_of_cell? _ _ hw202_0)).trans hw202_0)), (World.cell?_alloc_lt _ _ _ (World.block_lt_of_cell? _ _ (((HB.out.cell (World.block_lt_of_cell? _ _ hw202_1)).trans hw202_1)))).trans (((HB.out.cell (World.block_lt_of_cell? _ _ hw202_1)).trans hw202_1)), (World.cell?_alloc_lt _ _ _ (World.block_lt_of_cell? _ _ (((HB.out.cell (World.block_lt_of_cell? _ _ hw202_2)).trans hw202_2)))).trans (((HB.out.cell (World.block_lt_of_cell? _ _ hw202_2)).trans hw202_2)), (World.cell?_alloc_lt _ _ _ (World.block_lt_of_cell? _ _ (((HB.out.cell (World.block_lt_of_cell? _ _ hw203_0)).trans hw203_0)))).trans (((HB.out.cell (World.block_lt_of_cell? _ _ hw203_0)).trans hw203_0)), (World.cell?_alloc_lt _ _ _ (World.block_lt_of_cell? _ _ (((HB.out.cell (World.block_lt_of_cell? _ _ hw203_1)).trans hw203_1)))).trans (((HB.out.cell (World.block_lt_of_cell? _ _ hw203_1)).trans hw203_1)), (World.cell?_alloc_lt _ _ _ (World.block_lt_of_cell? _ _ (((HB.out.cell (World.block_lt_of_cell? _ _ hw203_2)).trans hw203_2)))).trans (((HB.out.cell (World.block_lt_of_cell? _ _ hw203_2)).trans hw203_2)), (World.cell?_alloc_lt _ _ _ (World.block_lt_of_cell? _ _ (((HB.out.cell (World.block_lt_of_cell? _ _ hw204_0)).trans hw204_0)))).trans (((HB.out.cell (World.block_lt_of_cell? _ _ hw204_0)).trans hw204_0)), (World.cell?_alloc_lt _ _ _ (World.block_lt_of_cell? _ _ (((HB.out.cell (World.block_lt_of_cell? _ _ hw204_1)).trans hw204_1)))).trans (((HB.out.cell (World.block_lt_of_cell? _ _ hw204_1)).trans hw204_1)), (World.cell?_alloc_lt _ _ _ (World.block_lt_of_cell? _ _ (((HB.out.cell (World.block_lt_of_cell? _ _ hw204_2)).trans hw204_2)))).trans (((HB.out.cell (World.block_lt_of_cell? _ _ hw204_2)).trans hw204_2)), (World.cell?_alloc_lt _ _ _ (World.block_lt_of_cell? _ _ (((HB.out.cell (World.block_lt_of_cell? _ _ hw205_0)).trans hw205_0)))).trans (((HB.out.cell (World.block_lt_of_cell? _ _ hw205_0)).trans hw205_0)), (World.cell?_alloc_lt _ _ _ (World.block_lt_of_cell? _ _ (((HB.out.cell (World.block_lt_of_cell? _ _ hw205_1)).trans hw205_1)))).trans (((HB.out.cell (World.block_lt_of_cell? _ _ hw205_1)).trans hw205_1)), (World.cell?_alloc_lt _ _ _ (World.block_lt_of_cell? _ _ (((HB.out.cell (World.block_lt_of_cell? _ _ hw205_2)).trans hw205_2)))).trans (((HB.out.cell (World.block_lt_of_cell? _ _ hw205_2)).trans hw205_2))⟩ (fun hHeld => ?_)
                     clear hK K
                     refine norm_ (a' := ?_) ?_ ?_
                     rotate_left
                     ·
                      show Act.put _ (some 83) _ = _
                      simp only [Act.put, sT, s0, sS, i64_w, i32_w]
                      rfl
                     refine one_ (i := 26) (N := some 84) #[true, true, true, true, true, true, true, true, true, true, true, true, true, true, true, true, true, true, true, true, true, true, true, true, true, true, true, false] rfl rfl (one_of HT_.out (by kernel_rfl)) (by decide) (fun K hK => ?_)
                     refine Kd.R_append_step k55 (w0 := w) w.heap.size (by rfl) (.tmp 58) (.tmp 83) 25 55 (.agg #[(.int .i64 0), (.int .i64 0), (.int .i64 0)]) 24 rfl Try.underlying25 info55 rfl (by decide) (by omega) u7 x7_2 (⟨ji26, ji33, ji34⟩ : S55) [.int .i64 ji26, .int .i64 ji33, .int .i64 ji34] (fun _ => True) (fun _ => False) rfl rfl ?aP (fun _ hk => hk.elim) ?aF ?aO ?aB ?aS ?aL ?_
                     (case aP => exact k55_mkM _ _ _ (⟨ji26, ji33, ji34⟩ : S55))
                     (case aB => exact (by repeat (first | (with_reducible first | exact HB.out | apply lA | apply lN | apply lD) | exact HB.out)))
                     (case aF => exact (fun _ _ => trivial))
                     (case aO => exact (by (with_reducible repeat (first | apply rA | apply rN | apply rD)); exact HO_7.out))
                     (case aS => exact (below_size (by repeat (first | (with_reducible first | exact HB.out | apply lA | apply lN | apply lD) | exact HB.out))))
                     (case aL => have := LMc35.out; omega)
                     intro v207 w43 ho hb hg hat
                     rw [← Ny206.out] at ho
                     have n0_ := Aside0.mk (hb)
                     have n1_ := Aside0.mk (ho)
                     clear HB
                     clear HO_7
                     have HB := n0_
                     have HO208 := n1_
                     clear n0_ n1_
                     clear ho hb hg hat
                     refine hK.out _ _ ⟨((HB.out.cell (World.block_lt_of_cell? _ _ hw202_0)).trans hw202_0), ((HB.out.cell (World.block_lt_of_cell? _ _ hw202_1)).trans hw202_1), ((HB.out.cell (World.block_lt_of_cell? _ _ hw202_2)).trans hw202_2), ((HB.out.cell (World.block_lt_of_cell? _ _ hw203_0)).trans hw203_0), ((HB.out.cell (World.block_lt_of_cell? _ _ hw203_1)).trans hw203_1), ((HB.out.cell (World.block_lt_of_cell? _ _ hw203_2)).trans hw203_2), ((HB.out.cell (World.block_lt_of_cell? _ _ hw204_0)).trans hw204_0), ((HB.out.cell (World.block_lt_of_cell? _ _ hw204_1)).trans hw204_1), ((HB.out.cell (World.block_lt_of_cell? _ _ hw204_2)).trans hw204_2), ((HB.out.cell (World.block_lt_of_cell? _ _ hw205_0)).trans hw205_0), ((HB.out.cell (World.block_lt_of_cell? _ _ hw205_1)).trans hw205_1), ((HB.out.cell (World.block_lt_of_cell? _ _ hw205_2)).trans hw205_2)⟩ (fun hHeld => ?_)
                     clear hK K
                     refine norm_ (a' := ?_) ?_ ?_
                     rotate_left
                     ·
                      show Act.put _ (some 84) _ = _
                      simp only [Act.put, sT, s0, sS, i64_w, i32_w]
                      rfl
                     refine pure_ (i := 27) (N := some 7) (v := ?_) (a' := ?_) #[true, true, true, true, true, true, true, true, true, true, true, true, true, true, true, true, true, true, true, true, true, true, true, true, true, true, true, true] rfl rfl (any_of HT_.out (by kernel_rfl)) (fun _ _ _ h => h) (Or.inl ⟨by rfl, ?_⟩) ?_ ?_
                     rotate_left
                     ·
                      intro w'
                      go_simp
                      with_reducible rfl
                     rotate_left
                     ·
                      simp only [Act.put, sT, s0, sS, i64_w, i32_w]
                      rfl
                     refine done_ (done_of HT_.out (by kernel_rfl)) ?_
                     have p209 : 0 ≤ (x8_2 : Int) := of_decide_eq_true (by with_reducible assumption)
                     have q209 : x8_2 < (l0.length : Int) := of_decide_eq_true (by with_reducible assumption)
                     obtain ⟨ad209, e209, hx209_0, hx209_1, hx209_2⟩ := at_T55 HR0.out x8_2 p209 q209
                     obtain rfl : ad198 = ad209 := (by injection e209)
                     replace hx209_0 := cB HB.out hx209_0
                     replace hx209_1 := cB HB.out hx209_1
                     replace hx209_2 := cB HB.out hx209_2
                     replace p209 := eq_true p209
                     replace q209 := eq_true q209
                     have p210 : 0 ≤ (x9_2 : Int) := of_decide_eq_true (by with_reducible assumption)
                     have q210 : x9_2 < (l1.length : Int) := of_decide_eq_true (by with_reducible assumption)
                     obtain ⟨ad210, e210, hx210_0, hx210_1, hx210_2⟩ := at_T55 HR1.out x9_2 p210 q210
                     obtain rfl : ad199 = ad210 := (by injection e210)
                     replace hx210_0 := cB HB.out hx210_0
                     replace hx210_1 := cB HB.out hx210_1
                     replace hx210_2 := cB HB.out hx210_2
                     replace p210 := eq_true p210
                     replace q210 := eq_true q210
                     try go_wp2
                     go_roundg kj18
                     case measure => have := HJ2.out; have := HK2.out; have := HJ18.out; omega
                     case rel => exact ⟨(y206), (wrap64 (x8_2 + 1)), (x9_2), (by first | rfl | (simp; done) | (simp [*]; done)), (by first | rfl | (simp; done) | (simp [*]; done)), (by first | exact H' | (simp only [hji11, hji14, hji17, hji26, hji33, hji34]; exact H') | (have H2_ := H'; simp only [← hji11, ← hji14, ← hji17, ← hji26, ← hji33, ← hji34] at H2_; exact H2_)), ⟨by have := HJ2.out; have := HK2.out; have := HJ18.out; omega⟩, ⟨by (with_reducible repeat (first | apply rA | apply rN | apply rD)); exact HO208.out⟩, ⟨by repeat (first | (with_reducible first | exact HB.out | apply lA | apply lN | apply lD) | exact HB.out)⟩⟩
                   ·
                    rw [if_neg c36] at H
                    have c36b0 : (((rd_T55 l0 x8_2).f0) == (ji26)) = false := beq_eq_false_iff_ne.mpr c36
                    have c36b1 : (((rd_T55 l0 x8_2).f0) != (ji26)) = true := bne_iff_ne.mpr c36
                    by_cases c44 : ((rd_T55 l1 x9_2).f0) = (ji26)
                    ·
                     rw [if_pos c44] at H
                     have c44b0 : (((rd_T55 l1 x9_2).f0) == (ji26)) = true := beq_iff_eq.mpr c44
                     have c44b1 : (((rd_T55 l1 x9_2).f0) != (ji26)) = false := bne_eq_false_iff_eq.mpr c44
                     clear c44
                     have H' := Aside0.mk H
                     clear H
                     try go_wp2
                     have n0_ := Aside0.mk (Kd.R_drew HO_7.out)
                     have n1_ := Aside0.mk (below_drew1 HB.out)
                     clear HO_7
                     clear HB
                     have HO_7 := n0_
                     have HB := n1_
                     clear n0_ n1_
                     have p200 : 0 ≤ (x8_2 : Int) := of_decide_eq_true (by with_reducible assumption)
                     have q200 : x8_2 < (l0.length : Int) := of_decide_eq_true (by with_reducible assumption)
                     obtain ⟨ad200, e200, hx200_0, hx200_1, hx200_2⟩ := at_T55 HR0.out x8_2 p200 q200
                     have hw200_2 := hx200_2
                     have hw200_1 := hx200_1
                     have hw200_0 := hx200_0
                     obtain rfl : ad198 = ad200 := (by injection e200)
                     replace hx200_0 := cB HB.out hx200_0
                     replace hx200_1 := cB HB.out hx200_1
                     replace hx200_2 := cB HB.out hx200_2
                     replace p200 := eq_true p200
                     replace q200 := eq_true q200
                     have p201 : 0 ≤ (x9_2 : Int) := of_decide_eq_true (by with_reducible assumption)
                     have q201 : x9_2 < (l1.length : Int) := of_decide_eq_true (by with_reducible assumption)
                     obtain ⟨ad201, e201, hx201_0, hx201_1, hx201_2⟩ := at_T55 HR1.out x9_2 p201 q201
                     have hw201_2 := hx201_2
                     have hw201_1 := hx201_1
                     have hw201_0 := hx201_0
                     obtain rfl : ad199 = ad201 := (by injection e201)
                     replace hx201_0 := cB HB.out hx201_0
                     replace hx201_1 := cB HB.out hx201_1
                     replace hx201_2 := cB HB.out hx201_2
                     replace p201 := eq_true p201
                     replace q201 := eq_true q201
                     refine start_ (n := 12) (S := fun w' => w'.cell? (ad198.add ((x8_2).toNat * 3)) = some (.int .i64 ((rd_T55 l0 x8_2).f0)) ∧ w'.cell? ⟨(ad198.add ((x8_2).toNat * 3)).block, (ad198.add ((x8_2).toNat * 3)).off + 1, none⟩ = some (.int .i64 ((rd_T55 l0 x8_2).f1)) ∧ w'.cell? ⟨(ad198.add ((x8_2).toNat * 3)).block, (ad198.add ((x8_2).toNat * 3)).off + 2, none⟩ = some (.int .i64 ((rd_T55 l0 x8_2).f2)) ∧ w'.cell? (ad199.add ((x9_2).toNat * 3)) = some (.int .i64 ((rd_T55 l1 x9_2).f0)) ∧ w'.cell? ⟨(ad199.add ((x9_2).toNat * 3)).block, (ad199.add ((x9_2).toNat * 3)).off + 1, none⟩ = some (.int .i64 ((rd_T55 l1 x9_2).f1)) ∧ w'.cell? ⟨(ad199.add ((x9_2).toNat * 3)).block, (ad199.add ((x9_2).toNat * 3)).off + 2, none⟩ = some (.int .i64 ((rd_T55 l1 x9_2).f2))) (ds := []) #[false, false, false, false, false, false, false, false, false, false, false, false] (by kernel_rfl) rfl rfl ⟨((HB.out.cell (World.block_lt_of_cell? _ _ hw200_0)).trans hw200_0), ((HB.out.cell (World.block_lt_of_cell? _ _ hw200_1)).trans hw200_1), ((HB.out.cell (World.block_lt_of_cell? _ _ hw200_2)).trans hw200_2), ((HB.out.cell (World.block_lt_of_cell? _ _ hw201_0)).trans hw201_0), ((HB.out.cell (World.block_lt_of_cell? _ _ hw201_1)).trans hw201_1), ((HB.out.cell (World.block_lt_of_cell? _ _ hw201_2)).trans hw201_2)⟩ (fun hHeld => ?_); refine with_tabW impl_JoinProfiles.tab7 impl_JoinProfiles.bits7 (fun HT_ HW_ => ?_)
                     generalize wc.drew = w45 at HO_7 HB hx200_0 hx200_1 hx200_2 hx201_0 hx201_1 hx201_2 hHeld ⊢
                     refine pure_ (i := 0) (N := some 44) (v := ?_) (a' := ?_) #[true, false, false, false, false, false, false, false, false, false, false, false] rfl rfl (any_of HT_.out (by kernel_rfl)) (fun _ _ _ h => h) (Or.inl ⟨by rfl, ?_⟩) ?_ ?_
                     rotate_left
                     ·
                      intro w'
                      go_simp
                      with_reducible rfl
                     rotate_left
                     ·
                      simp only [Act.put, sT, s0, sS, i64_w, i32_w]
                      rfl
                     refine pure_ (i := 1) (N := some 45) (v := ?_) (a' := ?_) #[true, true, false, false, false, false, false, false, false, false, false, false] rfl rfl (any_of HT_.out (by kernel_rfl)) (fun _ _ _ h => h) (Or.inl ⟨by rfl, ?_⟩) ?_ ?_
                     rotate_left
                     ·
                      intro w'
                      go_simp
                      with_reducible rfl
                     rotate_left
                     ·
                      simp only [Act.put, sT, s0, sS, i64_w, i32_w]
                      rfl
                     refine pure_ (i := 2) (N := some 46) (v := ?_) (a' := ?_) #[true, true, true, false, false, false, false, false, false, false, false, false] rfl rfl (any_of HT_.out (by kernel_rfl)) (fun _ _ _ h => h) (Or.inl ⟨by rfl, ?_⟩) ?_ ?_
                     rotate_left
                     ·
                      intro w'
                      go_simp
                      with_reducible rfl
                     rotate_left
                     ·
                      simp only [Act.put, sT, s0, sS, i64_w, i32_w]
                      rfl
                     refine pure_ (i := 3) (N := some 47) (v := ?_) (a' := ?_) #[true, true, true, true, false, false, false, false, false, false, false, false] rfl rfl (any_of HT_.out (by kernel_rfl)) (fun _ _ _ h => h) (Or.inl ⟨by rfl, ?_⟩) ?_ ?_
                     rotate_left
                     ·
                      intro w'
                      go_simp
                      with_reducible rfl
                     rotate_left
                     ·
                      simp only [Act.put, sT, s0, sS, i64_w, i32_w]
                      rfl
                     refine pure_ (i := 5) (N := some 49) (v := ?_) (a' := ?_) #[true, true, true, true, false, true, false, false, false, false, false, false] rfl rfl (any_of HT_.out (by kernel_rfl)) (fun _ _ _ h => h) (Or.inl ⟨by rfl, ?_⟩) ?_ ?_
                     rotate_left
                     ·
                      intro w'
                      go_simp
                      with_reducible rfl
                     rotate_left
                     ·
                      simp only [Act.put, sT, s0, sS, i64_w, i32_w]
                      rfl
                     refine pure_ (i := 6) (N := some 50) (v := ?_) (a' := ?_) #[true, true, true, true, false, true, true, false, false, false, false, false] rfl rfl (any_of HT_.out (by kernel_rfl)) (fun _ _ _ h => h) (Or.inl ⟨by rfl, ?_⟩) ?_ ?_
                     rotate_left
                     ·
                      intro w'
                      go_simp
                      with_reducible rfl
                     rotate_left
                     ·
                      simp only [Act.put, sT, s0, sS, i64_w, i32_w]
                      rfl
                     refine pure_ (i := 7) (N := some 51) (v := ?_) (a' := ?_) #[true, true, true, true, false, true, true, true, false, false, false, false] rfl rfl (any_of HT_.out (by kernel_rfl)) (fun _ _ _ h => h) (Or.inl ⟨by rfl, ?_⟩) ?_ ?_
                     rotate_left
                     ·
                      intro w'
                      go_simp
                      with_reducible rfl
                     rotate_left
                     ·
                      simp only [Act.put, sT, s0, sS, i64_w, i32_w]
                      rfl
                     refine pure_ (i := 8) (N := some 52) (v := ?_) (a' := ?_) #[true, true, true, true, false, true, true, true, true, false, false, false] rfl rfl (any_of HT_.out (by kernel_rfl)) (fun _ _ _ h => h) (Or.inl ⟨by rfl, ?_⟩) ?_ ?_
                     rotate_left
                     ·
                      intro w'
                      go_simp
                      with_reducible rfl
                     rotate_left
                     ·
                      simp only [Act.put, sT, s0, sS, i64_w, i32_w]
                      rfl
                     refine take_ (i := 4) (N := some 48) (v := ?_) (a' := ?_) #[true, true, true, true, true, true, true, true, true, false, false, false] rfl rfl (take_ofW HT_.out HW_.out (by kernel_rfl)) (fun _ _ _ h => h) (Or.inl ⟨by rfl, ?_⟩) hHeld ?_ ?_
                     rotate_left
                     ·
                      rintro w' ⟨s0, s1, s2, s3, s4, s5⟩
                      go_simp
                      with_reducible rfl
                     rotate_left
                     ·
                      simp only [Act.put, sT, s0, sS, i64_w, i32_w]
                      rfl
                     refine take_ (i := 9) (N := some 53) (v := ?_) (a' := ?_) #[true, true, true, true, true, true, true, true, true, true, false, false] rfl rfl (take_ofW HT_.out HW_.out (by kernel_rfl)) (fun _ _ _ h => h) (Or.inl ⟨by rfl, ?_⟩) hHeld ?_ ?_
                     rotate_left
                     ·
                      rintro w' ⟨s0, s1, s2, s3, s4, s5⟩
                      go_simp
                      with_reducible rfl
                     rotate_left
                     ·
                      simp only [Act.put, sT, s0, sS, i64_w, i32_w]
                      rfl
                     refine pure_ (i := 10) (N := some 54) (v := ?_) (a' := ?_) #[true, true, true, true, true, true, true, true, true, true, true, false] rfl rfl (any_of HT_.out (by kernel_rfl)) (fun _ _ _ h => h) (Or.inl ⟨by rfl, ?_⟩) ?_ ?_
                     rotate_left
                     ·
                      intro w'
                      go_simp
                      with_reducible rfl
                     rotate_left
                     ·
                      simp only [Act.put, sT, s0, sS, i64_w, i32_w]
                      rfl
                     refine pure_ (i := 11) (N := some 10) (v := ?_) (a' := ?_) #[true, true, true, true, true, true, true, true, true, true, true, true] rfl rfl (any_of HT_.out (by kernel_rfl)) (fun _ _ _ h => h) (Or.inl ⟨by rfl, ?_⟩) ?_ ?_
                     rotate_left
                     ·
                      intro w'
                      go_simp
                      with_reducible rfl
                     rotate_left
                     ·
                      simp only [Act.put, sT, s0, sS, i64_w, i32_w]
                      rfl
                     refine done_ (done_of HT_.out (by kernel_rfl)) ?_
                     try go_wp2
                     have n0_ := Aside0.mk (Kd.R_drew HO_7.out)
                     have n1_ := Aside0.mk (below_drew1 HB.out)
                     clear HO_7
                     clear HB
                     have HO_7 := n0_
                     have HB := n1_
                     clear n0_ n1_
                     have p202 : 0 ≤ (x8_2 : Int) := of_decide_eq_true (by with_reducible assumption)
                     have q202 : x8_2 < (l0.length : Int) := of_decide_eq_true (by with_reducible assumption)
                     obtain ⟨ad202, e202, hx202_0, hx202_1, hx202_2⟩ := at_T55 HR0.out x8_2 p202 q202
                     have hw202_2 := hx202_2
                     have hw202_1 := hx202_1
                     have hw202_0 := hx202_0
                     obtain rfl : ad198 = ad202 := (by injection e202)
                     replace hx202_0 := cB HB.out hx202_0
                     replace hx202_1 := cB HB.out hx202_1
                     replace hx202_2 := cB HB.out hx202_2
                     replace p202 := eq_true p202
                     replace q202 := eq_true q202
                     have p203 : 0 ≤ (x9_2 : Int) := of_decide_eq_true (by with_reducible assumption)
                     have q203 : x9_2 < (l1.length : Int) := of_decide_eq_true (by with_reducible assumption)
                     obtain ⟨ad203, e203, hx203_0, hx203_1, hx203_2⟩ := at_T55 HR1.out x9_2 p203 q203
                     have hw203_2 := hx203_2
                     have hw203_1 := hx203_1
                     have hw203_0 := hx203_0
                     obtain rfl : ad199 = ad203 := (by injection e203)
                     replace hx203_0 := cB HB.out hx203_0
                     replace hx203_1 := cB HB.out hx203_1
                     replace hx203_2 := cB HB.out hx203_2
                     replace p203 := eq_true p203
                     replace q203 := eq_true q203
                     have p204 : 0 ≤ (x8_2 : Int) := of_decide_eq_true (by with_reducible assumption)
                     have q204 : x8_2 < (l0.length : Int) := of_decide_eq_true (by with_reducible assumption)
                     obtain ⟨ad204, e204, hx204_0, hx204_1, hx204_2⟩ := at_T55 HR0.out x8_2 p204 q204
                     have hw204_2 := hx204_2
                     have hw204_1 := hx204_1
                     have hw204_0 := hx204_0
                     obtain rfl : ad198 = ad204 := (by injection e204)
                     replace hx204_0 := cB HB.out hx204_0
                     replace hx204_1 := cB HB.out hx204_1
                     replace hx204_2 := cB HB.out hx204_2
                     replace p204 := eq_true p204
                     replace q204 := eq_true q204
                     have p205 : 0 ≤ (x9_2 : Int) := of_decide_eq_true (by with_reducible assumption)
                     have q205 : x9_2 < (l1.length : Int) := of_decide_eq_true (by with_reducible assumption)
                     obtain ⟨ad205, e205, hx205_0, hx205_1, hx205_2⟩ := at_T55 HR1.out x9_2 p205 q205
                     have hw205_2 := hx205_2
                     have hw205_1 := hx205_1
                     have hw205_0 := hx205_0
                     obtain rfl : ad199 = ad205 := (by injection e205)
                     replace hx205_0 := cB HB.out hx205_0
                     replace hx205_1 := cB HB.out hx205_1
                     replace hx205_2 := cB HB.out hx205_2
                     replace p205 := eq_true p205
                     replace q205 := eq_true q205
                     refine start_ (n := 28) (S := fun w' => w'.cell? (ad198.add ((x8_2).toNat * 3)) = some (.int .i64 ((rd_T55 l0 x8_2).f0)) ∧ w'.cell? ⟨(ad198.add ((x8_2).toNat * 3)).block, (ad198.add ((x8_2).toNat * 3)).off + 1, none⟩ = some (.int .i64 ((rd_T55 l0 x8_2).f1)) ∧ w'.cell? ⟨(ad198.add ((x8_2).toNat * 3)).block, (ad198.add ((x8_2).toNat * 3)).off + 2, none⟩ = some (.int .i64 ((rd_T55 l0 x8_2).f2)) ∧ w'.cell? (ad199.add ((x9_2).toNat * 3)) = some (.int .i64 ((rd_T55 l1 x9_2).f0)) ∧ w'.cell? ⟨(ad199.add ((x9_2).toNat * 3)).block, (ad199.add ((x9_2).toNat * 3)).off + 1, none⟩ = some (.int .i64 ((rd_T55 l1 x9_2).f1)) ∧ w'.cell? ⟨(ad199.add ((x9_2).toNat * 3)).block, (ad199.add ((x9_2).toNat * 3)).off + 2, none⟩ = some (.int .i64 ((rd_T55 l1 x9_2).f2)) ∧ w'.cell? (ad198.add ((x8_2).toNat * 3)) = some (.int .i64 ((rd_T55 l0 x8_2).f0)) ∧ w'.cell? ⟨(ad198.add ((x8_2).toNat * 3)).block, (ad198.add ((x8_2).toNat * 3)).off + 1, none⟩ = some (.int .i64 ((rd_T55 l0 x8_2).f1)) ∧ w'.cell? ⟨(ad198.add ((x8_2).toNat * 3)).block, (ad198.add ((x8_2).toNat * 3)).off + 2, none⟩ = some (.int .i64 ((rd_T55 l0 x8_2).f2)) ∧ w'.cell? (ad199.add ((x9_2).toNat * 3)) = some (.int .i64 ((rd_T55 l1 x9_2).f0)) ∧ w'.cell? ⟨(ad199.add ((x9_2).toNat * 3)).block, (ad199.add ((x9_2).toNat * 3)).off + 1, none⟩ = some (.int .i64 ((rd_T55 l1 x9_2).f1)) ∧ w'.cell? ⟨(ad199.add ((x9_2).toNat * 3)).block, (ad199.add ((x9_2).toNat * 3)).off + 2, none⟩ = some (.int .i64 ((rd_T55 l1 x9_2).f2))) (ds := []) #[false, false, false, false, false, false, false, false, false, false, false, false, false, false, false, false, false, false, false, false, false, false, false, false, false, false, false, false] (by kernel_rfl) rfl rfl ⟨((HB.out.cell (World.block_lt_of_cell? _ _ hw202_0)).trans hw202_0), ((HB.out.cell (World.block_lt_of_cell? _ _ hw202_1)).trans hw202_1), ((HB.out.cell (World.block_lt_of_cell? _ _ hw202_2)).trans hw202_2), ((HB.out.cell (World.block_lt_of_cell? _ _ hw203_0)).trans hw203_0), ((HB.out.cell (World.block_lt_of_cell? _ _ hw203_1)).trans hw203_1), ((HB.out.cell (World.block_lt_of_cell? _ _ hw203_2)).trans hw203_2), ((HB.out.cell (World.block_lt_of_cell? _ _ hw204_0)).trans hw204_0), ((HB.out.cell (World.block_lt_of_cell? _ _ hw204_1)).trans hw204_1), ((HB.out.cell (World.block_lt_of_cell? _ _ hw204_2)).trans hw204_2), ((HB.out.cell (World.block_lt_of_cell? _ _ hw205_0)).trans hw205_0), ((HB.out.cell (World.block_lt_of_cell? _ _ hw205_1)).trans hw205_1), ((HB.out.cell (World.block_lt_of_cell? _ _ hw205_2)).trans hw205_2)⟩ (fun hHeld => ?_); refine with_tabW impl_JoinProfiles.tab9 impl_JoinProfiles.bits9 (fun HT_ HW_ => ?_)
                     generalize w45.drew = w46 at HO_7 HB hx202_0 hx202_1 hx202_2 hx203_0 hx203_1 hx203_2 hx204_0 hx204_1 hx204_2 hx205_0 hx205_1 hx205_2 hHeld ⊢
                     refine pure_ (i := 0) (N := some 58) (v := ?_) (a' := ?_) #[true, false, false, false, false, false, false, false, false, false, false, false, false, false, false, false, false, false, false, false, false, false, false, false, false, false, false, false] rfl rfl (any_of HT_.out (by kernel_rfl)) (fun _ _ _ h => h) (Or.inl ⟨by rfl, ?_⟩) ?_ ?_
                     rotate_left
                     ·
                      intro w'
                      go_simp
                      with_reducible rfl
                     rotate_left
                     ·
                      simp only [Act.put, sT, s0, sS, i64_w, i32_w]
                      rfl
                     refine pure_ (i := 1) (N := some 59) (v := ?_) (a' := ?_) #[true, true, false, false, false, false, false, false, false, false, false, false, false, false, false, false, false, false, false, false, false, false, false, false, false, false, false, false] rfl rfl (any_of HT_.out (by kernel_rfl)) (fun _ _ _ h => h) (Or.inl ⟨by rfl, ?_⟩) ?_ ?_
                     rotate_left
                     ·
                      intro w'
                      go_simp
                      with_reducible rfl
                     rotate_left
                     ·
                      simp only [Act.put, sT, s0, sS, i64_w, i32_w]
                      rfl
                     refine pure_ (i := 2) (N := some 60) (v := ?_) (a' := ?_) #[true, true, true, false, false, false, false, false, false, false, false, false, false, false, false, false, false, false, false, false, false, false, false, false, false, false, false, false] rfl rfl (any_of HT_.out (by kernel_rfl)) (fun _ _ _ h => h) (Or.inl ⟨by rfl, ?_⟩) ?_ ?_
                     rotate_left
                     ·
                      intro w'
                      go_simp
                      with_reducible rfl
                     rotate_left
                     ·
                      simp only [Act.put, sT, s0, sS, i64_w, i32_w]
                      rfl
                     refine pure_ (i := 3) (N := some 61) (v := ?_) (a' := ?_) #[true, true, true, true, false, false, false, false, false, false, false, false, false, false, false, false, false, false, false, false, false, false, false, false, false, false, false, false] rfl rfl (any_of HT_.out (by kernel_rfl)) (fun _ _ _ h => h) (Or.inl ⟨by rfl, ?_⟩) ?_ ?_
                     rotate_left
                     ·
                      intro w'
                      go_simp
                      with_reducible rfl
                     rotate_left
                     ·
                      simp only [Act.put, sT, s0, sS, i64_w, i32_w]
                      rfl
                     refine pure_ (i := 4) (N := some 62) (v := ?_) (a' := ?_) #[true, true, true, true, true, false, false, false, false, false, false, false, false, false, false, false, false, false, false, false, false, false, false, false, false, false, false, false] rfl rfl (any_of HT_.out (by kernel_rfl)) (fun _ _ _ h => h) (Or.inl ⟨by rfl, ?_⟩) ?_ ?_
                     rotate_left
                     ·
                      intro w'
                      go_simp
                      with_reducible rfl
                     rotate_left
                     ·
                      simp only [Act.put, sT, s0, sS, i64_w, i32_w]
                      rfl
                     refine pure_ (i := 5) (N := some 63) (v := ?_) (a' := ?_) #[true, true, true, true, true, true, false, false, false, false, false, false, false, false, false, false, false, false, false, false, false, false, false, false, false, false, false, false] rfl rfl (any_of HT_.out (by kernel_rfl)) (fun _ _ _ h => h) (Or.inl ⟨by rfl, ?_⟩) ?_ ?_
                     rotate_left
                     ·
                      intro w'
                      go_simp
                      with_reducible rfl
                     rotate_left
                     ·
                      simp only [Act.put, sT, s0, sS, i64_w, i32_w]
                      rfl
                     refine pure_ (i := 7) (N := some 65) (v := ?_) (a' := ?_) #[true, true, true, true, true, true, false, true, false, false, false, false, false, false, false, false, false, false, false, false, false, false, false, false, false, false, false, false] rfl rfl (any_of HT_.out (by kernel_rfl)) (fun _ _ _ h => h) (Or.inl ⟨by rfl, ?_⟩) ?_ ?_
                     rotate_left
                     ·
                      intro w'
                      go_simp
                      with_reducible rfl
                     rotate_left
                     ·
                      simp only [Act.put, sT, s0, sS, i64_w, i32_w]
                      rfl
                     refine pure_ (i := 8) (N := some 66) (v := ?_) (a' := ?_) #[true, true, true, true, true, true, false, true, true, false, false, false, false, false, false, false, false, false, false, false, false, false, false, false, false, false, false, false] rfl rfl (any_of HT_.out (by kernel_rfl)) (fun _ _ _ h => h) (Or.inl ⟨by rfl, ?_⟩) ?_ ?_
                     rotate_left
                     ·
                      intro w'
                      go_simp
                      with_reducible rfl
                     rotate_left
                     ·
                      simp only [Act.put, sT, s0, sS, i64_w, i32_w]
                      rfl
                     refine pure_ (i := 9) (N := some 67) (v := ?_) (a' := ?_) #[true, true, true, true, true, true, false, true, true, true, false, false, false, false, false, false, false, false, false, false, false, false, false, false, false, false, false, false] rfl rfl (any_of HT_.out (by kernel_rfl)) (fun _ _ _ h => h) (Or.inl ⟨by rfl, ?_⟩) ?_ ?_
                     rotate_left
                     ·
                      intro w'
                      go_simp
                      with_reducible rfl
                     rotate_left
                     ·
                      simp only [Act.put, sT, s0, sS, i64_w, i32_w]
                      rfl
                     refine pure_ (i := 10) (N := some 68) (v := ?_) (a' := ?_) #[true, true, true, true, true, true, false, true, true, true, true, false, false, false, false, false, false, false, false, false, false, false, false, false, false, false, false, false] rfl rfl (any_of HT_.out (by kernel_rfl)) (fun _ _ _ h => h) (Or.inl ⟨by rfl, ?_⟩) ?_ ?_
                     rotate_left
                     ·
                      intro w'
                      go_simp
                      with_reducible rfl
                     rotate_left
                     ·
                      simp only [Act.put, sT, s0, sS, i64_w, i32_w]
                      rfl
                     refine pure_ (i := 13) (N := some 71) (v := ?_) (a' := ?_) #[true, true, true, true, true, true, false, true, true, true, true, false, false, true, false, false, false, false, false, false, false, false, false, false, false, false, false, false] rfl rfl (any_of HT_.out (by kernel_rfl)) (fun _ _ _ h => h) (Or.inl ⟨by rfl, ?_⟩) ?_ ?_
                     rotate_left
                     ·
                      intro w'
                      go_simp
                      with_reducible rfl
                     rotate_left
                     ·
                      simp only [Act.put, sT, s0, sS, i64_w, i32_w]
                      rfl
                     refine pure_ (i := 14) (N := some 72) (v := ?_) (a' := ?_) #[true, true, true, true, true, true, false, true, true, true, true, false, false, true, true, false, false, false, false, false, false, false, false, false, false, false, false, false] rfl rfl (any_of HT_.out (by kernel_rfl)) (fun _ _ _ h => h) (Or.inl ⟨by rfl, ?_⟩) ?_ ?_
                     rotate_left
                     ·
                      intro w'
                      go_simp
                      with_reducible rfl
                     rotate_left
                     ·
                      simp only [Act.put, sT, s0, sS, i64_w, i32_w]
                      rfl
                     refine pure_ (i := 15) (N := some 73) (v := ?_) (a' := ?_) #[true, true, true, true, true, true, false, true, true, true, true, false, false, true, true, true, false, false, false, false, false, false, false, false, false, false, false, false] rfl rfl (any_of HT_.out (by kernel_rfl)) (fun _ _ _ h => h) (Or.inl ⟨by rfl, ?_⟩) ?_ ?_
                     rotate_left
                     ·
                      intro w'
                      go_simp
                      with_reducible rfl
                     rotate_left
                     ·
                      simp only [Act.put, sT, s0, sS, i64_w, i32_w]
                      rfl
                     refine pure_ (i := 16) (N := some 74) (v := ?_) (a' := ?_) #[true, true, true, true, true, true, false, true, true, true, true, false, false, true, true, true, true, false, false, false, false, false, false, false, false, false, false, false] rfl rfl (any_of HT_.out (by kernel_rfl)) (fun _ _ _ h => h) (Or.inl ⟨by rfl, ?_⟩) ?_ ?_
                     rotate_left
                     ·
                      intro w'
                      go_simp
                      with_reducible rfl
                     rotate_left
                     ·
                      simp only [Act.put, sT, s0, sS, i64_w, i32_w]
                      rfl
                     refine pure_ (i := 18) (N := some 76) (v := ?_) (a' := ?_) #[true, true, true, true, true, true, false, true, true, true, true, false, false, true, true, true, true, false, true, false, false, false, false, false, false, false, false, false] rfl rfl (any_of HT_.out (by kernel_rfl)) (fun _ _ _ h => h) (Or.inl ⟨by rfl, ?_⟩) ?_ ?_
                     rotate_left
                     ·
                      intro w'
                      go_simp
                      with_reducible rfl
                     rotate_left
                     ·
                      simp only [Act.put, sT, s0, sS, i64_w, i32_w]
                      rfl
                     refine pure_ (i := 19) (N := some 77) (v := ?_) (a' := ?_) #[true, true, true, true, true, true, false, true, true, true, true, false, false, true, true, true, true, false, true, true, false, false, false, false, false, false, false, false] rfl rfl (any_of HT_.out (by kernel_rfl)) (fun _ _ _ h => h) (Or.inl ⟨by rfl, ?_⟩) ?_ ?_
                     rotate_left
                     ·
                      intro w'
                      go_simp
                      with_reducible rfl
                     rotate_left
                     ·
                      simp only [Act.put, sT, s0, sS, i64_w, i32_w]
                      rfl
                     refine pure_ (i := 20) (N := some 78) (v := ?_) (a' := ?_) #[true, true, true, true, true, true, false, true, true, true, true, false, false, true, true, true, true, false, true, true, true, false, false, false, false, false, false, false] rfl rfl (any_of HT_.out (by kernel_rfl)) (fun _ _ _ h => h) (Or.inl ⟨by rfl, ?_⟩) ?_ ?_
                     rotate_left
                     ·
                      intro w'
                      go_simp
                      with_reducible rfl
                     rotate_left
                     ·
                      simp only [Act.put, sT, s0, sS, i64_w, i32_w]
                      rfl
                     refine pure_ (i := 21) (N := some 79) (v := ?_) (a' := ?_) #[true, true, true, true, true, true, false, true, true, true, true, false, false, true, true, true, true, false, true, true, true, true, false, false, false, false, false, false] rfl rfl (any_of HT_.out (by kernel_rfl)) (fun _ _ _ h => h) (Or.inl ⟨by rfl, ?_⟩) ?_ ?_
                     rotate_left
                     ·
                      intro w'
                      go_simp
                      with_reducible rfl
                     rotate_left
                     ·
                      simp only [Act.put, sT, s0, sS, i64_w, i32_w]
                      rfl
                     refine take_ (i := 6) (N := some 64) (v := ?_) (a' := ?_) #[true, true, true, true, true, true, true, true, true, true, true, false, false, true, true, true, true, false, true, true, true, true, false, false, false, false, false, false] rfl rfl (take_ofW HT_.out HW_.out (by kernel_rfl)) (fun _ _ _ h => h) (Or.inl ⟨by rfl, ?_⟩) hHeld ?_ ?_
                     rotate_left
                     ·
                      rintro w' ⟨s0, s1, s2, s3, s4, s5, s6, s7, s8, s9, s10, s11⟩
                      go_simp
                      with_reducible rfl
                     rotate_left
                     ·
                      simp only [Act.put, sT, s0, sS, i64_w, i32_w]
                      rfl
                     refine take_ (i := 11) (N := some 69) (v := ?_) (a' := ?_) #[true, true, true, true, true, true, true, true, true, true, true, true, false, true, true, true, true, false, true, true, true, true, false, false, false, false, false, false] rfl rfl (take_ofW HT_.out HW_.out (by kernel_rfl)) (fun _ _ _ h => h) (Or.inl ⟨by rfl, ?_⟩) hHeld ?_ ?_
                     rotate_left
                     ·
                      rintro w' ⟨s0, s1, s2, s3, s4, s5, s6, s7, s8, s9, s10, s11⟩
                      go_simp
                      with_reducible rfl
                     rotate_left
                     ·
                      simp only [Act.put, sT, s0, sS, i64_w, i32_w]
                      rfl
                     refine pure_ (i := 12) (N := some 70) (v := ?_) (a' := ?_) #[true, true, true, true, true, true, true, true, true, true, true, true, true, true, true, true, true, false, true, true, true, true, false, false, false, false, false, false] rfl rfl (any_of HT_.out (by kernel_rfl)) (fun _ _ _ h => h) (Or.inl ⟨by rfl, ?_⟩) ?_ ?_
                     rotate_left
                     ·
                      intro w'
                      go_simp
                      with_reducible rfl
                     rotate_left
                     ·
                      simp only [Act.put, sT, s0, sS, i64_w, i32_w]
                      rfl
                     refine take_ (i := 17) (N := some 75) (v := ?_) (a' := ?_) #[true, true, true, true, true, true, true, true, true, true, true, true, true, true, true, true, true, true, true, true, true, true, false, false, false, false, false, false] rfl rfl (take_ofW HT_.out HW_.out (by kernel_rfl)) (fun _ _ _ h => h) (Or.inl ⟨by rfl, ?_⟩) hHeld ?_ ?_
                     rotate_left
                     ·
                      rintro w' ⟨s0, s1, s2, s3, s4, s5, s6, s7, s8, s9, s10, s11⟩
                      go_simp
                      with_reducible rfl
                     rotate_left
                     ·
                      simp only [Act.put, sT, s0, sS, i64_w, i32_w]
                      rfl
                     refine take_ (i := 22) (N := some 80) (v := ?_) (a' := ?_) #[true, true, true, true, true, true, true, true, true, true, true, true, true, true, true, true, true, true, true, true, true, true, true, false, false, false, false, false] rfl rfl (take_ofW HT_.out HW_.out (by kernel_rfl)) (fun _ _ _ h => h) (Or.inl ⟨by rfl, ?_⟩) hHeld ?_ ?_
                     rotate_left
                     ·
                      rintro w' ⟨s0, s1, s2, s3, s4, s5, s6, s7, s8, s9, s10, s11⟩
                      go_simp
                      with_reducible rfl
                     rotate_left
                     ·
                      simp only [Act.put, sT, s0, sS, i64_w, i32_w]
                      rfl
                     refine pure_ (i := 23) (N := some 81) (v := ?_) (a' := ?_) #[true, true, true, true, true, true, true, true, true, true, true, true, true, true, true, true, true, true, true, true, true, true, true, true, false, false, false, false] rfl rfl (any_of HT_.out (by kernel_rfl)) (fun _ _ _ h => h) (Or.inl ⟨by rfl, ?_⟩) ?_ ?_
                     rotate_left
                     ·
                      intro w'
                      go_simp
                      with_reducible rfl
                     rotate_left
                     ·
                      simp only [Act.put, sT, s0, sS, i64_w, i32_w]
                      rfl
                     refine pure_ (i := 24) (N := some 82) (v := ?_) (a' := ?_) #[true, true, true, true, true, true, true, true, true, true, true, true, true, true, true, true, true, true, true, true, true, true, true, true, true, false, false, false] rfl rfl (any_of HT_.out (by kernel_rfl)) (fun _ _ _ h => h) (Or.inl ⟨by rfl, ?_⟩) ?_ ?_
                     rotate_left
                     ·
                      intro w'
                      go_simp
                      with_reducible rfl
                     rotate_left
                     ·
                      simp only [Act.put, sT, s0, sS, i64_w, i32_w]
                      rfl
                     refine one_ (i := 25) (N := some 83) #[true, true, true, true, true, true, true, true, true, true, true, true, true, true, true, true, true, true, true, true, true, true, true, true, true, true, false, false] rfl rfl (one_of HT_.out (by kernel_rfl)) (by decide) (fun K hK => ?_)
                     refine value_ (w1 := ?_) (v := ?_) (by rfl) rfl ?_ ?_
                     rotate_left 2
                     ·
                      go_simp
                      constructor
                      ·
                       rfl
                      ·
                       rfl
                     refine hK.out _ _ ⟨(World.cell?_alloc_lt _ _ _ (World.block_lt_of_cell? _ _ (((HB.out.cell (World.block_lt_of_cell? _ _ hw202_0)).trans hw202_0)))).trans (((HB.out.cell (World.block_lt_of_cell? _ _ hw202_0)).trans hw202_0)), (World.cell?_alloc_lt _ _ _ (World.block_lt_of_cell? _ _ (((HB.out.cell (World.block_lt_of_cell? _ _ hw202_1)).trans hw202_1)))).trans (((HB.out.cell (World.block_lt_of_cell? _ _ hw202_1)).trans hw202_1)), (World.cell?_alloc_lt _ _ _ (World.block_lt_of_cell? _ _ (((HB.out.cell (World.block_lt_of_cell? _ _ hw202_2)).trans hw202_2)))).trans (((HB.out.cell (World.block_lt_of_cell? _ _ hw202_2)).trans hw202_2)), (World.cell?_alloc_lt _ _ _ (World.block_lt_of_cell? _ _ (((HB.out.cell (World.block_lt_of_cell? _ _ hw203_0)).trans hw203_0)))).trans (((HB.out.cell (World.block_lt_of_cell? _ _ hw203_0)).trans hw203_0)), (World.cell?_alloc_lt _ _ _ (World.block_lt_of_cell? _ _ (((HB.out.cell (World.block_lt_of_cell? _ _ hw203_1)).trans hw203_1)))).trans (((HB.out.cell (World.block_lt_of_cell? _ _ hw203_1)).trans hw203_1)), (World.cell?_alloc_lt _ _ _ (World.block_lt_of_cell? _ _ (((HB.out.cell (World.block_lt_of_cell? _ _ hw203_2)).trans hw203_2)))).trans (((HB.out.cell (World.block_lt_of_cell? _ _ hw203_2)).trans hw203_2)), (World.cell?_alloc_lt _ _ _ (World.block_lt_of_cell? _ _ (((HB.out.cell (World.block_lt_of_cell? _ _ hw204_0)).trans hw204_0)))).trans (((HB.out.cell (World.block_lt_of_cell? _ _ hw204_0)).trans hw204_0)), (World.cell?_alloc_lt _ _ _ (World.block_lt_of_cell? _ _ (((HB.out.cell (World.block_lt_of_cell? _ _ hw204_1)).trans hw204_1)))).trans (((HB.out.cell (World.block_lt_of_cell? _ _ hw204_1)).trans hw204_1)), (World.cell?_alloc_lt _ _ _ (World.block_lt_of_cell? _ _ (((HB.out.cell (World.block_lt_of_cell? _ _ hw204_2)).trans hw204_2)))).trans (((HB.out.cell (World.block_lt_of_cell? _ _ hw204_2)).trans hw204_2)), (World.cell?_alloc_lt _ _ _ (World.block_lt_of_cell? _ _ (((HB.out.cell (World.block_lt_of_cell? _ _ hw205_0)).trans hw205_0)))).trans (((HB.out.cell (World.block_lt_of_cell? _ _ hw205_0)).trans hw205_0)), (World.cell?_alloc_lt _ _ _ (World.block_lt_of_cell? _ _ (((HB.out.cell (World.block_lt_of_cell? _ _ hw205_1)).trans hw205_1)))).trans (((HB.out.cell (World.block_lt_of_cell? _ _ hw205_1)).trans hw205_1)), (World.cell?_alloc_lt _ _ _ (World.block_lt_of_cell? _ _ (((HB.out.cell (World.block_lt_of_cell? _ _ hw205_2)).trans hw205_2)))).trans (((HB.out.cell (World.block_lt_of_cell? _ _ hw205_2)).trans hw205_2))⟩ (fun hHeld => ?_)
                     clear hK K
                     refine norm_ (a' := ?_) ?_ ?_
                     rotate_left
                     ·
                      show Act.put _ (some 83) _ = _
                      simp only [Act.put, sT, s0, sS, i64_w, i32_w]
                      rfl
                     refine one_ (i := 26) (N := some 84) #[true, true, true, true, true, true, true, true, true, true, true, true, true, true, true, true, true, true, true, true, true, true, true, true, true, true, true, false] rfl rfl (one_of HT_.out (by kernel_rfl)) (by decide) (fun K hK => ?_)
                     refine Kd.R_append_step k55 (w0 := w) w.heap.size (by rfl) (.tmp 58) (.tmp 83) 25 55 (.agg #[(.int .i64 0), (.int .i64 0), (.int .i64 0)]) 24 rfl Try.underlying25 info55 rfl (by decide) (by omega) u7 x7_2 (⟨ji26, ji33, ji34⟩ : S55) [.int .i64 ji26, .int .i64 ji33, .int .i64 ji34] (fun _ => True) (fun _ => False) rfl rfl ?aP (fun _ hk => hk.elim) ?aF ?aO ?aB ?aS ?aL ?_
                     (case aP => exact k55_mkM _ _ _ (⟨ji26, ji33, ji34⟩ : S55))
                     (case aB => exact (by repeat (first | (with_reducible first | exact HB.out | apply lA | apply lN | apply lD) | exact HB.out)))
                     (case aF => exact (fun _ _ => trivial))
                     (case aO => exact (by (with_reducible repeat (first | apply rA | apply rN | apply rD)); exact HO_7.out))
                     (case aS => exact (below_size (by repeat (first | (with_reducible first | exact HB.out | apply lA | apply lN | apply lD) | exact HB.out))))
                     (case aL => have := LMc35.out; omega)
                     intro v207 w47 ho hb hg hat
                     rw [← Ny206.out] at ho
                     have n0_ := Aside0.mk (hb)
                     have n1_ := Aside0.mk (ho)
                     clear HB
                     clear HO_7
                     have HB := n0_
                     have HO208 := n1_
                     clear n0_ n1_
                     clear ho hb hg hat
                     refine hK.out _ _ ⟨((HB.out.cell (World.block_lt_of_cell? _ _ hw202_0)).trans hw202_0), ((HB.out.cell (World.block_lt_of_cell? _ _ hw202_1)).trans hw202_1), ((HB.out.cell (World.block_lt_of_cell? _ _ hw202_2)).trans hw202_2), ((HB.out.cell (World.block_lt_of_cell? _ _ hw203_0)).trans hw203_0), ((HB.out.cell (World.block_lt_of_cell? _ _ hw203_1)).trans hw203_1), ((HB.out.cell (World.block_lt_of_cell? _ _ hw203_2)).trans hw203_2), ((HB.out.cell (World.block_lt_of_cell? _ _ hw204_0)).trans hw204_0), ((HB.out.cell (World.block_lt_of_cell? _ _ hw204_1)).trans hw204_1), ((HB.out.cell (World.block_lt_of_cell? _ _ hw204_2)).trans hw204_2), ((HB.out.cell (World.block_lt_of_cell? _ _ hw205_0)).trans hw205_0), ((HB.out.cell (World.block_lt_of_cell? _ _ hw205_1)).trans hw205_1), ((HB.out.cell (World.block_lt_of_cell? _ _ hw205_2)).trans hw205_2)⟩ (fun hHeld => ?_)
                     clear hK K
                     refine norm_ (a' := ?_) ?_ ?_
                     rotate_left
                     ·
                      show Act.put _ (some 84) _ = _
                      simp only [Act.put, sT, s0, sS, i64_w, i32_w]
                      rfl
                     refine pure_ (i := 27) (N := some 7) (v := ?_) (a' := ?_) #[true, true, true, true, true, true, true, true, true, true, true, true, true, true, true, true, true, true, true, true, true, true, true, true, true, true, true, true] rfl rfl (any_of HT_.out (by kernel_rfl)) (fun _ _ _ h => h) (Or.inl ⟨by rfl, ?_⟩) ?_ ?_
                     rotate_left
                     ·
                      intro w'
                      go_simp
                      with_reducible rfl
                     rotate_left
                     ·
                      simp only [Act.put, sT, s0, sS, i64_w, i32_w]
                      rfl
                     refine done_ (done_of HT_.out (by kernel_rfl)) ?_
                     have p209 : 0 ≤ (x8_2 : Int) := of_decide_eq_true (by with_reducible assumption)
                     have q209 : x8_2 < (l0.length : Int) := of_decide_eq_true (by with_reducible assumption)
                     obtain ⟨ad209, e209, hx209_0, hx209_1, hx209_2⟩ := at_T55 HR0.out x8_2 p209 q209
                     obtain rfl : ad198 = ad209 := (by injection e209)
                     replace hx209_0 := cB HB.out hx209_0
                     replace hx209_1 := cB HB.out hx209_1
                     replace hx209_2 := cB HB.out hx209_2
                     replace p209 := eq_true p209
                     replace q209 := eq_true q209
                     have p211 : 0 ≤ (x9_2 : Int) := of_decide_eq_true (by with_reducible assumption)
                     have q211 : x9_2 < (l1.length : Int) := of_decide_eq_true (by with_reducible assumption)
                     obtain ⟨ad211, e211, hx211_0, hx211_1, hx211_2⟩ := at_T55 HR1.out x9_2 p211 q211
                     obtain rfl : ad199 = ad211 := (by injection e211)
                     replace hx211_0 := cB HB.out hx211_0
                     replace hx211_1 := cB HB.out hx211_1
                     replace hx211_2 := cB HB.out hx211_2
                     replace p211 := eq_true p211
                     replace q211 := eq_true q211
                     try go_wp2
                     go_roundg kj18
                     case measure => have := HJ2.out; have := HK2.out; have := HJ18.out; omega
                     case rel => exact ⟨(y206), (x8_2), (wrap64 (x9_2 + 1)), (by first | rfl | (simp; done) | (simp [*]; done)), (by first | rfl | (simp; done) | (simp [*]; done)), (by first | exact H' | (simp only [hji11, hji14, hji17, hji26, hji33, hji34]; exact H') | (have H2_ := H'; simp only [← hji11, ← hji14, ← hji17, ← hji26, ← hji33, ← hji34] at H2_; exact H2_)), ⟨by have := HJ2.out; have := HK2.out; have := HJ18.out; omega⟩, ⟨by (with_reducible repeat (first | apply rA | apply rN | apply rD)); exact HO208.out⟩, ⟨by repeat (first | (with_reducible first | exact HB.out | apply lA | apply lN | apply lD) | exact HB.out)⟩⟩
                    · exact absurd hji26 (by unfold mn; split <;> omega)
                  ·
                   rw [if_neg c35] at H
                   exact absurd H (by simp)
                ·
                 rw [if_neg c25] at H
                 exact absurd H (by simp)
               ·
                rw [if_neg c24] at H
                exact absurd H (by simp)
              ·
               rw [if_neg c23] at H
               exact absurd H (by simp)
             ·
              rw [if_neg c22] at H
              exact absurd H (by simp)
            ·
             replace c21 := Bool.eq_false_iff.mpr c21
             subst c21
             have H1 : (if (x7_2.length : Int) > 6 then (some (([] : List (S55)), 3)) else (some (x7_2, 0))) = some (r1, r2) := by rw [if_neg (show ¬ (false = true) by decide)] at H; exact H
             clear H
             have H := H1
             clear H1
             by_cases c51 : (x7_2.length : Int) > 6
             ·
              rw [if_pos c51] at H
              have c51b0 : decide (6 < (x7_2.length : Int)) = true := decide_eq_true c51
              have c51b1 : decide (6 < x7_2.length) = true := decide_eq_true (by omega)
              clear c51
              simp only [Option.some.injEq, Prod.mk.injEq] at H
              obtain ⟨rfl, rfl⟩ := H
              obtain ⟨Ao52, co52, eo52⟩ := Kd.R_slice HO_7.out
              subst eo52
              go_wp2
              go_ret2
              exact ⟨_, by first | rfl | (simp [errW_none, errW_some] <;> rfl) | (simp only [← hji11, ← hji14, ← hji17]; first | rfl | (simp [errW_none, errW_some] <;> rfl)) | (simp [*, errW_none, errW_some] <;> rfl), by first | exact Kd.R_nil _ _ _ _ _ | exact Kd.N_nil _ _ _ _ _ | exact Kd.V_nil _ _ _ _ _ | exact Kd.Q_nil _ _ _ _ _ | exact Kd.S_nil _ _ _ _ _, by repeat (first | (with_reducible first | exact HB.out | apply lA | apply lN | apply lD) | exact HB.out)⟩
             ·
              rw [if_neg c51] at H
              have c51b0 : decide (6 < (x7_2.length : Int)) = false := decide_eq_false c51
              have c51b1 : decide (6 < x7_2.length) = false := decide_eq_false (by omega)
              clear c51
              simp only [Option.some.injEq, Prod.mk.injEq] at H
              obtain ⟨rfl, rfl⟩ := H
              obtain ⟨Ao53, co53, eo53⟩ := Kd.R_slice HO_7.out
              subst eo53
              go_wp2
              go_ret2
              exact ⟨_, by first | rfl | (simp [errW_none, errW_some] <;> rfl) | (simp only [← hji11, ← hji14, ← hji17]; first | rfl | (simp [errW_none, errW_some] <;> rfl)) | (simp [*, errW_none, errW_some] <;> rfl), by (with_reducible repeat (first | apply rA | apply rN | apply rD)); exact HO_7.out, by repeat (first | (with_reducible first | exact HB.out | apply lA | apply lN | apply lD) | exact HB.out)⟩
       ·
        rw [if_neg c16] at H
        exact absurd H (by simp)
      ·
       rw [if_neg c15] at H
       exact absurd H (by simp)
     ·
      rw [if_neg c13] at H
      exact absurd H (by simp)
    ·
     rw [if_neg c12] at H
     exact absurd H (by simp)

end Go.Proofs.Ytidibjmckgbpbaa.QFnExactJoinProfiles
