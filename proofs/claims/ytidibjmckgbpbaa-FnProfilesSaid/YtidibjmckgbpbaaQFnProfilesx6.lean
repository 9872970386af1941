-- Written by a program of this project's session, after the kit's print (a turned copy of its programs). Lean checks it.
import Derived.Test.YtidibjmckgbpbaaQFnProfilesx0
import Derived.Test.YtidibjmckgbpbaaQFnProfilesx2
namespace Go.Proofs.Ytidibjmckgbpbaa.QFnProfiles
open Go.RowKit Go.Proofs.YtidibjmckgbpbaaW.PrintWords Go.Proofs.YtidibjmckgbpbaaW.PrintLast Go.Proofs.YtidibjmckgbpbaaW.PrintMore
attribute [local go_sem] max2_int min2_int max_two min_two max_three min_three max_four min_four   -- for this text's walks alone
set_option linter.unusedVariables false
set_option linter.unusedSimpArgs false

/-! ### impl_JoinProfiles: function 28 -/
mutual
def impl_JoinProfiles.j0 : Nat → List (S55) → List (S55) → Bool → Option ((List (S55)) × Int)
 | 0, _, _, _ => none
 | k + 1, x0, x1, x18 => if x18 = true then (some (([] : List (S55)), 1)) else (if 0 ≤ (wrap64 ((x0.length : Int) - 1)) then (if (wrap64 ((x0.length : Int) - 1)) < (x0.length : Int) then (if 0 ≤ (wrap64 ((x1.length : Int) - 1)) then (if (wrap64 ((x1.length : Int) - 1)) < (x1.length : Int) then (impl_JoinProfiles.l0 k x0 x1 (mn ((rd_T55 x0 (wrap64 ((x0.length : Int) - 1))).f0) ((rd_T55 x1 (wrap64 ((x1.length : Int) - 1))).f0)) ([] : List (S55)) 0 0) else (none)) else (none)) else (none)) else (none))
def impl_JoinProfiles.l0 : Nat → List (S55) → List (S55) → Int → List (S55) → Int → Int → Option ((List (S55)) × Int)
 | 0, _, _, _, _, _, _ => none
 | k + 1, x0, x1, x6, x7, x8, x9 => if x8 < (x0.length : Int) then (impl_JoinProfiles.j2 k x0 x1 x6 x7 x8 x9 (decide (x9 < (x1.length : Int)))) else (impl_JoinProfiles.j2 k x0 x1 x6 x7 x8 x9 false)
def impl_JoinProfiles.j2 : Nat → List (S55) → List (S55) → Int → List (S55) → Int → Int → Bool → Option ((List (S55)) × Int)
 | 0, _, _, _, _, _, _, _ => none
 | k + 1, x0, x1, x6, x7, x8, x9, x43 => if x43 = true then (if 0 ≤ x8 then (if x8 < (x0.length : Int) then (if 0 ≤ x9 then (if x9 < (x1.length : Int) then (if (mn ((rd_T55 x0 x8).f0) ((rd_T55 x1 x9).f0)) > x6 then (if (x7.length : Int) > 6 then (some (([] : List (S55)), 3)) else (some (x7, 0))) else (if x7.length < 5864062014805 then ((some (x7 ++ [(⟨mn ((rd_T55 x0 x8).f0) ((rd_T55 x1 x9).f0), mn ((rd_T55 x0 x8).f1) ((rd_T55 x1 x9).f1), mx ((rd_T55 x0 x8).f2) ((rd_T55 x1 x9).f2)⟩ : S55)] : List (S55))).bind fun y192 => (if ((rd_T55 x0 x8).f0) = (mn ((rd_T55 x0 x8).f0) ((rd_T55 x1 x9).f0)) then (if ((rd_T55 x1 x9).f0) = (mn ((rd_T55 x0 x8).f0) ((rd_T55 x1 x9).f0)) then (impl_JoinProfiles.l0 k x0 x1 x6 y192 (wrap64 (x8 + 1)) (wrap64 (x9 + 1))) else (impl_JoinProfiles.l0 k x0 x1 x6 y192 (wrap64 (x8 + 1)) x9)) else (if ((rd_T55 x1 x9).f0) = (mn ((rd_T55 x0 x8).f0) ((rd_T55 x1 x9).f0)) then (impl_JoinProfiles.l0 k x0 x1 x6 y192 x8 (wrap64 (x9 + 1))) else (impl_JoinProfiles.l0 k x0 x1 x6 y192 x8 x9)))) else (none))) else (none)) else (none)) else (none)) else (none)) else (if (x7.length : Int) > 6 then (some (([] : List (S55)), 3)) else (some (x7, 0)))
end
def impl_JoinProfiles.f (k : Nat) (l0 : List (S55)) (l1 : List (S55)) : Option ((List (S55)) × Int) := (impl_IsProfile.f k l0).bind fun t182 => (if t182 = true then ((impl_IsProfile.f k l1).bind fun t183 => (impl_JoinProfiles.j0 k l0 l1 (!t183))) else (impl_JoinProfiles.j0 k l0 l1 true))
theorem impl_JoinProfiles.mono_l : ∀ k, (∀ y0 y1 y2, LeO (impl_JoinProfiles.j0 k y0 y1 y2) (impl_JoinProfiles.j0 (k + 1) y0 y1 y2)) ∧ (∀ y0 y1 y2 y3 y4 y5, LeO (impl_JoinProfiles.l0 k y0 y1 y2 y3 y4 y5) (impl_JoinProfiles.l0 (k + 1) y0 y1 y2 y3 y4 y5)) ∧ (∀ y0 y1 y2 y3 y4 y5 y6, LeO (impl_JoinProfiles.j2 k y0 y1 y2 y3 y4 y5 y6) (impl_JoinProfiles.j2 (k + 1) y0 y1 y2 y3 y4 y5 y6))
 | 0 => ⟨fun _ _ _ r h => by simp [impl_JoinProfiles.j0] at h, fun _ _ _ _ _ _ r h => by simp [impl_JoinProfiles.l0] at h, fun _ _ _ _ _ _ _ r h => by simp [impl_JoinProfiles.j2] at h⟩
 | k + 1 => by
  obtain ⟨ih0, ih1, ih2⟩ := impl_JoinProfiles.mono_l k
  refine ⟨?_, ?_, ?_⟩
  ·
   intro y0 y1 y2
   unfold impl_JoinProfiles.j0
   repeat' first
   | (with_reducible exact ih0 _ _ _)
   | (with_reducible exact ih1 _ _ _ _ _ _)
   | (with_reducible exact ih2 _ _ _ _ _ _ _)
   | (with_reducible exact impl_IsProfile.mono _ _)
   | (with_reducible exact LeO.refl _)
   | (with_reducible exact LeO.none _)
   | (with_reducible refine LeO.ite ?_ ?_)
   | (with_reducible refine LeO.bind ?_ (fun _ => ?_))
   | exact ih0 _ _ _
   | exact ih1 _ _ _ _ _ _
   | exact ih2 _ _ _ _ _ _ _
   | exact impl_IsProfile.mono _ _
   | exact LeO.none _
   | refine LeO.ite ?_ ?_
   | refine LeO.bind ?_ (fun _ => ?_)
  ·
   intro y0 y1 y2 y3 y4 y5
   unfold impl_JoinProfiles.l0
   repeat' first
   | (with_reducible exact ih0 _ _ _)
   | (with_reducible exact ih1 _ _ _ _ _ _)
   | (with_reducible exact ih2 _ _ _ _ _ _ _)
   | (with_reducible exact impl_IsProfile.mono _ _)
   | (with_reducible exact LeO.refl _)
   | (with_reducible exact LeO.none _)
   | (with_reducible refine LeO.ite ?_ ?_)
   | (with_reducible refine LeO.bind ?_ (fun _ => ?_))
   | exact ih0 _ _ _
   | exact ih1 _ _ _ _ _ _
   | exact ih2 _ _ _ _ _ _ _
   | exact impl_IsProfile.mono _ _
   | exact LeO.none _
   | refine LeO.ite ?_ ?_
   | refine LeO.bind ?_ (fun _ => ?_)
  ·
   intro y0 y1 y2 y3 y4 y5 y6
   unfold impl_JoinProfiles.j2
   repeat' first
   | (with_reducible exact ih0 _ _ _)
   | (with_reducible exact ih1 _ _ _ _ _ _)
   | (with_reducible exact ih2 _ _ _ _ _ _ _)
   | (with_reducible exact impl_IsProfile.mono _ _)
   | (with_reducible exact LeO.refl _)
   | (with_reducible exact LeO.none _)
   | (with_reducible refine LeO.ite ?_ ?_)
   | (with_reducible refine LeO.bind ?_ (fun _ => ?_))
   | exact ih0 _ _ _
   | exact ih1 _ _ _ _ _ _
   | exact ih2 _ _ _ _ _ _ _
   | exact impl_IsProfile.mono _ _
   | exact LeO.none _
   | refine LeO.ite ?_ ?_
   | refine LeO.bind ?_ (fun _ => ?_)
theorem impl_JoinProfiles.mono : ∀ a0 a1 k, LeO (impl_JoinProfiles.f k a0 a1) (impl_JoinProfiles.f (k + 1) a0 a1) := by
 intro a0 a1 k
 obtain ⟨ih0, ih1, ih2⟩ := impl_JoinProfiles.mono_l k
 unfold impl_JoinProfiles.f
 repeat' first
   | (with_reducible exact ih0 _ _ _)
   | (with_reducible exact ih1 _ _ _ _ _ _)
   | (with_reducible exact ih2 _ _ _ _ _ _ _)
   | (with_reducible exact impl_IsProfile.mono _ _)
   | (with_reducible exact LeO.refl _)
   | (with_reducible exact LeO.none _)
   | (with_reducible refine LeO.ite ?_ ?_)
   | (with_reducible refine LeO.bind ?_ (fun _ => ?_))
   | exact ih0 _ _ _
   | exact ih1 _ _ _ _ _ _
   | exact ih2 _ _ _ _ _ _ _
   | exact impl_IsProfile.mono _ _
   | exact LeO.none _
   | refine LeO.ite ?_ ?_
   | refine LeO.bind ?_ (fun _ => ?_)
def impl_JoinProfiles.T3 : Bool × List (List Nat × List Nat) := (true, [([], []), ([], []), ([1], [1]), ([2], [2]), ([0, 3], [0, 3]), ([4], [4]), ([5], [5]), ([], []), ([], []), ([8], [8]), ([9], [9]), ([7, 10], [7, 10]), ([11], [11]), ([12], [12]), ([6, 13], [6, 13]), ([14, 0, 1, 2, 3, 4, 5, 6, 7, 8, 9, 10, 11, 12, 13, 14], [14])])
def impl_JoinProfiles.B3 : List Nat := [0, 0, 2, 6, 15, 31, 63, 0, 0, 256, 768, 1920, 3968, 8064, 16383, 32767]
theorem impl_JoinProfiles.tab3 : rtab .any (opsOf Try.f28 3) = impl_JoinProfiles.T3 := by kernel_rfl
theorem impl_JoinProfiles.bits3 : waitsOk impl_JoinProfiles.T3.2 impl_JoinProfiles.B3 = true := by kernel_rfl
def impl_JoinProfiles.T7 : Bool × List (List Nat × List Nat) := (true, [([], []), ([], []), ([0, 1], [0, 1]), ([2], [2]), ([3], [3]), ([], []), ([], []), ([5, 6], [5, 6]), ([7], [7]), ([8], [8]), ([4, 9], [4, 9]), ([10, 0, 1, 2, 3, 4, 5, 6, 7, 8, 9, 10], [10])])
def impl_JoinProfiles.B7 : List Nat := [0, 0, 3, 7, 15, 0, 0, 96, 224, 480, 1023, 2047]
theorem impl_JoinProfiles.tab7 : rtab .any (opsOf Try.f28 7) = impl_JoinProfiles.T7 := by kernel_rfl
theorem impl_JoinProfiles.bits7 : waitsOk impl_JoinProfiles.T7.2 impl_JoinProfiles.B7 = true := by kernel_rfl
def impl_JoinProfiles.T9 : Bool × List (List Nat × List Nat) := (true, [([], []), ([], []), ([], []), ([], []), ([2, 3], [2, 3]), ([4], [4]), ([5], [5]), ([], []), ([], []), ([7, 8], [7, 8]), ([9], [9]), ([10], [10]), ([6, 11], [6, 11]), ([], []), ([], []), ([13, 14], [13, 14]), ([15], [15]), ([16], [16]), ([], []), ([], []), ([18, 19], [18, 19]), ([20], [20]), ([21], [21]), ([17, 22], [17, 22]), ([1, 12, 23], [1, 12, 23]), ([24], [24]), ([0, 25], [0, 25]), ([26, 26, 0, 1, 2, 3, 4, 5, 6, 7, 8, 9, 10, 11, 12, 13, 14, 15, 16, 17, 18, 19, 20, 21, 22, 23, 24, 25, 26], [0, 26])])
def impl_JoinProfiles.B9 : List Nat := [0, 0, 0, 0, 12, 28, 60, 0, 0, 384, 896, 1920, 4092, 0, 0, 24576, 57344, 122880, 0, 0, 786432, 1835008, 3932160, 8380416, 16777214, 33554430, 67108863, 134217727]
theorem impl_JoinProfiles.tab9 : rtab .any (opsOf Try.f28 9) = impl_JoinProfiles.T9 := by kernel_rfl
theorem impl_JoinProfiles.bits9 : waitsOk impl_JoinProfiles.T9.2 impl_JoinProfiles.B9 = true := by kernel_rfl
set_option maxHeartbeats 40000000 in
set_option maxRecDepth 100000 in
theorem impl_JoinProfiles.calls (k : Nat) (A0 : Option Addr) (c0 : Nat) (l0 : List (S55)) (A1 : Option Addr) (c1 : Nat) (l1 : List (S55)) (r1 : List (S55)) (r2 : Int) (w : World) (hr0 : Kd.C k55 w A0 l0.length l0) (hc0 : l0.length ≤ c0) (hr1 : Kd.C k55 w A1 l1.length l1) (hc1 : l1.length ≤ c1) (h : impl_JoinProfiles.f k l0 l1 = some (r1, r2)) :
  Calls Try.prog 28 #[.slice A0 l0.length c0, .slice A1 l1.length c1] w fun e w' => ∃ v0_ : Value, e = .returned (.tuple #[v0_, .int .i64 r2]) ∧ Kd.R k55 55 w' w.heap.size (fun _ => True) v0_ r1 ∧ Below w.heap.size w w' := by
 have hu55 := Try.underlying55
 have HR0 := Aside0.mk hr0
 have HC0 := Aside0.mk hc0
 clear hr0 hc0
 have HR1 := Aside0.mk hr1
 have HC1 := Aside0.mk hc1
 clear hr1 hc1
 have HB := Aside0.mk (Below.refl w.heap.size w)
 have H : ((impl_IsProfile.f k l0).bind fun t182 => (if t182 = true then ((impl_IsProfile.f k l1).bind fun t183 => (impl_JoinProfiles.j0 k l0 l1 (!t183))) else (impl_JoinProfiles.j0 k l0 l1 true))) = some (r1, r2) := h
 clear h
 have HC3 := Aside0.mk H
 clear H
 go_enter Try.func28, Try.ntmps28
 go_upto_region 1 with (fail)
 go_cut [18] (fun v18 wc => ∃ (kq : Nat) (x18_2 : Bool), v18 = .bool x18_2 ∧ Aside0 (impl_JoinProfiles.j0 kq l0 l1 x18_2 = some (r1, r2)) ∧ Aside0 (kq ≤ k) ∧ Aside0 (Below w.heap.size w wc))
 case first =>
  have H := HC3.out
  clear HC3
  replace H := Option.bind_eq_some_iff.mp H
  obtain ⟨t182, A40, H⟩ := H
  replace H : (if t182 = true then ((impl_IsProfile.f k l1).bind fun t183 => (impl_JoinProfiles.j0 k l0 l1 (!t183))) else (impl_JoinProfiles.j0 k l0 l1 true)) = some (r1, r2) := H
  have A4 := Aside0.mk A40
  clear A40
  by_cases c5 : t182 = true
  ·
   subst c5
   have H1 : ((impl_IsProfile.f k l1).bind fun t183 => (impl_JoinProfiles.j0 k l0 l1 (!t183))) = some (r1, r2) := by rw [if_pos rfl] at H; exact H
   clear H
   have H := H1
   clear H1
   replace H := Option.bind_eq_some_iff.mp H
   obtain ⟨t183, A60, H⟩ := H
   replace H : (impl_JoinProfiles.j0 k l0 l1 (!t183)) = some (r1, r2) := H
   have A6 := Aside0.mk A60
   clear A60
   have H' := Aside0.mk H
   clear H
   go_wp2_with (first | ((with_reducible refine gate_callee (f := 17) rfl ?_); refine goesL_ (some 12) rfl rfl Try.func17 (by kernel_rfl) rfl #[.slice A0 l0.length c0] rfl (by (try simp only [List.map_toArray, List.map_cons, List.map_nil]); first | done | rfl | (go_simp; done) | simp) ?_; (with_reducible refine (impl_IsProfile.calls k _ _ l0 true _ ?side1 ?side2 A4.out).mono ?_); (case side1 => repeat (first | exact (Kd.C_below HR0.out HB.out) | (with_reducible first | apply cA | apply cN | apply cD))); (case side2 => exact HC0.out); rintro e w7 ⟨rfl, hb⟩; refine ⟨_, rfl, ?_⟩; have n0_ := Aside0.mk (below_step (by repeat (first | (with_reducible first | exact HB.out | apply lA | apply lN | apply lD) | exact HB.out)) hb); clear HB; have HB := n0_; clear n0_; (try clear hb); (try clear hb2); (try clear hk); (try clear hi)) | (go_at_call 17; (with_reducible refine (impl_IsProfile.calls k _ _ l1 t183 _ ?side1 ?side2 A6.out).mono ?_); (case side1 => repeat (first | exact (Kd.C_below HR1.out HB.out) | (with_reducible first | apply cA | apply cN | apply cD))); (case side2 => exact HC1.out); rintro e w8 ⟨rfl, hb⟩; have n0_ := Aside0.mk (below_step (by repeat (first | (with_reducible first | exact HB.out | apply lA | apply lN | apply lD) | exact HB.out)) hb); clear HB; have HB := n0_; clear n0_; (try clear hb); (try clear hb2); (try clear hk); (try clear hi)))
   go_meet
   case rel => exact ⟨_, (!t183), (by first | rfl | (simp; done) | (simp [*]; done)), H', ⟨by first | omega | exact Nat.le_refl _⟩, ⟨by repeat (first | (with_reducible first | exact HB.out | apply lA | apply lN | apply lD) | exact HB.out)⟩⟩
  ·
   replace c5 := Bool.eq_false_iff.mpr c5
   subst c5
   have H1 : (impl_JoinProfiles.j0 k l0 l1 true) = some (r1, r2) := by rw [if_neg (show ¬ (false = true) by decide)] at H; exact H
   clear H
   have H := H1
   clear H1
   have H' := Aside0.mk H
   clear H
   go_wp2_with (first | ((with_reducible refine gate_callee (f := 17) rfl ?_); refine goesL_ (some 12) rfl rfl Try.func17 (by kernel_rfl) rfl #[.slice A0 l0.length c0] rfl (by (try simp only [List.map_toArray, List.map_cons, List.map_nil]); first | done | rfl | (go_simp; done) | simp) ?_; (with_reducible refine (impl_IsProfile.calls k _ _ l0 false _ ?side1 ?side2 A4.out).mono ?_); (case side1 => repeat (first | exact (Kd.C_below HR0.out HB.out) | (with_reducible first | apply cA | apply cN | apply cD))); (case side2 => exact HC0.out); rintro e w9 ⟨rfl, hb⟩; refine ⟨_, rfl, ?_⟩; have n0_ := Aside0.mk (below_step (by repeat (first | (with_reducible first | exact HB.out | apply lA | apply lN | apply lD) | exact HB.out)) hb); clear HB; have HB := n0_; clear n0_; (try clear hb); (try clear hb2); (try clear hk); (try clear hi)))
   go_meet
   case rel => exact ⟨_, (true), (by first | rfl | (simp; done) | (simp [*]; done)), H', ⟨by first | omega | exact Nat.le_refl _⟩, ⟨by repeat (first | (with_reducible first | exact HB.out | apply lA | apply lN | apply lD) | exact HB.out)⟩⟩
 case rest =>
  clear HC3
  try clear c1
  try clear c2
  try clear p2
  try clear c5
  obtain ⟨kq, x18_2, rfl, HA, HJ2, HB⟩ := hcut
  cases kq with
  | zero => exact absurd HA.out (by simp [impl_JoinProfiles.j0])
  | succ kj2 =>
   have H := HA.out
   clear HA
   simp only [impl_JoinProfiles.j0] at H
   by_cases c10 : x18_2 = true
   ·
    subst c10
    have H1 : (some (([] : List (S55)), 1)) = some (r1, r2) := by rw [if_pos rfl] at H; exact H
    clear H
    have H := H1
    clear H1
    simp only [Option.some.injEq, Prod.mk.injEq] at H
    obtain ⟨rfl, rfl⟩ := H
    go_wp2
    go_ret2
    exact ⟨_, by first | rfl | (simp [errW_none, errW_some] <;> rfl) | (simp [*, errW_none, errW_some] <;> rfl), by first | exact Kd.R_nil _ _ _ _ _ | exact Kd.N_nil _ _ _ _ _ | exact Kd.V_nil _ _ _ _ _ | exact Kd.Q_nil _ _ _ _ _ | exact Kd.S_nil _ _ _ _ _, by repeat (first | (with_reducible first | exact HB.out | apply lA | apply lN | apply lD) | exact HB.out)⟩
   ·
    replace c10 := Bool.eq_false_iff.mpr c10
    subst c10
    have H1 : (if 0 ≤ (wrap64 ((l0.length : Int) - 1)) then (if (wrap64 ((l0.length : Int) - 1)) < (l0.length : Int) then (if 0 ≤ (wrap64 ((l1.length : Int) - 1)) then (if (wrap64 ((l1.length : Int) - 1)) < (l1.length : Int) then (impl_JoinProfiles.l0 kj2 l0 l1 (mn ((rd_T55 l0 (wrap64 ((l0.length : Int) - 1))).f0) ((rd_T55 l1 (wrap64 ((l1.length : Int) - 1))).f0)) ([] : List (S55)) 0 0) else (none)) else (none)) else (none)) else (none)) = some (r1, r2) := by rw [if_neg (show ¬ (false = true) by decide)] at H; exact H
    clear H
    have H := H1
    clear H1
    obtain ⟨ji11, hji11⟩ : ∃ j_ : Int, (wrap64 ((l0.length : Int) - 1)) = j_ := ⟨_, rfl⟩
    replace H : (if 0 ≤ (ji11) then (if (ji11) < (l0.length : Int) then (if 0 ≤ (wrap64 ((l1.length : Int) - 1)) then (if (wrap64 ((l1.length : Int) - 1)) < (l1.length : Int) then (impl_JoinProfiles.l0 kj2 l0 l1 (mn ((rd_T55 l0 (ji11)).f0) ((rd_T55 l1 (wrap64 ((l1.length : Int) - 1))).f0)) ([] : List (S55)) 0 0) else (none)) else (none)) else (none)) else (none)) = some (r1, r2) := by first | (rw [hji11] at H; exact H) | (simp only [hji11] at H ⊢; exact H)
    have hji11w : (IntKind.i64.wrap ((l0.length : Int) - 1)) = ji11 := (i64_w _).trans hji11
    by_cases c12 : 0 ≤ (ji11)
    ·
     rw [if_pos c12] at H
     have c12b0 : decide (0 ≤ (ji11)) = true := decide_eq_true c12
     clear c12
     by_cases c13 : (ji11) < (l0.length : Int)
     ·
      rw [if_pos c13] at H
      have c13b0 : decide ((ji11) < (l0.length : Int)) = true := decide_eq_true c13
      clear c13
      obtain ⟨ji14, hji14⟩ : ∃ j_ : Int, (wrap64 ((l1.length : Int) - 1)) = j_ := ⟨_, rfl⟩
      replace H : (if 0 ≤ (ji14) then (if (ji14) < (l1.length : Int) then (impl_JoinProfiles.l0 kj2 l0 l1 (mn ((rd_T55 l0 (ji11)).f0) ((rd_T55 l1 (ji14)).f0)) ([] : List (S55)) 0 0) else (none)) else (none)) = some (r1, r2) := by first | (rw [hji14] at H; exact H) | (simp only [hji14] at H ⊢; exact H)
      have hji14w : (IntKind.i64.wrap ((l1.length : Int) - 1)) = ji14 := (i64_w _).trans hji14
      by_cases c15 : 0 ≤ (ji14)
      ·
       rw [if_pos c15] at H
       have c15b0 : decide (0 ≤ (ji14)) = true := decide_eq_true c15
       clear c15
       by_cases c16 : (ji14) < (l1.length : Int)
       ·
        rw [if_pos c16] at H
        have c16b0 : decide ((ji14) < (l1.length : Int)) = true := decide_eq_true c16
        clear c16
        obtain ⟨ji17, hji17⟩ : ∃ j_ : Int, (mn ((rd_T55 l0 (ji11)).f0) ((rd_T55 l1 (ji14)).f0)) = j_ := ⟨_, rfl⟩
        replace H : (impl_JoinProfiles.l0 kj2 l0 l1 ji17 ([] : List (S55)) 0 0) = some (r1, r2) := by first | (rw [hji17] at H; exact H) | (simp only [hji17] at H ⊢; exact H)
        have hji17_ : (if ((rd_T55 l1 (ji14)).f0) < ((rd_T55 l0 (ji11)).f0) then ((rd_T55 l1 (ji14)).f0) else ((rd_T55 l0 (ji11)).f0)) = ji17 := hji17
        have H' := Aside0.mk H
        clear H
        try go_wp2
        have n0_ := Aside0.mk (below_drew1 HB.out)
        clear HB
        have HB := n0_
        clear n0_
        have p184 : 0 ≤ ((ji11) : Int) := of_decide_eq_true (by with_reducible assumption)
        have q184 : (ji11) < (l0.length : Int) := of_decide_eq_true (by with_reducible assumption)
        obtain ⟨ad184, e184, hx184_0, hx184_1, hx184_2⟩ := at_T55 HR0.out (ji11) p184 q184
        have hw184_2 := hx184_2
        have hw184_1 := hx184_1
        have hw184_0 := hx184_0
        cases e184
        replace hx184_0 := cB HB.out hx184_0
        replace hx184_1 := cB HB.out hx184_1
        replace hx184_2 := cB HB.out hx184_2
        replace p184 := eq_true p184
        replace q184 := eq_true q184
        have p185 : 0 ≤ ((ji14) : Int) := of_decide_eq_true (by with_reducible assumption)
        have q185 : (ji14) < (l1.length : Int) := of_decide_eq_true (by with_reducible assumption)
        obtain ⟨ad185, e185, hx185_0, hx185_1, hx185_2⟩ := at_T55 HR1.out (ji14) p185 q185
        have hw185_2 := hx185_2
        have hw185_1 := hx185_1
        have hw185_0 := hx185_0
        cases e185
        replace hx185_0 := cB HB.out hx185_0
        replace hx185_1 := cB HB.out hx185_1
        replace hx185_2 := cB HB.out hx185_2
        replace p185 := eq_true p185
        replace q185 := eq_true q185
        refine start_ (n := 16) (S := fun w' => w'.cell? (ad184.add (((ji11)).toNat * 3)) = some (.int .i64 ((rd_T55 l0 (ji11)).f0)) ∧ w'.cell? ⟨(ad184.add (((ji11)).toNat * 3)).block, (ad184.add (((ji11)).toNat * 3)).off + 1, none⟩ = some (.int .i64 ((rd_T55 l0 (ji11)).f1)) ∧ w'.cell? ⟨(ad184.add (((ji11)).toNat * 3)).block, (ad184.add (((ji11)).toNat * 3)).off + 2, none⟩ = some (.int .i64 ((rd_T55 l0 (ji11)).f2)) ∧ w'.cell? (ad185.add (((ji14)).toNat * 3)) = some (.int .i64 ((rd_T55 l1 (ji14)).f0)) ∧ w'.cell? ⟨(ad185.add (((ji14)).toNat * 3)).block, (ad185.add (((ji14)).toNat * 3)).off + 1, none⟩ = some (.int .i64 ((rd_T55 l1 (ji14)).f1)) ∧ w'.cell? ⟨(ad185.add (((ji14)).toNat * 3)).block, (ad185.add (((ji14)).toNat * 3)).off + 2, none⟩ = some (.int .i64 ((rd_T55 l1 (ji14)).f2))) (ds := []) #[false, false, false, false, false, false, false, false, false, false, false, false, false, false, false, false] (by kernel_rfl) rfl rfl ⟨((HB.out.cell (World.block_lt_of_cell? _ _ hw184_0)).trans hw184_0), ((HB.out.cell (World.block_lt_of_cell? _ _ hw184_1)).trans hw184_1), ((HB.out.cell (World.block_lt_of_cell? _ _ hw184_2)).trans hw184_2), ((HB.out.cell (World.block_lt_of_cell? _ _ hw185_0)).trans hw185_0), ((HB.out.cell (World.block_lt_of_cell? _ _ hw185_1)).trans hw185_1), ((HB.out.cell (World.block_lt_of_cell? _ _ hw185_2)).trans hw185_2)⟩ (fun hHeld => ?_); refine with_tabW impl_JoinProfiles.tab3 impl_JoinProfiles.bits3 (fun HT_ HW_ => ?_)
        generalize wc.drew = w18 at HB hx184_0 hx184_1 hx184_2 hx185_0 hx185_1 hx185_2 hHeld ⊢
        refine pure_ (i := 0) (N := some 19) (v := ?_) (a' := ?_) #[true, false, false, false, false, false, false, false, false, false, false, false, false, false, false, false] rfl rfl (any_of HT_.out (by kernel_rfl)) (fun _ _ _ h => h) (Or.inl ⟨by rfl, ?_⟩) ?_ ?_
        rotate_left
        ·
         intro w'
         go_simp
         with_reducible rfl
        rotate_left
        ·
         simp only [Act.put, sT, s0, sS, i64_w, i32_w]
         rfl
        refine pure_ (i := 1) (N := some 20) (v := ?_) (a' := ?_) #[true, true, false, false, false, false, false, false, false, false, false, false, false, false, false, false] rfl rfl (any_of HT_.out (by kernel_rfl)) (fun _ _ _ h => h) (Or.inl ⟨by rfl, ?_⟩) ?_ ?_
        rotate_left
        ·
         intro w'
         go_simp
         with_reducible rfl
        rotate_left
        ·
         simp only [Act.put, sT, s0, sS, i64_w, i32_w]
         rfl
        refine pure_ (i := 2) (N := some 21) (v := ?_) (a' := ?_) #[true, true, true, false, false, false, false, false, false, false, false, false, false, false, false, false] rfl rfl (any_of HT_.out (by kernel_rfl)) (fun _ _ _ h => h) (Or.inl ⟨by rfl, ?_⟩) ?_ ?_
        rotate_left
        ·
         intro w'
         go_simp
         with_reducible rfl
        rotate_left
        ·
         simp only [Act.put, sT, s0, sS, i64_w, i32_w]
         rfl
        refine pure_ (i := 3) (N := some 22) (v := ?_) (a' := ?_) #[true, true, true, true, false, false, false, false, false, false, false, false, false, false, false, false] rfl rfl (any_of HT_.out (by kernel_rfl)) (fun _ _ _ h => h) (Or.inl ⟨by rfl, ?_⟩) ?_ ?_
        rotate_left
        ·
         intro w'
         go_simp
         with_reducible rfl
        rotate_left
        ·
         simp only [Act.put, sT, s0, sS, i64_w, i32_w]
         rfl
        refine pure_ (i := 4) (N := some 23) (v := ?_) (a' := ?_) #[true, true, true, true, true, false, false, false, false, false, false, false, false, false, false, false] rfl rfl (any_of HT_.out (by kernel_rfl)) (fun _ _ _ h => h) (Or.inl ⟨by rfl, ?_⟩) ?_ ?_
        rotate_left
        ·
         intro w'
         go_simp
         with_reducible rfl
        rotate_left
        ·
         simp only [Act.put, sT, s0, sS, i64_w, i32_w]
         rfl
        refine pure_ (i := 5) (N := some 24) (v := ?_) (a' := ?_) #[true, true, true, true, true, true, false, false, false, false, false, false, false, false, false, false] rfl rfl (any_of HT_.out (by kernel_rfl)) (fun _ _ _ h => h) (Or.inl ⟨by rfl, ?_⟩) ?_ ?_
        rotate_left
        ·
         intro w'
         go_simp
         with_reducible rfl
        rotate_left
        ·
         simp only [Act.put, sT, s0, sS, i64_w, i32_w]
         rfl
        refine pure_ (i := 7) (N := some 26) (v := ?_) (a' := ?_) #[true, true, true, true, true, true, false, true, false, false, false, false, false, false, false, false] rfl rfl (any_of HT_.out (by kernel_rfl)) (fun _ _ _ h => h) (Or.inl ⟨by rfl, ?_⟩) ?_ ?_
        rotate_left
        ·
         intro w'
         go_simp
         with_reducible rfl
        rotate_left
        ·
         simp only [Act.put, sT, s0, sS, i64_w, i32_w]
         rfl
        refine pure_ (i := 8) (N := some 27) (v := ?_) (a' := ?_) #[true, true, true, true, true, true, false, true, true, false, false, false, false, false, false, false] rfl rfl (any_of HT_.out (by kernel_rfl)) (fun _ _ _ h => h) (Or.inl ⟨by rfl, ?_⟩) ?_ ?_
        rotate_left
        ·
         intro w'
         go_simp
         with_reducible rfl
        rotate_left
        ·
         simp only [Act.put, sT, s0, sS, i64_w, i32_w]
         rfl
        refine pure_ (i := 9) (N := some 28) (v := ?_) (a' := ?_) #[true, true, true, true, true, true, false, true, true, true, false, false, false, false, false, false] rfl rfl (any_of HT_.out (by kernel_rfl)) (fun _ _ _ h => h) (Or.inl ⟨by rfl, ?_⟩) ?_ ?_
        rotate_left
        ·
         intro w'
         go_simp
         with_reducible rfl
        rotate_left
        ·
         simp only [Act.put, sT, s0, sS, i64_w, i32_w]
         rfl
        refine pure_ (i := 10) (N := some 29) (v := ?_) (a' := ?_) #[true, true, true, true, true, true, false, true, true, true, true, false, false, false, false, false] rfl rfl (any_of HT_.out (by kernel_rfl)) (fun _ _ _ h => h) (Or.inl ⟨by rfl, ?_⟩) ?_ ?_
        rotate_left
        ·
         intro w'
         go_simp
         with_reducible rfl
        rotate_left
        ·
         simp only [Act.put, sT, s0, sS, i64_w, i32_w]
         rfl
        refine pure_ (i := 11) (N := some 30) (v := ?_) (a' := ?_) #[true, true, true, true, true, true, false, true, true, true, true, true, false, false, false, false] rfl rfl (any_of HT_.out (by kernel_rfl)) (fun _ _ _ h => h) (Or.inl ⟨by rfl, ?_⟩) ?_ ?_
        rotate_left
        ·
         intro w'
         go_simp
         with_reducible rfl
        rotate_left
        ·
         simp only [Act.put, sT, s0, sS, i64_w, i32_w]
         rfl
        refine pure_ (i := 12) (N := some 31) (v := ?_) (a' := ?_) #[true, true, true, true, true, true, false, true, true, true, true, true, true, false, false, false] rfl rfl (any_of HT_.out (by kernel_rfl)) (fun _ _ _ h => h) (Or.inl ⟨by rfl, ?_⟩) ?_ ?_
        rotate_left
        ·
         intro w'
         go_simp
         with_reducible rfl
        rotate_left
        ·
         simp only [Act.put, sT, s0, sS, i64_w, i32_w]
         rfl
        refine take_ (i := 6) (N := some 25) (v := ?_) (a' := ?_) #[true, true, true, true, true, true, true, true, true, true, true, true, true, false, false, false] rfl rfl (take_ofW HT_.out HW_.out (by kernel_rfl)) (fun _ _ _ h => h) (Or.inl ⟨by rfl, ?_⟩) hHeld ?_ ?_
        rotate_left
        ·
         rintro w' ⟨s0, s1, s2, s3, s4, s5⟩
         go_simp
         with_reducible rfl
        rotate_left
        ·
         simp only [Act.put, sT, s0, sS, i64_w, i32_w]
         rfl
        refine take_ (i := 13) (N := some 32) (v := ?_) (a' := ?_) #[true, true, true, true, true, true, true, true, true, true, true, true, true, true, false, false] rfl rfl (take_ofW HT_.out HW_.out (by kernel_rfl)) (fun _ _ _ h => h) (Or.inl ⟨by rfl, ?_⟩) hHeld ?_ ?_
        rotate_left
        ·
         rintro w' ⟨s0, s1, s2, s3, s4, s5⟩
         go_simp
         with_reducible rfl
        rotate_left
        ·
         simp only [Act.put, sT, s0, sS, i64_w, i32_w]
         rfl
        refine pure_ (i := 14) (N := some 33) (v := ?_) (a' := ?_) #[true, true, true, true, true, true, true, true, true, true, true, true, true, true, true, false] rfl rfl (any_of HT_.out (by kernel_rfl)) (fun _ _ _ h => h) (Or.inl ⟨by rfl, ?_⟩) ?_ ?_
        rotate_left
        ·
         intro w'
         go_simp
         with_reducible rfl
        rotate_left
        ·
         simp only [Act.put, sT, s0, sS, i64_w, i32_w]
         rfl
        refine pure_ (i := 15) (N := some 6) (v := ?_) (a' := ?_) #[true, true, true, true, true, true, true, true, true, true, true, true, true, true, true, true] rfl rfl (any_of HT_.out (by kernel_rfl)) (fun _ _ _ h => h) (Or.inl ⟨by rfl, ?_⟩) ?_ ?_
        rotate_left
        ·
         intro w'
         go_simp
         with_reducible rfl
        rotate_left
        ·
         simp only [Act.put, sT, s0, sS, i64_w, i32_w]
         rfl
        refine done_ (done_of HT_.out (by kernel_rfl)) ?_
        try go_wp2
        go_loopg [7, 8, 9] kj2 (fun kq v7 v8 v9 w' => ∃ (x7_2 : List (S55)) (x8_2 : Int) (x9_2 : Int), v8 = .int .i64 x8_2 ∧ v9 = .int .i64 x9_2 ∧ Aside0 (impl_JoinProfiles.l0 kq l0 l1 ji17 x7_2 x8_2 x9_2 = some (r1, r2)) ∧ Aside0 (kq ≤ kj2) ∧ Aside0 (Kd.R k55 55 w' w.heap.size (fun _ => True) v7 x7_2) ∧ Aside0 (Below w.heap.size w w'))
        case atStart => exact ⟨(([] : List (S55))), (0), (0), (by first | rfl | (simp; done) | (simp [*]; done)), (by first | rfl | (simp; done) | (simp [*]; done)), H', ⟨Nat.le_refl _⟩, ⟨by first | exact Kd.R_nil _ _ _ _ _ | exact Kd.N_nil _ _ _ _ _ | exact Kd.V_nil _ _ _ _ _ | exact Kd.Q_nil _ _ _ _ _ | exact Kd.S_nil _ _ _ _ _⟩, ⟨by repeat (first | (with_reducible first | exact HB.out | apply lA | apply lN | apply lD) | exact HB.out)⟩⟩
        case round =>
         clear H'
         try clear c1
         try clear p1
         try clear q1
         try clear hx1
         try clear c2
         try clear p2
         try clear c5
         try clear p6
         try clear c10
         try clear c12
         try clear c12b0
         try clear c13
         try clear c13b0
         try clear c15
         try clear c15b0
         try clear c16
         try clear c16b0
         try clear c17
         try clear p18
         try clear q18
         try clear hx18
         try clear hx184_0
         try clear hx184_1
         try clear hx184_2
         try clear hx185_0
         try clear hx185_1
         try clear hx185_2
         try clear p184
         try clear p185
         try clear p2
         try clear q184
         try clear q185
         obtain ⟨x7_2, x8_2, x9_2, rfl, rfl, HA, HK2, HO_7, HB⟩ := hrel
         cases gk with
         | zero => exact absurd HA.out (by simp [impl_JoinProfiles.l0])
         | succ k2 =>
          have H := HA.out
          clear HA
          simp only [impl_JoinProfiles.l0] at H
          have HC19 := Aside0.mk H
          clear H
          go_upto_region 6 with (fail)
          go_cut [43] (fun v43 wc => ∃ (kq : Nat) (x43_18 : Bool), v43 = .bool x43_18 ∧ Aside0 (impl_JoinProfiles.j2 kq l0 l1 ji17 x7_2 x8_2 x9_2 x43_18 = some (r1, r2)) ∧ Aside0 (kq ≤ k2) ∧ Aside0 (Kd.R k55 55 wc w.heap.size (fun _ => True) u7 x7_2) ∧ Aside0 (Below w.heap.size w wc))
          case first =>
           have H := HC19.out
           clear HC19
           by_cases c20 : x8_2 < (l0.length : Int)
           ·
            rw [if_pos c20] at H
            have c20b0 : decide (x8_2 < (l0.length : Int)) = true := decide_eq_true c20
            clear c20
            (first | rw [c20b0] | (simp only [i64_w, i32_w]; rw [c20b0]) | skip)
            have H' := Aside0.mk H
            clear H
            go_wp2
            go_meet
            case rel => exact ⟨_, (decide (x9_2 < (l1.length : Int))), (by first | rfl | (simp; done) | (simp [*]; done)), (by first | exact H' | (simp only [hji11, hji14, hji17]; exact H') | (have H2_ := H'; simp only [← hji11, ← hji14, ← hji17] at H2_; exact H2_)), ⟨by have := HJ2.out; have := HK2.out; first | omega | exact Nat.le_refl _⟩, ⟨by (with_reducible repeat (first | apply rA | apply rN | apply rD)); exact HO_7.out⟩, ⟨by repeat (first | (with_reducible first | exact HB.out | apply lA | apply lN | apply lD) | exact HB.out)⟩⟩
           ·
            rw [if_neg c20] at H
            have c20b0 : decide (x8_2 < (l0.length : Int)) = false := decide_eq_false c20
            clear c20
            (first | rw [c20b0] | (simp only [i64_w, i32_w]; rw [c20b0]) | skip)
            have H' := Aside0.mk H
            clear H
            go_wp2
            go_meet
            case rel => exact ⟨_, (false), (by first | rfl | (simp; done) | (simp [*]; done)), (by first | exact H' | (simp only [hji11, hji14, hji17]; exact H') | (have H2_ := H'; simp only [← hji11, ← hji14, ← hji17] at H2_; exact H2_)), ⟨by have := HJ2.out; have := HK2.out; first | omega | exact Nat.le_refl _⟩, ⟨by (with_reducible repeat (first | apply rA | apply rN | apply rD)); exact HO_7.out⟩, ⟨by repeat (first | (with_reducible first | exact HB.out | apply lA | apply lN | apply lD) | exact HB.out)⟩⟩
          case rest =>
           clear HC19
           try clear c1
           try clear p1
           try clear q1
           try clear hx1
           try clear c2
           try clear p2
           try clear c5
           try clear p6
           try clear c10
           try clear c12
           try clear c12b0
           try clear c13
           try clear c13b0
           try clear c15
           try clear c15b0
           try clear c16
           try clear c16b0
           try clear c17
           try clear p18
           try clear q18
           try clear hx18
           try clear c20
           try clear c20b0
           try clear hx184_0
           try clear hx184_1
           try clear hx184_2
           try clear hx185_0
           try clear hx185_1
           try clear hx185_2
           try clear p1
           try clear p18
           try clear p184
           try clear p185
           try clear p2
           try clear p6
           try clear q1
           try clear q18
           try clear q184
           try clear q185
           obtain ⟨kq, x43_18, rfl, HA, HJ18, HO_7, HB⟩ := hcut
           cases kq with
           | zero => exact absurd HA.out (by simp [impl_JoinProfiles.j2])
           | succ kj18 =>
            have H := HA.out
            clear HA
            simp only [impl_JoinProfiles.j2] at H
            by_cases c21 : x43_18 = true
            ·
             subst c21
             have H1 : (if 0 ≤ x8_2 then (if x8_2 < (l0.length : Int) then (if 0 ≤ x9_2 then (if x9_2 < (l1.length : Int) then (if (mn ((rd_T55 l0 x8_2).f0) ((rd_T55 l1 x9_2).f0)) > ji17 then (if (x7_2.length : Int) > 6 then (some (([] : List (S55)), 3)) else (some (x7_2, 0))) else (if x7_2.length < 5864062014805 then ((some (x7_2 ++ [(⟨mn ((rd_T55 l0 x8_2).f0) ((rd_T55 l1 x9_2).f0), mn ((rd_T55 l0 x8_2).f1) ((rd_T55 l1 x9_2).f1), mx ((rd_T55 l0 x8_2).f2) ((rd_T55 l1 x9_2).f2)⟩ : S55)] : List (S55))).bind fun y192 => (if ((rd_T55 l0 x8_2).f0) = (mn ((rd_T55 l0 x8_2).f0) ((rd_T55 l1 x9_2).f0)) then (if ((rd_T55 l1 x9_2).f0) = (mn ((rd_T55 l0 x8_2).f0) ((rd_T55 l1 x9_2).f0)) then (impl_JoinProfiles.l0 kj18 l0 l1 ji17 y192 (wrap64 (x8_2 + 1)) (wrap64 (x9_2 + 1))) else (impl_JoinProfiles.l0 kj18 l0 l1 ji17 y192 (wrap64 (x8_2 + 1)) x9_2)) else (if ((rd_T55 l1 x9_2).f0) = (mn ((rd_T55 l0 x8_2).f0) ((rd_T55 l1 x9_2).f0)) then (impl_JoinProfiles.l0 kj18 l0 l1 ji17 y192 x8_2 (wrap64 (x9_2 + 1))) else (impl_JoinProfiles.l0 kj18 l0 l1 ji17 y192 x8_2 x9_2)))) else (none))) else (none)) else (none)) else (none)) else (none)) = some (r1, r2) := by rw [if_pos rfl] at H; exact H
             clear H
             have H := H1
             clear H1
             by_cases c22 : 0 ≤ x8_2
             ·
              rw [if_pos c22] at H
              have c22b0 : decide (0 ≤ x8_2) = true := decide_eq_true c22
              clear c22
              by_cases c23 : x8_2 < (l0.length : Int)
              ·
               rw [if_pos c23] at H
               have c23b0 : decide (x8_2 < (l0.length : Int)) = true := decide_eq_true c23
               clear c23
               by_cases c24 : 0 ≤ x9_2
               ·
                rw [if_pos c24] at H
                have c24b0 : decide (0 ≤ x9_2) = true := decide_eq_true c24
                clear c24
                by_cases c25 : x9_2 < (l1.length : Int)
                ·
                 rw [if_pos c25] at H
                 have c25b0 : decide (x9_2 < (l1.length : Int)) = true := decide_eq_true c25
                 clear c25
                 obtain ⟨ji26, hji26⟩ : ∃ j_ : Int, (mn ((rd_T55 l0 x8_2).f0) ((rd_T55 l1 x9_2).f0)) = j_ := ⟨_, rfl⟩
                 replace H : (if (ji26) > ji17 then (if (x7_2.length : Int) > 6 then (some (([] : List (S55)), 3)) else (some (x7_2, 0))) else (if x7_2.length < 5864062014805 then ((some (x7_2 ++ [(⟨ji26, mn ((rd_T55 l0 x8_2).f1) ((rd_T55 l1 x9_2).f1), mx ((rd_T55 l0 x8_2).f2) ((rd_T55 l1 x9_2).f2)⟩ : S55)] : List (S55))).bind fun y192 => (if ((rd_T55 l0 x8_2).f0) = (ji26) then (if ((rd_T55 l1 x9_2).f0) = (ji26) then (impl_JoinProfiles.l0 kj18 l0 l1 ji17 y192 (wrap64 (x8_2 + 1)) (wrap64 (x9_2 + 1))) else (impl_JoinProfiles.l0 kj18 l0 l1 ji17 y192 (wrap64 (x8_2 + 1)) x9_2)) else (if ((rd_T55 l1 x9_2).f0) = (ji26) then (impl_JoinProfiles.l0 kj18 l0 l1 ji17 y192 x8_2 (wrap64 (x9_2 + 1))) else (impl_JoinProfiles.l0 kj18 l0 l1 ji17 y192 x8_2 x9_2)))) else (none))) = some (r1, r2) := by first | (rw [hji26] at H; exact H) | (simp only [hji26] at H ⊢; exact H)
                 have hji26_ : (if ((rd_T55 l1 x9_2).f0) < ((rd_T55 l0 x8_2).f0) then ((rd_T55 l1 x9_2).f0) else ((rd_T55 l0 x8_2).f0)) = ji26 := hji26
                 by_cases c27 : (ji26) > ji17
                 ·
                  rw [if_pos c27] at H
                  have c27b0 : decide (ji17 < (ji26)) = true := decide_eq_true c27
                  clear c27
                  by_cases c28 : (x7_2.length : Int) > 6
                  ·
                   rw [if_pos c28] at H
                   have c28b0 : decide (6 < (x7_2.length : Int)) = true := decide_eq_true c28
                   have c28b1 : decide (6 < x7_2.length) = true := decide_eq_true (by omega)
                   clear c28
                   simp only [Option.some.injEq, Prod.mk.injEq] at H
                   obtain ⟨rfl, rfl⟩ := H
                   try go_wp2
                   have n0_ := Aside0.mk (Kd.R_drew HO_7.out)
                   have n1_ := Aside0.mk (below_drew1 HB.out)
                   clear HO_7
                   clear HB
                   have HO_7 := n0_
                   have HB := n1_
                   clear n0_ n1_
                   have p186 : 0 ≤ (x8_2 : Int) := of_decide_eq_true (by with_reducible assumption)
                   have q186 : x8_2 < (l0.length : Int) := of_decide_eq_true (by with_reducible assumption)
                   obtain ⟨ad186, e186, hx186_0, hx186_1, hx186_2⟩ := at_T55 HR0.out x8_2 p186 q186
                   have hw186_2 := hx186_2
                   have hw186_1 := hx186_1
                   have hw186_0 := hx186_0
                   obtain rfl : ad184 = ad186 := (by injection e186)
                   replace hx186_0 := cB HB.out hx186_0
                   replace hx186_1 := cB HB.out hx186_1
                   replace hx186_2 := cB HB.out hx186_2
                   replace p186 := eq_true p186
                   replace q186 := eq_true q186
                   have p187 : 0 ≤ (x9_2 : Int) := of_decide_eq_true (by with_reducible assumption)
                   have q187 : x9_2 < (l1.length : Int) := of_decide_eq_true (by with_reducible assumption)
                   obtain ⟨ad187, e187, hx187_0, hx187_1, hx187_2⟩ := at_T55 HR1.out x9_2 p187 q187
                   have hw187_2 := hx187_2
                   have hw187_1 := hx187_1
                   have hw187_0 := hx187_0
                   obtain rfl : ad185 = ad187 := (by injection e187)
                   replace hx187_0 := cB HB.out hx187_0
                   replace hx187_1 := cB HB.out hx187_1
                   replace hx187_2 := cB HB.out hx187_2
                   replace p187 := eq_true p187
                   replace q187 := eq_true q187
                   refine start_ (n := 12) (S := fun w' => w'.cell? (ad184.add ((x8_2).toNat * 3)) = some (.int .i64 ((rd_T55 l0 x8_2).f0)) ∧ w'.cell? ⟨(ad184.add ((x8_2).toNat * 3)).block, (ad184.add ((x8_2).toNat * 3)).off + 1, none⟩ = some (.int .i64 ((rd_T55 l0 x8_2).f1)) ∧ w'.cell? ⟨(ad184.add ((x8_2).toNat * 3)).block, (ad184.add ((x8_2).toNat * 3)).off + 2, none⟩ = some (.int .i64 ((rd_T55 l0 x8_2).f2)) ∧ w'.cell? (ad185.add ((x9_2).toNat * 3)) = some (.int .i64 ((rd_T55 l1 x9_2).f0)) ∧ w'.cell? ⟨(ad185.add ((x9_2).toNat * 3)).block, (ad185.add ((x9_2).toNat * 3)).off + 1, none⟩ = some (.int .i64 ((rd_T55 l1 x9_2).f1)) ∧ w'.cell? ⟨(ad185.add ((x9_2).toNat * 3)).block, (ad185.add ((x9_2).toNat * 3)).off + 2, none⟩ = some (.int .i64 ((rd_T55 l1 x9_2).f2))) (ds := []) #[false, false, false, false, false, false, false, false, false, false, false, false] (by kernel_rfl) rfl rfl ⟨((HB.out.cell (World.block_lt_of_cell? _ _ hw186_0)).trans hw186_0), ((HB.out.cell (World.block_lt_of_cell? _ _ hw186_1)).trans hw186_1), ((HB.out.cell (World.block_lt_of_cell? _ _ hw186_2)).trans hw186_2), ((HB.out.cell (World.block_lt_of_cell? _ _ hw187_0)).trans hw187_0), ((HB.out.cell (World.block_lt_of_cell? _ _ hw187_1)).trans hw187_1), ((HB.out.cell (World.block_lt_of_cell? _ _ hw187_2)).trans hw187_2)⟩ (fun hHeld => ?_); refine with_tabW impl_JoinProfiles.tab7 impl_JoinProfiles.bits7 (fun HT_ HW_ => ?_)
                   generalize wc.drew = w29 at HO_7 HB hx186_0 hx186_1 hx186_2 hx187_0 hx187_1 hx187_2 hHeld ⊢
                   refine pure_ (i := 0) (N := some 44) (v := ?_) (a' := ?_) #[true, false, false, false, false, false, false, false, false, false, false, false] rfl rfl (any_of HT_.out (by kernel_rfl)) (fun _ _ _ h => h) (Or.inl ⟨by rfl, ?_⟩) ?_ ?_
                   rotate_left
                   ·
                    intro w'
                    go_simp
                    with_reducible rfl
                   rotate_left
                   ·
                    simp only [Act.put, sT, s0, sS, i64_w, i32_w]
                    rfl
                   refine pure_ (i := 1) (N := some 45) (v := ?_) (a' := ?_) #[true, true, false, false, false, false, false, false, false, false, false, false] rfl rfl (any_of HT_.out (by kernel_rfl)) (fun _ _ _ h => h) (Or.inl ⟨by rfl, ?_⟩) ?_ ?_
                   rotate_left
                   ·
                    intro w'
                    go_simp
                    with_reducible rfl
                   rotate_left
                   ·
                    simp only [Act.put, sT, s0, sS, i64_w, i32_w]
                    rfl
                   refine pure_ (i := 2) (N := some 46) (v := ?_) (a' := ?_) #[true, true, true, false, false, false, false, false, false, false, false, false] rfl rfl (any_of HT_.out (by kernel_rfl)) (fun _ _ _ h => h) (Or.inl ⟨by rfl, ?_⟩) ?_ ?_
                   rotate_left
                   ·
                    intro w'
                    go_simp
                    with_reducible rfl
                   rotate_left
                   ·
                    simp only [Act.put, sT, s0, sS, i64_w, i32_w]
                    rfl
                   refine pure_ (i := 3) (N := some 47) (v := ?_) (a' := ?_) #[true, true, true, true, false, false, false, false, false, false, false, false] rfl rfl (any_of HT_.out (by kernel_rfl)) (fun _ _ _ h => h) (Or.inl ⟨by rfl, ?_⟩) ?_ ?_
                   rotate_left
                   ·
                    intro w'
                    go_simp
                    with_reducible rfl
                   rotate_left
                   ·
                    simp only [Act.put, sT, s0, sS, i64_w, i32_w]
                    rfl
                   refine pure_ (i := 5) (N := some 49) (v := ?_) (a' := ?_) #[true, true, true, true, false, true, false, false, false, false, false, false] rfl rfl (any_of HT_.out (by kernel_rfl)) (fun _ _ _ h => h) (Or.inl ⟨by rfl, ?_⟩) ?_ ?_
                   rotate_left
                   ·
                    intro w'
                    go_simp
                    with_reducible rfl
                   rotate_left
                   ·
                    simp only [Act.put, sT, s0, sS, i64_w, i32_w]
                    rfl
                   refine pure_ (i := 6) (N := some 50) (v := ?_) (a' := ?_) #[true, true, true, true, false, true, true, false, false, false, false, false] rfl rfl (any_of HT_.out (by kernel_rfl)) (fun _ _ _ h => h) (Or.inl ⟨by rfl, ?_⟩) ?_ ?_
                   rotate_left
                   ·
                    intro w'
                    go_simp
                    with_reducible rfl
                   rotate_left
                   ·
                    simp only [Act.put, sT, s0, sS, i64_w, i32_w]
                    rfl
                   refine pure_ (i := 7) (N := some 51) (v := ?_) (a' := ?_) #[true, true, true, true, false, true, true, true, false, false, false, false] rfl rfl (any_of HT_.out (by kernel_rfl)) (fun _ _ _ h => h) (Or.inl ⟨by rfl, ?_⟩) ?_ ?_
                   rotate_left
                   ·
                    intro w'
                    go_simp
                    with_reducible rfl
                   rotate_left
                   ·
                    simp only [Act.put, sT, s0, sS, i64_w, i32_w]
                    rfl
                   refine pure_ (i := 8) (N := some 52) (v := ?_) (a' := ?_) #[true, true, true, true, false, true, true, true, true, false, false, false] rfl rfl (any_of HT_.out (by kernel_rfl)) (fun _ _ _ h => h) (Or.inl ⟨by rfl, ?_⟩) ?_ ?_
                   rotate_left
                   ·
                    intro w'
                    go_simp
                    with_reducible rfl
                   rotate_left
                   ·
                    simp only [Act.put, sT, s0, sS, i64_w, i32_w]
                    rfl
                   refine take_ (i := 4) (N := some 48) (v := ?_) (a' := ?_) #[true, true, true, true, true, true, true, true, true, false, false, false] rfl rfl (take_ofW HT_.out HW_.out (by kernel_rfl)) (fun _ _ _ h => h) (Or.inl ⟨by rfl, ?_⟩) hHeld ?_ ?_
                   rotate_left
                   ·
                    rintro w' ⟨s0, s1, s2, s3, s4, s5⟩
                    go_simp
                    with_reducible rfl
                   rotate_left
                   ·
                    simp only [Act.put, sT, s0, sS, i64_w, i32_w]
                    rfl
                   refine take_ (i := 9) (N := some 53) (v := ?_) (a' := ?_) #[true, true, true, true, true, true, true, true, true, true, false, false] rfl rfl (take_ofW HT_.out HW_.out (by kernel_rfl)) (fun _ _ _ h => h) (Or.inl ⟨by rfl, ?_⟩) hHeld ?_ ?_
                   rotate_left
                   ·
                    rintro w' ⟨s0, s1, s2, s3, s4, s5⟩
                    go_simp
                    with_reducible rfl
                   rotate_left
                   ·
                    simp only [Act.put, sT, s0, sS, i64_w, i32_w]
                    rfl
                   refine pure_ (i := 10) (N := some 54) (v := ?_) (a' := ?_) #[true, true, true, true, true, true, true, true, true, true, true, false] rfl rfl (any_of HT_.out (by kernel_rfl)) (fun _ _ _ h => h) (Or.inl ⟨by rfl, ?_⟩) ?_ ?_
                   rotate_left
                   ·
                    intro w'
                    go_simp
                    with_reducible rfl
                   rotate_left
                   ·
                    simp only [Act.put, sT, s0, sS, i64_w, i32_w]
                    rfl
                   refine pure_ (i := 11) (N := some 10) (v := ?_) (a' := ?_) #[true, true, true, true, true, true, true, true, true, true, true, true] rfl rfl (any_of HT_.out (by kernel_rfl)) (fun _ _ _ h => h) (Or.inl ⟨by rfl, ?_⟩) ?_ ?_
                   rotate_left
                   ·
                    intro w'
                    go_simp
                    with_reducible rfl
                   rotate_left
                   ·
                    simp only [Act.put, sT, s0, sS, i64_w, i32_w]
                    rfl
                   refine done_ (done_of HT_.out (by kernel_rfl)) ?_
                   obtain ⟨Ao30, co30, eo30⟩ := Kd.R_slice HO_7.out
                   subst eo30
                   try go_wp2
                   go_ret2
                   exact ⟨_, by first | rfl | (simp [errW_none, errW_some] <;> rfl) | (simp only [← hji11, ← hji14, ← hji17, ← hji26]; first | rfl | (simp [errW_none, errW_some] <;> rfl)) | (simp [*, errW_none, errW_some] <;> rfl), by first | exact Kd.R_nil _ _ _ _ _ | exact Kd.N_nil _ _ _ _ _ | exact Kd.V_nil _ _ _ _ _ | exact Kd.Q_nil _ _ _ _ _ | exact Kd.S_nil _ _ _ _ _, by repeat (first | (with_reducible first | exact HB.out | apply lA | apply lN | apply lD) | exact HB.out)⟩
                  ·
                   rw [if_neg c28] at H
                   have c28b0 : decide (6 < (x7_2.length : Int)) = false := decide_eq_false c28
                   have c28b1 : decide (6 < x7_2.length) = false := decide_eq_false (by omega)
                   clear c28
                   simp only [Option.some.injEq, Prod.mk.injEq] at H
                   obtain ⟨rfl, rfl⟩ := H
                   try go_wp2
                   have n0_ := Aside0.mk (Kd.R_drew HO_7.out)
                   have n1_ := Aside0.mk (below_drew1 HB.out)
                   clear HO_7
                   clear HB
                   have HO_7 := n0_
                   have HB := n1_
                   clear n0_ n1_
                   have p186 : 0 ≤ (x8_2 : Int) := of_decide_eq_true (by with_reducible assumption)
                   have q186 : x8_2 < (l0.length : Int) := of_decide_eq_true (by with_reducible assumption)
                   obtain ⟨ad186, e186, hx186_0, hx186_1, hx186_2⟩ := at_T55 HR0.out x8_2 p186 q186
                   have hw186_2 := hx186_2
                   have hw186_1 := hx186_1
                   have hw186_0 := hx186_0
                   obtain rfl : ad184 = ad186 := (by injection e186)
                   replace hx186_0 := cB HB.out hx186_0
                   replace hx186_1 := cB HB.out hx186_1
                   replace hx186_2 := cB HB.out hx186_2
                   replace p186 := eq_true p186
                   replace q186 := eq_true q186
                   have p187 : 0 ≤ (x9_2 : Int) := of_decide_eq_true (by with_reducible assumption)
                   have q187 : x9_2 < (l1.length : Int) := of_decide_eq_true (by with_reducible assumption)
                   obtain ⟨ad187, e187, hx187_0, hx187_1, hx187_2⟩ := at_T55 HR1.out x9_2 p187 q187
                   have hw187_2 := hx187_2
                   have hw187_1 := hx187_1
                   have hw187_0 := hx187_0
                   obtain rfl : ad185 = ad187 := (by injection e187)
                   replace hx187_0 := cB HB.out hx187_0
                   replace hx187_1 := cB HB.out hx187_1
                   replace hx187_2 := cB HB.out hx187_2
                   replace p187 := eq_true p187
                   replace q187 := eq_true q187
                   refine start_ (n := 12) (S := fun w' => w'.cell? (ad184.add ((x8_2).toNat * 3)) = some (.int .i64 ((rd_T55 l0 x8_2).f0)) ∧ w'.cell? ⟨(ad184.add ((x8_2).toNat * 3)).block, (ad184.add ((x8_2).toNat * 3)).off + 1, none⟩ = some (.int .i64 ((rd_T55 l0 x8_2).f1)) ∧ w'.cell? ⟨(ad184.add ((x8_2).toNat * 3)).block, (ad184.add ((x8_2).toNat * 3)).off + 2, none⟩ = some (.int .i64 ((rd_T55 l0 x8_2).f2)) ∧ w'.cell? (ad185.add ((x9_2).toNat * 3)) = some (.int .i64 ((rd_T55 l1 x9_2).f0)) ∧ w'.cell? ⟨(ad185.add ((x9_2).toNat * 3)).block, (ad185.add ((x9_2).toNat * 3)).off + 1, none⟩ = some (.int .i64 ((rd_T55 l1 x9_2).f1)) ∧ w'.cell? ⟨(ad185.add ((x9_2).toNat * 3)).block, (ad185.add ((x9_2).toNat * 3)).off + 2, none⟩ = some (.int .i64 ((rd_T55 l1 x9_2).f2))) (ds := []) #[false, false, false, false, false, false, false, false, false, false, false, false] (by kernel_rfl) rfl rfl ⟨((HB.out.cell (World.block_lt_of_cell? _ _ hw186_0)).trans hw186_0), ((HB.out.cell (World.block_lt_of_cell? _ _ hw186_1)).trans hw186_1), ((HB.out.cell (World.block_lt_of_cell? _ _ hw186_2)).trans hw186_2), ((HB.out.cell (World.block_lt_of_cell? _ _ hw187_0)).trans hw187_0), ((HB.out.cell (World.block_lt_of_cell? _ _ hw187_1)).trans hw187_1), ((HB.out.cell (World.block_lt_of_cell? _ _ hw187_2)).trans hw187_2)⟩ (fun hHeld => ?_); refine with_tabW impl_JoinProfiles.tab7 impl_JoinProfiles.bits7 (fun HT_ HW_ => ?_)
                   generalize wc.drew = w31 at HO_7 HB hx186_0 hx186_1 hx186_2 hx187_0 hx187_1 hx187_2 hHeld ⊢
                   refine pure_ (i := 0) (N := some 44) (v := ?_) (a' := ?_) #[true, false, false, false, false, false, false, false, false, false, false, false] rfl rfl (any_of HT_.out (by kernel_rfl)) (fun _ _ _ h => h) (Or.inl ⟨by rfl, ?_⟩) ?_ ?_
                   rotate_left
                   ·
                    intro w'
                    go_simp
                    with_reducible rfl
                   rotate_left
                   ·
                    simp only [Act.put, sT, s0, sS, i64_w, i32_w]
                    rfl
                   refine pure_ (i := 1) (N := some 45) (v := ?_) (a' := ?_) #[true, true, false, false, false, false, false, false, false, false, false, false] rfl rfl (any_of HT_.out (by kernel_rfl)) (fun _ _ _ h => h) (Or.inl ⟨by rfl, ?_⟩) ?_ ?_
                   rotate_left
                   ·
                    intro w'
                    go_simp
                    with_reducible rfl
                   rotate_left
                   ·
                    simp only [Act.put, sT, s0, sS, i64_w, i32_w]
                    rfl
                   refine pure_ (i := 2) (N := some 46) (v := ?_) (a' := ?_) #[true, true, true, false, false, false, false, false, false, false, false, false] rfl rfl (any_of HT_.out (by kernel_rfl)) (fun _ _ _ h => h) (Or.inl ⟨by rfl, ?_⟩) ?_ ?_
                   rotate_left
                   ·
                    intro w'
                    go_simp
                    with_reducible rfl
                   rotate_left
                   ·
                    simp only [Act.put, sT, s0, sS, i64_w, i32_w]
                    rfl
                   refine pure_ (i := 3) (N := some 47) (v := ?_) (a' := ?_) #[true, true, true, true, false, false, false, false, false, false, false, false] rfl rfl (any_of HT_.out (by kernel_rfl)) (fun _ _ _ h => h) (Or.inl ⟨by rfl, ?_⟩) ?_ ?_
                   rotate_left
                   ·
                    intro w'
                    go_simp
                    with_reducible rfl
                   rotate_left
                   ·
                    simp only [Act.put, sT, s0, sS, i64_w, i32_w]
                    rfl
                   refine pure_ (i := 5) (N := some 49) (v := ?_) (a' := ?_) #[true, true, true, true, false, true, false, false, false, false, false, false] rfl rfl (any_of HT_.out (by kernel_rfl)) (fun _ _ _ h => h) (Or.inl ⟨by rfl, ?_⟩) ?_ ?_
                   rotate_left
                   ·
                    intro w'
                    go_simp
                    with_reducible rfl
                   rotate_left
                   ·
                    simp only [Act.put, sT, s0, sS, i64_w, i32_w]
                    rfl
                   refine pure_ (i := 6) (N := some 50) (v := ?_) (a' := ?_) #[true, true, true, true, false, true, true, false, false, false, false, false] rfl rfl (any_of HT_.out (by kernel_rfl)) (fun _ _ _ h => h) (Or.inl ⟨by rfl, ?_⟩) ?_ ?_
                   rotate_left
                   ·
                    intro w'
                    go_simp
                    with_reducible rfl
                   rotate_left
                   ·
                    simp only [Act.put, sT, s0, sS, i64_w, i32_w]
                    rfl
                   refine pure_ (i := 7) (N := some 51) (v := ?_) (a' := ?_) #[true, true, true, true, false, true, true, true, false, false, false, false] rfl rfl (any_of HT_.out (by kernel_rfl)) (fun _ _ _ h => h) (Or.inl ⟨by rfl, ?_⟩) ?_ ?_
                   rotate_left
                   ·
                    intro w'
                    go_simp
                    with_reducible rfl
                   rotate_left
                   ·
                    simp only [Act.put, sT, s0, sS, i64_w, i32_w]
                    rfl
                   refine pure_ (i := 8) (N := some 52) (v := ?_) (a' := ?_) #[true, true, true, true, false, true, true, true, true, false, false, false] rfl rfl (any_of HT_.out (by kernel_rfl)) (fun _ _ _ h => h) (Or.inl ⟨by rfl, ?_⟩) ?_ ?_
                   rotate_left
                   ·
                    intro w'
                    go_simp
                    with_reducible rfl
                   rotate_left
                   ·
                    simp only [Act.put, sT, s0, sS, i64_w, i32_w]
                    rfl
                   refine take_ (i := 4) (N := some 48) (v := ?_) (a' := ?_) #[true, true, true, true, true, true, true, true, true, false, false, false] rfl rfl (take_ofW HT_.out HW_.out (by kernel_rfl)) (fun _ _ _ h => h) (Or.inl ⟨by rfl, ?_⟩) hHeld ?_ ?_
                   rotate_left
                   ·
                    rintro w' ⟨s0, s1, s2, s3, s4, s5⟩
                    go_simp
                    with_reducible rfl
                   rotate_left
                   ·
                    simp only [Act.put, sT, s0, sS, i64_w, i32_w]
                    rfl
                   refine take_ (i := 9) (N := some 53) (v := ?_) (a' := ?_) #[true, true, true, true, true, true, true, true, true, true, false, false] rfl rfl (take_ofW HT_.out HW_.out (by kernel_rfl)) (fun _ _ _ h => h) (Or.inl ⟨by rfl, ?_⟩) hHeld ?_ ?_
                   rotate_left
                   ·
                    rintro w' ⟨s0, s1, s2, s3, s4, s5⟩
                    go_simp
                    with_reducible rfl
                   rotate_left
                   ·
                    simp only [Act.put, sT, s0, sS, i64_w, i32_w]
                    rfl
                   refine pure_ (i := 10) (N := some 54) (v := ?_) (a' := ?_) #[true, true, true, true, true, true, true, true, true, true, true, false] rfl rfl (any_of HT_.out (by kernel_rfl)) (fun _ _ _ h => h) (Or.inl ⟨by rfl, ?_⟩) ?_ ?_
                   rotate_left
                   ·
                    intro w'
                    go_simp
                    with_reducible rfl
                   rotate_left
                   ·
                    simp only [Act.put, sT, s0, sS, i64_w, i32_w]
                    rfl
                   refine pure_ (i := 11) (N := some 10) (v := ?_) (a' := ?_) #[true, true, true, true, true, true, true, true, true, true, true, true] rfl rfl (any_of HT_.out (by kernel_rfl)) (fun _ _ _ h => h) (Or.inl ⟨by rfl, ?_⟩) ?_ ?_
                   rotate_left
                   ·
                    intro w'
                    go_simp
                    with_reducible rfl
                   rotate_left
                   ·
                    simp only [Act.put, sT, s0, sS, i64_w, i32_w]
                    rfl
                   refine done_ (done_of HT_.out (by kernel_rfl)) ?_
                   obtain ⟨Ao32, co32, eo32⟩ := Kd.R_slice HO_7.out
                   subst eo32
                   try go_wp2
                   go_ret2
                   exact ⟨_, by first | rfl | (simp [errW_none, errW_some] <;> rfl) | (simp only [← hji11, ← hji14, ← hji17, ← hji26]; first | rfl | (simp [errW_none, errW_some] <;> rfl)) | (simp [*, errW_none, errW_some] <;> rfl), by (with_reducible repeat (first | apply rA | apply rN | apply rD)); exact HO_7.out, by repeat (first | (with_reducible first | exact HB.out | apply lA | apply lN | apply lD) | exact HB.out)⟩
                 ·
                  rw [if_neg c27] at H
                  have c27b0 : decide (ji17 < (ji26)) = false := decide_eq_false c27
                  clear c27
                  obtain ⟨ji33, hji33⟩ : ∃ j_ : Int, (mn ((rd_T55 l0 x8_2).f1) ((rd_T55 l1 x9_2).f1)) = j_ := ⟨_, rfl⟩
                  replace H : (if x7_2.length < 5864062014805 then ((some (x7_2 ++ [(⟨ji26, ji33, mx ((rd_T55 l0 x8_2).f2) ((rd_T55 l1 x9_2).f2)⟩ : S55)] : List (S55))).bind fun y192 => (if ((rd_T55 l0 x8_2).f0) = (ji26) then (if ((rd_T55 l1 x9_2).f0) = (ji26) then (impl_JoinProfiles.l0 kj18 l0 l1 ji17 y192 (wrap64 (x8_2 + 1)) (wrap64 (x9_2 + 1))) else (impl_JoinProfiles.l0 kj18 l0 l1 ji17 y192 (wrap64 (x8_2 + 1)) x9_2)) else (if ((rd_T55 l1 x9_2).f0) = (ji26) then (impl_JoinProfiles.l0 kj18 l0 l1 ji17 y192 x8_2 (wrap64 (x9_2 + 1))) else (impl_JoinProfiles.l0 kj18 l0 l1 ji17 y192 x8_2 x9_2)))) else (none)) = some (r1, r2) := by first | (rw [hji33] at H; exact H) | (simp only [hji33] at H ⊢; exact H)
                  have hji33_ : (if ((rd_T55 l1 x9_2).f1) < ((rd_T55 l0 x8_2).f1) then ((rd_T55 l1 x9_2).f1) else ((rd_T55 l0 x8_2).f1)) = ji33 := hji33
                  obtain ⟨ji34, hji34⟩ : ∃ j_ : Int, (mx ((rd_T55 l0 x8_2).f2) ((rd_T55 l1 x9_2).f2)) = j_ := ⟨_, rfl⟩
                  replace H : (if x7_2.length < 5864062014805 then ((some (x7_2 ++ [(⟨ji26, ji33, ji34⟩ : S55)] : List (S55))).bind fun y192 => (if ((rd_T55 l0 x8_2).f0) = (ji26) then (if ((rd_T55 l1 x9_2).f0) = (ji26) then (impl_JoinProfiles.l0 kj18 l0 l1 ji17 y192 (wrap64 (x8_2 + 1)) (wrap64 (x9_2 + 1))) else (impl_JoinProfiles.l0 kj18 l0 l1 ji17 y192 (wrap64 (x8_2 + 1)) x9_2)) else (if ((rd_T55 l1 x9_2).f0) = (ji26) then (impl_JoinProfiles.l0 kj18 l0 l1 ji17 y192 x8_2 (wrap64 (x9_2 + 1))) else (impl_JoinProfiles.l0 kj18 l0 l1 ji17 y192 x8_2 x9_2)))) else (none)) = some (r1, r2) := by first | (rw [hji34] at H; exact H) | (simp only [hji34] at H ⊢; exact H)
                  have hji34_ : (if ((rd_T55 l0 x8_2).f2) < ((rd_T55 l1 x9_2).f2) then ((rd_T55 l1 x9_2).f2) else ((rd_T55 l0 x8_2).f2)) = ji34 := hji34
                  by_cases c35 : x7_2.length < 5864062014805
                  ·
                   rw [if_pos c35] at H
                   have LMc35 := Aside0.mk c35
                   clear c35
                   obtain ⟨y192, hy192⟩ : ∃ y_ : List (S55), y_ = (x7_2 ++ [(⟨ji26, ji33, ji34⟩ : S55)]) := ⟨_, rfl⟩
                   replace H : (if ((rd_T55 l0 x8_2).f0) = (ji26) then (if ((rd_T55 l1 x9_2).f0) = (ji26) then (impl_JoinProfiles.l0 kj18 l0 l1 ji17 y192 (wrap64 (x8_2 + 1)) (wrap64 (x9_2 + 1))) else (impl_JoinProfiles.l0 kj18 l0 l1 ji17 y192 (wrap64 (x8_2 + 1)) x9_2)) else (if ((rd_T55 l1 x9_2).f0) = (ji26) then (impl_JoinProfiles.l0 kj18 l0 l1 ji17 y192 x8_2 (wrap64 (x9_2 + 1))) else (impl_JoinProfiles.l0 kj18 l0 l1 ji17 y192 x8_2 x9_2))) = some (r1, r2) := by first | (rw [hy192]; with_reducible exact H) | (have H2_ := (Option.bind_some _ _).symm.trans H; rw [hy192]; with_reducible exact H2_) | (have H2_ := (Option.bind_some _ _).symm.trans H; with_reducible exact H2_) | with_reducible exact H | (rw [hy192]; exact H) | exact H
                   have Ny192 := Aside0.mk hy192
                   clear hy192
                   by_cases c36 : ((rd_T55 l0 x8_2).f0) = (ji26)
                   ·
                    rw [if_pos c36] at H
                    have c36b0 : (((rd_T55 l0 x8_2).f0) == (ji26)) = true := beq_iff_eq.mpr c36
                    have c36b1 : (((rd_T55 l0 x8_2).f0) != (ji26)) = false := bne_eq_false_iff_eq.mpr c36
                    clear c36
                    by_cases c37 : ((rd_T55 l1 x9_2).f0) = (ji26)
                    ·
                     rw [if_pos c37] at H
                     have c37b0 : (((rd_T55 l1 x9_2).f0) == (ji26)) = true := beq_iff_eq.mpr c37
                     have c37b1 : (((rd_T55 l1 x9_2).f0) != (ji26)) = false := bne_eq_false_iff_eq.mpr c37
                     clear c37
                     have H' := Aside0.mk H
                     clear H
                     try go_wp2
                     have n0_ := Aside0.mk (Kd.R_drew HO_7.out)
                     have n1_ := Aside0.mk (below_drew1 HB.out)
                     clear HO_7
                     clear HB
                     have HO_7 := n0_
                     have HB := n1_
                     clear n0_ n1_
                     have p186 : 0 ≤ (x8_2 : Int) := of_decide_eq_true (by with_reducible assumption)
                     have q186 : x8_2 < (l0.length : Int) := of_decide_eq_true (by with_reducible assumption)
                     obtain ⟨ad186, e186, hx186_0, hx186_1, hx186_2⟩ := at_T55 HR0.out x8_2 p186 q186
                     have hw186_2 := hx186_2
                     have hw186_1 := hx186_1
                     have hw186_0 := hx186_0
                     obtain rfl : ad184 = ad186 := (by injection e186)
                     replace hx186_0 := cB HB.out hx186_0
                     replace hx186_1 := cB HB.out hx186_1
                     replace hx186_2 := cB HB.out hx186_2
                     replace p186 := eq_true p186
                     replace q186 := eq_true q186
                     have p187 : 0 ≤ (x9_2 : Int) := of_decide_eq_true (by with_reducible assumption)
                     have q187 : x9_2 < (l1.length : Int) := of_decide_eq_true (by with_reducible assumption)
                     obtain ⟨ad187, e187, hx187_0, hx187_1, hx187_2⟩ := at_T55 HR1.out x9_2 p187 q187
                     have hw187_2 := hx187_2
                     have hw187_1 := hx187_1
                     have hw187_0 := hx187_0
                     obtain rfl : ad185 = ad187 := (by injection e187)
                     replace hx187_0 := cB HB.out hx187_0
                     replace hx187_1 := cB HB.out hx187_1
                     replace hx187_2 := cB HB.out hx187_2
                     replace p187 := eq_true p187
                     replace q187 := eq_true q187
                     refine start_ (n := 12) (S := fun w' => w'.cell? (ad184.add ((x8_2).toNat * 3)) = some (.int .i64 ((rd_T55 l0 x8_2).f0)) ∧ w'.cell? ⟨(ad184.add ((x8_2).toNat * 3)).block, (ad184.add ((x8_2).toNat * 3)).off + 1, none⟩ = some (.int .i64 ((rd_T55 l0 x8_2).f1)) ∧ w'.cell? ⟨(ad184.add ((x8_2).toNat * 3)).block, (ad184.add ((x8_2).toNat * 3)).off + 2, none⟩ = some (.int .i64 ((rd_T55 l0 x8_2).f2)) ∧ w'.cell? (ad185.add ((x9_2).toNat * 3)) = some (.int .i64 ((rd_T55 l1 x9_2).f0)) ∧ w'.cell? ⟨(ad185.add ((x9_2).toNat * 3)).block, (ad185.add ((x9_2).toNat * 3)).off + 1, none⟩ = some (.int .i64 ((rd_T55 l1 x9_2).f1)) ∧ w'.cell? ⟨(ad185.add ((x9_2).toNat * 3)).block, (ad185.add ((x9_2).toNat * 3)).off + 2, none⟩ = some (.int .i64 ((rd_T55 l1 x9_2).f2))) (ds := []) #[false, false, false, false, false, false, false, false, false, false, false, false] (by kernel_rfl) rfl rfl ⟨((HB.out.cell (World.block_lt_of_cell? _ _ hw186_0)).trans hw186_0), ((HB.out.cell (World.block_lt_of_cell? _ _ hw186_1)).trans hw186_1), ((HB.out.cell (World.block_lt_of_cell? _ _ hw186_2)).trans hw186_2), ((HB.out.cell (World.block_lt_of_cell? _ _ hw187_0)).trans hw187_0), ((HB.out.cell (World.block_lt_of_cell? _ _ hw187_1)).trans hw187_1), ((HB.out.cell (World.block_lt_of_cell? _ _ hw187_2)).trans hw187_2)⟩ (fun hHeld => ?_); refine with_tabW impl_JoinProfiles.tab7 impl_JoinProfiles.bits7 (fun HT_ HW_ => ?_)
                     generalize wc.drew = w38 at HO_7 HB hx186_0 hx186_1 hx186_2 hx187_0 hx187_1 hx187_2 hHeld ⊢
                     refine pure_ (i := 0) (N := some 44) (v := ?_) (a' := ?_) #[true, false, false, false, false, false, false, false, false, false, false, false] rfl rfl (any_of HT_.out (by kernel_rfl)) (fun _ _ _ h => h) (Or.inl ⟨by rfl, ?_⟩) ?_ ?_
                     rotate_left
                     ·
                      intro w'
                      go_simp
                      with_reducible rfl
                     rotate_left
                     ·
                      simp only [Act.put, sT, s0, sS, i64_w, i32_w]
                      rfl
                     refine pure_ (i := 1) (N := some 45) (v := ?_) (a' := ?_) #[true, true, false, false, false, false, false, false, false, false, false, false] rfl rfl (any_of HT_.out (by kernel_rfl)) (fun _ _ _ h => h) (Or.inl ⟨by rfl, ?_⟩) ?_ ?_
                     rotate_left
                     ·
                      intro w'
                      go_simp
                      with_reducible rfl
                     rotate_left
                     ·
                      simp only [Act.put, sT, s0, sS, i64_w, i32_w]
                      rfl
                     refine pure_ (i := 2) (N := some 46) (v := ?_) (a' := ?_) #[true, true, true, false, false, false, false, false, false, false, false, false] rfl rfl (any_of HT_.out (by kernel_rfl)) (fun _ _ _ h => h) (Or.inl ⟨by rfl, ?_⟩) ?_ ?_
                     rotate_left
                     ·
                      intro w'
                      go_simp
                      with_reducible rfl
                     rotate_left
                     ·
                      simp only [Act.put, sT, s0, sS, i64_w, i32_w]
                      rfl
                     refine pure_ (i := 3) (N := some 47) (v := ?_) (a' := ?_) #[true, true, true, true, false, false, false, false, false, false, false, false] rfl rfl (any_of HT_.out (by kernel_rfl)) (fun _ _ _ h => h) (Or.inl ⟨by rfl, ?_⟩) ?_ ?_
                     rotate_left
                     ·
                      intro w'
                      go_simp
                      with_reducible rfl
                     rotate_left
                     ·
                      simp only [Act.put, sT, s0, sS, i64_w, i32_w]
                      rfl
                     refine pure_ (i := 5) (N := some 49) (v := ?_) (a' := ?_) #[true, true, true, true, false, true, false, false, false, false, false, false] rfl rfl (any_of HT_.out (by kernel_rfl)) (fun _ _ _ h => h) (Or.inl ⟨by rfl, ?_⟩) ?_ ?_
                     rotate_left
                     ·
                      intro w'
                      go_simp
                      with_reducible rfl
                     rotate_left
                     ·
                      simp only [Act.put, sT, s0, sS, i64_w, i32_w]
                      rfl
                     refine pure_ (i := 6) (N := some 50) (v := ?_) (a' := ?_) #[true, true, true, true, false, true, true, false, false, false, false, false] rfl rfl (any_of HT_.out (by kernel_rfl)) (fun _ _ _ h => h) (Or.inl ⟨by rfl, ?_⟩) ?_ ?_
                     rotate_left
                     ·
                      intro w'
                      go_simp
                      with_reducible rfl
                     rotate_left
                     ·
                      simp only [Act.put, sT, s0, sS, i64_w, i32_w]
                      rfl
                     refine pure_ (i := 7) (N := some 51) (v := ?_) (a' := ?_) #[true, true, true, true, false, true, true, true, false, false, false, false] rfl rfl (any_of HT_.out (by kernel_rfl)) (fun _ _ _ h => h) (Or.inl ⟨by rfl, ?_⟩) ?_ ?_
                     rotate_left
                     ·
                      intro w'
                      go_simp
                      with_reducible rfl
                     rotate_left
                     ·
                      simp only [Act.put, sT, s0, sS, i64_w, i32_w]
                      rfl
                     refine pure_ (i := 8) (N := some 52) (v := ?_) (a' := ?_) #[true, true, true, true, false, true, true, true, true, false, false, false] rfl rfl (any_of HT_.out (by kernel_rfl)) (fun _ _ _ h => h) (Or.inl ⟨by rfl, ?_⟩) ?_ ?_
                     rotate_left
                     ·
                      intro w'
                      go_simp
                      with_reducible rfl
                     rotate_left
                     ·
                      simp only [Act.put, sT, s0, sS, i64_w, i32_w]
                      rfl
                     refine take_ (i := 4) (N := some 48) (v := ?_) (a' := ?_) #[true, true, true, true, true, true, true, true, true, false, false, false] rfl rfl (take_ofW HT_.out HW_.out (by kernel_rfl)) (fun _ _ _ h => h) (Or.inl ⟨by rfl, ?_⟩) hHeld ?_ ?_
                     rotate_left
                     ·
                      rintro w' ⟨s0, s1, s2, s3, s4, s5⟩
                      go_simp
                      with_reducible rfl
                     rotate_left
                     ·
                      simp only [Act.put, sT, s0, sS, i64_w, i32_w]
                      rfl
                     refine take_ (i := 9) (N := some 53) (v := ?_) (a' := ?_) #[true, true, true, true, true, true, true, true, true, true, false, false] rfl rfl (take_ofW HT_.out HW_.out (by kernel_rfl)) (fun _ _ _ h => h) (Or.inl ⟨by rfl, ?_⟩) hHeld ?_ ?_
                     rotate_left
                     ·
                      rintro w' ⟨s0, s1, s2, s3, s4, s5⟩
                      go_simp
                      with_reducible rfl
                     rotate_left
                     ·
                      simp only [Act.put, sT, s0, sS, i64_w, i32_w]
                      rfl
                     refine pure_ (i := 10) (N := some 54) (v := ?_) (a' := ?_) #[true, true, true, true, true, true, true, true, true, true, true, false] rfl rfl (any_of HT_.out (by kernel_rfl)) (fun _ _ _ h => h) (Or.inl ⟨by rfl, ?_⟩) ?_ ?_
                     rotate_left
                     ·
                      intro w'
                      go_simp
                      with_reducible rfl
                     rotate_left
                     ·
                      simp only [Act.put, sT, s0, sS, i64_w, i32_w]
                      rfl
                     refine pure_ (i := 11) (N := some 10) (v := ?_) (a' := ?_) #[true, true, true, true, true, true, true, true, true, true, true, true] rfl rfl (any_of HT_.out (by kernel_rfl)) (fun _ _ _ h => h) (Or.inl ⟨by rfl, ?_⟩) ?_ ?_
                     rotate_left
                     ·
                      intro w'
                      go_simp
                      with_reducible rfl
                     rotate_left
                     ·
                      simp only [Act.put, sT, s0, sS, i64_w, i32_w]
                      rfl
                     refine done_ (done_of HT_.out (by kernel_rfl)) ?_
                     try go_wp2
                     have n0_ := Aside0.mk (Kd.R_drew HO_7.out)
                     have n1_ := Aside0.mk (below_drew1 HB.out)
                     clear HO_7
                     clear HB
                     have HO_7 := n0_
                     have HB := n1_
                     clear n0_ n1_
                     have p188 : 0 ≤ (x8_2 : Int) := of_decide_eq_true (by with_reducible assumption)
                     have q188 : x8_2 < (l0.length : Int) := of_decide_eq_true (by with_reducible assumption)
                     obtain ⟨ad188, e188, hx188_0, hx188_1, hx188_2⟩ := at_T55 HR0.out x8_2 p188 q188
                     have hw188_2 := hx188_2
                     have hw188_1 := hx188_1
                     have hw188_0 := hx188_0
                     obtain rfl : ad184 = ad188 := (by injection e188)
                     replace hx188_0 := cB HB.out hx188_0
                     replace hx188_1 := cB HB.out hx188_1
                     replace hx188_2 := cB HB.out hx188_2
                     replace p188 := eq_true p188
                     replace q188 := eq_true q188
                     have p189 : 0 ≤ (x9_2 : Int) := of_decide_eq_true (by with_reducible assumption)
                     have q189 : x9_2 < (l1.length : Int) := of_decide_eq_true (by with_reducible assumption)
                     obtain ⟨ad189, e189, hx189_0, hx189_1, hx189_2⟩ := at_T55 HR1.out x9_2 p189 q189
                     have hw189_2 := hx189_2
                     have hw189_1 := hx189_1
                     have hw189_0 := hx189_0
                     obtain rfl : ad185 = ad189 := (by injection e189)
                     replace hx189_0 := cB HB.out hx189_0
                     replace hx189_1 := cB HB.out hx189_1
                     replace hx189_2 := cB HB.out hx189_2
                     replace p189 := eq_true p189
                     replace q189 := eq_true q189
                     have p190 : 0 ≤ (x8_2 : Int) := of_decide_eq_true (by with_reducible assumption)
                     have q190 : x8_2 < (l0.length : Int) := of_decide_eq_true (by with_reducible assumption)
                     obtain ⟨ad190, e190, hx190_0, hx190_1, hx190_2⟩ := at_T55 HR0.out x8_2 p190 q190
                     have hw190_2 := hx190_2
                     have hw190_1 := hx190_1
                     have hw190_0 := hx190_0
                     obtain rfl : ad184 = ad190 := (by injection e190)
                     replace hx190_0 := cB HB.out hx190_0
                     replace hx190_1 := cB HB.out hx190_1
                     replace hx190_2 := cB HB.out hx190_2
                     replace p190 := eq_true p190
                     replace q190 := eq_true q190
                     have p191 : 0 ≤ (x9_2 : Int) := of_decide_eq_true (by with_reducible assumption)
                     have q191 : x9_2 < (l1.length : Int) := of_decide_eq_true (by with_reducible assumption)
                     obtain ⟨ad191, e191, hx191_0, hx191_1, hx191_2⟩ := at_T55 HR1.out x9_2 p191 q191
                     have hw191_2 := hx191_2
                     have hw191_1 := hx191_1
                     have hw191_0 := hx191_0
                     obtain rfl : ad185 = ad191 := (by injection e191)
                     replace hx191_0 := cB HB.out hx191_0
                     replace hx191_1 := cB HB.out hx191_1
                     replace hx191_2 := cB HB.out hx191_2
                     replace p191 := eq_true p191
                     replace q191 := eq_true q191
                     refine start_ (n := 28) (S := fun w' => w'.cell? (ad184.add ((x8_2).toNat * 3)) = some (.int .i64 ((rd_T55 l0 x8_2).f0)) ∧ w'.cell? ⟨(ad184.add ((x8_2).toNat * 3)).block, (ad184.add ((x8_2).toNat * 3)).off + 1, none⟩ = some (.int .i64 ((rd_T55 l0 x8_2).f1)) ∧ w'.cell? ⟨(ad184.add ((x8_2).toNat * 3)).block, (ad184.add ((x8_2).toNat * 3)).off + 2, none⟩ = some (.int .i64 ((rd_T55 l0 x8_2).f2)) ∧ w'.cell? (ad185.add ((x9_2).toNat * 3)) = some (.int .i64 ((rd_T55 l1 x9_2).f0)) ∧ w'.cell? ⟨(ad185.add ((x9_2).toNat * 3)).block, (ad185.add ((x9_2).toNat * 3)).off + 1, none⟩ = some (.int .i64 ((rd_T55 l1 x9_2).f1)) ∧ w'.cell? ⟨(ad185.add ((x9_2).toNat * 3)).block, (ad185.add ((x9_2).toNat * 3)).off + 2, none⟩ = some (.int .i64 ((rd_T55 l1 x9_2).f2)) ∧ w'.cell? (ad184.add ((x8_2).toNat * 3)) = some (.int .i64 ((rd_T55 l0 x8_2).f0)) ∧ w'.cell? ⟨(ad184.add ((x8_2).toNat * 3)).block, (ad184.add ((x8_2).toNat * 3)).off + 1, none⟩ = some (.int .i64 ((rd_T55 l0 x8_2).f1)) ∧ w'.cell? ⟨(ad184.add ((x8_2).toNat * 3)).block, (ad184.add ((x8_2).toNat * 3)).off + 2, none⟩ = some (.int .i64 ((rd_T55 l0 x8_2).f2)) ∧ w'.cell? (ad185.add ((x9_2).toNat * 3)) = some (.int .i64 ((rd_T55 l1 x9_2).f0)) ∧ w'.cell? ⟨(ad185.add ((x9_2).toNat * 3)).block, (ad185.add ((x9_2).toNat * 3)).off + 1, none⟩ = some (.int .i64 ((rd_T55 l1 x9_2).f1)) ∧ w'.cell? ⟨(ad185.add ((x9_2).toNat * 3)).block, (ad185.add ((x9_2).toNat * 3)).off + 2, none⟩ = some (.int .i64 ((rd_T55 l1 x9_2).f2))) (ds := []) #[false, false, false, false, false, false, false, false, false, false, false, false, false, false, false, false, false, false, false, false, false, false, false, false, false, false, false, false] (by kernel_rfl) rfl rfl ⟨((HB.out.cell (World.block_lt_of_cell? _ _ hw188_0)).trans hw188_0), ((HB.out.cell (World.block_lt_of_cell? _ _ hw188_1)).trans hw188_1), ((HB.out.cell (World.block_lt_of_cell? _ _ hw188_2)).trans hw188_2), ((HB.out.cell (World.block_lt_of_cell? _ _ hw189_0)).trans hw189_0), ((HB.out.cell (World.block_lt_of_cell? _ _ hw189_1)).trans hw189_1), ((HB.out.cell (World.block_lt_of_cell? _ _ hw189_2)).trans hw189_2), ((HB.out.cell (World.block_lt_of_cell? _ _ hw190_0)).trans hw190_0), ((HB.out.cell (World.block_lt_of_cell? _ _ hw190_1)).trans hw190_1), ((HB.out.cell (World.block_lt_of_cell? _ _ hw190_2)).trans hw190_2), ((HB.out.cell (World.block_lt_of_cell? _ _ hw191_0)).trans hw191_0), ((HB.out.cell (World.block_lt_of_cell? _ _ hw191_1)).trans hw191_1), ((HB.out.cell (World.block_lt_of_cell? _ _ hw191_2)).trans hw191_2)⟩ (fun hHeld => ?_); refine with_tabW impl_JoinProfiles.tab9 impl_JoinProfiles.bits9 (fun HT_ HW_ => ?_)
                     generalize w38.drew = w39 at HO_7 HB hx188_0 hx188_1 hx188_2 hx189_0 hx189_1 hx189_2 hx190_0 hx190_1 hx190_2 hx191_0 hx191_1 hx191_2 hHeld ⊢
                     refine pure_ (i := 0) (N := some 58) (v := ?_) (a' := ?_) #[true, false, false, false, false, false, false, false, false, false, false, false, false, false, false, false, false, false, false, false, false, false, false, false, false, false, false, false] rfl rfl (any_of HT_.out (by kernel_rfl)) (fun _ _ _ h => h) (Or.inl ⟨by rfl, ?_⟩) ?_ ?_
                     rotate_left
                     ·
                      intro w'
                      go_simp
                      with_reducible rfl
                     rotate_left
                     ·
                      simp only [Act.put, sT, s0, sS, i64_w, i32_w]
                      rfl
                     refine pure_ (i := 1) (N := some 59) (v := ?_) (a' := ?_) #[true, true, false, false, false, false, false, false, false, false, false, false, false, false, false, false, false, false, false, false, false, false, false, false, false, false, false, false] rfl rfl (any_of HT_.out (by kernel_rfl)) (fun _ _ _ h => h) (Or.inl ⟨by rfl, ?_⟩) ?_ ?_
                     rotate_left
                     ·
                      intro w'
                      go_simp
                      with_reducible rfl
                     rotate_left
                     ·
                      simp only [Act.put, sT, s0, sS, i64_w, i32_w]
                      rfl
                     refine pure_ (i := 2) (N := some 60) (v := ?_) (a' := ?_) #[true, true, true, false, false, false, false, false, false, false, false, false, false, false, false, false, false, false, false, false, false, false, false, false, false, false, false, false] rfl rfl (any_of HT_.out (by kernel_rfl)) (fun _ _ _ h => h) (Or.inl ⟨by rfl, ?_⟩) ?_ ?_
                     rotate_left
                     ·
                      intro w'
                      go_simp
                      with_reducible rfl
                     rotate_left
                     ·
                      simp only [Act.put, sT, s0, sS, i64_w, i32_w]
                      rfl
                     refine pure_ (i := 3) (N := some 61) (v := ?_) (a' := ?_) #[true, true, true, true, false, false, false, false, false, false, false, false, false, false, false, false, false, false, false, false, false, false, false, false, false, false, false, false] rfl rfl (any_of HT_.out (by kernel_rfl)) (fun _ _ _ h => h) (Or.inl ⟨by rfl, ?_⟩) ?_ ?_
                     rotate_left
                     ·
                      intro w'
                      go_simp
                      with_reducible rfl
                     rotate_left
                     ·
                      simp only [Act.put, sT, s0, sS, i64_w, i32_w]
                      rfl
                     refine pure_ (i := 4) (N := some 62) (v := ?_) (a' := ?_) #[true, true, true, true, true, false, false, false, false, false, false, false, false, false, false, false, false, false, false, false, false, false, false, false, false, false, false, false] rfl rfl (any_of HT_.out (by kernel_rfl)) (fun _ _ _ h => h) (Or.inl ⟨by rfl, ?_⟩) ?_ ?_
                     rotate_left
                     ·
                      intro w'
                      go_simp
                      with_reducible rfl
                     rotate_left
                     ·
                      simp only [Act.put, sT, s0, sS, i64_w, i32_w]
                      rfl
                     refine pure_ (i := 5) (N := some 63) (v := ?_) (a' := ?_) #[true, true, true, true, true, true, false, false, false, false, false, false, false, false, false, false, false, false, false, false, false, false, false, false, false, false, false, false] rfl rfl (any_of HT_.out (by kernel_rfl)) (fun _ _ _ h => h) (Or.inl ⟨by rfl, ?_⟩) ?_ ?_
                     rotate_left
                     ·
                      intro w'
                      go_simp
                      with_reducible rfl
                     rotate_left
                     ·
                      simp only [Act.put, sT, s0, sS, i64_w, i32_w]
                      rfl
                     refine pure_ (i := 7) (N := some 65) (v := ?_) (a' := ?_) #[true, true, true, true, true, true, false, true, false, false, false, false, false, false, false, false, false, false, false, false, false, false, false, false, false, false, false, false] rfl rfl (any_of HT_.out (by kernel_rfl)) (fun _ _ _ h => h) (Or.inl ⟨by rfl, ?_⟩) ?_ ?_
                     rotate_left
                     ·
                      intro w'
                      go_simp
                      with_reducible rfl
                     rotate_left
                     ·
                      simp only [Act.put, sT, s0, sS, i64_w, i32_w]
                      rfl
                     refine pure_ (i := 8) (N := some 66) (v := ?_) (a' := ?_) #[true, true, true, true, true, true, false, true, true, false, false, false, false, false, false, false, false, false, false, false, false, false, false, false, false, false, false, false] rfl rfl (any_of HT_.out (by kernel_rfl)) (fun _ _ _ h => h) (Or.inl ⟨by rfl, ?_⟩) ?_ ?_
                     rotate_left
                     ·
                      intro w'
                      go_simp
                      with_reducible rfl
                     rotate_left
                     ·
                      simp only [Act.put, sT, s0, sS, i64_w, i32_w]
                      rfl
                     refine pure_ (i := 9) (N := some 67) (v := ?_) (a' := ?_) #[true, true, true, true, true, true, false, true, true, true, false, false, false, false, false, false, false, false, false, false, false, false, false, false, false, false, false, false] rfl rfl (any_of HT_.out (by kernel_rfl)) (fun _ _ _ h => h) (Or.inl ⟨by rfl, ?_⟩) ?_ ?_
                     rotate_left
                     ·
                      intro w'
                      go_simp
                      with_reducible rfl
                     rotate_left
                     ·
                      simp only [Act.put, sT, s0, sS, i64_w, i32_w]
                      rfl
                     refine pure_ (i := 10) (N := some 68) (v := ?_) (a' := ?_) #[true, true, true, true, true, true, false, true, true, true, true, false, false, false, false, false, false, false, false, false, false, false, false, false, false, false, false, false] rfl rfl (any_of HT_.out (by kernel_rfl)) (fun _ _ _ h => h) (Or.inl ⟨by rfl, ?_⟩) ?_ ?_
                     rotate_left
                     ·
                      intro w'
                      go_simp
                      with_reducible rfl
                     rotate_left
                     ·
                      simp only [Act.put, sT, s0, sS, i64_w, i32_w]
                      rfl
                     refine pure_ (i := 13) (N := some 71) (v := ?_) (a' := ?_) #[true, true, true, true, true, true, false, true, true, true, true, false, false, true, false, false, false, false, false, false, false, false, false, false, false, false, false, false] rfl rfl (any_of HT_.out (by kernel_rfl)) (fun _ _ _ h => h) (Or.inl ⟨by rfl, ?_⟩) ?_ ?_
                     rotate_left
                     ·
                      intro w'
                      go_simp
                      with_reducible rfl
                     rotate_left
                     ·
                      simp only [Act.put, sT, s0, sS, i64_w, i32_w]
                      rfl
                     refine pure_ (i := 14) (N := some 72) (v := ?_) (a' := ?_) #[true, true, true, true, true, true, false, true, true, true, true, false, false, true, true, false, false, false, false, false, false, false, false, false, false, false, false, false] rfl rfl (any_of HT_.out (by kernel_rfl)) (fun _ _ _ h => h) (Or.inl ⟨by rfl, ?_⟩) ?_ ?_
                     rotate_left
                     ·
                      intro w'
                      go_simp
                      with_reducible rfl
                     rotate_left
                     ·
                      simp only [Act.put, sT, s0, sS, i64_w, i32_w]
                      rfl
                     refine pure_ (i := 15) (N := some 73) (v := ?_) (a' := ?_) #[true, true, true, true, true, true, false, true, true, true, true, false, false, true, true, true, false, false, false, false, false, false, false, false, false, false, false, false] rfl rfl (any_of HT_.out (by kernel_rfl)) (fun _ _ _ h => h) (Or.inl ⟨by rfl, ?_⟩) ?_ ?_
                     rotate_left
                     ·
                      intro w'
                      go_simp
                      with_reducible rfl
                     rotate_left
                     ·
                      simp only [Act.put, sT, s0, sS, i64_w, i32_w]
                      rfl
                     refine pure_ (i := 16) (N := some 74) (v := ?_) (a' := ?_) #[true, true, true, true, true, true, false, true, true, true, true, false, false, true, true, true, true, false, false, false, false, false, false, false, false, false, false, false] rfl rfl (any_of HT_.out (by kernel_rfl)) (fun _ _ _ h => h) (Or.inl ⟨by rfl, ?_⟩) ?_ ?_
                     rotate_left
                     ·
                      intro w'
                      go_simp
                      with_reducible rfl
                     rotate_left
                     ·
                      simp only [Act.put, sT, s0, sS, i64_w, i32_w]
                      rfl
                     refine pure_ (i := 18) (N := some 76) (v := ?_) (a' := ?_) #[true, true, true, true, true, true, false, true, true, true, true, false, false, true, true, true, true, false, true, false, false, false, false, false, false, false, false, false] rfl rfl (any_of HT_.out (by kernel_rfl)) (fun _ _ _ h => h) (Or.inl ⟨by rfl, ?_⟩) ?_ ?_
                     rotate_left
                     ·
                      intro w'
                      go_simp
                      with_reducible rfl
                     rotate_left
                     ·
                      simp only [Act.put, sT, s0, sS, i64_w, i32_w]
                      rfl
                     refine pure_ (i := 19) (N := some 77) (v := ?_) (a' := ?_) #[true, true, true, true, true, true, false, true, true, true, true, false, false, true, true, true, true, false, true, true, false, false, false, false, false, false, false, false] rfl rfl (any_of HT_.out (by kernel_rfl)) (fun _ _ _ h => h) (Or.inl ⟨by rfl, ?_⟩) ?_ ?_
                     rotate_left
                     ·
                      intro w'
                      go_simp
                      with_reducible rfl
                     rotate_left
                     ·
                      simp only [Act.put, sT, s0, sS, i64_w, i32_w]
                      rfl
                     refine pure_ (i := 20) (N := some 78) (v := ?_) (a' := ?_) #[true, true, true, true, true, true, false, true, true, true, true, false, false, true, true, true, true, false, true, true, true, false, false, false, false, false, false, false] rfl rfl (any_of HT_.out (by kernel_rfl)) (fun _ _ _ h => h) (Or.inl ⟨by rfl, ?_⟩) ?_ ?_
                     rotate_left
                     ·
                      intro w'
                      go_simp
                      with_reducible rfl
                     rotate_left
                     ·
                      simp only [Act.put, sT, s0, sS, i64_w, i32_w]
                      rfl
                     refine pure_ (i := 21) (N := some 79) (v := ?_) (a' := ?_) #[true, true, true, true, true, true, false, true, true, true, true, false, false, true, true, true, true, false, true, true, true, true, false, false, false, false, false, false] rfl rfl (any_of HT_.out (by kernel_rfl)) (fun _ _ _ h => h) (Or.inl ⟨by rfl, ?_⟩) ?_ ?_
                     rotate_left
                     ·
                      intro w'
                      go_simp
                      with_reducible rfl
                     rotate_left
                     ·
                      simp only [Act.put, sT, s0, sS, i64_w, i32_w]
                      rfl
                     refine take_ (i := 6) (N := some 64) (v := ?_) (a' := ?_) #[true, true, true, true, true, true, true, true, true, true, true, false, false, true, true, true, true, false, true, true, true, true, false, false, false, false, false, false] rfl rfl (take_ofW HT_.out HW_.out (by kernel_rfl)) (fun _ _ _ h => h) (Or.inl ⟨by rfl, ?_⟩) hHeld ?_ ?_
                     rotate_left
                     ·
                      rintro w' ⟨s0, s1, s2, s3, s4, s5, s6, s7, s8, s9, s10, s11⟩
                      go_simp
                      with_reducible rfl
                     rotate_left
                     ·
                      simp only [Act.put, sT, s0, sS, i64_w, i32_w]
                      rfl
                     refine take_ (i := 11) (N := some 69) (v := ?_) (a' := ?_) #[true, true, true, true, true, true, true, true, true, true, true, true, false, true, true, true, true, false, true, true, true, true, false, false, false, false, false, false] rfl rfl (take_ofW HT_.out HW_.out (by kernel_rfl)) (fun _ _ _ h => h) (Or.inl ⟨by rfl, ?_⟩) hHeld ?_ ?_
                     rotate_left
                     ·
                      rintro w' ⟨s0, s1, s2, s3, s4, s5, s6, s7, s8, s9, s10, s11⟩
                      go_simp
                      with_reducible rfl
                     rotate_left
                     ·
                      simp only [Act.put, sT, s0, sS, i64_w, i32_w]
                      rfl
                     refine pure_ (i := 12) (N := some 70) (v := ?_) (a' := ?_) #[true, true, true, true, true, true, true, true, true, true, true, true, true, true, true, true, true, false, true, true, true, true, false, false, false, false, false, false] rfl rfl (any_of HT_.out (by kernel_rfl)) (fun _ _ _ h => h) (Or.inl ⟨by rfl, ?_⟩) ?_ ?_
                     rotate_left
                     ·
                      intro w'
                      go_simp
                      with_reducible rfl
                     rotate_left
                     ·
                      simp only [Act.put, sT, s0, sS, i64_w, i32_w]
                      rfl
                     refine take_ (i := 17) (N := some 75) (v := ?_) (a' := ?_) #[true, true, true, true, true, true, true, true, true, true, true, true, true, true, true, true, true, true, true, true, true, true, false, false, false, false, false, false] rfl rfl (take_ofW HT_.out HW_.out (by kernel_rfl)) (fun _ _ _ h => h) (Or.inl ⟨by rfl, ?_⟩) hHeld ?_ ?_
                     rotate_left
                     ·
                      rintro w' ⟨s0, s1, s2, s3, s4, s5, s6, s7, s8, s9, s10, s11⟩
                      go_simp
                      with_reducible rfl
                     rotate_left
                     ·
                      simp only [Act.put, sT, s0, sS, i64_w, i32_w]
                      rfl
                     refine take_ (i := 22) (N := some 80) (v := ?_) (a' := ?_) #[true, true, true, true, true, true, true, true, true, true, true, true, true, true, true, true, true, true, true, true, true, true, true, false, false, false, false, false] rfl rfl (take_ofW HT_.out HW_.out (by kernel_rfl)) (fun _ _ _ h => h) (Or.inl ⟨by rfl, ?_⟩) hHeld ?_ ?_
                     rotate_left
                     ·
                      rintro w' ⟨s0, s1, s2, s3, s4, s5, s6, s7, s8, s9, s10, s11⟩
                      go_simp
                      with_reducible rfl
                     rotate_left
                     ·
                      simp only [Act.put, sT, s0, sS, i64_w, i32_w]
                      rfl
                     refine pure_ (i := 23) (N := some 81) (v := ?_) (a' := ?_) #[true, true, true, true, true, true, true, true, true, true, true, true, true, true, true, true, true, true, true, true, true, true, true, true, false, false, false, false] rfl rfl (any_of HT_.out (by kernel_rfl)) (fun _ _ _ h => h) (Or.inl ⟨by rfl, ?_⟩) ?_ ?_
                     rotate_left
                     ·
                      intro w'
                      go_simp
                      with_reducible rfl
                     rotate_left
                     ·
                      simp only [Act.put, sT, s0, sS, i64_w, i32_w]
                      rfl
                     refine pure_ (i := 24) (N := some 82) (v := ?_) (a' := ?_) #[true, true, true, true, true, true, true, true, true, true, true, true, true, true, true, true, true, true, true, true, true, true, true, true, true, false, false, false] rfl rfl (any_of HT_.out (by kernel_rfl)) (fun _ _ _ h => h) (Or.inl ⟨by rfl, ?_⟩) ?_ ?_
                     rotate_left
                     ·
                      intro w'
                      go_simp
                      with_reducible rfl
                     rotate_left
                     ·
                      simp only [Act.put, sT, s0, sS, i64_w, i32_w]
                      rfl
                     refine one_ (i := 25) (N := some 83) #[true, true, true, true, true, true, true, true, true, true, true, true, true, true, true, true, true, true, true, true, true, true, true, true, true, true, false, false] rfl rfl (one_of HT_.out (by kernel_rfl)) (by decide) (fun K hK => ?_)
                     refine value_ (w1 := ?_) (v := ?_) (by rfl) rfl ?_ ?_
                     rotate_left 2
                     ·
                      go_simp
                      constructor
                      ·
                       rfl
                      ·
                       rfl
                     refine hK.out _ _ ⟨(World.cell?_alloc_lt _ _ _ (World.block_lt_of_cell? _ _ (((HB.out.cell (World.block_lt_of_cell? _ _ hw188_0)).trans hw188_0)))).trans (((HB.out.cell (World.block_lt_of_cell? _ _ hw188_0)).trans hw188_0)), (World.cell?_alloc_lt _ _ _ (World.block_lt_of_cell? _ _ (((HB.out.cell (World.block_lt_of_cell? _ _ hw188_1)).trans hw188_1)))).trans (((HB.out.cell (World.block_lt_of_cell? _ _ hw188_1)).trans hw188_1)), (World.cell?_alloc_lt _ _ _ (World.block_lt_of_cell? _ _ (((HB.out.cell (World.block_lt_of_cell? _ _ hw188_2)).trans hw188_2)))).trans (((HB.out.cell (World.block_lt_of_cell? _ _ hw188_2)).trans hw188_2)), (World.cell?_alloc_lt _ _ _ (World.block_lt_of_cell? _ _ (((HB.out.cell (World.block_lt_of_cell? _ _ hw189_0)).trans hw189_0)))).trans (((HB.out.cell (World.block_lt_of_cell? _ _ hw189_0)).trans hw189_0)), (World.cell?_alloc_lt _ _ _ (World.block_lt_of_cell? _ _ (((HB.out.cell (World.block_lt_of_cell? _ _ hw189_1)).trans hw189_1)))).trans (((HB.out.cell (World.block_lt_of_cell? _ _ hw189_1)).trans hw189_1)), (World.cell?_alloc_lt _ _ _ (World.block_lt_of_cell? _ _ (((HB.out.cell (World.block_lt_of_cell? _ _ hw189_2)).trans hw189_2)))).trans (((HB.out.cell (World.block_lt_of_cell? _ _ hw189_2)).trans hw189_2)), (World.cell?_alloc_lt _ _ _ (World.block_lt_of_cell? _ _ (((HB.out.cell (World.block_lt_of_cell? _ _ hw190_0)).trans hw190_0)))).trans (((HB.out.cell (World.block_lt_of_cell? _ _ hw190_0)).trans hw190_0)), (World.cell?_alloc_lt _ _ _ (World.block_lt_of_cell? _ _ (((HB.out.cell (World.block_lt_of_cell? _ _ hw190_1)).trans hw190_1)))).trans (((HB.out.cell (World.block_lt_of_cell? _ _ hw190_1)).trans hw190_1)), (World.cell?_alloc_lt _ _ _ (World.block_lt_of_cell? _ _ (((HB.out.cell (World.block_lt_of_cell? _ _ hw190_2)).trans hw190_2)))).trans (((HB.out.cell (World.block_lt_of_cell? _ _ hw190_2)).trans hw190_2)), (World.cell?_alloc_lt _ _ _ (World.block_lt_of_cell? _ _ (((HB.out.cell (World.block_lt_of_cell? _ _ hw191_0)).trans hw191_0)))).trans (((HB.out.cell (World.block_lt_of_cell? _ _ hw191_0)).trans hw191_0)), (World.cell?_alloc_lt _ _ _ (World.block_lt_of_cell? _ _ (((HB.out.cell (World.block_lt_of_cell? _ _ hw191_1)).trans hw191_1)))).trans (((HB.out.cell (World.block_lt_of_cell? _ _ hw191_1)).trans hw191_1)), (World.cell?_alloc_lt _ _ _ (World.block_lt_of_cell? _ _ (((HB.out.cell (World.block_lt_of_cell? _ _ hw191_2)).trans hw191_2)))).trans (((HB.out.cell (World.block_lt_of_cell? _ _ hw191_2)).trans hw191_2))⟩ (fun hHeld => ?_)
                     clear hK K
                     refine norm_ (a' := ?_) ?_ ?_
                     rotate_left
                     ·
                      show Act.put _ (some 83) _ = _
                      simp only [Act.put, sT, s0, sS, i64_w, i32_w]
                      rfl
                     refine one_ (i := 26) (N := some 84) #[true, true, true, true, true, true, true, true, true, true, true, true, true, true, true, true, true, true, true, true, true, true, true, true, true, true, true, false] rfl rfl (one_of HT_.out (by kernel_rfl)) (by decide) (fun K hK => ?_)
                     refine Kd.R_append_step k55 (w0 := w) w.heap.size (by rfl) (.tmp 58) (.tmp 83) 25 55 (.agg #[(.int .i64 0), (.int .i64 0), (.int .i64 0)]) 24 rfl Try.underlying25 info55 rfl (by decide) (by omega) u7 x7_2 (⟨ji26, ji33, ji34⟩ : S55) [.int .i64 ji26, .int .i64 ji33, .int .i64 ji34] (fun _ => True) (fun _ => False) rfl rfl ?aP (fun _ hk => hk.elim) ?aF ?aO ?aB ?aS ?aL ?_
                     (case aP => exact k55_mkM _ _ _ (⟨ji26, ji33, ji34⟩ : S55))
                     (case aB => exact (by repeat (first | (with_reducible first | exact HB.out | apply lA | apply lN | apply lD) | exact HB.out)))
                     (case aF => exact (fun _ _ => trivial))
                     (case aO => exact (by (with_reducible repeat (first | apply rA | apply rN | apply rD)); exact HO_7.out))
                     (case aS => exact (below_size (by repeat (first | (with_reducible first | exact HB.out | apply lA | apply lN | apply lD) | exact HB.out))))
                     (case aL => have := LMc35.out; omega)
                     intro v193 w40 ho hb hg hat
                     rw [← Ny192.out] at ho
                     have n0_ := Aside0.mk (hb)
                     have n1_ := Aside0.mk (ho)
                     clear HB
                     clear HO_7
                     have HB := n0_
                     have HO194 := n1_
                     clear n0_ n1_
                     clear ho hb hg hat
                     refine hK.out _ _ ⟨((HB.out.cell (World.block_lt_of_cell? _ _ hw188_0)).trans hw188_0), ((HB.out.cell (World.block_lt_of_cell? _ _ hw188_1)).trans hw188_1), ((HB.out.cell (World.block_lt_of_cell? _ _ hw188_2)).trans hw188_2), ((HB.out.cell (World.block_lt_of_cell? _ _ hw189_0)).trans hw189_0), ((HB.out.cell (World.block_lt_of_cell? _ _ hw189_1)).trans hw189_1), ((HB.out.cell (World.block_lt_of_cell? _ _ hw189_2)).trans hw189_2), ((HB.out.cell (World.block_lt_of_cell? _ _ hw190_0)).trans hw190_0), ((HB.out.cell (World.block_lt_of_cell? _ _ hw190_1)).trans hw190_1), ((HB.out.cell (World.block_lt_of_cell? _ _ hw190_2)).trans hw190_2), ((HB.out.cell (World.block_lt_of_cell? _ _ hw191_0)).trans hw191_0), ((HB.out.cell (World.block_lt_of_cell? _ _ hw191_1)).trans hw191_1), ((HB.out.cell (World.block_lt_of_cell? _ _ hw191_2)).trans hw191_2)⟩ (fun hHeld => ?_)
                     clear hK K
                     refine norm_ (a' := ?_) ?_ ?_
                     rotate_left
                     ·
                      show Act.put _ (some 84) _ = _
                      simp only [Act.put, sT, s0, sS, i64_w, i32_w]
                      rfl
                     refine pure_ (i := 27) (N := some 7) (v := ?_) (a' := ?_) #[true, true, true, true, true, true, true, true, true, true, true, true, true, true, true, true, true, true, true, true, true, true, true, true, true, true, true, true] rfl rfl (any_of HT_.out (by kernel_rfl)) (fun _ _ _ h => h) (Or.inl ⟨by rfl, ?_⟩) ?_ ?_
                     rotate_left
                     ·
                      intro w'
                      go_simp
                      with_reducible rfl
                     rotate_left
                     ·
                      simp only [Act.put, sT, s0, sS, i64_w, i32_w]
                      rfl
                     refine done_ (done_of HT_.out (by kernel_rfl)) ?_
                     have p195 : 0 ≤ (x8_2 : Int) := of_decide_eq_true (by with_reducible assumption)
                     have q195 : x8_2 < (l0.length : Int) := of_decide_eq_true (by with_reducible assumption)
                     obtain ⟨ad195, e195, hx195_0, hx195_1, hx195_2⟩ := at_T55 HR0.out x8_2 p195 q195
                     obtain rfl : ad184 = ad195 := (by injection e195)
                     replace hx195_0 := cB HB.out hx195_0
                     replace hx195_1 := cB HB.out hx195_1
                     replace hx195_2 := cB HB.out hx195_2
                     replace p195 := eq_true p195
                     replace q195 := eq_true q195
                     have p196 : 0 ≤ (x9_2 : Int) := of_decide_eq_true (by with_reducible assumption)
                     have q196 : x9_2 < (l1.length : Int) := of_decide_eq_true (by with_reducible assumption)
                     obtain ⟨ad196, e196, hx196_0, hx196_1, hx196_2⟩ := at_T55 HR1.out x9_2 p196 q196
                     obtain rfl : ad185 = ad196 := (by injection e196)
                     replace hx196_0 := cB HB.out hx196_0
                     replace hx196_1 := cB HB.out hx196_1
                     replace hx196_2 := cB HB.out hx196_2
                     replace p196 := eq_true p196
                     replace q196 := eq_true q196
                     try go_wp2
                     go_roundg kj18
                     case measure => have := HJ2.out; have := HK2.out; have := HJ18.out; omega
                     case rel => exact ⟨(y192), (wrap64 (x8_2 + 1)), (wrap64 (x9_2 + 1)), (by first | rfl | (simp; done) | (simp [*]; done)), (by first | rfl | (simp; done) | (simp [*]; done)), (by first | exact H' | (simp only [hji11, hji14, hji17, hji26, hji33, hji34]; exact H') | (have H2_ := H'; simp only [← hji11, ← hji14, ← hji17, ← hji26, ← hji33, ← hji34] at H2_; exact H2_)), ⟨by have := HJ2.out; have := HK2.out; have := HJ18.out; omega⟩, ⟨by (with_reducible repeat (first | apply rA | apply rN | apply rD)); exact HO194.out⟩, ⟨by repeat (first | (with_reducible first | exact HB.out | apply lA | apply lN | apply lD) | exact HB.out)⟩⟩
                    ·
                     rw [if_neg c37] at H
                     have c37b0 : (((rd_T55 l1 x9_2).f0) == (ji26)) = false := beq_eq_false_iff_ne.mpr c37
                     have c37b1 : (((rd_T55 l1 x9_2).f0) != (ji26)) = true := bne_iff_ne.mpr c37
                     have H' := Aside0.mk H
                     clear H
                     try go_wp2
                     have n0_ := Aside0.mk (Kd.R_drew HO_7.out)
                     have n1_ := Aside0.mk (below_drew1 HB.out)
                     clear HO_7
                     clear HB
                     have HO_7 := n0_
                     have HB := n1_
                     clear n0_ n1_
                     have p186 : 0 ≤ (x8_2 : Int) := of_decide_eq_true (by with_reducible assumption)
                     have q186 : x8_2 < (l0.length : Int) := of_decide_eq_true (by with_reducible assumption)
                     obtain ⟨ad186, e186, hx186_0, hx186_1, hx186_2⟩ := at_T55 HR0.out x8_2 p186 q186
                     have hw186_2 := hx186_2
                     have hw186_1 := hx186_1
                     have hw186_0 := hx186_0
                     obtain rfl : ad184 = ad186 := (by injection e186)
                     replace hx186_0 := cB HB.out hx186_0
                     replace hx186_1 := cB HB.out hx186_1
                     replace hx186_2 := cB HB.out hx186_2
                     replace p186 := eq_true p186
                     replace q186 := eq_true q186
                     have p187 : 0 ≤ (x9_2 : Int) := of_decide_eq_true (by with_reducible assumption)
                     have q187 : x9_2 < (l1.length : Int) := of_decide_eq_true (by with_reducible assumption)
                     obtain ⟨ad187, e187, hx187_0, hx187_1, hx187_2⟩ := at_T55 HR1.out x9_2 p187 q187
                     have hw187_2 := hx187_2
                     have hw187_1 := hx187_1
                     have hw187_0 := hx187_0
                     obtain rfl : ad185 = ad187 := (by injection e187)
                     replace hx187_0 := cB HB.out hx187_0
                     replace hx187_1 := cB HB.out hx187_1
                     replace hx187_2 := cB HB.out hx187_2
                     replace p187 := eq_true p187
                     replace q187 := eq_true q187
                     refine start_ (n := 12) (S := fun w' => w'.cell? (ad184.add ((x8_2).toNat * 3)) = some (.int .i64 ((rd_T55 l0 x8_2).f0)) ∧ w'.cell? ⟨(ad184.add ((x8_2).toNat * 3)).block, (ad184.add ((x8_2).toNat * 3)).off + 1, none⟩ = some (.int .i64 ((rd_T55 l0 x8_2).f1)) ∧ w'.cell? ⟨(ad184.add ((x8_2).toNat * 3)).block, (ad184.add ((x8_2).toNat * 3)).off + 2, none⟩ = some (.int .i64 ((rd_T55 l0 x8_2).f2)) ∧ w'.cell? (ad185.add ((x9_2).toNat * 3)) = some (.int .i64 ((rd_T55 l1 x9_2).f0)) ∧ w'.cell? ⟨(ad185.add ((x9_2).toNat * 3)).block, (ad185.add ((x9_2).toNat * 3)).off + 1, none⟩ = some (.int .i64 ((rd_T55 l1 x9_2).f1)) ∧ w'.cell? ⟨(ad185.add ((x9_2).toNat * 3)).block, (ad185.add ((x9_2).toNat * 3)).off + 2, none⟩ = some (.int .i64 ((rd_T55 l1 x9_2).f2))) (ds := []) #[false, false, false, false, false, false, false, false, false, false, false, false] (by kernel_rfl) rfl rfl ⟨((HB.out.cell (World.block_lt_of_cell? _ _ hw186_0)).trans hw186_0), ((HB.out.cell (World.block_lt_of_cell? _ _ hw186_1)).trans hw186_1), ((HB.out.cell (World.block_lt_of_cell? _ _ hw186_2)).trans hw186_2), ((HB.out.cell (World.block_lt_of_cell? _ _ hw187_0)).trans hw187_0), ((HB.out.cell (World.block_lt_of_cell? _ _ hw187_1)).trans hw187_1), ((HB.out.cell (World.block_lt_of_cell? _ _ hw187_2)).trans hw187_2)⟩ (fun hHeld => ?_); refine with_tabW impl_JoinProfiles.tab7 impl_JoinProfiles.bits7 (fun HT_ HW_ => ?_)
                     generalize wc.drew = w41 at HO_7 HB hx186_0 hx186_1 hx186_2 hx187_0 hx187_1 hx187_2 hHeld ⊢
                     refine pure_ (i := 0) (N := some 44) (v := ?_) (a' := ?_) #[true, false, false, false, false, false, false, false, false, false, false, false] rfl rfl (any_of HT_.out (by kernel_rfl)) (fun _ _ _ h => h) (Or.inl ⟨by rfl, ?_⟩) ?_ ?_
                     rotate_left
                     ·
                      intro w'
                      go_simp
                      with_reducible rfl
                     rotate_left
                     ·
                      simp only [Act.put, sT, s0, sS, i64_w, i32_w]
                      rfl
                     refine pure_ (i := 1) (N := some 45) (v := ?_) (a' := ?_) #[true, true, false, false, false, false, false, false, false, false, false, false] rfl rfl (any_of HT_.out (by kernel_rfl)) (fun _ _ _ h => h) (Or.inl ⟨by rfl, ?_⟩) ?_ ?_
                     rotate_left
                     ·
                      intro w'
                      go_simp
                      with_reducible rfl
                     rotate_left
                     ·
                      simp only [Act.put, sT, s0, sS, i64_w, i32_w]
                      rfl
                     refine pure_ (i := 2) (N := some 46) (v := ?_) (a' := ?_) #[true, true, true, false, false, false, false, false, false, false, false, false] rfl rfl (any_of HT_.out (by kernel_rfl)) (fun _ _ _ h => h) (Or.inl ⟨by rfl, ?_⟩) ?_ ?_
                     rotate_left
                     ·
                      intro w'
                      go_simp
                      with_reducible rfl
                     rotate_left
                     ·
                      simp only [Act.put, sT, s0, sS, i64_w, i32_w]
                      rfl
                     refine pure_ (i := 3) (N := some 47) (v := ?_) (a' := ?_) #[true, true, true, true, false, false, false, false, false, false, false, false] rfl rfl (any_of HT_.out (by kernel_rfl)) (fun _ _ _ h => h) (Or.inl ⟨by rfl, ?_⟩) ?_ ?_
                     rotate_left
                     ·
                      intro w'
                      go_simp
                      with_reducible rfl
                     rotate_left
                     ·
                      simp only [Act.put, sT, s0, sS, i64_w, i32_w]
                      rfl
                     refine pure_ (i := 5) (N := some 49) (v := ?_) (a' := ?_) #[true, true, true, true, false, true, false, false, false, false, false, false] rfl rfl (any_of HT_.out (by kernel_rfl)) (fun _ _ _ h => h) (Or.inl ⟨by rfl, ?_⟩) ?_ ?_
                     rotate_left
                     ·
                      intro w'
                      go_simp
                      with_reducible rfl
                     rotate_left
                     ·
                      simp only [Act.put, sT, s0, sS, i64_w, i32_w]
                      rfl
                     refine pure_ (i := 6) (N := some 50) (v := ?_) (a' := ?_) #[true, true, true, true, false, true, true, false, false, false, false, false] rfl rfl (any_of HT_.out (by kernel_rfl)) (fun _ _ _ h => h) (Or.inl ⟨by rfl, ?_⟩) ?_ ?_
                     rotate_left
                     ·
                      intro w'
                      go_simp
                      with_reducible rfl
                     rotate_left
                     ·
                      simp only [Act.put, sT, s0, sS, i64_w, i32_w]
                      rfl
                     refine pure_ (i := 7) (N := some 51) (v := ?_) (a' := ?_) #[true, true, true, true, false, true, true, true, false, false, false, false] rfl rfl (any_of HT_.out (by kernel_rfl)) (fun _ _ _ h => h) (Or.inl ⟨by rfl, ?_⟩) ?_ ?_
                     rotate_left
                     ·
                      intro w'
                      go_simp
                      with_reducible rfl
                     rotate_left
                     ·
                      simp only [Act.put, sT, s0, sS, i64_w, i32_w]
                      rfl
                     refine pure_ (i := 8) (N := some 52) (v := ?_) (a' := ?_) #[true, true, true, true, false, true, true, true, true, false, false, false] rfl rfl (any_of HT_.out (by kernel_rfl)) (fun _ _ _ h => h) (Or.inl ⟨by rfl, ?_⟩) ?_ ?_
                     rotate_left
                     ·
                      intro w'
                      go_simp
                      with_reducible rfl
                     rotate_left
                     ·
                      simp only [Act.put, sT, s0, sS, i64_w, i32_w]
                      rfl
                     refine take_ (i := 4) (N := some 48) (v := ?_) (a' := ?_) #[true, true, true, true, true, true, true, true, true, false, false, false] rfl rfl (take_ofW HT_.out HW_.out (by kernel_rfl)) (fun _ _ _ h => h) (Or.inl ⟨by rfl, ?_⟩) hHeld ?_ ?_
                     rotate_left
                     ·
                      rintro w' ⟨s0, s1, s2, s3, s4, s5⟩
                      go_simp
                      with_reducible rfl
                     rotate_left
                     ·
                      simp only [Act.put, sT, s0, sS, i64_w, i32_w]
                      rfl
                     refine take_ (i := 9) (N := some 53) (v := ?_) (a' := ?_) #[true, true, true, true, true, true, true, true, true, true, false, false] rfl rfl (take_ofW HT_.out HW_.out (by kernel_rfl)) (fun _ _ _ h => h) (Or.inl ⟨by rfl, ?_⟩) hHeld ?_ ?_
                     rotate_left
                     ·
                      rintro w' ⟨s0, s1, s2, s3, s4, s5⟩
                      go_simp
                      with_reducible rfl
                     rotate_left
                     ·
                      simp only [Act.put, sT, s0, sS, i64_w, i32_w]
                      rfl
                     refine pure_ (i := 10) (N := some 54) (v := ?_) (a' := ?_) #[true, true, true, true, true, true, true, true, true, true, true, false] rfl rfl (any_of HT_.out (by kernel_rfl)) (fun _ _ _ h => h) (Or.inl ⟨by rfl, ?_⟩) ?_ ?_
                     rotate_left
                     ·
                      intro w'
                      go_simp
                      with_reducible rfl
                     rotate_left
                     ·
                      simp only [Act.put, sT, s0, sS, i64_w, i32_w]
                      rfl
                     refine pure_ (i := 11) (N := some 10) (v := ?_) (a' := ?_) #[true, true, true, true, true, true, true, true, true, true, true, true] rfl rfl (any_of HT_.out (by kernel_rfl)) (fun _ _ _ h => h) (Or.inl ⟨by rfl, ?_⟩) ?_ ?_
                     rotate_left
                     ·
                      intro w'
                      go_simp
                      with_reducible rfl
                     rotate_left
                     ·
                      simp only [Act.put, sT, s0, sS, i64_w, i32_w]
                      rfl
                     refine done_ (done_of HT_.out (by kernel_rfl)) ?_
                     try go_wp2
                     have n0_ := Aside0.mk (Kd.R_drew HO_7.out)
                     have n1_ := Aside0.mk (below_drew1 HB.out)
                     clear HO_7
                     clear HB
                     have HO_7 := n0_
                     have HB := n1_
                     clear n0_ n1_
                     have p188 : 0 ≤ (x8_2 : Int) := of_decide_eq_true (by with_reducible assumption)
                     have q188 : x8_2 < (l0.length : Int) := of_decide_eq_true (by with_reducible assumption)
                     obtain ⟨ad188, e188, hx188_0, hx188_1, hx188_2⟩ := at_T55 HR0.out x8_2 p188 q188
                     have hw188_2 := hx188_2
                     have hw188_1 := hx188_1
                     have hw188_0 := hx188_0
                     obtain rfl : ad184 = ad188 := (by injection e188)
                     replace hx188_0 := cB HB.out hx188_0
                     replace hx188_1 := cB HB.out hx188_1
                     replace hx188_2 := cB HB.out hx188_2
                     replace p188 := eq_true p188
                     replace q188 := eq_true q188
                     have p189 : 0 ≤ (x9_2 : Int) := of_decide_eq_true (by with_reducible assumption)
                     have q189 : x9_2 < (l1.length : Int) := of_decide_eq_true (by with_reducible assumption)
                     obtain ⟨ad189, e189, hx189_0, hx189_1, hx189_2⟩ := at_T55 HR1.out x9_2 p189 q189
                     have hw189_2 := hx189_2
                     have hw189_1 := hx189_1
                     have hw189_0 := hx189_0
                     obtain rfl : ad185 = ad189 := (by injection e189)
                     replace hx189_0 := cB HB.out hx189_0
                     replace hx189_1 := cB HB.out hx189_1
                     replace hx189_2 := cB HB.out hx189_2
                     replace p189 := eq_true p189
                     replace q189 := eq_true q189
                     have p190 : 0 ≤ (x8_2 : Int) := of_decide_eq_true (by with_reducible assumption)
                     have q190 : x8_2 < (l0.length : Int) := of_decide_eq_true (by with_reducible assumption)
                     obtain ⟨ad190, e190, hx190_0, hx190_1, hx190_2⟩ := at_T55 HR0.out x8_2 p190 q190
                     have hw190_2 := hx190_2
                     have hw190_1 := hx190_1
                     have hw190_0 := hx190_0
                     obtain rfl : ad184 = ad190 := (by injection e190)
                     replace hx190_0 := cB HB.out hx190_0
                     replace hx190_1 := cB HB.out hx190_1
                     replace hx190_2 := cB HB.out hx190_2
                     replace p190 := eq_true p190
                     replace q190 := eq_true q190
                     have p191 : 0 ≤ (x9_2 : Int) := of_decide_eq_true (by with_reducible assumption)
                     have q191 : x9_2 < (l1.length : Int) := of_decide_eq_true (by with_reducible assumption)
                     obtain ⟨ad191, e191, hx191_0, hx191_1, hx191_2⟩ := at_T55 HR1.out x9_2 p191 q191
                     have hw191_2 := hx191_2
                     have hw191_1 := hx191_1
                     have hw191_0 := hx191_0
                     obtain rfl : ad185 = ad191 := (by injection e191)
                     replace hx191_0 := cB HB.out hx191_0
                     replace hx191_1 := cB HB.out hx191_1
                     replace hx191_2 := cB HB.out hx191_2
                     replace p191 := eq_true p191
                     replace q191 := eq_true q191
                     refine start_ (n := 28) (S := fun w' => w'.cell? (ad184.add ((x8_2).toNat * 3)) = some (.int .i64 ((rd_T55 l0 x8_2).f0)) ∧ w'.cell? ⟨(ad184.add ((x8_2).toNat * 3)).block, (ad184.add ((x8_2).toNat * 3)).off + 1, none⟩ = some (.int .i64 ((rd_T55 l0 x8_2).f1)) ∧ w'.cell? ⟨(ad184.add ((x8_2).toNat * 3)).block, (ad184.add ((x8_2).toNat * 3)).off + 2, none⟩ = some (.int .i64 ((rd_T55 l0 x8_2).f2)) ∧ w'.cell? (ad185.add ((x9_2).toNat * 3)) = some (.int .i64 ((rd_T55 l1 x9_2).f0)) ∧ w'.cell? ⟨(ad185.add ((x9_2).toNat * 3)).block, (ad185.add ((x9_2).toNat * 3)).off + 1, none⟩ = some (.int .i64 ((rd_T55 l1 x9_2).f1)) ∧ w'.cell? ⟨(ad185.add ((x9_2).toNat * 3)).block, (ad185.add ((x9_2).toNat * 3)).off + 2, none⟩ = some (.int .i64 ((rd_T55 l1 x9_2).f2)) ∧ w'.cell? (ad184.add ((x8_2).toNat * 3)) = some (.int .i64 ((rd_T55 l0 x8_2).f0)) ∧ w'.cell? ⟨(ad184.add ((x8_2).toNat * 3)).block, (ad184.add ((x8_2).toNat * 3)).off + 1, none⟩ = some (.int .i64 ((rd_T55 l0 x8_2).f1)) ∧ w'.cell? ⟨(ad184.add ((x8_2).toNat * 3)).block, (ad184.add ((x8_2).toNat * 3)).off + 2, none⟩ = some (.int .i64 ((rd_T55 l0 x8_2).f2)) ∧ w'.cell? (ad185.add ((x9_2).toNat * 3)) = some (.int .i64 ((rd_T55 l1 x9_2).f0)) ∧ w'.cell? ⟨(ad185.add ((x9_2).toNat * 3)).block, (ad185.add ((x9_2).toNat * 3)).off + 1, none⟩ = some (.int .i64 ((rd_T55 l1 x9_2).f1)) ∧ w'.cell? ⟨(ad185.add ((x9_2).toNat * 3)).block, (ad185.add ((x9_2).toNat * 3)).off + 2, none⟩ = some (.int .i64 ((rd_T55 l1 x9_2).f2))) (ds := []) #[false, false, false, false, false, false, false, false, false, false, false, false, false, false, false, false, false, false, false, false, false, false, false, false, false, false, false, false] (by kernel_rfl) rfl rfl ⟨((HB.out.cell (World.block_lt_of_cell? _ _ hw188_0)).trans hw188_0), ((HB.out.cell (World.block_lt_of_cell? _ _ hw188_1)).trans hw188_1), ((HB.out.cell (World.block_lt_of_cell? _ _ hw188_2)).trans hw188_2), ((HB.out.cell (World.block_lt_of_cell? _ _ hw189_0)).trans hw189_0), ((HB.out.cell (World.block_lt_of_cell? _ _ hw189_1)).trans hw189_1), ((HB.out.cell (World.block_lt_of_cell? _ _ hw189_2)).trans hw189_2), ((HB.out.cell (World.block_lt_of_cell? _ _ hw190_0)).trans hw190_0), ((HB.out.cell (World.block_lt_of_cell? _ _ hw190_1)).trans hw190_1), ((HB.out.cell (World.block_lt_of_cell? _ _ hw190_2)).trans hw190_2), ((HB.out.cell (World.block_lt_of_cell? _ _ hw191_0)).trans hw191_0), ((HB.out.cell (World.block_lt_of_cell? _ _ hw191_1)).trans hw191_1), ((HB.out.cell (World.block_lt_of_cell? _ _ hw191_2)).trans hw191_2)⟩ (fun hHeld => ?_); refine with_tabW impl_JoinProfiles.tab9 impl_JoinProfiles.bits9 (fun HT_ HW_ => ?_)
                     generalize w41.drew = w42 at HO_7 HB hx188_0 hx188_1 hx188_2 hx189_0 hx189_1 hx189_2 hx190_0 hx190_1 hx190_2 hx191_0 hx191_1 hx191_2 hHeld ⊢
                     refine pure_ (i := 0) (N := some 58) (v := ?_) (a' := ?_) #[true, false, false, false, false, false, false, false, false, false, false, false, false, false, false, false, false, false, false, false, false, false, false, false, false, false, false, false] rfl rfl (any_of HT_.out (by kernel_rfl)) (fun _ _ _ h => h) (Or.inl ⟨by rfl, ?_⟩) ?_ ?_
                     rotate_left
                     ·
                      intro w'
                      go_simp
                      with_reducible rfl
                     rotate_left
                     ·
                      simp only [Act.put, sT, s0, sS, i64_w, i32_w]
                      rfl
                     refine pure_ (i := 1) (N := some 59) (v := ?_) (a' := ?_) #[true, true, false, false, false, false, false, false, false, false, false, false, false, false, false, false, false, false, false, false, false, false, false, false, false, false, false, false] rfl rfl (any_of HT_.out (by kernel_rfl)) (fun _ _ _ h => h) (Or.inl ⟨by rfl, ?_⟩) ?_ ?_
                     rotate_left
                     ·
                      intro w'
                      go_simp
                      with_reducible rfl
                     rotate_left
                     ·
                      simp only [Act.put, sT, s0, sS, i64_w, i32_w]
                      rfl
                     refine pure_ (i := 2) (N := some 60) (v := ?_) (a' := ?_) #[true, true, true, false, false, false, false, false, false, false, false, false, false, false, false, false, false, false, false, false, false, false, false, false, false, false, false, false] rfl rfl (any_of HT_.out (by kernel_rfl)) (fun _ _ _ h => h) (Or.inl ⟨by rfl, ?_⟩) ?_ ?_
                     rotate_left
                     ·
                      intro w'
                      go_simp
                      with_reducible rfl
                     rotate_left
                     ·
                      simp only [Act.put, sT, s0, sS, i64_w, i32_w]
                      rfl
                     refine pure_ (i := 3) (N := some 61) (v := ?_) (a' := ?_) #[true, true, true, true, false, false, false, false, false, false, false, false, false, false, false, false, false, false, false, false, false, false, false, false, false, false, false, false] rfl rfl (any_of HT_.out (by kernel_rfl)) (fun _ _ _ h => h) (Or.inl ⟨by rfl, ?_⟩) ?_ ?_
                     rotate_left
                     ·
                      intro w'
                      go_simp
                      with_reducible rfl
                     rotate_left
                     ·
                      simp only [Act.put, sT, s0, sS, i64_w, i32_w]
                      rfl
                     refine pure_ (i := 4) (N := some 62) (v := ?_) (a' := ?_) #[true, true, true, true, true, false, false, false, false, false, false, false, false, false, false, false, false, false, false, false, false, false, false, false, false, false, false, false] rfl rfl (any_of HT_.out (by kernel_rfl)) (fun _ _ _ h => h) (Or.inl ⟨by rfl, ?_⟩) ?_ ?_
                     rotate_left
                     ·
                      intro w'
                      go_simp
                      with_reducible rfl
                     rotate_left
                     ·
                      simp only [Act.put, sT, s0, sS, i64_w, i32_w]
                      rfl
                     refine pure_ (i := 5) (N := some 63) (v := ?_) (a' := ?_) #[true, true, true, true, true, true, false, false, false, false, false, false, false, false, false, false, false, false, false, false, false, false, false, false, false, false, false, false] rfl rfl (any_of HT_.out (by kernel_rfl)) (fun _ _ _ h => h) (Or.inl ⟨by rfl, ?_⟩) ?_ ?_
                     rotate_left
                     ·
                      intro w'
                      go_simp
                      with_reducible rfl
                     rotate_left
                     ·
                      simp only [Act.put, sT, s0, sS, i64_w, i32_w]
                      rfl
                     refine pure_ (i := 7) (N := some 65) (v := ?_) (a' := ?_) #[true, true, true, true, true, true, false, true, false, false, false, false, false, false, false, false, false, false, false, false, false, false, false, false, false, false, false, false] rfl rfl (any_of HT_.out (by kernel_rfl)) (fun _ _ _ h => h) (Or.inl ⟨by rfl, ?_⟩) ?_ ?_
                     rotate_left
                     ·
                      intro w'
                      go_simp
                      with_reducible rfl
                     rotate_left
                     ·
                      simp only [Act.put, sT, s0, sS, i64_w, i32_w]
                      rfl
                     refine pure_ (i := 8) (N := some 66) (v := ?_) (a' := ?_) #[true, true, true, true, true, true, false, true, true, false, false, false, false, false, false, false, false, false, false, false, false, false, false, false, false, false, false, false] rfl rfl (any_of HT_.out (by kernel_rfl)) (fun _ _ _ h => h) (Or.inl ⟨by rfl, ?_⟩) ?_ ?_
                     rotate_left
                     ·
                      intro w'
                      go_simp
                      with_reducible rfl
                     rotate_left
                     ·
                      simp only [Act.put, sT, s0, sS, i64_w, i32_w]
                      rfl
                     refine pure_ (i := 9) (N := some 67) (v := ?_) (a' := ?_) #[true, true, true, true, true, true, false, true, true, true, false, false, false, false, false, false, false, false, false, false, false, false, false, false, false, false, false, false] rfl rfl (any_of HT_.out (by kernel_rfl)) (fun _ _ _ h => h) (Or.inl ⟨by rfl, ?_⟩) ?_ ?_
                     rotate_left
                     ·
                      intro w'
                      go_simp
                      with_reducible rfl
                     rotate_left
                     ·
                      simp only [Act.put, sT, s0, sS, i64_w, i32_w]
                      rfl
                     refine pure_ (i := 10) (N := some 68) (v := ?_) (a' := ?_) #[true, true, true, true, true, true, false, true, true, true, true, false, false, false, false, false, false, false, false, false, false, false, false, false, false, false, false, false] rfl rfl (any_of HT_.out (by kernel_rfl)) (fun _ _ _ h => h) (Or.inl ⟨by rfl, ?_⟩) ?_ ?_
                     rotate_left
                     ·
                      intro w'
                      go_simp
                      with_reducible rfl
                     rotate_left
                     ·
                      simp only [Act.put, sT, s0, sS, i64_w, i32_w]
                      rfl
                     refine pure_ (i := 13) (N := some 71) (v := ?_) (a' := ?_) #[true, true, true, true, true, true, false, true, true, true, true, false, false, true, false, false, false, false, false, false, false, false, false, false, false, false, false, false] rfl rfl (any_of HT_.out (by kernel_rfl)) (fun _ _ _ h => h) (Or.inl ⟨by rfl, ?_⟩) ?_ ?_
                     rotate_left
                     ·
                      intro w'
                      go_simp
                      with_reducible rfl
                     rotate_left
                     ·
                      simp only [Act.put, sT, s0, sS, i64_w, i32_w]
                      rfl
                     refine pure_ (i := 14) (N := some 72) (v := ?_) (a' := ?_) #[true, true, true, true, true, true, false, true, true, true, true, false, false, true, true, false, false, false, false, false, false, false, false, false, false, false, false, false] rfl rfl (any_of HT_.out (by kernel_rfl)) (fun _ _ _ h => h) (Or.inl ⟨by rfl, ?_⟩) ?_ ?_
                     rotate_left
                     ·
                      intro w'
                      go_simp
                      with_reducible rfl
                     rotate_left
                     ·
                      simp only [Act.put, sT, s0, sS, i64_w, i32_w]
                      rfl
                     refine pure_ (i := 15) (N := some 73) (v := ?_) (a' := ?_) #[true, true, true, true, true, true, false, true, true, true, true, false, false, true, true, true, false, false, false, false, false, false, false, false, false, false, false, false] rfl rfl (any_of HT_.out (by kernel_rfl)) (fun _ _ _ h => h) (Or.inl ⟨by rfl, ?_⟩) ?_ ?_
                     rotate_left
                     ·
                      intro w'
                      go_simp
                      with_reducible rfl
                     rotate_left
                     ·
                      simp only [Act.put, sT, s0, sS, i64_w, i32_w]
                      rfl
                     refine pure_ (i := 16) (N := some 74) (v := ?_) (a' := ?_) #[true, true, true, true, true, true, false, true, true, true, true, false, false, true, true, true, true, false, false, false, false, false, false, false, false, false, false, false] rfl rfl (any_of HT_.out (by kernel_rfl)) (fun _ _ _ h => h) (Or.inl ⟨by rfl, ?_⟩) ?_ ?_
                     rotate_left
                     ·
                      intro w'
                      go_simp
                      with_reducible rfl
                     rotate_left
                     ·
                      simp only [Act.put, sT, s0, sS, i64_w, i32_w]
                      rfl
                     refine pure_ (i := 18) (N := some 76) (v := ?_) (a' := ?_) #[true, true, true, true, true, true, false, true, true, true, true, false, false, true, true, true, true, false, true, false, false, false, false, false, false, false, false, false] rfl rfl (any_of HT_.out (by kernel_rfl)) (fun _ _ _ h => h) (Or.inl ⟨by rfl, ?_⟩) ?_ ?_
                     rotate_left
                     ·
                      intro w'
                      go_simp
                      with_reducible rfl
                     rotate_left
                     ·
                      simp only [Act.put, sT, s0, sS, i64_w, i32_w]
                      rfl
                     refine pure_ (i := 19) (N := some 77) (v := ?_) (a' := ?_) #[true, true, true, true, true, true, false, true, true, true, true, false, false, true, true, true, true, false, true, true, false, false, false, false, false, false, false, false] rfl rfl (any_of HT_.out (by kernel_rfl)) (fun _ _ _ h => h) (Or.inl ⟨by rfl, ?_⟩) ?_ ?_
                     rotate_left
                     ·
                      intro w'
                      go_simp
                      with_reducible rfl
                     rotate_left
                     ·
                      simp only [Act.put, sT, s0, sS, i64_w, i32_w]
                      rfl
                     refine pure_ (i := 20) (N := some 78) (v := ?_) (a' := ?_) #[true, true, true, true, true, true, false, true, true, true, true, false, false, true, true, true, true, false, true, true, true, false, false, false, false, false, false, false] rfl rfl (any_of HT_.out (by kernel_rfl)) (fun _ _ _ h => h) (Or.inl ⟨by rfl, ?_⟩) ?_ ?_
                     rotate_left
                     ·
                      intro w'
                      go_simp
                      with_reducible rfl
                     rotate_left
                     ·
                      simp only [Act.put, sT, s0, sS, i64_w, i32_w]
                      rfl
                     refine pure_ (i := 21) (N := some 79) (v := ?_) (a' := ?_) #[true, true, true, true, true, true, false, true, true, true, true, false, false, true, true, true, true, false, true, true, true, true, false, false, false, false, false, false] rfl rfl (any_of HT_.out (by kernel_rfl)) (fun _ _ _ h => h) (Or.inl ⟨by rfl, ?_⟩) ?_ ?_
                     rotate_left
                     ·
                      intro w'
                      go_simp
                      with_reducible rfl
                     rotate_left
                     ·
                      simp only [Act.put, sT, s0, sS, i64_w, i32_w]
                      rfl
                     refine take_ (i := 6) (N := some 64) (v := ?_) (a' := ?_) #[true, true, true, true, true, true, true, true, true, true, true, false, false, true, true, true, true, false, true, true, true, true, false, false, false, false, false, false] rfl rfl (take_ofW HT_.out HW_.out (by kernel_rfl)) (fun _ _ _ h => h) (Or.inl ⟨by rfl, ?_⟩) hHeld ?_ ?_
                     rotate_left
                     ·
                      rintro w' ⟨s0, s1, s2, s3, s4, s5, s6, s7, s8, s9, s10, s11⟩
                      go_simp
                      with_reducible rfl
                     rotate_left
                     ·
                      simp only [Act.put, sT, s0, sS, i64_w, i32_w]
                      rfl
                     refine take_ (i := 11) (N := some 69) (v := ?_) (a' := ?_) #[true, true, true, true, true, true, true, true, true, true, true, true, false, true, true, true, true, false, true, true, true, true, false, false, false, false, false, false] rfl rfl (take_ofW HT_.out HW_.out (by kernel_rfl)) (fun _ _ _ h => h) (Or.inl ⟨by rfl, ?_⟩) hHeld ?_ ?_
                     rotate_left
                     ·
                      rintro w' ⟨s0, s1, s2, s3, s4, s5, s6, s7, s8, s9, s10, s11⟩
                      go_simp
                      with_reducible rfl
                     rotate_left
                     ·
                      simp only [Act.put, sT, s0, sS, i64_w, i32_w]
                      rfl
                     refine pure_ (i := 12) (N := some 70) (v := ?_) (a' := ?_) #[true, true, true, true, true, true, true, true, true, true, true, true, true, true, true, true, true, false, true, true, true, true, false, false, false, false, false, false] rfl rfl (any_of HT_.out (by kernel_rfl)) (fun _ _ _ h => h) (Or.inl ⟨by rfl, ?_⟩) ?_ ?_
                     rotate_left
                     ·
                      intro w'
                      go_simp
                      with_reducible rfl
                     rotate_left
                     ·
                      simp only [Act.put, sT, s0, sS, i64_w, i32_w]
                      rfl
                     refine take_ (i := 17) (N := some 75) (v := ?_) (a' := ?_) #[true, true, true, true, true, true, true, true, true, true, true, true, true, true, true, true, true, true, true, true, true, true, false, false, false, false, false, false] rfl rfl (take_ofW HT_.out HW_.out (by kernel_rfl)) (fun _ _ _ h => h) (Or.inl ⟨by rfl, ?_⟩) hHeld ?_ ?_
                     rotate_left
                     ·
                      rintro w' ⟨s0, s1, s2, s3, s4, s5, s6, s7, s8, s9, s10, s11⟩
                      go_simp
                      with_reducible rfl
                     rotate_left
                     ·
                      simp only [Act.put, sT, s0, sS, i64_w, i32_w]
                      rfl
                     refine take_ (i := 22) (N := some 80) (v := ?_) (a' := ?_) #[true, true, true, true, true, true, true, true, true, true, true, true, true, true, true, true, true, true, true, true, true, true, true, false, false, false, false, false] rfl rfl (take_ofW HT_.out HW_.out (by kernel_rfl)) (fun _ _ _ h => h) (Or.inl ⟨by rfl, ?_⟩) hHeld ?_ ?_
                     rotate_left
                     ·
                      rintro w' ⟨s0, s1, s2, s3, s4, s5, s6, s7, s8, s9, s10, s11⟩
                      go_simp
                      with_reducible rfl
                     rotate_left
                     ·
                      simp only [Act.put, sT, s0, sS, i64_w, i32_w]
                      rfl
                     refine pure_ (i := 23) (N := some 81) (v := ?_) (a' := ?_) #[true, true, true, true, true, true, true, true, true, true, true, true, true, true, true, true, true, true, true, true, true, true, true, true, false, false, false, false] rfl rfl (any_of HT_.out (by kernel_rfl)) (fun _ _ _ h => h) (Or.inl ⟨by rfl, ?_⟩) ?_ ?_
                     rotate_left
                     ·
                      intro w'
                      go_simp
                      with_reducible rfl
                     rotate_left
                     ·
                      simp only [Act.put, sT, s0, sS, i64_w, i32_w]
                      rfl
                     refine pure_ (i := 24) (N := some 82) (v := ?_) (a' := ?_) #[true, true, true, true, true, true, true, true, true, true, true, true, true, true, true, true, true, true, true, true, true, true, true, true, true, false, false, false] rfl rfl (any_of HT_.out (by kernel_rfl)) (fun _ _ _ h => h) (Or.inl ⟨by rfl, ?_⟩) ?_ ?_
                     rotate_left
                     ·
                      intro w'
                      go_simp
                      with_reducible rfl
                     rotate_left
                     ·
                      simp only [Act.put, sT, s0, sS, i64_w, i32_w]
                      rfl
                     refine one_ (i := 25) (N := some 83) #[true, true, true, true, true, true, true, true, true, true, true, true, true, true, true, true, true, true, true, true, true, true, true, true, true, true, false, false] rfl rfl (one_of HT_.out (by kernel_rfl)) (by decide) (fun K hK => ?_)
                     refine value_ (w1 := ?_) (v := ?_) (by rfl) rfl ?_ ?_
                     rotate_left 2
                     ·
                      go_simp
                      constructor
                      ·
                       rfl
                      ·
                       rfl
                     refine hK.out _ _ ⟨(World.cell?_alloc_lt _ _ _ (World.block_lt_of_cell? _ _ (((HB.out.cell (World.block_lt_of_cell? _ _ hw188_0)).trans hw188_0)))).trans (((HB.out.cell (World.block_lt_of_cell? _ _ hw188_0)).trans hw188_0)), (World.cell?_alloc_lt _ _ _ (World.block_lt_of_cell? _ _ (((HB.out.cell (World.block_lt_of_cell? _ _ hw188_1)).trans hw188_1)))).trans (((HB.out.cell (World.block_lt_of_cell? _ _ hw188_1)).trans hw188_1)), (World.cell?_alloc_lt _ _ _ (World.block_lt_of_cell? _ _ (((HB.out.cell (World.block_lt_of_cell? _ _ hw188_2)).trans hw188_2)))).trans (((HB.out.cell (World.block_lt_of_cell? _ _ hw188_2)).trans hw188_2)), (World.cell?_alloc_lt _ _ _ (World.block_lt_of_cell? _ _ (((HB.out.cell (World.block_lt_of_cell? _ _ hw189_0)).trans hw189_0)))).trans (((HB.out.cell (World.block_lt_of_cell? _ _ hw189_0)).trans hw189_0)), (World.cell?_alloc_lt _ _ _ (World.block_lt_of_cell? _ _ (((HB.out.cell (World.block_lt_of_cell? _ _ hw189_1)).trans hw189_1)))).trans (((HB.out.cell (World.block_lt_of_cell? _ _ hw189_1)).trans hw189_1)), (World.cell?_alloc_lt _ _ _ (World.block_lt_of_cell? _ _ (((HB.out.cell (World.block_lt_of_cell? _ _ hw189_2)).trans hw189_2)))).trans (((HB.out.cell (World.block_lt_of_cell? _ _ hw189_2)).trans hw189_2)), (World.cell?_alloc_lt _ _ _ (World.block_lt_of_cell? _ _ (((HB.out.cell (World.block_lt_of_cell? _ _ hw190_0)).trans hw190_0)))).trans (((HB.out.cell (World.block_lt_of_cell? _ _ hw190_0)).trans hw190_0)), (World.cell?_alloc_lt _ _ _ (World.block_lt_of_cell? _ _ (((HB.out.cell (World.block_lt_of_cell? _ _ hw190_1)).trans hw190_1)))).trans (((HB.out.cell (World.block_lt_of_cell? _ _ hw190_1)).trans hw190_1)), (World.cell?_alloc_lt _ _ _ (World.block_lt_of_cell? _ _ (((HB.out.cell (World.block_lt_of_cell? _ _ hw190_2)).trans hw190_2)))).trans (((HB.out.cell (World.block_lt_of_cell? _ _ hw190_2)).trans hw190_2)), (World.cell?_alloc_lt _ _ _ (World.block_lt_of_cell? _ _ (((HB.out.cell (World.block_lt_of_cell? _ _ hw191_0)).trans hw191_0)))).trans (((HB.out.cell (World.block_lt_of_cell? _ _ hw191_0)).trans hw191_0)), (World.cell?_alloc_lt _ _ _ (World.block_lt_of_cell? _ _ (((HB.out.cell (World.block_lt_of_cell? _ _ hw191_1)).trans hw191_1)))).trans (((HB.out.cell (World.block_lt_of_cell? _ _ hw191_1)).trans hw191_1)), (World.cell?_alloc_lt _ _ _ (World.block_lt_of_cell? _ _ (((HB.out.cell (World.block_lt_of_cell? _ _ hw191_2)).trans hw191_2)))).trans (((HB.out.cell (World.block_lt_of_cell? _ _ hw191_2)).trans hw191_2))⟩ (fun hHeld => ?_)
                     clear hK K
                     refine norm_ (a' := ?_) ?_ ?_
                     rotate_left
                     ·
                      show Act.put _ (some 83) _ = _
                      simp only [Act.put, sT, s0, sS, i64_w, i32_w]
                      rfl
                     refine one_ (i := 26) (N := some 84) #[true, true, true, true, true, true, true, true, true, true, true, true, true, true, true, true, true, true, true, true, true, true, true, true, true, true, true, false] rfl rfl (one_of HT_.out (by kernel_rfl)) (by decide) (fun K hK => ?_)
                     refine Kd.R_append_step k55 (w0 := w) w.heap.size (by rfl) (.tmp 58) (.tmp 83) 25 55 (.agg #[(.int .i64 0), (.int .i64 0), (.int .i64 0)]) 24 rfl Try.underlying25 info55 rfl (by decide) (by omega) u7 x7_2 (⟨ji26, ji33, ji34⟩ : S55) [.int .i64 ji26, .int .i64 ji33, .int .i64 ji34] (fun _ => True) (fun _ => False) rfl rfl ?aP (fun _ hk => hk.elim) ?aF ?aO ?aB ?aS ?aL ?_
                     (case aP => exact k55_mkM _ _ _ (⟨ji26, ji33, ji34⟩ : S55))
                     (case aB => exact (by repeat (first | (with_reducible first | exact HB.out | apply lA | apply lN | apply lD) | exact HB.out)))
                     (case aF => exact (fun _ _ => trivial))
                     (case aO => exact (by (with_reducible repeat (first | apply rA | apply rN | apply rD)); exact HO_7.out))
                     (case aS => exact (below_size (by repeat (first | (with_reducible first | exact HB.out | apply lA | apply lN | apply lD) | exact HB.out))))
                     (case aL => have := LMc35.out; omega)
                     intro v193 w43 ho hb hg hat
                     rw [← Ny192.out] at ho
                     have n0_ := Aside0.mk (hb)
                     have n1_ := Aside0.mk (ho)
                     clear HB
                     clear HO_7
                     have HB := n0_
                     have HO194 := n1_
                     clear n0_ n1_
                     clear ho hb hg hat
                     refine hK.out _ _ ⟨((HB.out.cell (World.block_lt_of_cell? _ _ hw188_0)).trans hw188_0), ((HB.out.cell (World.block_lt_of_cell? _ _ hw188_1)).trans hw188_1), ((HB.out.cell (World.block_lt_of_cell? _ _ hw188_2)).trans hw188_2), ((HB.out.cell (World.block_lt_of_cell? _ _ hw189_0)).trans hw189_0), ((HB.out.cell (World.block_lt_of_cell? _ _ hw189_1)).trans hw189_1), ((HB.out.cell (World.block_lt_of_cell? _ _ hw189_2)).trans hw189_2), ((HB.out.cell (World.block_lt_of_cell? _ _ hw190_0)).trans hw190_0), ((HB.out.cell (World.block_lt_of_cell? _ _ hw190_1)).trans hw190_1), ((HB.out.cell (World.block_lt_of_cell? _ _ hw190_2)).trans hw190_2), ((HB.out.cell (World.block_lt_of_cell? _ _ hw191_0)).trans hw191_0), ((HB.out.cell (World.block_lt_of_cell? _ _ hw191_1)).trans hw191_1), ((HB.out.cell (World.block_lt_of_cell? _ _ hw191_2)).trans hw191_2)⟩ (fun hHeld => ?_)
                     clear hK K
                     refine norm_ (a' := ?_) ?_ ?_
                     rotate_left
                     ·
                      show Act.put _ (some 84) _ = _
                      simp only [Act.put, sT, s0, sS, i64_w, i32_w]
                      rfl
                     refine pure_ (i := 27) (N := some 7) (v := ?_) (a' := ?_) #[true, true, true, true, true, true, true, true, true, true, true, true, true, true, true, true, true, true, true, true, true, true, true, true, true, true, true, true] rfl rfl (any_of HT_.out (by kernel_rfl)) (fun _ _ _ h => h) (Or.inl ⟨by rfl, ?_⟩) ?_ ?_
                     rotate_left
                     ·
                      intro w'
                      go_simp
                      with_reducible rfl
                     rotate_left
                     ·
                      simp only [Act.put, sT, s0, sS, i64_w, i32_w]
                      rfl
                     refine done_ (done_of HT_.out (by kernel_rfl)) ?_
                     have p195 : 0 ≤ (x8_2 : Int) := of_decide_eq_true (by with_reducible assumption)
                     have q195 : x8_2 < (l0.length : Int) := of_decide_eq_true (by with_reducible assumption)
                     obtain ⟨ad195, e195, hx195_0, hx195_1, hx195_2⟩ := at_T55 HR0.out x8_2 p195 q195
                     obtain rfl : ad184 = ad195 := (by injection e195)
                     replace hx195_0 := cB HB.out hx195_0
                     replace hx195_1 := cB HB.out hx195_1
                     replace hx195_2 := cB HB.out hx195_2
                     replace p195 := eq_true p195
                     replace q195 := eq_true q195
                     have p196 : 0 ≤ (x9_2 : Int) := of_decide_eq_true (by with_reducible assumption)
                     have q196 : x9_2 < (l1.length : Int) := of_decide_eq_true (by with_reducible assumption)
                     obtain ⟨ad196, e196, hx196_0, hx196_1, hx196_2⟩ := at_T55 HR1.out x9_2 p196 q196
                     obtain rfl : ad185 = ad196 := (by injection e196)
                     replace hx196_0 := cB HB.out hx196_0
                     replace hx196_1 := cB HB.out hx196_1
                     replace hx196_2 := cB HB.out hx196_2
                     replace p196 := eq_true p196
                     replace q196 := eq_true q196
                     try go_wp2
                     go_roundg kj18
                     case measure => have := HJ2.out; have := HK2.out; have := HJ18.out; omega
                     case rel => exact ⟨(y192), (wrap64 (x8_2 + 1)), (x9_2), (by first | rfl | (simp; done) | (simp [*]; done)), (by first | rfl | (simp; done) | (simp [*]; done)), (by first | exact H' | (simp only [hji11, hji14, hji17, hji26, hji33, hji34]; exact H') | (have H2_ := H'; simp only [← hji11, ← hji14, ← hji17, ← hji26, ← hji33, ← hji34] at H2_; exact H2_)), ⟨by have := HJ2.out; have := HK2.out; have := HJ18.out; omega⟩, ⟨by (with_reducible repeat (first | apply rA | apply rN | apply rD)); exact HO194.out⟩, ⟨by repeat (first | (with_reducible first | exact HB.out | apply lA | apply lN | apply lD) | exact HB.out)⟩⟩
                   ·
                    rw [if_neg c36] at H
                    have c36b0 : (((rd_T55 l0 x8_2).f0) == (ji26)) = false := beq_eq_false_iff_ne.mpr c36
                    have c36b1 : (((rd_T55 l0 x8_2).f0) != (ji26)) = true := bne_iff_ne.mpr c36
                    by_cases c44 : ((rd_T55 l1 x9_2).f0) = (ji26)
                    ·
                     rw [if_pos c44] at H
                     have c44b0 : (((rd_T55 l1 x9_2).f0) == (ji26)) = true := beq_iff_eq.mpr c44
                     have c44b1 : (((rd_T55 l1 x9_2).f0) != (ji26)) = false := bne_eq_false_iff_eq.mpr c44
                     clear c44
                     have H' := Aside0.mk H
                     clear H
                     try go_wp2
                     have n0_ := Aside0.mk (Kd.R_drew HO_7.out)
                     have n1_ := Aside0.mk (below_drew1 HB.out)
                     clear HO_7
                     clear HB
                     have HO_7 := n0_
                     have HB := n1_
                     clear n0_ n1_
                     have p186 : 0 ≤ (x8_2 : Int) := of_decide_eq_true (by with_reducible assumption)
                     have q186 : x8_2 < (l0.length : Int) := of_decide_eq_true (by with_reducible assumption)
                     obtain ⟨ad186, e186, hx186_0, hx186_1, hx186_2⟩ := at_T55 HR0.out x8_2 p186 q186
                     have hw186_2 := hx186_2
                     have hw186_1 := hx186_1
                     have hw186_0 := hx186_0
                     obtain rfl : ad184 = ad186 := (by injection e186)
                     replace hx186_0 := cB HB.out hx186_0
                     replace hx186_1 := cB HB.out hx186_1
                     replace hx186_2 := cB HB.out hx186_2
                     replace p186 := eq_true p186
                     replace q186 := eq_true q186
                     have p187 : 0 ≤ (x9_2 : Int) := of_decide_eq_true (by with_reducible assumption)
                     have q187 : x9_2 < (l1.length : Int) := of_decide_eq_true (by with_reducible assumption)
                     obtain ⟨ad187, e187, hx187_0, hx187_1, hx187_2⟩ := at_T55 HR1.out x9_2 p187 q187
                     have hw187_2 := hx187_2
                     have hw187_1 := hx187_1
                     have hw187_0 := hx187_0
                     obtain rfl : ad185 = ad187 := (by injection e187)
                     replace hx187_0 := cB HB.out hx187_0
                     replace hx187_1 := cB HB.out hx187_1
                     replace hx187_2 := cB HB.out hx187_2
                     replace p187 := eq_true p187
                     replace q187 := eq_true q187
                     refine start_ (n := 12) (S := fun w' => w'.cell? (ad184.add ((x8_2).toNat * 3)) = some (.int .i64 ((rd_T55 l0 x8_2).f0)) ∧ w'.cell? ⟨(ad184.add ((x8_2).toNat * 3)).block, (ad184.add ((x8_2).toNat * 3)).off + 1, none⟩ = some (.int .i64 ((rd_T55 l0 x8_2).f1)) ∧ w'.cell? ⟨(ad184.add ((x8_2).toNat * 3)).block, (ad184.add ((x8_2).toNat * 3)).off + 2, none⟩ = some (.int .i64 ((rd_T55 l0 x8_2).f2)) ∧ w'.cell? (ad185.add ((x9_2).toNat * 3)) = some (.int .i64 ((rd_T55 l1 x9_2).f0)) ∧ w'.cell? ⟨(ad185.add ((x9_2).toNat * 3)).block, (ad185.add ((x9_2).toNat * 3)).off + 1, none⟩ = some (.int .i64 ((rd_T55 l1 x9_2).f1)) ∧ w'.cell? ⟨(ad185.add ((x9_2).toNat * 3)).block, (ad185.add ((x9_2).toNat * 3)).off + 2, none⟩ = some (.int .i64 ((rd_T55 l1 x9_2).f2))) (ds := []) #[false, false, false, false, false, false, false, false, false, false, false, false] (by kernel_rfl) rfl rfl ⟨((HB.out.cell (World.block_lt_of_cell? _ _ hw186_0)).trans hw186_0), ((HB.out.cell (World.block_lt_of_cell? _ _ hw186_1)).trans hw186_1), ((HB.out.cell (World.block_lt_of_cell? _ _ hw186_2)).trans hw186_2), ((HB.out.cell (World.block_lt_of_cell? _ _ hw187_0)).trans hw187_0), ((HB.out.cell (World.block_lt_of_cell? _ _ hw187_1)).trans hw187_1), ((HB.out.cell (World.block_lt_of_cell? _ _ hw187_2)).trans hw187_2)⟩ (fun hHeld => ?_); refine with_tabW impl_JoinProfiles.tab7 impl_JoinProfiles.bits7 (fun HT_ HW_ => ?_)
                     generalize wc.drew = w45 at HO_7 HB hx186_0 hx186_1 hx186_2 hx187_0 hx187_1 hx187_2 hHeld ⊢
                     refine pure_ (i := 0) (N := some 44) (v := ?_) (a' := ?_) #[true, false, false, false, false, false, false, false, false, false, false, false] rfl rfl (any_of HT_.out (by kernel_rfl)) (fun _ _ _ h => h) (Or.inl ⟨by rfl, ?_⟩) ?_ ?_
                     rotate_left
                     ·
                      intro w'
                      go_simp
                      with_reducible rfl
                     rotate_left
                     ·
                      simp only [Act.put, sT, s0, sS, i64_w, i32_w]
                      rfl
                     refine pure_ (i := 1) (N := some 45) (v := ?_) (a' := ?_) #[true, true, false, false, false, false, false, false, false, false, false, false] rfl rfl (any_of HT_.out (by kernel_rfl)) (fun _ _ _ h => h) (Or.inl ⟨by rfl, ?_⟩) ?_ ?_
                     rotate_left
                     ·
                      intro w'
                      go_simp
                      with_reducible rfl
                     rotate_left
                     ·
                      simp only [Act.put, sT, s0, sS, i64_w, i32_w]
                      rfl
                     refine pure_ (i := 2) (N := some 46) (v := ?_) (a' := ?_) #[true, true, true, false, false, false, false, false, false, false, false, false] rfl rfl (any_of HT_.out (by kernel_rfl)) (fun _ _ _ h => h) (Or.inl ⟨by rfl, ?_⟩) ?_ ?_
                     rotate_left
                     ·
                      intro w'
                      go_simp
                      with_reducible rfl
                     rotate_left
                     ·
                      simp only [Act.put, sT, s0, sS, i64_w, i32_w]
                      rfl
                     refine pure_ (i := 3) (N := some 47) (v := ?_) (a' := ?_) #[true, true, true, true, false, false, false, false, false, false, false, false] rfl rfl (any_of HT_.out (by kernel_rfl)) (fun _ _ _ h => h) (Or.inl ⟨by rfl, ?_⟩) ?_ ?_
                     rotate_left
                     ·
                      intro w'
                      go_simp
                      with_reducible rfl
                     rotate_left
                     ·
                      simp only [Act.put, sT, s0, sS, i64_w, i32_w]
                      rfl
                     refine pure_ (i := 5) (N := some 49) (v := ?_) (a' := ?_) #[true, true, true, true, false, true, false, false, false, false, false, false] rfl rfl (any_of HT_.out (by kernel_rfl)) (fun _ _ _ h => h) (Or.inl ⟨by rfl, ?_⟩) ?_ ?_
                     rotate_left
                     ·
                      intro w'
                      go_simp
                      with_reducible rfl
                     rotate_left
                     ·
                      simp only [Act.put, sT, s0, sS, i64_w, i32_w]
                      rfl
                     refine pure_ (i := 6) (N := some 50) (v := ?_) (a' := ?_) #[true, true, true, true, false, true, true, false, false, false, false, false] rfl rfl (any_of HT_.out (by kernel_rfl)) (fun _ _ _ h => h) (Or.inl ⟨by rfl, ?_⟩) ?_ ?_
                     rotate_left
                     ·
                      intro w'
                      go_simp
                      with_reducible rfl
                     rotate_left
                     ·
                      simp only [Act.put, sT, s0, sS, i64_w, i32_w]
                      rfl
                     refine pure_ (i := 7) (N := some 51) (v := ?_) (a' := ?_) #[true, true, true, true, false, true, true, true, false, false, false, false] rfl rfl (any_of HT_.out (by kernel_rfl)) (fun _ _ _ h => h) (Or.inl ⟨by rfl, ?_⟩) ?_ ?_
                     rotate_left
                     ·
                      intro w'
                      go_simp
                      with_reducible rfl
                     rotate_left
                     ·
                      simp only [Act.put, sT, s0, sS, i64_w, i32_w]
                      rfl
                     refine pure_ (i := 8) (N := some 52) (v := ?_) (a' := ?_) #[true, true, true, true, false, true, true, true, true, false, false, false] rfl rfl (any_of HT_.out (by kernel_rfl)) (fun _ _ _ h => h) (Or.inl ⟨by rfl, ?_⟩) ?_ ?_
                     rotate_left
                     ·
                      intro w'
                      go_simp
                      with_reducible rfl
                     rotate_left
                     ·
                      simp only [Act.put, sT, s0, sS, i64_w, i32_w]
                      rfl
                     refine take_ (i := 4) (N := some 48) (v := ?_) (a' := ?_) #[true, true, true, true, true, true, true, true, true, false, false, false] rfl rfl (take_ofW HT_.out HW_.out (by kernel_rfl)) (fun _ _ _ h => h) (Or.inl ⟨by rfl, ?_⟩) hHeld ?_ ?_
                     rotate_left
                     ·
                      rintro w' ⟨s0, s1, s2, s3, s4, s5⟩
                      go_simp
                      with_reducible rfl
                     rotate_left
                     ·
                      simp only [Act.put, sT, s0, sS, i64_w, i32_w]
                      rfl
                     refine take_ (i := 9) (N := some 53) (v := ?_) (a' := ?_) #[true, true, true, true, true, true, true, true, true, true, false, false] rfl rfl (take_ofW HT_.out HW_.out (by kernel_rfl)) (fun _ _ _ h => h) (Or.inl ⟨by rfl, ?_⟩) hHeld ?_ ?_
                     rotate_left
                     ·
                      rintro w' ⟨s0, s1, s2, s3, s4, s5⟩
                      go_simp
                      with_reducible rfl
                     rotate_left
                     ·
                      simp only [Act.put, sT, s0, sS, i64_w, i32_w]
                      rfl
                     refine pure_ (i := 10) (N := some 54) (v := ?_) (a' := ?_) #[true, true, true, true, true, true, true, true, true, true, true, false] rfl rfl (any_of HT_.out (by kernel_rfl)) (fun _ _ _ h => h) (Or.inl ⟨by rfl, ?_⟩) ?_ ?_
                     rotate_left
                     ·
                      intro w'
                      go_simp
                      with_reducible rfl
                     rotate_left
                     ·
                      simp only [Act.put, sT, s0, sS, i64_w, i32_w]
                      rfl
                     refine pure_ (i := 11) (N := some 10) (v := ?_) (a' := ?_) #[true, true, true, true, true, true, true, true, true, true, true, true] rfl rfl (any_of HT_.out (by kernel_rfl)) (fun _ _ _ h => h) (Or.inl ⟨by rfl, ?_⟩) ?_ ?_
                     rotate_left
                     ·
                      intro w'
                      go_simp
                      with_reducible rfl
                     rotate_left
                     ·
                      simp only [Act.put, sT, s0, sS, i64_w, i32_w]
                      rfl
                     refine done_ (done_of HT_.out (by kernel_rfl)) ?_
                     try go_wp2
                     have n0_ := Aside0.mk (Kd.R_drew HO_7.out)
                     have n1_ := Aside0.mk (below_drew1 HB.out)
                     clear HO_7
                     clear HB
                     have HO_7 := n0_
                     have HB := n1_
                     clear n0_ n1_
                     have p188 : 0 ≤ (x8_2 : Int) := of_decide_eq_true (by with_reducible assumption)
                     have q188 : x8_2 < (l0.length : Int) := of_decide_eq_true (by with_reducible assumption)
                     obtain ⟨ad188, e188, hx188_0, hx188_1, hx188_2⟩ := at_T55 HR0.out x8_2 p188 q188
                     have hw188_2 := hx188_2
                     have hw188_1 := hx188_1
                     have hw188_0 := hx188_0
                     obtain rfl : ad184 = ad188 := (by injection e188)
                     replace hx188_0 := cB HB.out hx188_0
                     replace hx188_1 := cB HB.out hx188_1
                     replace hx188_2 := cB HB.out hx188_2
                     replace p188 := eq_true p188
                     replace q188 := eq_true q188
                     have p189 : 0 ≤ (x9_2 : Int) := of_decide_eq_true (by with_reducible assumption)
                     have q189 : x9_2 < (l1.length : Int) := of_decide_eq_true (by with_reducible assumption)
                     obtain ⟨ad189, e189, hx189_0, hx189_1, hx189_2⟩ := at_T55 HR1.out x9_2 p189 q189
                     have hw189_2 := hx189_2
                     have hw189_1 := hx189_1
                     have hw189_0 := hx189_0
                     obtain rfl : ad185 = ad189 := (by injection e189)
                     replace hx189_0 := cB HB.out hx189_0
                     replace hx189_1 := cB HB.out hx189_1
                     replace hx189_2 := cB HB.out hx189_2
                     replace p189 := eq_true p189
                     replace q189 := eq_true q189
                     have p190 : 0 ≤ (x8_2 : Int) := of_decide_eq_true (by with_reducible assumption)
                     have q190 : x8_2 < (l0.length : Int) := of_decide_eq_true (by with_reducible assumption)
                     obtain ⟨ad190, e190, hx190_0, hx190_1, hx190_2⟩ := at_T55 HR0.out x8_2 p190 q190
                     have hw190_2 := hx190_2
                     have hw190_1 := hx190_1
                     have hw190_0 := hx190_0
                     obtain rfl : ad184 = ad190 := (by injection e190)
                     replace hx190_0 := cB HB.out hx190_0
                     replace hx190_1 := cB HB.out hx190_1
                     replace hx190_2 := cB HB.out hx190_2
                     replace p190 := eq_true p190
                     replace q190 := eq_true q190
                     have p191 : 0 ≤ (x9_2 : Int) := of_decide_eq_true (by with_reducible assumption)
                     have q191 : x9_2 < (l1.length : Int) := of_decide_eq_true (by with_reducible assumption)
                     obtain ⟨ad191, e191, hx191_0, hx191_1, hx191_2⟩ := at_T55 HR1.out x9_2 p191 q191
                     have hw191_2 := hx191_2
                     have hw191_1 := hx191_1
                     have hw191_0 := hx191_0
                     obtain rfl : ad185 = ad191 := (by injection e191)
                     replace hx191_0 := cB HB.out hx191_0
                     replace hx191_1 := cB HB.out hx191_1
                     replace hx191_2 := cB HB.out hx191_2
                     replace p191 := eq_true p191
                     replace q191 := eq_true q191
                     refine start_ (n := 28) (S := fun w' => w'.cell? (ad184.add ((x8_2).toNat * 3)) = some (.int .i64 ((rd_T55 l0 x8_2).f0)) ∧ w'.cell? ⟨(ad184.add ((x8_2).toNat * 3)).block, (ad184.add ((x8_2).toNat * 3)).off + 1, none⟩ = some (.int .i64 ((rd_T55 l0 x8_2).f1)) ∧ w'.cell? ⟨(ad184.add ((x8_2).toNat * 3)).block, (ad184.add ((x8_2).toNat * 3)).off + 2, none⟩ = some (.int .i64 ((rd_T55 l0 x8_2).f2)) ∧ w'.cell? (ad185.add ((x9_2).toNat * 3)) = some (.int .i64 ((rd_T55 l1 x9_2).f0)) ∧ w'.cell? ⟨(ad185.add ((x9_2).toNat * 3)).block, (ad185.add ((x9_2).toNat * 3)).off + 1, none⟩ = some (.int .i64 ((rd_T55 l1 x9_2).f1)) ∧ w'.cell? ⟨(ad185.add ((x9_2).toNat * 3)).block, (ad185.add ((x9_2).toNat * 3)).off + 2, none⟩ = some (.int .i64 ((rd_T55 l1 x9_2).f2)) ∧ w'.cell? (ad184.add ((x8_2).toNat * 3)) = some (.int .i64 ((rd_T55 l0 x8_2).f0)) ∧ w'.cell? ⟨(ad184.add ((x8_2).toNat * 3)).block, (ad184.add ((x8_2).toNat * 3)).off + 1, none⟩ = some (.int .i64 ((rd_T55 l0 x8_2).f1)) ∧ w'.cell? ⟨(ad184.add ((x8_2).toNat * 3)).block, (ad184.add ((x8_2).toNat * 3)).off + 2, none⟩ = some (.int .i64 ((rd_T55 l0 x8_2).f2)) ∧ w'.cell? (ad185.add ((x9_2).toNat * 3)) = some (.int .i64 ((rd_T55 l1 x9_2).f0)) ∧ w'.cell? ⟨(ad185.add ((x9_2).toNat * 3)).block, (ad185.add ((x9_2).toNat * 3)).off + 1, none⟩ = some (.int .i64 ((rd_T55 l1 x9_2).f1)) ∧ w'.cell? ⟨(ad185.add ((x9_2).toNat * 3)).block, (ad185.add ((x9_2).toNat * 3)).off + 2, none⟩ = some (.int .i64 ((rd_T55 l1 x9_2).f2))) (ds := []) #[false, false, false, false, false, false, false, false, false, false, false, false, false, false, false, false, false, false, false, false, false, false, false, false, false, false, false, false] (by kernel_rfl) rfl rfl ⟨((HB.out.cell (World.block_lt_of_cell? _ _ hw188_0)).trans hw188_0), ((HB.out.cell (World.block_lt_of_cell? _ _ hw188_1)).trans hw188_1), ((HB.out.cell (World.block_lt_of_cell? _ _ hw188_2)).trans hw188_2), ((HB.out.cell (World.block_lt_of_cell? _ _ hw189_0)).trans hw189_0), ((HB.out.cell (World.block_lt_of_cell? _ _ hw189_1)).trans hw189_1), ((HB.out.cell (World.block_lt_of_cell? _ _ hw189_2)).trans hw189_2), ((HB.out.cell (World.block_lt_of_cell? _ _ hw190_0)).trans hw190_0), ((HB.out.cell (World.block_lt_of_cell? _ _ hw190_1)).trans hw190_1), ((HB.out.cell (World.block_lt_of_cell? _ _ hw190_2)).trans hw190_2), ((HB.out.cell (World.block_lt_of_cell? _ _ hw191_0)).trans hw191_0), ((HB.out.cell (World.block_lt_of_cell? _ _ hw191_1)).trans hw191_1), ((HB.out.cell (World.block_lt_of_cell? _ _ hw191_2)).trans hw191_2)⟩ (fun hHeld => ?_); refine with_tabW impl_JoinProfiles.tab9 impl_JoinProfiles.bits9 (fun HT_ HW_ => ?_)
                     generalize w45.drew = w46 at HO_7 HB hx188_0 hx188_1 hx188_2 hx189_0 hx189_1 hx189_2 hx190_0 hx190_1 hx190_2 hx191_0 hx191_1 hx191_2 hHeld ⊢
                     refine pure_ (i := 0) (N := some 58) (v := ?_) (a' := ?_) #[true, false, false, false, false, false, false, false, false, false, false, false, false, false, false, false, false, false, false, false, false, false, false, false, false, false, false, false] rfl rfl (any_of HT_.out (by kernel_rfl)) (fun _ _ _ h => h) (Or.inl ⟨by rfl, ?_⟩) ?_ ?_
                     rotate_left
                     ·
                      intro w'
                      go_simp
                      with_reducible rfl
                     rotate_left
                     ·
                      simp only [Act.put, sT, s0, sS, i64_w, i32_w]
                      rfl
                     refine pure_ (i := 1) (N := some 59) (v := ?_) (a' := ?_) #[true, true, false, false, false, false, false, false, false, false, false, false, false, false, false, false, false, false, false, false, false, false, false, false, false, false, false, false] rfl rfl (any_of HT_.out (by kernel_rfl)) (fun _ _ _ h => h) (Or.inl ⟨by rfl, ?_⟩) ?_ ?_
                     rotate_left
                     ·
                      intro w'
                      go_simp
                      with_reducible rfl
                     rotate_left
                     ·
                      simp only [Act.put, sT, s0, sS, i64_w, i32_w]
                      rfl
                     refine pure_ (i := 2) (N := some 60) (v := ?_) (a' := ?_) #[true, true, true, false, false, false, false, false, false, false, false, false, false, false, false, false, false, false, false, false, false, false, false, false, false, false, false, false] rfl rfl (any_of HT_.out (by kernel_rfl)) (fun _ _ _ h => h) (Or.inl ⟨by rfl, ?_⟩) ?_ ?_
                     rotate_left
                     ·
                      intro w'
                      go_simp
                      with_reducible rfl
                     rotate_left
                     ·
                      simp only [Act.put, sT, s0, sS, i64_w, i32_w]
                      rfl
                     refine pure_ (i := 3) (N := some 61) (v := ?_) (a' := ?_) #[true, true, true, true, false, false, false, false, false, false, false, false, false, false, false, false, false, false, false, false, false, false, false, false, false, false, false, false] rfl rfl (any_of HT_.out (by kernel_rfl)) (fun _ _ _ h => h) (Or.inl ⟨by rfl, ?_⟩) ?_ ?_
                     rotate_left
                     ·
                      intro w'
                      go_simp
                      with_reducible rfl
                     rotate_left
                     ·
                      simp only [Act.put, sT, s0, sS, i64_w, i32_w]
                      rfl
                     refine pure_ (i := 4) (N := some 62) (v := ?_) (a' := ?_) #[true, true, true, true, true, false, false, false, false, false, false, false, false, false, false, false, false, false, false, false, false, false, false, false, false, false, false, false] rfl rfl (any_of HT_.out (by kernel_rfl)) (fun _ _ _ h => h) (Or.inl ⟨by rfl, ?_⟩) ?_ ?_
                     rotate_left
                     ·
                      intro w'
                      go_simp
                      with_reducible rfl
                     rotate_left
                     ·
                      simp only [Act.put, sT, s0, sS, i64_w, i32_w]
                      rfl
                     refine pure_ (i := 5) (N := some 63) (v := ?_) (a' := ?_) #[true, true, true, true, true, true, false, false, false, false, false, false, false, false, false, false, false, false, false, false, false, false, false, false, false, false, false, false] rfl rfl (any_of HT_.out (by kernel_rfl)) (fun _ _ _ h => h) (Or.inl ⟨by rfl, ?_⟩) ?_ ?_
                     rotate_left
                     ·
                      intro w'
                      go_simp
                      with_reducible rfl
                     rotate_left
                     ·
                      simp only [Act.put, sT, s0, sS, i64_w, i32_w]
                      rfl
                     refine pure_ (i := 7) (N := some 65) (v := ?_) (a' := ?_) #[true, true, true, true, true, true, false, true, false, false, false, false, false, false, false, false, false, false, false, false, false, false, false, false, false, false, false, false] rfl rfl (any_of HT_.out (by kernel_rfl)) (fun _ _ _ h => h) (Or.inl ⟨by rfl, ?_⟩) ?_ ?_
                     rotate_left
                     ·
                      intro w'
                      go_simp
                      with_reducible rfl
                     rotate_left
                     ·
                      simp only [Act.put, sT, s0, sS, i64_w, i32_w]
                      rfl
                     refine pure_ (i := 8) (N := some 66) (v := ?_) (a' := ?_) #[true, true, true, true, true, true, false, true, true, false, false, false, false, false, false, false, false, false, false, false, false, false, false, false, false, false, false, false] rfl rfl (any_of HT_.out (by kernel_rfl)) (fun _ _ _ h => h) (Or.inl ⟨by rfl, ?_⟩) ?_ ?_
                     rotate_left
                     ·
                      intro w'
                      go_simp
                      with_reducible rfl
                     rotate_left
                     ·
                      simp only [Act.put, sT, s0, sS, i64_w, i32_w]
                      rfl
                     refine pure_ (i := 9) (N := some 67) (v := ?_) (a' := ?_) #[true, true, true, true, true, true, false, true, true, true, false, false, false, false, false, false, false, false, false, false, false, false, false, false, false, false, false, false] rfl rfl (any_of HT_.out (by kernel_rfl)) (fun _ _ _ h => h) (Or.inl ⟨by rfl, ?_⟩) ?_ ?_
                     rotate_left
                     ·
                      intro w'
                      go_simp
                      with_reducible rfl
                     rotate_left
                     ·
                      simp only [Act.put, sT, s0, sS, i64_w, i32_w]
                      rfl
                     refine pure_ (i := 10) (N := some 68) (v := ?_) (a' := ?_) #[true, true, true, true, true, true, false, true, true, true, true, false, false, false, false, false, false, false, false, false, false, false, false, false, false, false, false, false] rfl rfl (any_of HT_.out (by kernel_rfl)) (fun _ _ _ h => h) (Or.inl ⟨by rfl, ?_⟩) ?_ ?_
                     rotate_left
                     ·
                      intro w'
                      go_simp
                      with_reducible rfl
                     rotate_left
                     ·
                      simp only [Act.put, sT, s0, sS, i64_w, i32_w]
                      rfl
                     refine pure_ (i := 13) (N := some 71) (v := ?_) (a' := ?_) #[true, true, true, true, true, true, false, true, true, true, true, false, false, true, false, false, false, false, false, false, false, false, false, false, false, false, false, false] rfl rfl (any_of HT_.out (by kernel_rfl)) (fun _ _ _ h => h) (Or.inl ⟨by rfl, ?_⟩) ?_ ?_
                     rotate_left
                     ·
                      intro w'
                      go_simp
                      with_reducible rfl
                     rotate_left
                     ·
                      simp only [Act.put, sT, s0, sS, i64_w, i32_w]
                      rfl
                     refine pure_ (i := 14) (N := some 72) (v := ?_) (a' := ?_) #[true, true, true, true, true, true, false, true, true, true, true, false, false, true, true, false, false, false, false, false, false, false, false, false, false, false, false, false] rfl rfl (any_of HT_.out (by kernel_rfl)) (fun _ _ _ h => h) (Or.inl ⟨by rfl, ?_⟩) ?_ ?_
                     rotate_left
                     ·
                      intro w'
                      go_simp
                      with_reducible rfl
                     rotate_left
                     ·
                      simp only [Act.put, sT, s0, sS, i64_w, i32_w]
                      rfl
                     refine pure_ (i := 15) (N := some 73) (v := ?_) (a' := ?_) #[true, true, true, true, true, true, false, true, true, true, true, false, false, true, true, true, false, false, false, false, false, false, false, false, false, false, false, false] rfl rfl (any_of HT_.out (by kernel_rfl)) (fun _ _ _ h => h) (Or.inl ⟨by rfl, ?_⟩) ?_ ?_
                     rotate_left
                     ·
                      intro w'
                      go_simp
                      with_reducible rfl
                     rotate_left
                     ·
                      simp only [Act.put, sT, s0, sS, i64_w, i32_w]
                      rfl
                     refine pure_ (i := 16) (N := some 74) (v := ?_) (a' := ?_) #[true, true, true, true, true, true, false, true, true, true, true, false, false, true, true, true, true, false, false, false, false, false, false, false, false, false, false, false] rfl rfl (any_of HT_.out (by kernel_rfl)) (fun _ _ _ h => h) (Or.inl ⟨by rfl, ?_⟩) ?_ ?_
                     rotate_left
                     ·
                      intro w'
                      go_simp
                      with_reducible rfl
                     rotate_left
                     ·
                      simp only [Act.put, sT, s0, sS, i64_w, i32_w]
                      rfl
                     refine pure_ (i := 18) (N := some 76) (v := ?_) (a' := ?_) #[true, true, true, true, true, true, false, true, true, true, true, false, false, true, true, true, true, false, true, false, false, false, false, false, false, false, false, false] rfl rfl (any_of HT_.out (by kernel_rfl)) (fun _ _ _ h => h) (Or.inl ⟨by rfl, ?_⟩) ?_ ?_
                     rotate_left
                     ·
                      intro w'
                      go_simp
                      with_reducible rfl
                     rotate_left
                     ·
                      simp only [Act.put, sT, s0, sS, i64_w, i32_w]
                      rfl
                     refine pure_ (i := 19) (N := some 77) (v := ?_) (a' := ?_) #[true, true, true, true, true, true, false, true, true, true, true, false, false, true, true, true, true, false, true, true, false, false, false, false, false, false, false, false] rfl rfl (any_of HT_.out (by kernel_rfl)) (fun _ _ _ h => h) (Or.inl ⟨by rfl, ?_⟩) ?_ ?_
                     rotate_left
                     ·
                      intro w'
                      go_simp
                      with_reducible rfl
                     rotate_left
                     ·
                      simp only [Act.put, sT, s0, sS, i64_w, i32_w]
                      rfl
                     refine pure_ (i := 20) (N := some 78) (v := ?_) (a' := ?_) #[true, true, true, true, true, true, false, true, true, true, true, false, false, true, true, true, true, false, true, true, true, false, false, false, false, false, false, false] rfl rfl (any_of HT_.out (by kernel_rfl)) (fun _ _ _ h => h) (Or.inl ⟨by rfl, ?_⟩) ?_ ?_
                     rotate_left
                     ·
                      intro w'
                      go_simp
                      with_reducible rfl
                     rotate_left
                     ·
                      simp only [Act.put, sT, s0, sS, i64_w, i32_w]
                      rfl
                     refine pure_ (i := 21) (N := some 79) (v := ?_) (a' := ?_) #[true, true, true, true, true, true, false, true, true, true, true, false, false, true, true, true, true, false, true, true, true, true, false, false, false, false, false, false] rfl rfl (any_of HT_.out (by kernel_rfl)) (fun _ _ _ h => h) (Or.inl ⟨by rfl, ?_⟩) ?_ ?_
                     rotate_left
                     ·
                      intro w'
                      go_simp
                      with_reducible rfl
                     rotate_left
                     ·
                      simp only [Act.put, sT, s0, sS, i64_w, i32_w]
                      rfl
                     refine take_ (i := 6) (N := some 64) (v := ?_) (a' := ?_) #[true, true, true, true, true, true, true, true, true, true, true, false, false, true, true, true, true, false, true, true, true, true, false, false, false, false, false, false] rfl rfl (take_ofW HT_.out HW_.out (by kernel_rfl)) (fun _ _ _ h => h) (Or.inl ⟨by rfl, ?_⟩) hHeld ?_ ?_
                     rotate_left
                     ·
                      rintro w' ⟨s0, s1, s2, s3, s4, s5, s6, s7, s8, s9, s10, s11⟩
                      go_simp
                      with_reducible rfl
                     rotate_left
                     ·
                      simp only [Act.put, sT, s0, sS, i64_w, i32_w]
                      rfl
                     refine take_ (i := 11) (N := some 69) (v := ?_) (a' := ?_) #[true, true, true, true, true, true, true, true, true, true, true, true, false, true, true, true, true, false, true, true, true, true, false, false, false, false, false, false] rfl rfl (take_ofW HT_.out HW_.out (by kernel_rfl)) (fun _ _ _ h => h) (Or.inl ⟨by rfl, ?_⟩) hHeld ?_ ?_
                     rotate_left
                     ·
                      rintro w' ⟨s0, s1, s2, s3, s4, s5, s6, s7, s8, s9, s10, s11⟩
                      go_simp
                      with_reducible rfl
                     rotate_left
                     ·
                      simp only [Act.put, sT, s0, sS, i64_w, i32_w]
                      rfl
                     refine pure_ (i := 12) (N := some 70) (v := ?_) (a' := ?_) #[true, true, true, true, true, true, true, true, true, true, true, true, true, true, true, true, true, false, true, true, true, true, false, false, false, false, false, false] rfl rfl (any_of HT_.out (by kernel_rfl)) (fun _ _ _ h => h) (Or.inl ⟨by rfl, ?_⟩) ?_ ?_
                     rotate_left
                     ·
                      intro w'
                      go_simp
                      with_reducible rfl
                     rotate_left
                     ·
                      simp only [Act.put, sT, s0, sS, i64_w, i32_w]
                      rfl
                     refine take_ (i := 17) (N := some 75) (v := ?_) (a' := ?_) #[true, true, true, true, true, true, true, true, true, true, true, true, true, true, true, true, true, true, true, true, true, true, false, false, false, false, false, false] rfl rfl (take_ofW HT_.out HW_.out (by kernel_rfl)) (fun _ _ _ h => h) (Or.inl ⟨by rfl, ?_⟩) hHeld ?_ ?_
                     rotate_left
                     ·
                      rintro w' ⟨s0, s1, s2, s3, s4, s5, s6, s7, s8, s9, s10, s11⟩
                      go_simp
                      with_reducible rfl
                     rotate_left
                     ·
                      simp only [Act.put, sT, s0, sS, i64_w, i32_w]
                      rfl
                     refine take_ (i := 22) (N := some 80) (v := ?_) (a' := ?_) #[true, true, true, true, true, true, true, true, true, true, true, true, true, true, true, true, true, true, true, true, true, true, true, false, false, false, false, false] rfl rfl (take_ofW HT_.out HW_.out (by kernel_rfl)) (fun _ _ _ h => h) (Or.inl ⟨by rfl, ?_⟩) hHeld ?_ ?_
                     rotate_left
                     ·
                      rintro w' ⟨s0, s1, s2, s3, s4, s5, s6, s7, s8, s9, s10, s11⟩
                      go_simp
                      with_reducible rfl
                     rotate_left
                     ·
                      simp only [Act.put, sT, s0, sS, i64_w, i32_w]
                      rfl
                     refine pure_ (i := 23) (N := some 81) (v := ?_) (a' := ?_) #[true, true, true, true, true, true, true, true, true, true, true, true, true, true, true, true, true, true, true, true, true, true, true, true, false, false, false, false] rfl rfl (any_of HT_.out (by kernel_rfl)) (fun _ _ _ h => h) (Or.inl ⟨by rfl, ?_⟩) ?_ ?_
                     rotate_left
                     ·
                      intro w'
                      go_simp
                      with_reducible rfl
                     rotate_left
                     ·
                      simp only [Act.put, sT, s0, sS, i64_w, i32_w]
                      rfl
                     refine pure_ (i := 24) (N := some 82) (v := ?_) (a' := ?_) #[true, true, true, true, true, true, true, true, true, true, true, true, true, true, true, true, true, true, true, true, true, true, true, true, true, false, false, false] rfl rfl (any_of HT_.out (by kernel_rfl)) (fun _ _ _ h => h) (Or.inl ⟨by rfl, ?_⟩) ?_ ?_
                     rotate_left
                     ·
                      intro w'
                      go_simp
                      with_reducible rfl
                     rotate_left
                     ·
                      simp only [Act.put, sT, s0, sS, i64_w, i32_w]
                      rfl
                     refine one_ (i := 25) (N := some 83) #[true, true, true, true, true, true, true, true, true, true, true, true, true, true, true, true, true, true, true, true, true, true, true, true, true, true, false, false] rfl rfl (one_of HT_.out (by kernel_rfl)) (by decide) (fun K hK => ?_)
                     refine value_ (w1 := ?_) (v := ?_) (by rfl) rfl ?_ ?_
                     rotate_left 2
                     ·
                      go_simp
                      constructor
                      ·
                       rfl
                      ·
                       rfl
                     refine hK.out _ _ ⟨(World.cell?_alloc_lt _ _ _ (World.block_lt_of_cell? _ _ (((HB.out.cell (World.block_lt_of_cell? _ _ hw188_0)).trans hw188_0)))).trans (((HB.out.cell (World.block_lt_of_cell? _ _ hw188_0)).trans hw188_0)), (World.cell?_alloc_lt _ _ _ (World.block_lt_of_cell? _ _ (((HB.out.cell (World.block_lt_of_cell? _ _ hw188_1)).trans hw188_1)))).trans (((HB.out.cell (World.block_lt_of_cell? _ _ hw188_1)).trans hw188_1)), (World.cell?_alloc_lt _ _ _ (World.block_lt_of_cell? _ _ (((HB.out.cell (World.block_lt_of_cell? _ _ hw188_2)).trans hw188_2)))).trans (((HB.out.cell (World.block_lt_of_cell? _ _ hw188_2)).trans hw188_2)), (World.cell?_alloc_lt _ _ _ (World.block_lt_of_cell? _ _ (((HB.out.cell (World.block_lt_of_cell? _ _ hw189_0)).trans hw189_0)))).trans (((HB.out.cell (World.block_lt_of_cell? _ _ hw189_0)).trans hw189_0)), (World.cell?_alloc_lt _ _ _ (World.block_lt_of_cell? _ _ (((HB.out.cell (World.block_lt_of_cell? _ _ hw189_1)).trans hw189_1)))).trans (((HB.out.cell (World.block_lt_of_cell? _ _ hw189_1)).trans hw189_1)), (World.cell?_alloc_lt _ _ _ (World.block_lt_of_cell? _ _ (((HB.out.cell (World.block_lt_of_cell? _ _ hw189_2)).trans hw189_2)))).trans (((HB.out.cell (World.block_lt_of_cell? _ _ hw189_2)).trans hw189_2)), (World.cell?_alloc_lt _ _ _ (World.block_lt_of_cell? _ _ (((HB.out.cell (World.block_lt_of_cell? _ _ hw190_0)).trans hw190_0)))).trans (((HB.out.cell (World.block_lt_of_cell? _ _ hw190_0)).trans hw190_0)), (World.cell?_alloc_lt _ _ _ (World.block_lt_of_cell? _ _ (((HB.out.cell (World.block_lt_of_cell? _ _ hw190_1)).trans hw190_1)))).trans (((HB.out.cell (World.block_lt_of_cell? _ _ hw190_1)).trans hw190_1)), (World.cell?_alloc_lt _ _ _ (World.block_lt_of_cell? _ _ (((HB.out.cell (World.block_lt_of_cell? _ _ hw190_2)).trans hw190_2)))).trans (((HB.out.cell (World.block_lt_of_cell? _ _ hw190_2)).trans hw190_2)), (World.cell?_alloc_lt _ _ _ (World.block_lt_of_cell? _ _ (((HB.out.cell (World.block_lt_of_cell? _ _ hw191_0)).trans hw191_0)))).trans (((HB.out.cell (World.block_lt_of_cell? _ _ hw191_0)).trans hw191_0)), (World.cell?_alloc_lt _ _ _ (World.block_lt_of_cell? _ _ (((HB.out.cell (World.block_lt_of_cell? _ _ hw191_1)).trans hw191_1)))).trans (((HB.out.cell (World.block_lt_of_cell? _ _ hw191_1)).trans hw191_1)), (World.cell?_alloc_lt _ _ _ (World.block_lt_of_cell? _ _ (((HB.out.cell (World.block_lt_of_cell? _ _ hw191_2)).trans hw191_2)))).trans (((HB.out.cell (World.block_lt_of_cell? _ _ hw191_2)).trans hw191_2))⟩ (fun hHeld => ?_)
                     clear hK K
                     refine norm_ (a' := ?_) ?_ ?_
                     rotate_left
                     ·
                      show Act.put _ (some 83) _ = _
                      simp only [Act.put, sT, s0, sS, i64_w, i32_w]
                      rfl
                     refine one_ (i := 26) (N := some 84) #[true, true, true, true, true, true, true, true, true, true, true, true, true, true, true, true, true, true, true, true, true, true, true, true, true, true, true, false] rfl rfl (one_of HT_.out (by kernel_rfl)) (by decide) (fun K hK => ?_)
                     refine Kd.R_append_step k55 (w0 := w) w.heap.size (by rfl) (.tmp 58) (.tmp 83) 25 55 (.agg #[(.int .i64 0), (.int .i64 0), (.int .i64 0)]) 24 rfl Try.underlying25 info55 rfl (by decide) (by omega) u7 x7_2 (⟨ji26, ji33, ji34⟩ : S55) [.int .i64 ji26, .int .i64 ji33, .int .i64 ji34] (fun _ => True) (fun _ => False) rfl rfl ?aP (fun _ hk => hk.elim) ?aF ?aO ?aB ?aS ?aL ?_
                     (case aP => exact k55_mkM _ _ _ (⟨ji26, ji33, ji34⟩ : S55))
                     (case aB => exact (by repeat (first | (with_reducible first | exact HB.out | apply lA | apply lN | apply lD) | exact HB.out)))
                     (case aF => exact (fun _ _ => trivial))
                     (case aO => exact (by (with_reducible repeat (first | apply rA | apply rN | apply rD)); exact HO_7.out))
                     (case aS => exact (below_size (by repeat (first | (with_reducible first | exact HB.out | apply lA | apply lN | apply lD) | exact HB.out))))
                     (case aL => have := LMc35.out; omega)
                     intro v193 w47 ho hb hg hat
                     rw [← Ny192.out] at ho
                     have n0_ := Aside0.mk (hb)
                     have n1_ := Aside0.mk (ho)
                     clear HB
                     clear HO_7
                     have HB := n0_
                     have HO194 := n1_
                     clear n0_ n1_
                     clear ho hb hg hat
                     refine hK.out _ _ ⟨((HB.out.cell (World.block_lt_of_cell? _ _ hw188_0)).trans hw188_0), ((HB.out.cell (World.block_lt_of_cell? _ _ hw188_1)).trans hw188_1), ((HB.out.cell (World.block_lt_of_cell? _ _ hw188_2)).trans hw188_2), ((HB.out.cell (World.block_lt_of_cell? _ _ hw189_0)).trans hw189_0), ((HB.out.cell (World.block_lt_of_cell? _ _ hw189_1)).trans hw189_1), ((HB.out.cell (World.block_lt_of_cell? _ _ hw189_2)).trans hw189_2), ((HB.out.cell (World.block_lt_of_cell? _ _ hw190_0)).trans hw190_0), ((HB.out.cell (World.block_lt_of_cell? _ _ hw190_1)).trans hw190_1), ((HB.out.cell (World.block_lt_of_cell? _ _ hw190_2)).trans hw190_2), ((HB.out.cell (World.block_lt_of_cell? _ _ hw191_0)).trans hw191_0), ((HB.out.cell (World.block_lt_of_cell? _ _ hw191_1)).trans hw191_1), ((HB.out.cell (World.block_lt_of_cell? _ _ hw191_2)).trans hw191_2)⟩ (fun hHeld => ?_)
                     clear hK K
                     refine norm_ (a' := ?_) ?_ ?_
                     rotate_left
                     ·
                      show Act.put _ (some 84) _ = _
                      simp only [Act.put, sT, s0, sS, i64_w, i32_w]
                      rfl
                     refine pure_ (i := 27) (N := some 7) (v := ?_) (a' := ?_) #[true, true, true, true, true, true, true, true, true, true, true, true, true, true, true, true, true, true, true, true, true, true, true, true, true, true, true, true] rfl rfl (any_of HT_.out (by kernel_rfl)) (fun _ _ _ h => h) (Or.inl ⟨by rfl, ?_⟩) ?_ ?_
                     rotate_left
                     ·
                      intro w'
                      go_simp
                      with_reducible rfl
                     rotate_left
                     ·
                      simp only [Act.put, sT, s0, sS, i64_w, i32_w]
                      rfl
                     refine done_ (done_of HT_.out (by kernel_rfl)) ?_
                     have p195 : 0 ≤ (x8_2 : Int) := of_decide_eq_true (by with_reducible assumption)
                     have q195 : x8_2 < (l0.length : Int) := of_decide_eq_true (by with_reducible assumption)
                     obtain ⟨ad195, e195, hx195_0, hx195_1, hx195_2⟩ := at_T55 HR0.out x8_2 p195 q195
                     obtain rfl : ad184 = ad195 := (by injection e195)
                     replace hx195_0 := cB HB.out hx195_0
                     replace hx195_1 := cB HB.out hx195_1
                     replace hx195_2 := cB HB.out hx195_2
                     replace p195 := eq_true p195
                     replace q195 := eq_true q195
                     have p197 : 0 ≤ (x9_2 : Int) := of_decide_eq_true (by with_reducible assumption)
                     have q197 : x9_2 < (l1.length : Int) := of_decide_eq_true (by with_reducible assumption)
                     obtain ⟨ad197, e197, hx197_0, hx197_1, hx197_2⟩ := at_T55 HR1.out x9_2 p197 q197
                     obtain rfl : ad185 = ad197 := (by injection e197)
                     replace hx197_0 := cB HB.out hx197_0
                     replace hx197_1 := cB HB.out hx197_1
                     replace hx197_2 := cB HB.out hx197_2
                     replace p197 := eq_true p197
                     replace q197 := eq_true q197
                     try go_wp2
                     go_roundg kj18
                     case measure => have := HJ2.out; have := HK2.out; have := HJ18.out; omega
                     case rel => exact ⟨(y192), (x8_2), (wrap64 (x9_2 + 1)), (by first | rfl | (simp; done) | (simp [*]; done)), (by first | rfl | (simp; done) | (simp [*]; done)), (by first | exact H' | (simp only [hji11, hji14, hji17, hji26, hji33, hji34]; exact H') | (have H2_ := H'; simp only [← hji11, ← hji14, ← hji17, ← hji26, ← hji33, ← hji34] at H2_; exact H2_)), ⟨by have := HJ2.out; have := HK2.out; have := HJ18.out; omega⟩, ⟨by (with_reducible repeat (first | apply rA | apply rN | apply rD)); exact HO194.out⟩, ⟨by repeat (first | (with_reducible first | exact HB.out | apply lA | apply lN | apply lD) | exact HB.out)⟩⟩
                    ·
                     exact absurd hji26 (by unfold mn; split <;> omega)
                  ·
                   rw [if_neg c35] at H
                   exact absurd H (by simp)
                ·
                 rw [if_neg c25] at H
                 exact absurd H (by simp)
               ·
                rw [if_neg c24] at H
                exact absurd H (by simp)
              ·
               rw [if_neg c23] at H
               exact absurd H (by simp)
             ·
              rw [if_neg c22] at H
              exact absurd H (by simp)
            ·
             replace c21 := Bool.eq_false_iff.mpr c21
             subst c21
             have H1 : (if (x7_2.length : Int) > 6 then (some (([] : List (S55)), 3)) else (some (x7_2, 0))) = some (r1, r2) := by rw [if_neg (show ¬ (false = true) by decide)] at H; exact H
             clear H
             have H := H1
             clear H1
             by_cases c51 : (x7_2.length : Int) > 6
             ·
              rw [if_pos c51] at H
              have c51b0 : decide (6 < (x7_2.length : Int)) = true := decide_eq_true c51
              have c51b1 : decide (6 < x7_2.length) = true := decide_eq_true (by omega)
              clear c51
              simp only [Option.some.injEq, Prod.mk.injEq] at H
              obtain ⟨rfl, rfl⟩ := H
              obtain ⟨Ao52, co52, eo52⟩ := Kd.R_slice HO_7.out
              subst eo52
              go_wp2
              go_ret2
              exact ⟨_, by first | rfl | (simp [errW_none, errW_some] <;> rfl) | (simp only [← hji11, ← hji14, ← hji17]; first | rfl | (simp [errW_none, errW_some] <;> rfl)) | (simp [*, errW_none, errW_some] <;> rfl), by first | exact Kd.R_nil _ _ _ _ _ | exact Kd.N_nil _ _ _ _ _ | exact Kd.V_nil _ _ _ _ _ | exact Kd.Q_nil _ _ _ _ _ | exact Kd.S_nil _ _ _ _ _, by repeat (first | (with_reducible first | exact HB.out | apply lA | apply lN | apply lD) | exact HB.out)⟩
             ·
              rw [if_neg c51] at H
              have c51b0 : decide (6 < (x7_2.length : Int)) = false := decide_eq_false c51
              have c51b1 : decide (6 < x7_2.length) = false := decide_eq_false (by omega)
              clear c51
              simp only [Option.some.injEq, Prod.mk.injEq] at H
              obtain ⟨rfl, rfl⟩ := H
              obtain ⟨Ao53, co53, eo53⟩ := Kd.R_slice HO_7.out
              subst eo53
              go_wp2
              go_ret2
              exact ⟨_, by first | rfl | (simp [errW_none, errW_some] <;> rfl) | (simp only [← hji11, ← hji14, ← hji17]; first | rfl | (simp [errW_none, errW_some] <;> rfl)) | (simp [*, errW_none, errW_some] <;> rfl), by (with_reducible repeat (first | apply rA | apply rN | apply rD)); exact HO_7.out, by repeat (first | (with_reducible first | exact HB.out | apply lA | apply lN | apply lD) | exact HB.out)⟩
       ·
        rw [if_neg c16] at H
        exact absurd H (by simp)
      ·
       rw [if_neg c15] at H
       exact absurd H (by simp)
     ·
      rw [if_neg c13] at H
      exact absurd H (by simp)
    ·
     rw [if_neg c12] at H
     exact absurd H (by simp)

end Go.Proofs.Ytidibjmckgbpbaa.QFnProfiles
