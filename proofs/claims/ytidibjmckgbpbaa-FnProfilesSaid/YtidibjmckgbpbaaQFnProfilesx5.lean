-- Written by a program of this project's session, after the kit's print (a turned copy of its programs). Lean checks it.
import Derived.Test.YtidibjmckgbpbaaQFnProfilesx0
import Derived.Test.YtidibjmckgbpbaaQFnProfilesx3
import Derived.Test.YtidibjmckgbpbaaQFnProfilesx4
namespace Go.Proofs.Ytidibjmckgbpbaa.QFnProfiles
open Go.RowKit Go.Proofs.YtidibjmckgbpbaaW.PrintWords Go.Proofs.YtidibjmckgbpbaaW.PrintLast Go.Proofs.YtidibjmckgbpbaaW.PrintMore
attribute [local go_sem] max2_int min2_int max_two min_two max_three min_three max_four min_four   -- for this text's walks alone
set_option linter.unusedVariables false
set_option linter.unusedSimpArgs false
theorem cf3 {W : World} {g : Nat} {a : Addr} {o0 o1 o2 : Nat} (h : a.block ≠ g) (u0 u1 u2 : Value) : (((W.setCell ⟨g, o0, none⟩ u0).setCell ⟨g, o1, none⟩ u1).setCell ⟨g, o2, none⟩ u2).cell? a = W.cell? a :=
  (cell_far (p := ⟨g, _, none⟩) h _).trans ((cell_far (p := ⟨g, _, none⟩) h _).trans (cell_far (p := ⟨g, _, none⟩) h _))

/-! ### spec_JoinProfiles: function 27 -/
mutual
def spec_JoinProfiles.j0 : Nat → List (S55) → List (S55) → Bool → Option ((List (S55)) × Int)
 | 0, _, _, _ => none
 | k + 1, x0, x1, x21 => if x21 = true then (some (([] : List (S55)), 1)) else ((some (([] : List (S55)) : List (S55))).bind fun y151 => (if y151.length + x0.length < 5864062014805 then ((some (y151 ++ x0 : List (S55))).bind fun y154 => (if y154.length + x1.length < 5864062014805 then (if 0 ≤ (wrap64 ((x0.length : Int) - 1)) then (if (wrap64 ((x0.length : Int) - 1)) < (x0.length : Int) then (if 0 ≤ (wrap64 ((x1.length : Int) - 1)) then (if (wrap64 ((x1.length : Int) - 1)) < (x1.length : Int) then (spec_JoinProfiles.l0 k x0 x1 (([] : List Int)) (y154 ++ x1) (mn ((rd_T55 x0 (wrap64 ((x0.length : Int) - 1))).f0) ((rd_T55 x1 (wrap64 ((x1.length : Int) - 1))).f0)) 0) else (none)) else (none)) else (none)) else (none)) else (none))) else (none)))
def spec_JoinProfiles.l0 : Nat → List (S55) → List (S55) → List Int → List (S55) → Int → Int → Option ((List (S55)) × Int)
 | 0, _, _, _, _, _, _ => none
 | k + 1, x0, x1, x6, x7, x8, x9 => if x9 < (x7.length : Int) then (if 0 ≤ x9 then (if ((rd_T55 x7 x9).f0) ≤ x8 then ((spec_l03Insert.f k x6 ((rd_T55 x7 x9).f0)).bind fun t164 => (spec_JoinProfiles.l0 k x0 x1 t164 x7 x8 (wrap64 (x9 + 1)))) else (spec_JoinProfiles.l0 k x0 x1 x6 x7 x8 (wrap64 (x9 + 1)))) else (none)) else (if (x6.length : Int) > 6 then (some (([] : List (S55)), 3)) else (spec_JoinProfiles.l1 k x0 x1 x6 (([] : List (S55))) 0))
def spec_JoinProfiles.l1 : Nat → List (S55) → List (S55) → List Int → List (S55) → Int → Option ((List (S55)) × Int)
 | 0, _, _, _, _, _ => none
 | k + 1, x0, x1, x6, x10, x11 => if x11 < (x6.length : Int) then (if 0 ≤ x11 then ((spec_l05Find.f k x0 (rd x6 x11)).bind fun t171 => (if 0 ≤ t171 then (if t171 < (x0.length : Int) then ((spec_l05Find.f k x1 (rd x6 x11)).bind fun t174 => (if 0 ≤ t174 then (if t174 < (x1.length : Int) then (if x10.length < 5864062014805 then (spec_JoinProfiles.l1 k x0 x1 x6 (x10 ++ [(⟨rd x6 x11, mn ((rd_T55 x0 t171).f1) ((rd_T55 x1 t174).f1), mx ((rd_T55 x0 t171).f2) ((rd_T55 x1 t174).f2)⟩ : S55)]) (wrap64 (x11 + 1))) else (none)) else (none)) else (none))) else (none)) else (none))) else (none)) else (some (x10, 0))
end
def spec_JoinProfiles.f (k : Nat) (l0 : List (S55)) (l1 : List (S55)) : Option ((List (S55)) × Int) := (spec_IsProfile.f k l0).bind fun t146 => (if t146 = true then ((spec_IsProfile.f k l1).bind fun t147 => (spec_JoinProfiles.j0 k l0 l1 (!t147))) else (spec_JoinProfiles.j0 k l0 l1 true))
theorem spec_JoinProfiles.mono_l : ∀ k, (∀ y0 y1 y2, LeO (spec_JoinProfiles.j0 k y0 y1 y2) (spec_JoinProfiles.j0 (k + 1) y0 y1 y2)) ∧ (∀ y0 y1 y2 y3 y4 y5, LeO (spec_JoinProfiles.l0 k y0 y1 y2 y3 y4 y5) (spec_JoinProfiles.l0 (k + 1) y0 y1 y2 y3 y4 y5)) ∧ (∀ y0 y1 y2 y3 y4, LeO (spec_JoinProfiles.l1 k y0 y1 y2 y3 y4) (spec_JoinProfiles.l1 (k + 1) y0 y1 y2 y3 y4))
 | 0 => ⟨fun _ _ _ r h => by simp [spec_JoinProfiles.j0] at h, fun _ _ _ _ _ _ r h => by simp [spec_JoinProfiles.l0] at h, fun _ _ _ _ _ r h => by simp [spec_JoinProfiles.l1] at h⟩
 | k + 1 => by
  obtain ⟨ih0, ih1, ih2⟩ := spec_JoinProfiles.mono_l k
  refine ⟨?_, ?_, ?_⟩
  ·
   intro y0 y1 y2
   unfold spec_JoinProfiles.j0
   repeat' first
   | (with_reducible exact ih0 _ _ _)
   | (with_reducible exact ih1 _ _ _ _ _ _)
   | (with_reducible exact ih2 _ _ _ _ _)
   | (with_reducible exact spec_IsProfile.mono _ _)
   | (with_reducible exact spec_l03Insert.mono _ _ _)
   | (with_reducible exact spec_l05Find.mono _ _ _)
   | (with_reducible exact LeO.refl _)
   | (with_reducible exact LeO.none _)
   | (with_reducible refine LeO.ite ?_ ?_)
   | (with_reducible refine LeO.bind ?_ (fun _ => ?_))
   | exact ih0 _ _ _
   | exact ih1 _ _ _ _ _ _
   | exact ih2 _ _ _ _ _
   | exact spec_IsProfile.mono _ _
   | exact spec_l03Insert.mono _ _ _
   | exact spec_l05Find.mono _ _ _
   | exact LeO.none _
   | refine LeO.ite ?_ ?_
   | refine LeO.bind ?_ (fun _ => ?_)
  ·
   intro y0 y1 y2 y3 y4 y5
   unfold spec_JoinProfiles.l0
   repeat' first
   | (with_reducible exact ih0 _ _ _)
   | (with_reducible exact ih1 _ _ _ _ _ _)
   | (with_reducible exact ih2 _ _ _ _ _)
   | (with_reducible exact spec_IsProfile.mono _ _)
   | (with_reducible exact spec_l03Insert.mono _ _ _)
   | (with_reducible exact spec_l05Find.mono _ _ _)
   | (with_reducible exact LeO.refl _)
   | (with_reducible exact LeO.none _)
   | (with_reducible refine LeO.ite ?_ ?_)
   | (with_reducible refine LeO.bind ?_ (fun _ => ?_))
   | exact ih0 _ _ _
   | exact ih1 _ _ _ _ _ _
   | exact ih2 _ _ _ _ _
   | exact spec_IsProfile.mono _ _
   | exact spec_l03Insert.mono _ _ _
   | exact spec_l05Find.mono _ _ _
   | exact LeO.none _
   | refine LeO.ite ?_ ?_
   | refine LeO.bind ?_ (fun _ => ?_)
  ·
   intro y0 y1 y2 y3 y4
   unfold spec_JoinProfiles.l1
   repeat' first
   | (with_reducible exact ih0 _ _ _)
   | (with_reducible exact ih1 _ _ _ _ _ _)
   | (with_reducible exact ih2 _ _ _ _ _)
   | (with_reducible exact spec_IsProfile.mono _ _)
   | (with_reducible exact spec_l03Insert.mono _ _ _)
   | (with_reducible exact spec_l05Find.mono _ _ _)
   | (with_reducible exact LeO.refl _)
   | (with_reducible exact LeO.none _)
   | (with_reducible refine LeO.ite ?_ ?_)
   | (with_reducible refine LeO.bind ?_ (fun _ => ?_))
   | exact ih0 _ _ _
   | exact ih1 _ _ _ _ _ _
   | exact ih2 _ _ _ _ _
   | exact spec_IsProfile.mono _ _
   | exact spec_l03Insert.mono _ _ _
   | exact spec_l05Find.mono _ _ _
   | exact LeO.none _
   | refine LeO.ite ?_ ?_
   | refine LeO.bind ?_ (fun _ => ?_)
theorem spec_JoinProfiles.mono : ∀ a0 a1 k, LeO (spec_JoinProfiles.f k a0 a1) (spec_JoinProfiles.f (k + 1) a0 a1) := by
 intro a0 a1 k
 obtain ⟨ih0, ih1, ih2⟩ := spec_JoinProfiles.mono_l k
 unfold spec_JoinProfiles.f
 repeat' first
   | (with_reducible exact ih0 _ _ _)
   | (with_reducible exact ih1 _ _ _ _ _ _)
   | (with_reducible exact ih2 _ _ _ _ _)
   | (with_reducible exact spec_IsProfile.mono _ _)
   | (with_reducible exact spec_l03Insert.mono _ _ _)
   | (with_reducible exact spec_l05Find.mono _ _ _)
   | (with_reducible exact LeO.refl _)
   | (with_reducible exact LeO.none _)
   | (with_reducible refine LeO.ite ?_ ?_)
   | (with_reducible refine LeO.bind ?_ (fun _ => ?_))
   | exact ih0 _ _ _
   | exact ih1 _ _ _ _ _ _
   | exact ih2 _ _ _ _ _
   | exact spec_IsProfile.mono _ _
   | exact spec_l03Insert.mono _ _ _
   | exact spec_l05Find.mono _ _ _
   | exact LeO.none _
   | refine LeO.ite ?_ ?_
   | refine LeO.bind ?_ (fun _ => ?_)
def spec_JoinProfiles.T5 : Bool × List (List Nat × List Nat) := (true, [([], []), ([], []), ([1], [1]), ([2], [2]), ([0, 3], [0, 3]), ([4], [4]), ([5], [5]), ([], []), ([], []), ([8], [8]), ([9], [9]), ([7, 10], [7, 10]), ([11], [11]), ([12], [12]), ([6, 13], [6, 13]), ([14, 0, 1, 2, 3, 4, 5, 6, 7, 8, 9, 10, 11, 12, 13, 14], [14])])
def spec_JoinProfiles.B5 : List Nat := [0, 0, 2, 6, 15, 31, 63, 0, 0, 256, 768, 1920, 3968, 8064, 16383, 32767]
theorem spec_JoinProfiles.tab5 : rtab .any (opsOf Try.f27 5) = spec_JoinProfiles.T5 := by kernel_rfl
theorem spec_JoinProfiles.bits5 : waitsOk spec_JoinProfiles.T5.2 spec_JoinProfiles.B5 = true := by kernel_rfl
def spec_JoinProfiles.T17 : Bool × List (List Nat × List Nat) := (true, [([], []), ([], []), ([], []), ([], []), ([2, 3], [2, 3]), ([4], [4]), ([1, 5], [1, 5]), ([0, 6], [0, 6]), ([7], [7]), ([], []), ([], []), ([], []), ([], []), ([11, 12], [11, 12]), ([13], [13]), ([10, 14, 6], [10, 14]), ([9, 15], [9, 15]), ([16], [16]), ([], []), ([], []), ([18, 8, 15, 0, 1, 2, 3, 4, 5, 6, 7, 8, 18, 19], [8, 18]), ([19, 17, 20, 0, 1, 2, 3, 4, 5, 6, 7, 8, 9, 10, 11, 12, 13, 14, 15, 16, 17, 18, 19, 20], [17, 19])])
def spec_JoinProfiles.B17 : List Nat := [0, 0, 0, 0, 12, 28, 62, 127, 255, 0, 0, 0, 0, 6144, 14336, 31870, 65150, 130686, 0, 0, 851455, 2097151]
theorem spec_JoinProfiles.tab17 : rtab .any (opsOf Try.f27 17) = spec_JoinProfiles.T17 := by kernel_rfl
theorem spec_JoinProfiles.bits17 : waitsOk spec_JoinProfiles.T17.2 spec_JoinProfiles.B17 = true := by kernel_rfl
def spec_JoinProfiles.T18 : Bool × List (List Nat × List Nat) := (true, [([], []), ([], []), ([], []), ([1, 2], [1, 2]), ([3], [3]), ([], []), ([5], [5]), ([], []), ([7], [7]), ([6, 8], [6, 8]), ([], []), ([10], [10]), ([], []), ([12], [12]), ([11, 13], [11, 13]), ([4, 9, 14], [4, 9, 14]), ([15], [15]), ([0, 16], [0, 16]), ([17, 17, 0, 1, 2, 3, 4, 5, 6, 7, 8, 9, 10, 11, 12, 13, 14, 15, 16, 17], [0, 17])])
def spec_JoinProfiles.B18 : List Nat := [0, 0, 0, 6, 14, 0, 32, 0, 128, 480, 0, 1024, 0, 4096, 15360, 32766, 65534, 131071, 262143]
theorem spec_JoinProfiles.tab18 : rtab .any (opsOf Try.f27 18) = spec_JoinProfiles.T18 := by kernel_rfl
theorem spec_JoinProfiles.bits18 : waitsOk spec_JoinProfiles.T18.2 spec_JoinProfiles.B18 = true := by kernel_rfl
set_option maxHeartbeats 40000000 in
set_option maxRecDepth 100000 in
theorem spec_JoinProfiles.calls (k : Nat) (A0 : Option Addr) (c0 : Nat) (l0 : List (S55)) (A1 : Option Addr) (c1 : Nat) (l1 : List (S55)) (r1 : List (S55)) (r2 : Int) (w : World) (hr0 : Kd.C k55 w A0 l0.length l0) (hc0 : l0.length ≤ c0) (hr1 : Kd.C k55 w A1 l1.length l1) (hc1 : l1.length ≤ c1) (h : spec_JoinProfiles.f k l0 l1 = some (r1, r2)) :
  Calls Try.prog 27 #[.slice A0 l0.length c0, .slice A1 l1.length c1] w fun e w' => ∃ v0_ : Value, e = .returned (.tuple #[v0_, .int .i64 r2]) ∧ Kd.R k55 55 w' w.heap.size (fun _ => True) v0_ r1 ∧ Below w.heap.size w w' := by
 have hu55 := Try.underlying55
 have HR0 := Aside0.mk hr0
 have HC0 := Aside0.mk hc0
 clear hr0 hc0
 have HR1 := Aside0.mk hr1
 have HC1 := Aside0.mk hc1
 clear hr1 hc1
 have HB := Aside0.mk (Below.refl w.heap.size w)
 have H : ((spec_IsProfile.f k l0).bind fun t146 => (if t146 = true then ((spec_IsProfile.f k l1).bind fun t147 => (spec_JoinProfiles.j0 k l0 l1 (!t147))) else (spec_JoinProfiles.j0 k l0 l1 true))) = some (r1, r2) := h
 clear h
 have HC3 := Aside0.mk H
 clear H
 go_enter Try.func27, Try.ntmps27
 go_upto_region 1 with (fail)
 go_cut [21] (fun v21 wc => ∃ (kq : Nat) (x21_2 : Bool), v21 = .bool x21_2 ∧ Aside0 (spec_JoinProfiles.j0 kq l0 l1 x21_2 = some (r1, r2)) ∧ Aside0 (kq ≤ k) ∧ Aside0 (Below w.heap.size w wc))
 case first =>
  have H := HC3.out
  clear HC3
  replace H := Option.bind_eq_some_iff.mp H
  obtain ⟨t146, A40, H⟩ := H
  replace H : (if t146 = true then ((spec_IsProfile.f k l1).bind fun t147 => (spec_JoinProfiles.j0 k l0 l1 (!t147))) else (spec_JoinProfiles.j0 k l0 l1 true)) = some (r1, r2) := H
  have A4 := Aside0.mk A40
  clear A40
  by_cases c5 : t146 = true
  ·
   subst c5
   have H1 : ((spec_IsProfile.f k l1).bind fun t147 => (spec_JoinProfiles.j0 k l0 l1 (!t147))) = some (r1, r2) := by rw [if_pos rfl] at H; exact H
   clear H
   have H := H1
   clear H1
   replace H := Option.bind_eq_some_iff.mp H
   obtain ⟨t147, A60, H⟩ := H
   replace H : (spec_JoinProfiles.j0 k l0 l1 (!t147)) = some (r1, r2) := H
   have A6 := Aside0.mk A60
   clear A60
   have H' := Aside0.mk H
   clear H
   go_wp2_with (first | ((with_reducible refine gate_callee (f := 15) rfl ?_); refine goesL_ (some 15) rfl rfl Try.func15 (by kernel_rfl) rfl #[.slice A0 l0.length c0] rfl (by (try simp only [List.map_toArray, List.map_cons, List.map_nil]); first | done | rfl | (go_simp; done) | simp) ?_; (with_reducible refine (spec_IsProfile.calls k _ _ l0 true _ ?side1 ?side2 A4.out).mono ?_); (case side1 => repeat (first | exact (Kd.C_below HR0.out HB.out) | (with_reducible first | apply cA | apply cN | apply cD))); (case side2 => exact HC0.out); rintro e w7 ⟨rfl, hb⟩; refine ⟨_, rfl, ?_⟩; have n0_ := Aside0.mk (below_step (by repeat (first | (with_reducible first | exact HB.out | apply lA | apply lN | apply lD) | exact HB.out)) hb); clear HB; have HB := n0_; clear n0_; (try clear hb); (try clear hb2); (try clear hk); (try clear hi)) | (go_at_call 15; (with_reducible refine (spec_IsProfile.calls k _ _ l1 t147 _ ?side1 ?side2 A6.out).mono ?_); (case side1 => repeat (first | exact (Kd.C_below HR1.out HB.out) | (with_reducible first | apply cA | apply cN | apply cD))); (case side2 => exact HC1.out); rintro e w8 ⟨rfl, hb⟩; have n0_ := Aside0.mk (below_step (by repeat (first | (with_reducible first | exact HB.out | apply lA | apply lN | apply lD) | exact HB.out)) hb); clear HB; have HB := n0_; clear n0_; (try clear hb); (try clear hb2); (try clear hk); (try clear hi)))
   go_meet
   case rel => exact ⟨_, (!t147), (by first | rfl | (simp; done) | (simp [*]; done)), H', ⟨by first | omega | exact Nat.le_refl _⟩, ⟨by repeat (first | (with_reducible first | exact HB.out | apply lA | apply lN | apply lD) | exact HB.out)⟩⟩
  ·
   replace c5 := Bool.eq_false_iff.mpr c5
   subst c5
   have H1 : (spec_JoinProfiles.j0 k l0 l1 true) = some (r1, r2) := by rw [if_neg (show ¬ (false = true) by decide)] at H; exact H
   clear H
   have H := H1
   clear H1
   have H' := Aside0.mk H
   clear H
   go_wp2_with (first | ((with_reducible refine gate_callee (f := 15) rfl ?_); refine goesL_ (some 15) rfl rfl Try.func15 (by kernel_rfl) rfl #[.slice A0 l0.length c0] rfl (by (try simp only [List.map_toArray, List.map_cons, List.map_nil]); first | done | rfl | (go_simp; done) | simp) ?_; (with_reducible refine (spec_IsProfile.calls k _ _ l0 false _ ?side1 ?side2 A4.out).mono ?_); (case side1 => repeat (first | exact (Kd.C_below HR0.out HB.out) | (with_reducible first | apply cA | apply cN | apply cD))); (case side2 => exact HC0.out); rintro e w9 ⟨rfl, hb⟩; refine ⟨_, rfl, ?_⟩; have n0_ := Aside0.mk (below_step (by repeat (first | (with_reducible first | exact HB.out | apply lA | apply lN | apply lD) | exact HB.out)) hb); clear HB; have HB := n0_; clear n0_; (try clear hb); (try clear hb2); (try clear hk); (try clear hi)))
   go_meet
   case rel => exact ⟨_, (true), (by first | rfl | (simp; done) | (simp [*]; done)), H', ⟨by first | omega | exact Nat.le_refl _⟩, ⟨by repeat (first | (with_reducible first | exact HB.out | apply lA | apply lN | apply lD) | exact HB.out)⟩⟩
 case rest =>
  clear HC3
  try clear c1
  try clear c2
  try clear p2
  try clear c5
  obtain ⟨kq, x21_2, rfl, HA, HJ2, HB⟩ := hcut
  cases kq with
  | zero => exact absurd HA.out (by simp [spec_JoinProfiles.j0])
  | succ kj2 =>
   have H := HA.out
   clear HA
   simp only [spec_JoinProfiles.j0] at H
   by_cases c10 : x21_2 = true
   ·
    subst c10
    have H1 : (some (([] : List (S55)), 1)) = some (r1, r2) := by rw [if_pos rfl] at H; exact H
    clear H
    have H := H1
    clear H1
    simp only [Option.some.injEq, Prod.mk.injEq] at H
    obtain ⟨rfl, rfl⟩ := H
    go_wp2
    go_ret2
    exact ⟨_, by first | rfl | (simp [errW_none, errW_some] <;> rfl) | (simp [*, errW_none, errW_some] <;> rfl), by first | exact Kd.R_nil _ _ _ _ _ | exact Kd.N_nil _ _ _ _ _ | exact Kd.V_nil _ _ _ _ _ | exact Kd.Q_nil _ _ _ _ _ | exact Kd.S_nil _ _ _ _ _, by repeat (first | (with_reducible first | exact HB.out | apply lA | apply lN | apply lD) | exact HB.out)⟩
   ·
    replace c10 := Bool.eq_false_iff.mpr c10
    subst c10
    have H1 : ((some (([] : List (S55)) : List (S55))).bind fun y151 => (if y151.length + l0.length < 5864062014805 then ((some (y151 ++ l0 : List (S55))).bind fun y154 => (if y154.length + l1.length < 5864062014805 then (if 0 ≤ (wrap64 ((l0.length : Int) - 1)) then (if (wrap64 ((l0.length : Int) - 1)) < (l0.length : Int) then (if 0 ≤ (wrap64 ((l1.length : Int) - 1)) then (if (wrap64 ((l1.length : Int) - 1)) < (l1.length : Int) then (spec_JoinProfiles.l0 kj2 l0 l1 (([] : List Int)) (y154 ++ l1) (mn ((rd_T55 l0 (wrap64 ((l0.length : Int) - 1))).f0) ((rd_T55 l1 (wrap64 ((l1.length : Int) - 1))).f0)) 0) else (none)) else (none)) else (none)) else (none)) else (none))) else (none))) = some (r1, r2) := by rw [if_neg (show ¬ (false = true) by decide)] at H; exact H
    clear H
    have H := H1
    clear H1
    obtain ⟨y148, hy148⟩ : ∃ y_ : List Int, y_ = (([] : List Int)) := ⟨_, rfl⟩
    replace H : ((some (([] : List (S55)) : List (S55))).bind fun y151 => (if y151.length + l0.length < 5864062014805 then ((some (y151 ++ l0 : List (S55))).bind fun y154 => (if y154.length + l1.length < 5864062014805 then (if 0 ≤ (wrap64 ((l0.length : Int) - 1)) then (if (wrap64 ((l0.length : Int) - 1)) < (l0.length : Int) then (if 0 ≤ (wrap64 ((l1.length : Int) - 1)) then (if (wrap64 ((l1.length : Int) - 1)) < (l1.length : Int) then (spec_JoinProfiles.l0 kj2 l0 l1 y148 (y154 ++ l1) (mn ((rd_T55 l0 (wrap64 ((l0.length : Int) - 1))).f0) ((rd_T55 l1 (wrap64 ((l1.length : Int) - 1))).f0)) 0) else (none)) else (none)) else (none)) else (none)) else (none))) else (none))) = some (r1, r2) := by first | (rw [hy148]; with_reducible exact H) | (have H2_ := (Option.bind_some _ _).symm.trans H; rw [hy148]; with_reducible exact H2_) | (have H2_ := (Option.bind_some _ _).symm.trans H; with_reducible exact H2_) | with_reducible exact H | (rw [hy148]; exact H) | exact H
    have Ny148 := Aside0.mk hy148
    clear hy148
    obtain ⟨y151, hy151⟩ : ∃ y_ : List (S55), y_ = (([] : List (S55))) := ⟨_, rfl⟩
    replace H : (if y151.length + l0.length < 5864062014805 then ((some (y151 ++ l0 : List (S55))).bind fun y154 => (if y154.length + l1.length < 5864062014805 then (if 0 ≤ (wrap64 ((l0.length : Int) - 1)) then (if (wrap64 ((l0.length : Int) - 1)) < (l0.length : Int) then (if 0 ≤ (wrap64 ((l1.length : Int) - 1)) then (if (wrap64 ((l1.length : Int) - 1)) < (l1.length : Int) then (spec_JoinProfiles.l0 kj2 l0 l1 y148 (y154 ++ l1) (mn ((rd_T55 l0 (wrap64 ((l0.length : Int) - 1))).f0) ((rd_T55 l1 (wrap64 ((l1.length : Int) - 1))).f0)) 0) else (none)) else (none)) else (none)) else (none)) else (none))) else (none)) = some (r1, r2) := by first | (rw [hy151]; with_reducible exact H) | (have H2_ := (Option.bind_some _ _).symm.trans H; rw [hy151]; with_reducible exact H2_) | (have H2_ := (Option.bind_some _ _).symm.trans H; with_reducible exact H2_) | with_reducible exact H | (rw [hy151]; exact H) | exact H
    have Ny151 := Aside0.mk hy151
    clear hy151
    by_cases c11 : y151.length + l0.length < 5864062014805
    ·
     rw [if_pos c11] at H
     have LMc11 := Aside0.mk c11
     clear c11
     obtain ⟨y154, hy154⟩ : ∃ y_ : List (S55), y_ = (y151 ++ l0) := ⟨_, rfl⟩
     replace H : (if y154.length + l1.length < 5864062014805 then (if 0 ≤ (wrap64 ((l0.length : Int) - 1)) then (if (wrap64 ((l0.length : Int) - 1)) < (l0.length : Int) then (if 0 ≤ (wrap64 ((l1.length : Int) - 1)) then (if (wrap64 ((l1.length : Int) - 1)) < (l1.length : Int) then (spec_JoinProfiles.l0 kj2 l0 l1 y148 (y154 ++ l1) (mn ((rd_T55 l0 (wrap64 ((l0.length : Int) - 1))).f0) ((rd_T55 l1 (wrap64 ((l1.length : Int) - 1))).f0)) 0) else (none)) else (none)) else (none)) else (none)) else (none)) = some (r1, r2) := by first | (rw [hy154]; with_reducible exact H) | (have H2_ := (Option.bind_some _ _).symm.trans H; rw [hy154]; with_reducible exact H2_) | (have H2_ := (Option.bind_some _ _).symm.trans H; with_reducible exact H2_) | with_reducible exact H | (rw [hy154]; exact H) | exact H
     have Ny154 := Aside0.mk hy154
     clear hy154
     by_cases c12 : y154.length + l1.length < 5864062014805
     ·
      rw [if_pos c12] at H
      have LMc12 := Aside0.mk c12
      clear c12
      obtain ⟨y157, hy157⟩ : ∃ y_ : List (S55), y_ = (y154 ++ l1) := ⟨_, rfl⟩
      replace H : (if 0 ≤ (wrap64 ((l0.length : Int) - 1)) then (if (wrap64 ((l0.length : Int) - 1)) < (l0.length : Int) then (if 0 ≤ (wrap64 ((l1.length : Int) - 1)) then (if (wrap64 ((l1.length : Int) - 1)) < (l1.length : Int) then (spec_JoinProfiles.l0 kj2 l0 l1 y148 y157 (mn ((rd_T55 l0 (wrap64 ((l0.length : Int) - 1))).f0) ((rd_T55 l1 (wrap64 ((l1.length : Int) - 1))).f0)) 0) else (none)) else (none)) else (none)) else (none)) = some (r1, r2) := by first | (rw [hy157]; with_reducible exact H) | (have H2_ := (Option.bind_some _ _).symm.trans H; rw [hy157]; with_reducible exact H2_) | (have H2_ := (Option.bind_some _ _).symm.trans H; with_reducible exact H2_) | with_reducible exact H | (rw [hy157]; exact H) | exact H
      have Ny157 := Aside0.mk hy157
      clear hy157
      obtain ⟨ji13, hji13⟩ : ∃ j_ : Int, (wrap64 ((l0.length : Int) - 1)) = j_ := ⟨_, rfl⟩
      replace H : (if 0 ≤ (ji13) then (if (ji13) < (l0.length : Int) then (if 0 ≤ (wrap64 ((l1.length : Int) - 1)) then (if (wrap64 ((l1.length : Int) - 1)) < (l1.length : Int) then (spec_JoinProfiles.l0 kj2 l0 l1 y148 y157 (mn ((rd_T55 l0 (ji13)).f0) ((rd_T55 l1 (wrap64 ((l1.length : Int) - 1))).f0)) 0) else (none)) else (none)) else (none)) else (none)) = some (r1, r2) := by first | (rw [hji13] at H; exact H) | (simp only [hji13] at H ⊢; exact H)
      have hji13w : (IntKind.i64.wrap ((l0.length : Int) - 1)) = ji13 := (i64_w _).trans hji13
      by_cases c14 : 0 ≤ (ji13)
      ·
       rw [if_pos c14] at H
       have c14b0 : decide (0 ≤ (ji13)) = true := decide_eq_true c14
       clear c14
       by_cases c15 : (ji13) < (l0.length : Int)
       ·
        rw [if_pos c15] at H
        have c15b0 : decide ((ji13) < (l0.length : Int)) = true := decide_eq_true c15
        clear c15
        obtain ⟨ji16, hji16⟩ : ∃ j_ : Int, (wrap64 ((l1.length : Int) - 1)) = j_ := ⟨_, rfl⟩
        replace H : (if 0 ≤ (ji16) then (if (ji16) < (l1.length : Int) then (spec_JoinProfiles.l0 kj2 l0 l1 y148 y157 (mn ((rd_T55 l0 (ji13)).f0) ((rd_T55 l1 (ji16)).f0)) 0) else (none)) else (none)) = some (r1, r2) := by first | (rw [hji16] at H; exact H) | (simp only [hji16] at H ⊢; exact H)
        have hji16w : (IntKind.i64.wrap ((l1.length : Int) - 1)) = ji16 := (i64_w _).trans hji16
        by_cases c17 : 0 ≤ (ji16)
        ·
         rw [if_pos c17] at H
         have c17b0 : decide (0 ≤ (ji16)) = true := decide_eq_true c17
         clear c17
         by_cases c18 : (ji16) < (l1.length : Int)
         ·
          rw [if_pos c18] at H
          have c18b0 : decide ((ji16) < (l1.length : Int)) = true := decide_eq_true c18
          clear c18
          obtain ⟨ji19, hji19⟩ : ∃ j_ : Int, (mn ((rd_T55 l0 (ji13)).f0) ((rd_T55 l1 (ji16)).f0)) = j_ := ⟨_, rfl⟩
          replace H : (spec_JoinProfiles.l0 kj2 l0 l1 y148 y157 ji19 0) = some (r1, r2) := by first | (rw [hji19] at H; exact H) | (simp only [hji19] at H ⊢; exact H)
          have hji19_ : (if ((rd_T55 l1 (ji16)).f0) < ((rd_T55 l0 (ji13)).f0) then ((rd_T55 l1 (ji16)).f0) else ((rd_T55 l0 (ji13)).f0)) = ji19 := hji19
          have H' := Aside0.mk H
          clear H
          try go_wp2_with (first | ((with_reducible refine gate_dst (N := 22) rfl ?_); refine Kd.R_lit (Kd.int .i64) _ 2 ?hg (N := 22) ?hd (xs := ([] : List Int)) (inner := []) (ok := fun _ => True) (okp := fun _ => True) ?hr ?hp (fun _ hk => hk) trivial (Below.refl _ _) (Nat.le_refl _) (by simp) ?_; (case hd => rfl); (case hg => rfl); (case hr => first | (go_simp; done) | (go_simp; rfl)); (case hp => exact (Reps.none _ _)); intro v149 w20 ho21 hb hg_ hnew_; clear hg_ hnew_; (first | rw [← Ny148.out] at ho21 | (simp only [Int.reduceToNat] at ho21; rw [← Ny148.out] at ho21)); have n0_ := Aside0.mk (Kd.R_lower ho21 (below_size (by repeat (first | (with_reducible first | exact HB.out | apply lA | apply lN | apply lD) | exact HB.out)))); have n1_ := Aside0.mk (below_step (by repeat (first | (with_reducible first | exact HB.out | apply lA | apply lN | apply lD) | exact HB.out)) hb); clear HB; have HO150 := n0_; have HB := n1_; clear n0_ n1_; clear hb ho21) | ((with_reducible refine gate_dst (N := 23) rfl ?_); refine Kd.R_lit k55 _ 55 ?hg (N := 23) ?hd (xs := ([] : List (S55))) (inner := []) (ok := fun _ => True) (okp := fun _ => True) ?hr ?hp (fun _ hk => hk) trivial (Below.refl _ _) (Nat.le_refl _) (by simp) ?_; (case hd => rfl); (case hg => rfl); (case hr => first | (go_simp; done) | (go_simp; rfl)); (case hp => exact (Reps.none _ _)); intro v152 w22 ho23 hb hg_ hnew_; clear hg_ hnew_; (first | rw [← Ny151.out] at ho23 | (simp only [Int.reduceToNat] at ho23; rw [← Ny151.out] at ho23)); have n0_ := Aside0.mk (Kd.R_below (by (with_reducible repeat (first | apply rA | apply rN | apply rD)); exact HO150.out) hb); have n1_ := Aside0.mk (Kd.R_lower ho23 (below_size (by repeat (first | (with_reducible first | exact HB.out | apply lA | apply lN | apply lD) | exact HB.out)))); have n2_ := Aside0.mk (below_step (by repeat (first | (with_reducible first | exact HB.out | apply lA | apply lN | apply lD) | exact HB.out)) hb); clear HO150; clear HB; have HO150 := n0_; have HO153 := n1_; have HB := n2_; clear n0_ n1_ n2_; clear hb ho23) | ((with_reducible refine gate_builtin (b := .append) (xs := #[.tmp 23, .tmp 24]) rfl ?_); at_builtin; refine Kd.R_append_rows k55 (w0 := w) w.heap.size rfl (.tmp 23) (.tmp 24) 25 55 (.agg #[(.int .i64 0), (.int .i64 0), (.int .i64 0)]) 24 rfl Try.underlying25 info55 rfl (by decide) (by omega) v152 y151 l0 _ _ _ (fun _ => True) (fun _ => False) rfl rfl ?aO ?aR (fun _ _ h => h) (fun _ h => h.elim) ?aF ?aB ?aS ?aL ?_; (case aR => repeat (first | exact (Kd.C_below HR0.out HB.out) | (with_reducible first | apply cA | apply cN | apply cD))); (case aB => exact (by repeat (first | (with_reducible first | exact HB.out | apply lA | apply lN | apply lD) | exact HB.out))); (case aF => exact (fun _ _ => trivial)); (case aO => exact (by (with_reducible repeat (first | apply rA | apply rN | apply rD)); exact HO153.out)); (case aS => exact (below_size (by repeat (first | (with_reducible first | exact HB.out | apply lA | apply lN | apply lD) | exact HB.out)))); (case aL => have := LMc11.out; omega); intro v155 w24 ho hb hg hat; rw [← Ny154.out] at ho; have n0_ := Aside0.mk (Kd.R_over' (by (with_reducible repeat (first | apply rA | apply rN | apply rD)); exact HO150.out) (Kd.R_typed (by (with_reducible repeat (first | apply rA | apply rN | apply rD)); exact HO153.out)) (by decide) hg); have n1_ := Aside0.mk (hb); have n2_ := Aside0.mk (ho); clear HO150; clear HB; clear HO153; have HO150 := n0_; have HB := n1_; have HO156 := n2_; clear n0_ n1_ n2_; clear ho hb hg hat) | ((with_reducible refine gate_builtin (b := .append) (xs := #[.tmp 25, .tmp 26]) rfl ?_); at_builtin; refine Kd.R_append_rows k55 (w0 := w) w.heap.size rfl (.tmp 25) (.tmp 26) 25 55 (.agg #[(.int .i64 0), (.int .i64 0), (.int .i64 0)]) 24 rfl Try.underlying25 info55 rfl (by decide) (by omega) v155 y154 l1 _ _ _ (fun _ => True) (fun _ => False) rfl rfl ?aO ?aR (fun _ _ h => h) (fun _ h => h.elim) ?aF ?aB ?aS ?aL ?_; (case aR => repeat (first | exact (Kd.C_below HR1.out HB.out) | (with_reducible first | apply cA | apply cN | apply cD))); (case aB => exact (by repeat (first | (with_reducible first | exact HB.out | apply lA | apply lN | apply lD) | exact HB.out))); (case aF => exact (fun _ _ => trivial)); (case aO => exact (by (with_reducible repeat (first | apply rA | apply rN | apply rD)); exact HO156.out)); (case aS => exact (below_size (by repeat (first | (with_reducible first | exact HB.out | apply lA | apply lN | apply lD) | exact HB.out)))); (case aL => have := LMc12.out; omega); intro v158 w25 ho hb hg hat; rw [← Ny157.out] at ho; have n0_ := Aside0.mk (Kd.R_over' (by (with_reducible repeat (first | apply rA | apply rN | apply rD)); exact HO150.out) (Kd.R_typed (by (with_reducible repeat (first | apply rA | apply rN | apply rD)); exact HO156.out)) (by decide) hg); have n1_ := Aside0.mk (hb); have n2_ := Aside0.mk (ho); clear HO150; clear HB; clear HO156; have HO150 := n0_; have HB := n1_; have HO159 := n2_; clear n0_ n1_ n2_; clear ho hb hg hat))
          have n0_ := Aside0.mk (Kd.R_drew HO150.out)
          have n1_ := Aside0.mk (Kd.R_drew HO159.out)
          have n2_ := Aside0.mk (below_drew1 HB.out)
          clear HO150
          clear HO159
          clear HB
          have HO150 := n0_
          have HO159 := n1_
          have HB := n2_
          clear n0_ n1_ n2_
          have p160 : 0 ≤ ((ji13) : Int) := of_decide_eq_true (by with_reducible assumption)
          have q160 : (ji13) < (l0.length : Int) := of_decide_eq_true (by with_reducible assumption)
          obtain ⟨ad160, e160, hx160_0, hx160_1, hx160_2⟩ := at_T55 HR0.out (ji13) p160 q160
          have hw160_2 := hx160_2
          have hw160_1 := hx160_1
          have hw160_0 := hx160_0
          cases e160
          replace hx160_0 := cB HB.out hx160_0
          replace hx160_1 := cB HB.out hx160_1
          replace hx160_2 := cB HB.out hx160_2
          replace p160 := eq_true p160
          replace q160 := eq_true q160
          have p161 : 0 ≤ ((ji16) : Int) := of_decide_eq_true (by with_reducible assumption)
          have q161 : (ji16) < (l1.length : Int) := of_decide_eq_true (by with_reducible assumption)
          obtain ⟨ad161, e161, hx161_0, hx161_1, hx161_2⟩ := at_T55 HR1.out (ji16) p161 q161
          have hw161_2 := hx161_2
          have hw161_1 := hx161_1
          have hw161_0 := hx161_0
          cases e161
          replace hx161_0 := cB HB.out hx161_0
          replace hx161_1 := cB HB.out hx161_1
          replace hx161_2 := cB HB.out hx161_2
          replace p161 := eq_true p161
          replace q161 := eq_true q161
          refine start_ (n := 16) (S := fun w' => w'.cell? (ad160.add (((ji13)).toNat * 3)) = some (.int .i64 ((rd_T55 l0 (ji13)).f0)) ∧ w'.cell? ⟨(ad160.add (((ji13)).toNat * 3)).block, (ad160.add (((ji13)).toNat * 3)).off + 1, none⟩ = some (.int .i64 ((rd_T55 l0 (ji13)).f1)) ∧ w'.cell? ⟨(ad160.add (((ji13)).toNat * 3)).block, (ad160.add (((ji13)).toNat * 3)).off + 2, none⟩ = some (.int .i64 ((rd_T55 l0 (ji13)).f2)) ∧ w'.cell? (ad161.add (((ji16)).toNat * 3)) = some (.int .i64 ((rd_T55 l1 (ji16)).f0)) ∧ w'.cell? ⟨(ad161.add (((ji16)).toNat * 3)).block, (ad161.add (((ji16)).toNat * 3)).off + 1, none⟩ = some (.int .i64 ((rd_T55 l1 (ji16)).f1)) ∧ w'.cell? ⟨(ad161.add (((ji16)).toNat * 3)).block, (ad161.add (((ji16)).toNat * 3)).off + 2, none⟩ = some (.int .i64 ((rd_T55 l1 (ji16)).f2))) (ds := []) #[false, false, false, false, false, false, false, false, false, false, false, false, false, false, false, false] (by kernel_rfl) rfl rfl ⟨((HB.out.cell (World.block_lt_of_cell? _ _ hw160_0)).trans hw160_0), ((HB.out.cell (World.block_lt_of_cell? _ _ hw160_1)).trans hw160_1), ((HB.out.cell (World.block_lt_of_cell? _ _ hw160_2)).trans hw160_2), ((HB.out.cell (World.block_lt_of_cell? _ _ hw161_0)).trans hw161_0), ((HB.out.cell (World.block_lt_of_cell? _ _ hw161_1)).trans hw161_1), ((HB.out.cell (World.block_lt_of_cell? _ _ hw161_2)).trans hw161_2)⟩ (fun hHeld => ?_); refine with_tabW spec_JoinProfiles.tab5 spec_JoinProfiles.bits5 (fun HT_ HW_ => ?_)
          generalize w25.drew = w26 at HO150 HO159 HB hx160_0 hx160_1 hx160_2 hx161_0 hx161_1 hx161_2 hHeld ⊢
          refine pure_ (i := 0) (N := some 28) (v := ?_) (a' := ?_) #[true, false, false, false, false, false, false, false, false, false, false, false, false, false, false, false] rfl rfl (any_of HT_.out (by kernel_rfl)) (fun _ _ _ h => h) (Or.inl ⟨by rfl, ?_⟩) ?_ ?_
          rotate_left
          ·
           intro w'
           go_simp
           with_reducible rfl
          rotate_left
          ·
           simp only [Act.put, sT, s0, sS, i64_w, i32_w]
           rfl
          refine pure_ (i := 1) (N := some 29) (v := ?_) (a' := ?_) #[true, true, false, false, false, false, false, false, false, false, false, false, false, false, false, false] rfl rfl (any_of HT_.out (by kernel_rfl)) (fun _ _ _ h => h) (Or.inl ⟨by rfl, ?_⟩) ?_ ?_
          rotate_left
          ·
           intro w'
           go_simp
           with_reducible rfl
          rotate_left
          ·
           simp only [Act.put, sT, s0, sS, i64_w, i32_w]
           rfl
          refine pure_ (i := 2) (N := some 30) (v := ?_) (a' := ?_) #[true, true, true, false, false, false, false, false, false, false, false, false, false, false, false, false] rfl rfl (any_of HT_.out (by kernel_rfl)) (fun _ _ _ h => h) (Or.inl ⟨by rfl, ?_⟩) ?_ ?_
          rotate_left
          ·
           intro w'
           go_simp
           with_reducible rfl
          rotate_left
          ·
           simp only [Act.put, sT, s0, sS, i64_w, i32_w]
           rfl
          refine pure_ (i := 3) (N := some 31) (v := ?_) (a' := ?_) #[true, true, true, true, false, false, false, false, false, false, false, false, false, false, false, false] rfl rfl (any_of HT_.out (by kernel_rfl)) (fun _ _ _ h => h) (Or.inl ⟨by rfl, ?_⟩) ?_ ?_
          rotate_left
          ·
           intro w'
           go_simp
           with_reducible rfl
          rotate_left
          ·
           simp only [Act.put, sT, s0, sS, i64_w, i32_w]
           rfl
          refine pure_ (i := 4) (N := some 32) (v := ?_) (a' := ?_) #[true, true, true, true, true, false, false, false, false, false, false, false, false, false, false, false] rfl rfl (any_of HT_.out (by kernel_rfl)) (fun _ _ _ h => h) (Or.inl ⟨by rfl, ?_⟩) ?_ ?_
          rotate_left
          ·
           intro w'
           go_simp
           with_reducible rfl
          rotate_left
          ·
           simp only [Act.put, sT, s0, sS, i64_w, i32_w]
           rfl
          refine pure_ (i := 5) (N := some 33) (v := ?_) (a' := ?_) #[true, true, true, true, true, true, false, false, false, false, false, false, false, false, false, false] rfl rfl (any_of HT_.out (by kernel_rfl)) (fun _ _ _ h => h) (Or.inl ⟨by rfl, ?_⟩) ?_ ?_
          rotate_left
          ·
           intro w'
           go_simp
           with_reducible rfl
          rotate_left
          ·
           simp only [Act.put, sT, s0, sS, i64_w, i32_w]
           rfl
          refine pure_ (i := 7) (N := some 35) (v := ?_) (a' := ?_) #[true, true, true, true, true, true, false, true, false, false, false, false, false, false, false, false] rfl rfl (any_of HT_.out (by kernel_rfl)) (fun _ _ _ h => h) (Or.inl ⟨by rfl, ?_⟩) ?_ ?_
          rotate_left
          ·
           intro w'
           go_simp
           with_reducible rfl
          rotate_left
          ·
           simp only [Act.put, sT, s0, sS, i64_w, i32_w]
           rfl
          refine pure_ (i := 8) (N := some 36) (v := ?_) (a' := ?_) #[true, true, true, true, true, true, false, true, true, false, false, false, false, false, false, false] rfl rfl (any_of HT_.out (by kernel_rfl)) (fun _ _ _ h => h) (Or.inl ⟨by rfl, ?_⟩) ?_ ?_
          rotate_left
          ·
           intro w'
           go_simp
           with_reducible rfl
          rotate_left
          ·
           simp only [Act.put, sT, s0, sS, i64_w, i32_w]
           rfl
          refine pure_ (i := 9) (N := some 37) (v := ?_) (a' := ?_) #[true, true, true, true, true, true, false, true, true, true, false, false, false, false, false, false] rfl rfl (any_of HT_.out (by kernel_rfl)) (fun _ _ _ h => h) (Or.inl ⟨by rfl, ?_⟩) ?_ ?_
          rotate_left
          ·
           intro w'
           go_simp
           with_reducible rfl
          rotate_left
          ·
           simp only [Act.put, sT, s0, sS, i64_w, i32_w]
           rfl
          refine pure_ (i := 10) (N := some 38) (v := ?_) (a' := ?_) #[true, true, true, true, true, true, false, true, true, true, true, false, false, false, false, false] rfl rfl (any_of HT_.out (by kernel_rfl)) (fun _ _ _ h => h) (Or.inl ⟨by rfl, ?_⟩) ?_ ?_
          rotate_left
          ·
           intro w'
           go_simp
           with_reducible rfl
          rotate_left
          ·
           simp only [Act.put, sT, s0, sS, i64_w, i32_w]
           rfl
          refine pure_ (i := 11) (N := some 39) (v := ?_) (a' := ?_) #[true, true, true, true, true, true, false, true, true, true, true, true, false, false, false, false] rfl rfl (any_of HT_.out (by kernel_rfl)) (fun _ _ _ h => h) (Or.inl ⟨by rfl, ?_⟩) ?_ ?_
          rotate_left
          ·
           intro w'
           go_simp
           with_reducible rfl
          rotate_left
          ·
           simp only [Act.put, sT, s0, sS, i64_w, i32_w]
           rfl
          refine pure_ (i := 12) (N := some 40) (v := ?_) (a' := ?_) #[true, true, true, true, true, true, false, true, true, true, true, true, true, false, false, false] rfl rfl (any_of HT_.out (by kernel_rfl)) (fun _ _ _ h => h) (Or.inl ⟨by rfl, ?_⟩) ?_ ?_
          rotate_left
          ·
           intro w'
           go_simp
           with_reducible rfl
          rotate_left
          ·
           simp only [Act.put, sT, s0, sS, i64_w, i32_w]
           rfl
          refine take_ (i := 6) (N := some 34) (v := ?_) (a' := ?_) #[true, true, true, true, true, true, true, true, true, true, true, true, true, false, false, false] rfl rfl (take_ofW HT_.out HW_.out (by kernel_rfl)) (fun _ _ _ h => h) (Or.inl ⟨by rfl, ?_⟩) hHeld ?_ ?_
          rotate_left
          ·
           rintro w' ⟨s0, s1, s2, s3, s4, s5⟩
           go_simp
           with_reducible rfl
          rotate_left
          ·
           simp only [Act.put, sT, s0, sS, i64_w, i32_w]
           rfl
          refine take_ (i := 13) (N := some 41) (v := ?_) (a' := ?_) #[true, true, true, true, true, true, true, true, true, true, true, true, true, true, false, false] rfl rfl (take_ofW HT_.out HW_.out (by kernel_rfl)) (fun _ _ _ h => h) (Or.inl ⟨by rfl, ?_⟩) hHeld ?_ ?_
          rotate_left
          ·
           rintro w' ⟨s0, s1, s2, s3, s4, s5⟩
           go_simp
           with_reducible rfl
          rotate_left
          ·
           simp only [Act.put, sT, s0, sS, i64_w, i32_w]
           rfl
          refine pure_ (i := 14) (N := some 42) (v := ?_) (a' := ?_) #[true, true, true, true, true, true, true, true, true, true, true, true, true, true, true, false] rfl rfl (any_of HT_.out (by kernel_rfl)) (fun _ _ _ h => h) (Or.inl ⟨by rfl, ?_⟩) ?_ ?_
          rotate_left
          ·
           intro w'
           go_simp
           with_reducible rfl
          rotate_left
          ·
           simp only [Act.put, sT, s0, sS, i64_w, i32_w]
           rfl
          refine pure_ (i := 15) (N := some 8) (v := ?_) (a' := ?_) #[true, true, true, true, true, true, true, true, true, true, true, true, true, true, true, true] rfl rfl (any_of HT_.out (by kernel_rfl)) (fun _ _ _ h => h) (Or.inl ⟨by rfl, ?_⟩) ?_ ?_
          rotate_left
          ·
           intro w'
           go_simp
           with_reducible rfl
          rotate_left
          ·
           simp only [Act.put, sT, s0, sS, i64_w, i32_w]
           rfl
          refine done_ (done_of HT_.out (by kernel_rfl)) ?_
          try go_wp2
          go_loopg [6, 9] kj2 (fun kq v6 v9 w' => ∃ (x6_2 : List Int) (x9_2 : Int), v9 = .int .i64 x9_2 ∧ Aside0 (spec_JoinProfiles.l0 kq l0 l1 x6_2 y157 ji19 x9_2 = some (r1, r2)) ∧ Aside0 (kq ≤ kj2) ∧ Aside0 (Kd.R (Kd.int .i64) 2 w' w.heap.size (fun _ => True) v6 x6_2) ∧ Aside0 (Kd.R k55 55 w' w.heap.size (fun _ => True) v158 y157) ∧ Aside0 (Below w.heap.size w w'))
          case atStart => exact ⟨(y148), (0), (by first | rfl | (simp; done) | (simp [*]; done)), H', ⟨Nat.le_refl _⟩, ⟨by (with_reducible repeat (first | apply rA | apply rN | apply rD)); exact HO150.out⟩, ⟨by (with_reducible repeat (first | apply rA | apply rN | apply rD)); exact HO159.out⟩, ⟨by repeat (first | (with_reducible first | exact HB.out | apply lA | apply lN | apply lD) | exact HB.out)⟩⟩
          case round =>
           clear H'
           try clear c1
           try clear p1
           try clear q1
           try clear hx1
           try clear c2
           try clear p2
           try clear c5
           try clear p6
           try clear c10
           try clear c11
           try clear c12
           try clear c14
           try clear c14b0
           try clear c15
           try clear c15b0
           try clear p16
           try clear q16
           try clear hx16
           try clear c17
           try clear c17b0
           try clear c18
           try clear c18b0
           try clear hx160_0
           try clear hx160_1
           try clear hx160_2
           try clear hx161_0
           try clear hx161_1
           try clear hx161_2
           try clear p160
           try clear p161
           try clear p2
           try clear q160
           try clear q161
           obtain ⟨x6_2, x9_2, rfl, HA, HK2, HO_6, HO_7, HB⟩ := hrel
           cases gk with
           | zero => exact absurd HA.out (by simp [spec_JoinProfiles.l0])
           | succ k2 =>
            have H := HA.out
            clear HA
            simp only [spec_JoinProfiles.l0] at H
            by_cases c27 : x9_2 < (y157.length : Int)
            ·
             rw [if_pos c27] at H
             have c27b0 : decide (x9_2 < (y157.length : Int)) = true := decide_eq_true c27
             clear c27
             by_cases c28 : 0 ≤ x9_2
             ·
              rw [if_pos c28] at H
              have c28b0 : decide (0 ≤ x9_2) = true := decide_eq_true c28
              clear c28
              by_cases c29 : ((rd_T55 y157 x9_2).f0) ≤ ji19
              ·
               rw [if_pos c29] at H
               have c29b0 : decide (((rd_T55 y157 x9_2).f0) ≤ ji19) = true := decide_eq_true c29
               clear c29
               replace H := Option.bind_eq_some_iff.mp H
               obtain ⟨t164, A300, H⟩ := H
               replace H : (spec_JoinProfiles.l0 k2 l0 l1 t164 y157 ji19 (wrap64 (x9_2 + 1))) = some (r1, r2) := H
               have A30 := Aside0.mk A300
               clear A300
               have H' := Aside0.mk H
               clear H
               obtain ⟨Ao31, co31, eo31⟩ := Kd.R_slice HO_7.out
               subst eo31
               have p162 : 0 ≤ (x9_2 : Int) := of_decide_eq_true (by with_reducible assumption)
               have q162 : x9_2 < (y157.length : Int) := of_decide_eq_true (by with_reducible assumption)
               obtain ⟨ad162, e162, hx162_0, hx162_1, hx162_2⟩ := at_T55 (Kd.R_reads' HO_7.out).2.2 x9_2 p162 q162
               cases e162
               replace p162 := eq_true p162
               replace q162 := eq_true q162
               have p163 : 0 ≤ (x9_2 : Int) := of_decide_eq_true (by with_reducible assumption)
               have q163 : x9_2 < (y157.length : Int) := of_decide_eq_true (by with_reducible assumption)
               obtain ⟨ad163, e163, hx163_0, hx163_1, hx163_2⟩ := at_T55 (Kd.R_reads' HO_7.out).2.2 x9_2 p163 q163
               obtain rfl : ad162 = ad163 := (by injection e163)
               replace p163 := eq_true p163
               replace q163 := eq_true q163
               obtain ⟨Ao32, co32, eo32⟩ := Kd.R_slice HO_6.out
               subst eo32
               go_wp2_with (first | ((with_reducible refine gate_callee (f := 57) rfl ?_); refine goesL_ (some 62) rfl rfl Try.func57 (by kernel_rfl) rfl #[.slice Ao32 x6_2.length co32, .int .i64 ((rd_T55 y157 x9_2).f0)] rfl (by (try simp only [List.map_toArray, List.map_cons, List.map_nil]); first | done | rfl | (go_simp; done) | simp) ?_; (with_reducible refine (spec_l03Insert.calls k2 (fun k_ => some k_ = (.slice Ao32 x6_2.length co32 : Value).ownBlock) (.slice Ao32 x6_2.length co32) x6_2 ((rd_T55 y157 x9_2).f0) t164 w _ ?side1 ?side2 A30.out).mono ?_); (case side1 => repeat (first | (with_reducible first | exact HB.out | apply lA | apply lN | apply lD) | exact HB.out)); (case side2 => exact Kd.R_tight rfl HO_6.out); rintro e w33 ⟨v165, rfl, ho0, hb, hkp⟩; refine ⟨_, rfl, ?_⟩; have n0_ := Aside0.mk (Kd.R_mono (ok' := fun k_ => True) (Kd.R_keptB ((Kd.R_apart' HO_7.out (Kd.R_typed HO_6.out) (by decide))) hkp (fun k_ hk_ hs_ => (hk_.2) hs_)) (fun k_ hk_ => trivial)); have n1_ := Aside0.mk (Kd.R_mono (ok' := fun k_ => True) ho0 (fun k_ hk_ => trivial)); have n2_ := Aside0.mk (hb); clear HO_7; clear HB; clear HO_6; have HO_7 := n0_; have HO166 := n1_; have HB := n2_; clear n0_ n1_ n2_; (try clear hb); (try clear hkp); (try clear ho0)))
               go_roundg k2
               case measure => have := HJ2.out; have := HK2.out; omega
               case rel => exact ⟨(t164), (wrap64 (x9_2 + 1)), (by first | rfl | (simp; done) | (simp [*]; done)), (by first | exact H' | (simp only [hji13, hji16, hji19]; exact H') | (have H2_ := H'; simp only [← hji13, ← hji16, ← hji19] at H2_; exact H2_)), ⟨by have := HJ2.out; have := HK2.out; omega⟩, ⟨by (with_reducible repeat (first | apply rA | apply rN | apply rD)); exact HO166.out⟩, ⟨by (with_reducible repeat (first | apply rA | apply rN | apply rD)); exact HO_7.out⟩, ⟨by repeat (first | (with_reducible first | exact HB.out | apply lA | apply lN | apply lD) | exact HB.out)⟩⟩
              ·
               rw [if_neg c29] at H
               have c29b0 : decide (((rd_T55 y157 x9_2).f0) ≤ ji19) = false := decide_eq_false c29
               clear c29
               have H' := Aside0.mk H
               clear H
               obtain ⟨Ao34, co34, eo34⟩ := Kd.R_slice HO_7.out
               subst eo34
               have p162 : 0 ≤ (x9_2 : Int) := of_decide_eq_true (by with_reducible assumption)
               have q162 : x9_2 < (y157.length : Int) := of_decide_eq_true (by with_reducible assumption)
               obtain ⟨ad162, e162, hx162_0, hx162_1, hx162_2⟩ := at_T55 (Kd.R_reads' HO_7.out).2.2 x9_2 p162 q162
               cases e162
               replace p162 := eq_true p162
               replace q162 := eq_true q162
               go_wp2
               go_roundg k2
               case measure => have := HJ2.out; have := HK2.out; omega
               case rel => exact ⟨(x6_2), (wrap64 (x9_2 + 1)), (by first | rfl | (simp; done) | (simp [*]; done)), (by first | exact H' | (simp only [hji13, hji16, hji19]; exact H') | (have H2_ := H'; simp only [← hji13, ← hji16, ← hji19] at H2_; exact H2_)), ⟨by have := HJ2.out; have := HK2.out; omega⟩, ⟨by (with_reducible repeat (first | apply rA | apply rN | apply rD)); exact HO_6.out⟩, ⟨by (with_reducible repeat (first | apply rA | apply rN | apply rD)); exact HO_7.out⟩, ⟨by repeat (first | (with_reducible first | exact HB.out | apply lA | apply lN | apply lD) | exact HB.out)⟩⟩
             ·
              rw [if_neg c28] at H
              exact absurd H (by simp)
            ·
             rw [if_neg c27] at H
             have c27b0 : decide (x9_2 < (y157.length : Int)) = false := decide_eq_false c27
             clear c27
             by_cases c35 : (x6_2.length : Int) > 6
             ·
              rw [if_pos c35] at H
              have c35b0 : decide (6 < (x6_2.length : Int)) = true := decide_eq_true c35
              have c35b1 : decide (6 < x6_2.length) = true := decide_eq_true (by omega)
              clear c35
              simp only [Option.some.injEq, Prod.mk.injEq] at H
              obtain ⟨rfl, rfl⟩ := H
              obtain ⟨Ao36, co36, eo36⟩ := Kd.R_slice HO_7.out
              subst eo36
              obtain ⟨Ao37, co37, eo37⟩ := Kd.R_slice HO_6.out
              subst eo37
              go_wp2
              go_ret2
              exact ⟨_, by first | rfl | (simp [errW_none, errW_some] <;> rfl) | (simp only [← hji13, ← hji16, ← hji19]; first | rfl | (simp [errW_none, errW_some] <;> rfl)) | (simp [*, errW_none, errW_some] <;> rfl), by first | exact Kd.R_nil _ _ _ _ _ | exact Kd.N_nil _ _ _ _ _ | exact Kd.V_nil _ _ _ _ _ | exact Kd.Q_nil _ _ _ _ _ | exact Kd.S_nil _ _ _ _ _, by repeat (first | (with_reducible first | exact HB.out | apply lA | apply lN | apply lD) | exact HB.out)⟩
             ·
              rw [if_neg c35] at H
              have c35b0 : decide (6 < (x6_2.length : Int)) = false := decide_eq_false c35
              have c35b1 : decide (6 < x6_2.length) = false := decide_eq_false (by omega)
              clear c35
              obtain ⟨y167, hy167⟩ : ∃ y_ : List (S55), y_ = (([] : List (S55))) := ⟨_, rfl⟩
              replace H : (spec_JoinProfiles.l1 k2 l0 l1 x6_2 y167 0) = some (r1, r2) := by first | (rw [hy167]; with_reducible exact H) | (have H2_ := (Option.bind_some _ _).symm.trans H; rw [hy167]; with_reducible exact H2_) | (have H2_ := (Option.bind_some _ _).symm.trans H; with_reducible exact H2_) | with_reducible exact H | (rw [hy167]; exact H) | exact H
              have Ny167 := Aside0.mk hy167
              clear hy167
              have H' := Aside0.mk H
              clear H
              obtain ⟨Ao38, co38, eo38⟩ := Kd.R_slice HO_7.out
              subst eo38
              obtain ⟨Ao39, co39, eo39⟩ := Kd.R_slice HO_6.out
              subst eo39
              go_wp2_with (first | ((with_reducible refine gate_dst (N := 66) rfl ?_); refine Kd.R_lit k55 _ 55 ?hg (N := 66) ?hd (xs := ([] : List (S55))) (inner := []) (ok := fun _ => True) (okp := fun _ => True) ?hr ?hp (fun _ hk => hk) trivial (Below.refl _ _) (Nat.le_refl _) (by simp) ?_; (case hd => rfl); (case hg => rfl); (case hr => first | (go_simp; done) | (go_simp; rfl)); (case hp => exact (Reps.none _ _)); intro v168 w40 ho41 hb hg_ hnew_; clear hg_ hnew_; (first | rw [← Ny167.out] at ho41 | (simp only [Int.reduceToNat] at ho41; rw [← Ny167.out] at ho41)); have n0_ := Aside0.mk (Kd.R_below (by (with_reducible repeat (first | apply rA | apply rN | apply rD)); exact HO_6.out) hb); have n1_ := Aside0.mk (Kd.R_elder' (by (with_reducible repeat (first | apply rA | apply rN | apply rD)); exact HO_7.out) (Kd.R_base ho41) hb); have n2_ := Aside0.mk (Kd.R_lower (Kd.R_new' ho41 (Kd.R_lt (by (with_reducible repeat (first | apply rA | apply rN | apply rD)); exact HO_7.out))) (below_size (by repeat (first | (with_reducible first | exact HB.out | apply lA | apply lN | apply lD) | exact HB.out)))); have n3_ := Aside0.mk (below_step (by repeat (first | (with_reducible first | exact HB.out | apply lA | apply lN | apply lD) | exact HB.out)) hb); clear HO_6; clear HO_7; clear HB; have HO_6 := n0_; have HO_7 := n1_; have HO169 := n2_; have HB := n3_; clear n0_ n1_ n2_ n3_; clear hb ho41))
              go_loopg [10, 11] k2 (fun kq v10 v11 w' => ∃ (x10_3 : List (S55)) (x11_3 : Int), v11 = .int .i64 x11_3 ∧ Aside0 (spec_JoinProfiles.l1 kq l0 l1 x6_2 x10_3 x11_3 = some (r1, r2)) ∧ Aside0 (kq ≤ k2) ∧ Aside0 (Kd.R (Kd.int .i64) 2 w' w.heap.size (fun _ => True) (.slice Ao39 x6_2.length co39) x6_2) ∧ Aside0 (Kd.R k55 55 w' w.heap.size (fun _ => True) v10 x10_3) ∧ Aside0 (Below w.heap.size w w'))
              case atStart => exact ⟨(y167), (0), (by first | rfl | (simp; done) | (simp [*]; done)), H', ⟨Nat.le_refl _⟩, ⟨by (with_reducible repeat (first | apply rA | apply rN | apply rD)); exact HO_6.out⟩, ⟨by (with_reducible repeat (first | apply rA | apply rN | apply rD)); exact Kd.R_mono HO169.out (fun _ hk => trivial)⟩, ⟨by repeat (first | (with_reducible first | exact HB.out | apply lA | apply lN | apply lD) | exact HB.out)⟩⟩
              case round =>
               clear H'
               try clear c1
               try clear p1
               try clear q1
               try clear hx1
               try clear c2
               try clear p2
               try clear c3
               try clear c5
               try clear p6
               try clear c10
               try clear c11
               try clear c12
               try clear c14
               try clear c14b0
               try clear c15
               try clear c15b0
               try clear p16
               try clear q16
               try clear hx16
               try clear c17
               try clear c17b0
               try clear c18
               try clear c18b0
               try clear c27
               try clear c27b0
               try clear c28
               try clear c28b0
               try clear c29
               try clear c29b0
               try clear c35
               try clear c35b0
               try clear c35b1
               try clear hx160_0
               try clear hx160_1
               try clear hx160_2
               try clear hx161_0
               try clear hx161_1
               try clear hx161_2
               try clear hx162_0
               try clear hx162_1
               try clear hx162_2
               try clear hx163_0
               try clear hx163_1
               try clear hx163_2
               try clear p1
               try clear p16
               try clear p160
               try clear p161
               try clear p162
               try clear p163
               try clear p2
               try clear p6
               try clear q1
               try clear q16
               try clear q160
               try clear q161
               try clear q162
               try clear q163
               obtain ⟨x10_3, x11_3, rfl, HA, HK3, HO_6, HO_10, HB⟩ := hrel
               cases gk with
               | zero => exact absurd HA.out (by simp [spec_JoinProfiles.l1])
               | succ k3 =>
                have H := HA.out
                clear HA
                simp only [spec_JoinProfiles.l1] at H
                by_cases c42 : x11_3 < (x6_2.length : Int)
                ·
                 rw [if_pos c42] at H
                 have c42b0 : decide (x11_3 < (x6_2.length : Int)) = true := decide_eq_true c42
                 clear c42
                 by_cases c43 : 0 ≤ x11_3
                 ·
                  rw [if_pos c43] at H
                  have c43b0 : decide (0 ≤ x11_3) = true := decide_eq_true c43
                  clear c43
                  replace H := Option.bind_eq_some_iff.mp H
                  obtain ⟨t171, A440, H⟩ := H
                  replace H : (if 0 ≤ t171 then (if t171 < (l0.length : Int) then ((spec_l05Find.f k3 l1 (rd x6_2 x11_3)).bind fun t174 => (if 0 ≤ t174 then (if t174 < (l1.length : Int) then (if x10_3.length < 5864062014805 then (spec_JoinProfiles.l1 k3 l0 l1 x6_2 (x10_3 ++ [(⟨rd x6_2 x11_3, mn ((rd_T55 l0 t171).f1) ((rd_T55 l1 t174).f1), mx ((rd_T55 l0 t171).f2) ((rd_T55 l1 t174).f2)⟩ : S55)]) (wrap64 (x11_3 + 1))) else (none)) else (none)) else (none))) else (none)) else (none)) = some (r1, r2) := H
                  have A44 := Aside0.mk A440
                  clear A440
                  by_cases c45 : 0 ≤ t171
                  ·
                   rw [if_pos c45] at H
                   have c45b0 : decide (0 ≤ t171) = true := decide_eq_true c45
                   clear c45
                   by_cases c46 : t171 < (l0.length : Int)
                   ·
                    rw [if_pos c46] at H
                    have c46b0 : decide (t171 < (l0.length : Int)) = true := decide_eq_true c46
                    clear c46
                    replace H := Option.bind_eq_some_iff.mp H
                    obtain ⟨t174, A470, H⟩ := H
                    replace H : (if 0 ≤ t174 then (if t174 < (l1.length : Int) then (if x10_3.length < 5864062014805 then (spec_JoinProfiles.l1 k3 l0 l1 x6_2 (x10_3 ++ [(⟨rd x6_2 x11_3, mn ((rd_T55 l0 t171).f1) ((rd_T55 l1 t174).f1), mx ((rd_T55 l0 t171).f2) ((rd_T55 l1 t174).f2)⟩ : S55)]) (wrap64 (x11_3 + 1))) else (none)) else (none)) else (none)) = some (r1, r2) := H
                    have A47 := Aside0.mk A470
                    clear A470
                    by_cases c48 : 0 ≤ t174
                    ·
                     rw [if_pos c48] at H
                     have c48b0 : decide (0 ≤ t174) = true := decide_eq_true c48
                     clear c48
                     by_cases c49 : t174 < (l1.length : Int)
                     ·
                      rw [if_pos c49] at H
                      have c49b0 : decide (t174 < (l1.length : Int)) = true := decide_eq_true c49
                      clear c49
                      obtain ⟨ji50, hji50⟩ : ∃ j_ : Int, (mn ((rd_T55 l0 t171).f1) ((rd_T55 l1 t174).f1)) = j_ := ⟨_, rfl⟩
                      replace H : (if x10_3.length < 5864062014805 then (spec_JoinProfiles.l1 k3 l0 l1 x6_2 (x10_3 ++ [(⟨rd x6_2 x11_3, ji50, mx ((rd_T55 l0 t171).f2) ((rd_T55 l1 t174).f2)⟩ : S55)]) (wrap64 (x11_3 + 1))) else (none)) = some (r1, r2) := by first | (rw [hji50] at H; exact H) | (simp only [hji50] at H ⊢; exact H)
                      (try rw [hji50] at A44)
                      (try rw [hji50] at A47)
                      have hji50_ : (if ((rd_T55 l1 t174).f1) < ((rd_T55 l0 t171).f1) then ((rd_T55 l1 t174).f1) else ((rd_T55 l0 t171).f1)) = ji50 := hji50
                      obtain ⟨ji51, hji51⟩ : ∃ j_ : Int, (mx ((rd_T55 l0 t171).f2) ((rd_T55 l1 t174).f2)) = j_ := ⟨_, rfl⟩
                      replace H : (if x10_3.length < 5864062014805 then (spec_JoinProfiles.l1 k3 l0 l1 x6_2 (x10_3 ++ [(⟨rd x6_2 x11_3, ji50, ji51⟩ : S55)]) (wrap64 (x11_3 + 1))) else (none)) = some (r1, r2) := by first | (rw [hji51] at H; exact H) | (simp only [hji51] at H ⊢; exact H)
                      (try rw [hji51] at A44)
                      (try rw [hji51] at A47)
                      have hji51_ : (if ((rd_T55 l0 t171).f2) < ((rd_T55 l1 t174).f2) then ((rd_T55 l1 t174).f2) else ((rd_T55 l0 t171).f2)) = ji51 := hji51
                      by_cases c52 : x10_3.length < 5864062014805
                      ·
                       rw [if_pos c52] at H
                       have LMc52 := Aside0.mk c52
                       clear c52
                       obtain ⟨y179, hy179⟩ : ∃ y_ : List (S55), y_ = (x10_3 ++ [(⟨rd x6_2 x11_3, ji50, ji51⟩ : S55)]) := ⟨_, rfl⟩
                       replace H : (spec_JoinProfiles.l1 k3 l0 l1 x6_2 y179 (wrap64 (x11_3 + 1))) = some (r1, r2) := by first | (rw [hy179]; with_reducible exact H) | (have H2_ := (Option.bind_some _ _).symm.trans H; rw [hy179]; with_reducible exact H2_) | (have H2_ := (Option.bind_some _ _).symm.trans H; with_reducible exact H2_) | with_reducible exact H | (rw [hy179]; exact H) | exact H
                       have Ny179 := Aside0.mk hy179
                       clear hy179
                       have H' := Aside0.mk H
                       clear H
                       try go_wp2
                       have n0_ := Aside0.mk (Kd.R_drew HO_6.out)
                       have n1_ := Aside0.mk (Kd.R_drew HO_10.out)
                       have n2_ := Aside0.mk (below_drew1 HB.out)
                       clear HO_6
                       clear HO_10
                       clear HB
                       have HO_6 := n0_
                       have HO_10 := n1_
                       have HB := n2_
                       clear n0_ n1_ n2_
                       have p170 : 0 ≤ (x11_3 : Int) := of_decide_eq_true (by with_reducible assumption)
                       have q170 : x11_3 < (x6_2.length : Int) := of_decide_eq_true (by with_reducible assumption)
                       obtain ⟨ad170, e170, hx170_0⟩ := Kd.at_int (Kd.R_reads' HO_6.out).2.2 x11_3 p170 q170
                       cases e170
                       replace p170 := eq_true p170
                       replace q170 := eq_true q170
                       have p173 : 0 ≤ (x11_3 : Int) := of_decide_eq_true (by with_reducible assumption)
                       have q173 : x11_3 < (x6_2.length : Int) := of_decide_eq_true (by with_reducible assumption)
                       obtain ⟨ad173, e173, hx173_0⟩ := Kd.at_int (Kd.R_reads' HO_6.out).2.2 x11_3 p173 q173
                       obtain rfl : ad170 = ad173 := (by injection e173)
                       replace p173 := eq_true p173
                       replace q173 := eq_true q173
                       have p172 : 0 ≤ (t171 : Int) := of_decide_eq_true (by with_reducible assumption)
                       have q172 : t171 < (l0.length : Int) := of_decide_eq_true (by with_reducible assumption)
                       obtain ⟨ad172, e172, hx172_0, hx172_1, hx172_2⟩ := at_T55 HR0.out t171 p172 q172
                       have hw172_2 := hx172_2
                       have hw172_1 := hx172_1
                       have hw172_0 := hx172_0
                       obtain rfl : ad160 = ad172 := (by injection e172)
                       replace hx172_0 := cB HB.out hx172_0
                       replace hx172_1 := cB HB.out hx172_1
                       replace hx172_2 := cB HB.out hx172_2
                       replace p172 := eq_true p172
                       replace q172 := eq_true q172
                       have p175 : 0 ≤ (t174 : Int) := of_decide_eq_true (by with_reducible assumption)
                       have q175 : t174 < (l1.length : Int) := of_decide_eq_true (by with_reducible assumption)
                       obtain ⟨ad175, e175, hx175_0, hx175_1, hx175_2⟩ := at_T55 HR1.out t174 p175 q175
                       have hw175_2 := hx175_2
                       have hw175_1 := hx175_1
                       have hw175_0 := hx175_0
                       obtain rfl : ad161 = ad175 := (by injection e175)
                       replace hx175_0 := cB HB.out hx175_0
                       replace hx175_1 := cB HB.out hx175_1
                       replace hx175_2 := cB HB.out hx175_2
                       replace p175 := eq_true p175
                       replace q175 := eq_true q175
                       refine start_ (n := 22) (S := fun w' => w'.cell? (ad170.add (x11_3).toNat) = some (.int .i64 (rd x6_2 x11_3)) ∧ w'.cell? (ad170.add (x11_3).toNat) = some (.int .i64 (rd x6_2 x11_3)) ∧ w'.cell? (ad160.add ((t171).toNat * 3)) = some (.int .i64 ((rd_T55 l0 t171).f0)) ∧ w'.cell? ⟨(ad160.add ((t171).toNat * 3)).block, (ad160.add ((t171).toNat * 3)).off + 1, none⟩ = some (.int .i64 ((rd_T55 l0 t171).f1)) ∧ w'.cell? ⟨(ad160.add ((t171).toNat * 3)).block, (ad160.add ((t171).toNat * 3)).off + 2, none⟩ = some (.int .i64 ((rd_T55 l0 t171).f2)) ∧ w'.cell? (ad161.add ((t174).toNat * 3)) = some (.int .i64 ((rd_T55 l1 t174).f0)) ∧ w'.cell? ⟨(ad161.add ((t174).toNat * 3)).block, (ad161.add ((t174).toNat * 3)).off + 1, none⟩ = some (.int .i64 ((rd_T55 l1 t174).f1)) ∧ w'.cell? ⟨(ad161.add ((t174).toNat * 3)).block, (ad161.add ((t174).toNat * 3)).off + 2, none⟩ = some (.int .i64 ((rd_T55 l1 t174).f2))) (ds := []) #[false, false, false, false, false, false, false, false, false, false, false, false, false, false, false, false, false, false, false, false, false, false] (by kernel_rfl) rfl rfl ⟨hx170_0, hx173_0, ((HB.out.cell (World.block_lt_of_cell? _ _ hw172_0)).trans hw172_0), ((HB.out.cell (World.block_lt_of_cell? _ _ hw172_1)).trans hw172_1), ((HB.out.cell (World.block_lt_of_cell? _ _ hw172_2)).trans hw172_2), ((HB.out.cell (World.block_lt_of_cell? _ _ hw175_0)).trans hw175_0), ((HB.out.cell (World.block_lt_of_cell? _ _ hw175_1)).trans hw175_1), ((HB.out.cell (World.block_lt_of_cell? _ _ hw175_2)).trans hw175_2)⟩ (fun hHeld => ?_); refine with_tabW spec_JoinProfiles.tab17 spec_JoinProfiles.bits17 (fun HT_ HW_ => ?_)
                       generalize wr.drew = w53 at HO_6 HO_10 HB hx170_0 hx172_0 hx172_1 hx172_2 hx173_0 hx175_0 hx175_1 hx175_2 hHeld ⊢
                       refine pure_ (i := 0) (N := some 73) (v := ?_) (a' := ?_) #[true, false, false, false, false, false, false, false, false, false, false, false, false, false, false, false, false, false, false, false, false, false] rfl rfl (any_of HT_.out (by kernel_rfl)) (fun _ _ _ h => h) (Or.inl ⟨by rfl, ?_⟩) ?_ ?_
                       rotate_left
                       ·
                        intro w'
                        go_simp
                        with_reducible rfl
                       rotate_left
                       ·
                        simp only [Act.put, sT, s0, sS, i64_w, i32_w]
                        rfl
                       refine pure_ (i := 1) (N := some 74) (v := ?_) (a' := ?_) #[true, true, false, false, false, false, false, false, false, false, false, false, false, false, false, false, false, false, false, false, false, false] rfl rfl (any_of HT_.out (by kernel_rfl)) (fun _ _ _ h => h) (Or.inl ⟨by rfl, ?_⟩) ?_ ?_
                       rotate_left
                       ·
                        intro w'
                        go_simp
                        with_reducible rfl
                       rotate_left
                       ·
                        simp only [Act.put, sT, s0, sS, i64_w, i32_w]
                        rfl
                       refine pure_ (i := 2) (N := some 75) (v := ?_) (a' := ?_) #[true, true, true, false, false, false, false, false, false, false, false, false, false, false, false, false, false, false, false, false, false, false] rfl rfl (any_of HT_.out (by kernel_rfl)) (fun _ _ _ h => h) (Or.inl ⟨by rfl, ?_⟩) ?_ ?_
                       rotate_left
                       ·
                        intro w'
                        go_simp
                        with_reducible rfl
                       rotate_left
                       ·
                        simp only [Act.put, sT, s0, sS, i64_w, i32_w]
                        rfl
                       refine pure_ (i := 3) (N := some 76) (v := ?_) (a' := ?_) #[true, true, true, true, false, false, false, false, false, false, false, false, false, false, false, false, false, false, false, false, false, false] rfl rfl (any_of HT_.out (by kernel_rfl)) (fun _ _ _ h => h) (Or.inl ⟨by rfl, ?_⟩) ?_ ?_
                       rotate_left
                       ·
                        intro w'
                        go_simp
                        with_reducible rfl
                       rotate_left
                       ·
                        simp only [Act.put, sT, s0, sS, i64_w, i32_w]
                        rfl
                       refine pure_ (i := 4) (N := some 77) (v := ?_) (a' := ?_) #[true, true, true, true, true, false, false, false, false, false, false, false, false, false, false, false, false, false, false, false, false, false] rfl rfl (any_of HT_.out (by kernel_rfl)) (fun _ _ _ h => h) (Or.inl ⟨by rfl, ?_⟩) ?_ ?_
                       rotate_left
                       ·
                        intro w'
                        go_simp
                        with_reducible rfl
                       rotate_left
                       ·
                        simp only [Act.put, sT, s0, sS, i64_w, i32_w]
                        rfl
                       refine pure_ (i := 9) (N := some 82) (v := ?_) (a' := ?_) #[true, true, true, true, true, false, false, false, false, true, false, false, false, false, false, false, false, false, false, false, false, false] rfl rfl (any_of HT_.out (by kernel_rfl)) (fun _ _ _ h => h) (Or.inl ⟨by rfl, ?_⟩) ?_ ?_
                       rotate_left
                       ·
                        intro w'
                        go_simp
                        with_reducible rfl
                       rotate_left
                       ·
                        simp only [Act.put, sT, s0, sS, i64_w, i32_w]
                        rfl
                       refine pure_ (i := 10) (N := some 83) (v := ?_) (a' := ?_) #[true, true, true, true, true, false, false, false, false, true, true, false, false, false, false, false, false, false, false, false, false, false] rfl rfl (any_of HT_.out (by kernel_rfl)) (fun _ _ _ h => h) (Or.inl ⟨by rfl, ?_⟩) ?_ ?_
                       rotate_left
                       ·
                        intro w'
                        go_simp
                        with_reducible rfl
                       rotate_left
                       ·
                        simp only [Act.put, sT, s0, sS, i64_w, i32_w]
                        rfl
                       refine pure_ (i := 11) (N := some 84) (v := ?_) (a' := ?_) #[true, true, true, true, true, false, false, false, false, true, true, true, false, false, false, false, false, false, false, false, false, false] rfl rfl (any_of HT_.out (by kernel_rfl)) (fun _ _ _ h => h) (Or.inl ⟨by rfl, ?_⟩) ?_ ?_
                       rotate_left
                       ·
                        intro w'
                        go_simp
                        with_reducible rfl
                       rotate_left
                       ·
                        simp only [Act.put, sT, s0, sS, i64_w, i32_w]
                        rfl
                       refine pure_ (i := 12) (N := some 85) (v := ?_) (a' := ?_) #[true, true, true, true, true, false, false, false, false, true, true, true, true, false, false, false, false, false, false, false, false, false] rfl rfl (any_of HT_.out (by kernel_rfl)) (fun _ _ _ h => h) (Or.inl ⟨by rfl, ?_⟩) ?_ ?_
                       rotate_left
                       ·
                        intro w'
                        go_simp
                        with_reducible rfl
                       rotate_left
                       ·
                        simp only [Act.put, sT, s0, sS, i64_w, i32_w]
                        rfl
                       refine pure_ (i := 13) (N := some 86) (v := ?_) (a' := ?_) #[true, true, true, true, true, false, false, false, false, true, true, true, true, true, false, false, false, false, false, false, false, false] rfl rfl (any_of HT_.out (by kernel_rfl)) (fun _ _ _ h => h) (Or.inl ⟨by rfl, ?_⟩) ?_ ?_
                       rotate_left
                       ·
                        intro w'
                        go_simp
                        with_reducible rfl
                       rotate_left
                       ·
                        simp only [Act.put, sT, s0, sS, i64_w, i32_w]
                        rfl
                       refine take_ (i := 5) (N := some 78) (v := ?_) (a' := ?_) #[true, true, true, true, true, true, false, false, false, true, true, true, true, true, false, false, false, false, false, false, false, false] rfl rfl (take_ofW HT_.out HW_.out (by kernel_rfl)) (fun _ _ _ h => h) (Or.inl ⟨by rfl, ?_⟩) hHeld ?_ ?_
                       rotate_left
                       ·
                        rintro w' ⟨s0, s1, s2, s3, s4, s5, s6, s7⟩
                        go_simp
                        with_reducible rfl
                       rotate_left
                       ·
                        simp only [Act.put, sT, s0, sS, i64_w, i32_w]
                        rfl
                       refine take_ (i := 14) (N := some 87) (v := ?_) (a' := ?_) #[true, true, true, true, true, true, false, false, false, true, true, true, true, true, true, false, false, false, false, false, false, false] rfl rfl (take_ofW HT_.out HW_.out (by kernel_rfl)) (fun _ _ _ h => h) (Or.inl ⟨by rfl, ?_⟩) hHeld ?_ ?_
                       rotate_left
                       ·
                        rintro w' ⟨s0, s1, s2, s3, s4, s5, s6, s7⟩
                        go_simp
                        with_reducible rfl
                       rotate_left
                       ·
                        simp only [Act.put, sT, s0, sS, i64_w, i32_w]
                        rfl
                       refine join_ (σ := Nat × Nat) 2 #[true, true, true, true, true, true, true, true, true, true, true, true, true, true, true, true, true, true, true, true, false, false] (fun s_ => [(79, .int .i64 t171), (88, .int .i64 t174), (12, .pointer (some ⟨s_.1, 0, none⟩)), (13, .pointer (some ⟨s_.2, 0, none⟩)), (80, .pointer (some (ad160.add ((t171).toNat * 3)))), (81, .agg #[.int .i64 ((rd_T55 l0 t171).f0), .int .i64 ((rd_T55 l0 t171).f1), .int .i64 ((rd_T55 l0 t171).f2)]), (89, .pointer (some (ad161.add ((t174).toNat * 3)))), (90, .agg #[.int .i64 ((rd_T55 l1 t174).f0), .int .i64 ((rd_T55 l1 t174).f1), .int .i64 ((rd_T55 l1 t174).f2)])]) (fun s_ w' => (w'.cell? (ad170.add (x11_3).toNat) = some (.int .i64 (rd x6_2 x11_3)) ∧ w'.cell? (ad170.add (x11_3).toNat) = some (.int .i64 (rd x6_2 x11_3)) ∧ w'.cell? (ad160.add ((t171).toNat * 3)) = some (.int .i64 ((rd_T55 l0 t171).f0)) ∧ w'.cell? ⟨(ad160.add ((t171).toNat * 3)).block, (ad160.add ((t171).toNat * 3)).off + 1, none⟩ = some (.int .i64 ((rd_T55 l0 t171).f1)) ∧ w'.cell? ⟨(ad160.add ((t171).toNat * 3)).block, (ad160.add ((t171).toNat * 3)).off + 2, none⟩ = some (.int .i64 ((rd_T55 l0 t171).f2)) ∧ w'.cell? (ad161.add ((t174).toNat * 3)) = some (.int .i64 ((rd_T55 l1 t174).f0)) ∧ w'.cell? ⟨(ad161.add ((t174).toNat * 3)).block, (ad161.add ((t174).toNat * 3)).off + 1, none⟩ = some (.int .i64 ((rd_T55 l1 t174).f1)) ∧ w'.cell? ⟨(ad161.add ((t174).toNat * 3)).block, (ad161.add ((t174).toNat * 3)).off + 2, none⟩ = some (.int .i64 ((rd_T55 l1 t174).f2))) ∧ (Kd.R k55 55 w' w.heap.size (fun k_ => k_ ≠ s_.1 ∧ k_ ≠ s_.2) u10 x10_3) ∧ (Kd.R (Kd.int .i64) 2 w' w.heap.size (fun _ => True) (.slice (some ad170) x6_2.length co39) x6_2) ∧ (w'.heap[s_.1]? = some (.cells #[.int .i64 0, .int .i64 0, .int .i64 0] 55 (0, 0))) ∧ (w'.heap[s_.2]? = some (.cells #[.int .i64 0, .int .i64 0, .int .i64 0] 55 (0, 0))) ∧ (w.heap.size ≤ s_.1) ∧ (w.heap.size ≤ s_.1) ∧ (s_.2 ≠ s_.1) ∧ (s_.1 ≠ s_.2) ∧ (w.heap.size ≤ s_.2) ∧ (w.heap.size ≤ s_.2) ∧ (Below w.heap.size w w')) ?_ ?_
                       rotate_left
                       ·
                        intro hJ6_15_18_19
                        refine join_ (σ := Nat) 3 #[true, true, true, true, true, true, true, true, true, true, true, true, true, true, true, true, true, true, true, false, false, false] (fun s_ => [(79, .int .i64 t171), (88, .int .i64 t174), (12, .pointer (some ⟨s_, 0, none⟩)), (80, .pointer (some (ad160.add ((t171).toNat * 3)))), (81, .agg #[.int .i64 ((rd_T55 l0 t171).f0), .int .i64 ((rd_T55 l0 t171).f1), .int .i64 ((rd_T55 l0 t171).f2)]), (89, .pointer (some (ad161.add ((t174).toNat * 3)))), (90, .agg #[.int .i64 ((rd_T55 l1 t174).f0), .int .i64 ((rd_T55 l1 t174).f1), .int .i64 ((rd_T55 l1 t174).f2)])]) (fun s_ w' => (w'.cell? (ad170.add (x11_3).toNat) = some (.int .i64 (rd x6_2 x11_3)) ∧ w'.cell? (ad170.add (x11_3).toNat) = some (.int .i64 (rd x6_2 x11_3)) ∧ w'.cell? (ad160.add ((t171).toNat * 3)) = some (.int .i64 ((rd_T55 l0 t171).f0)) ∧ w'.cell? ⟨(ad160.add ((t171).toNat * 3)).block, (ad160.add ((t171).toNat * 3)).off + 1, none⟩ = some (.int .i64 ((rd_T55 l0 t171).f1)) ∧ w'.cell? ⟨(ad160.add ((t171).toNat * 3)).block, (ad160.add ((t171).toNat * 3)).off + 2, none⟩ = some (.int .i64 ((rd_T55 l0 t171).f2)) ∧ w'.cell? (ad161.add ((t174).toNat * 3)) = some (.int .i64 ((rd_T55 l1 t174).f0)) ∧ w'.cell? ⟨(ad161.add ((t174).toNat * 3)).block, (ad161.add ((t174).toNat * 3)).off + 1, none⟩ = some (.int .i64 ((rd_T55 l1 t174).f1)) ∧ w'.cell? ⟨(ad161.add ((t174).toNat * 3)).block, (ad161.add ((t174).toNat * 3)).off + 2, none⟩ = some (.int .i64 ((rd_T55 l1 t174).f2))) ∧ (Kd.R k55 55 w' w.heap.size (fun k_ => k_ ≠ s_) u10 x10_3) ∧ (Kd.R (Kd.int .i64) 2 w' w.heap.size (fun _ => True) (.slice (some ad170) x6_2.length co39) x6_2) ∧ (w'.heap[s_]? = some (.cells #[.int .i64 0, .int .i64 0, .int .i64 0] 55 (0, 0))) ∧ (w.heap.size ≤ s_) ∧ (w.heap.size ≤ s_) ∧ (Below w.heap.size w w')) ?_ ?_
                        rotate_left
                        ·
                         intro hJ6_15_18
                         refine join_ (σ := Nat) 3 #[true, true, true, true, true, true, true, true, true, true, true, true, true, true, true, true, true, true, false, true, false, false] (fun s_ => [(79, .int .i64 t171), (88, .int .i64 t174), (13, .pointer (some ⟨s_, 0, none⟩)), (80, .pointer (some (ad160.add ((t171).toNat * 3)))), (81, .agg #[.int .i64 ((rd_T55 l0 t171).f0), .int .i64 ((rd_T55 l0 t171).f1), .int .i64 ((rd_T55 l0 t171).f2)]), (89, .pointer (some (ad161.add ((t174).toNat * 3)))), (90, .agg #[.int .i64 ((rd_T55 l1 t174).f0), .int .i64 ((rd_T55 l1 t174).f1), .int .i64 ((rd_T55 l1 t174).f2)])]) (fun s_ w' => (w'.cell? (ad170.add (x11_3).toNat) = some (.int .i64 (rd x6_2 x11_3)) ∧ w'.cell? (ad170.add (x11_3).toNat) = some (.int .i64 (rd x6_2 x11_3)) ∧ w'.cell? (ad160.add ((t171).toNat * 3)) = some (.int .i64 ((rd_T55 l0 t171).f0)) ∧ w'.cell? ⟨(ad160.add ((t171).toNat * 3)).block, (ad160.add ((t171).toNat * 3)).off + 1, none⟩ = some (.int .i64 ((rd_T55 l0 t171).f1)) ∧ w'.cell? ⟨(ad160.add ((t171).toNat * 3)).block, (ad160.add ((t171).toNat * 3)).off + 2, none⟩ = some (.int .i64 ((rd_T55 l0 t171).f2)) ∧ w'.cell? (ad161.add ((t174).toNat * 3)) = some (.int .i64 ((rd_T55 l1 t174).f0)) ∧ w'.cell? ⟨(ad161.add ((t174).toNat * 3)).block, (ad161.add ((t174).toNat * 3)).off + 1, none⟩ = some (.int .i64 ((rd_T55 l1 t174).f1)) ∧ w'.cell? ⟨(ad161.add ((t174).toNat * 3)).block, (ad161.add ((t174).toNat * 3)).off + 2, none⟩ = some (.int .i64 ((rd_T55 l1 t174).f2))) ∧ (Kd.R k55 55 w' w.heap.size (fun k_ => k_ ≠ s_) u10 x10_3) ∧ (Kd.R (Kd.int .i64) 2 w' w.heap.size (fun _ => True) (.slice (some ad170) x6_2.length co39) x6_2) ∧ (w'.heap[s_]? = some (.cells #[.int .i64 0, .int .i64 0, .int .i64 0] 55 (0, 0))) ∧ (w.heap.size ≤ s_) ∧ (w.heap.size ≤ s_) ∧ (Below w.heap.size w w')) ?_ ?_
                         rotate_left
                         ·
                          intro hJ6_15_19
                          refine join_ (σ := Nat × Nat) 5 #[true, true, true, true, true, true, true, true, true, true, true, true, true, true, true, false, false, false, true, true, false, false] (fun s_ => [(79, .int .i64 t171), (12, .pointer (some ⟨s_.1, 0, none⟩)), (13, .pointer (some ⟨s_.2, 0, none⟩)), (80, .pointer (some (ad160.add ((t171).toNat * 3)))), (81, .agg #[.int .i64 ((rd_T55 l0 t171).f0), .int .i64 ((rd_T55 l0 t171).f1), .int .i64 ((rd_T55 l0 t171).f2)])]) (fun s_ w' => (w'.cell? (ad170.add (x11_3).toNat) = some (.int .i64 (rd x6_2 x11_3)) ∧ w'.cell? (ad170.add (x11_3).toNat) = some (.int .i64 (rd x6_2 x11_3)) ∧ w'.cell? (ad160.add ((t171).toNat * 3)) = some (.int .i64 ((rd_T55 l0 t171).f0)) ∧ w'.cell? ⟨(ad160.add ((t171).toNat * 3)).block, (ad160.add ((t171).toNat * 3)).off + 1, none⟩ = some (.int .i64 ((rd_T55 l0 t171).f1)) ∧ w'.cell? ⟨(ad160.add ((t171).toNat * 3)).block, (ad160.add ((t171).toNat * 3)).off + 2, none⟩ = some (.int .i64 ((rd_T55 l0 t171).f2)) ∧ w'.cell? (ad161.add ((t174).toNat * 3)) = some (.int .i64 ((rd_T55 l1 t174).f0)) ∧ w'.cell? ⟨(ad161.add ((t174).toNat * 3)).block, (ad161.add ((t174).toNat * 3)).off + 1, none⟩ = some (.int .i64 ((rd_T55 l1 t174).f1)) ∧ w'.cell? ⟨(ad161.add ((t174).toNat * 3)).block, (ad161.add ((t174).toNat * 3)).off + 2, none⟩ = some (.int .i64 ((rd_T55 l1 t174).f2))) ∧ (Kd.R k55 55 w' w.heap.size (fun k_ => k_ ≠ s_.1 ∧ k_ ≠ s_.2) u10 x10_3) ∧ (Kd.R (Kd.int .i64) 2 w' w.heap.size (fun _ => True) (.slice (some ad170) x6_2.length co39) x6_2) ∧ (w'.heap[s_.1]? = some (.cells #[.int .i64 0, .int .i64 0, .int .i64 0] 55 (0, 0))) ∧ (w'.heap[s_.2]? = some (.cells #[.int .i64 0, .int .i64 0, .int .i64 0] 55 (0, 0))) ∧ (w.heap.size ≤ s_.1) ∧ (w.heap.size ≤ s_.1) ∧ (s_.2 ≠ s_.1) ∧ (s_.1 ≠ s_.2) ∧ (w.heap.size ≤ s_.2) ∧ (w.heap.size ≤ s_.2) ∧ (Below w.heap.size w w')) ?_ ?_
                          rotate_left
                          ·
                           intro hJ6_18_19
                           refine join_ (σ := Unit) 4 #[true, true, true, true, true, true, true, true, true, true, true, true, true, true, true, true, true, true, false, false, false, false] (fun s_ => [(79, .int .i64 t171), (88, .int .i64 t174), (80, .pointer (some (ad160.add ((t171).toNat * 3)))), (81, .agg #[.int .i64 ((rd_T55 l0 t171).f0), .int .i64 ((rd_T55 l0 t171).f1), .int .i64 ((rd_T55 l0 t171).f2)]), (89, .pointer (some (ad161.add ((t174).toNat * 3)))), (90, .agg #[.int .i64 ((rd_T55 l1 t174).f0), .int .i64 ((rd_T55 l1 t174).f1), .int .i64 ((rd_T55 l1 t174).f2)])]) (fun s_ w' => (w'.cell? (ad170.add (x11_3).toNat) = some (.int .i64 (rd x6_2 x11_3)) ∧ w'.cell? (ad170.add (x11_3).toNat) = some (.int .i64 (rd x6_2 x11_3)) ∧ w'.cell? (ad160.add ((t171).toNat * 3)) = some (.int .i64 ((rd_T55 l0 t171).f0)) ∧ w'.cell? ⟨(ad160.add ((t171).toNat * 3)).block, (ad160.add ((t171).toNat * 3)).off + 1, none⟩ = some (.int .i64 ((rd_T55 l0 t171).f1)) ∧ w'.cell? ⟨(ad160.add ((t171).toNat * 3)).block, (ad160.add ((t171).toNat * 3)).off + 2, none⟩ = some (.int .i64 ((rd_T55 l0 t171).f2)) ∧ w'.cell? (ad161.add ((t174).toNat * 3)) = some (.int .i64 ((rd_T55 l1 t174).f0)) ∧ w'.cell? ⟨(ad161.add ((t174).toNat * 3)).block, (ad161.add ((t174).toNat * 3)).off + 1, none⟩ = some (.int .i64 ((rd_T55 l1 t174).f1)) ∧ w'.cell? ⟨(ad161.add ((t174).toNat * 3)).block, (ad161.add ((t174).toNat * 3)).off + 2, none⟩ = some (.int .i64 ((rd_T55 l1 t174).f2))) ∧ (Kd.R k55 55 w' w.heap.size (fun _ => True) u10 x10_3) ∧ (Kd.R (Kd.int .i64) 2 w' w.heap.size (fun _ => True) (.slice (some ad170) x6_2.length co39) x6_2) ∧ (Below w.heap.size w w')) ?_ ?_
                           rotate_left
                           ·
                            intro hJ6_15
                            refine join_ (σ := Nat) 6 #[true, true, true, true, true, true, true, true, true, true, true, true, true, true, true, false, false, false, true, false, false, false] (fun s_ => [(79, .int .i64 t171), (12, .pointer (some ⟨s_, 0, none⟩)), (80, .pointer (some (ad160.add ((t171).toNat * 3)))), (81, .agg #[.int .i64 ((rd_T55 l0 t171).f0), .int .i64 ((rd_T55 l0 t171).f1), .int .i64 ((rd_T55 l0 t171).f2)])]) (fun s_ w' => (w'.cell? (ad170.add (x11_3).toNat) = some (.int .i64 (rd x6_2 x11_3)) ∧ w'.cell? (ad170.add (x11_3).toNat) = some (.int .i64 (rd x6_2 x11_3)) ∧ w'.cell? (ad160.add ((t171).toNat * 3)) = some (.int .i64 ((rd_T55 l0 t171).f0)) ∧ w'.cell? ⟨(ad160.add ((t171).toNat * 3)).block, (ad160.add ((t171).toNat * 3)).off + 1, none⟩ = some (.int .i64 ((rd_T55 l0 t171).f1)) ∧ w'.cell? ⟨(ad160.add ((t171).toNat * 3)).block, (ad160.add ((t171).toNat * 3)).off + 2, none⟩ = some (.int .i64 ((rd_T55 l0 t171).f2)) ∧ w'.cell? (ad161.add ((t174).toNat * 3)) = some (.int .i64 ((rd_T55 l1 t174).f0)) ∧ w'.cell? ⟨(ad161.add ((t174).toNat * 3)).block, (ad161.add ((t174).toNat * 3)).off + 1, none⟩ = some (.int .i64 ((rd_T55 l1 t174).f1)) ∧ w'.cell? ⟨(ad161.add ((t174).toNat * 3)).block, (ad161.add ((t174).toNat * 3)).off + 2, none⟩ = some (.int .i64 ((rd_T55 l1 t174).f2))) ∧ (Kd.R k55 55 w' w.heap.size (fun k_ => k_ ≠ s_) u10 x10_3) ∧ (Kd.R (Kd.int .i64) 2 w' w.heap.size (fun _ => True) (.slice (some ad170) x6_2.length co39) x6_2) ∧ (w'.heap[s_]? = some (.cells #[.int .i64 0, .int .i64 0, .int .i64 0] 55 (0, 0))) ∧ (w.heap.size ≤ s_) ∧ (w.heap.size ≤ s_) ∧ (Below w.heap.size w w')) ?_ ?_
                            rotate_left
                            ·
                             intro hJ6_18
                             refine join_ (σ := Nat) 6 #[true, true, true, true, true, true, true, true, true, true, true, true, true, true, true, false, false, false, false, true, false, false] (fun s_ => [(79, .int .i64 t171), (13, .pointer (some ⟨s_, 0, none⟩)), (80, .pointer (some (ad160.add ((t171).toNat * 3)))), (81, .agg #[.int .i64 ((rd_T55 l0 t171).f0), .int .i64 ((rd_T55 l0 t171).f1), .int .i64 ((rd_T55 l0 t171).f2)])]) (fun s_ w' => (w'.cell? (ad170.add (x11_3).toNat) = some (.int .i64 (rd x6_2 x11_3)) ∧ w'.cell? (ad170.add (x11_3).toNat) = some (.int .i64 (rd x6_2 x11_3)) ∧ w'.cell? (ad160.add ((t171).toNat * 3)) = some (.int .i64 ((rd_T55 l0 t171).f0)) ∧ w'.cell? ⟨(ad160.add ((t171).toNat * 3)).block, (ad160.add ((t171).toNat * 3)).off + 1, none⟩ = some (.int .i64 ((rd_T55 l0 t171).f1)) ∧ w'.cell? ⟨(ad160.add ((t171).toNat * 3)).block, (ad160.add ((t171).toNat * 3)).off + 2, none⟩ = some (.int .i64 ((rd_T55 l0 t171).f2)) ∧ w'.cell? (ad161.add ((t174).toNat * 3)) = some (.int .i64 ((rd_T55 l1 t174).f0)) ∧ w'.cell? ⟨(ad161.add ((t174).toNat * 3)).block, (ad161.add ((t174).toNat * 3)).off + 1, none⟩ = some (.int .i64 ((rd_T55 l1 t174).f1)) ∧ w'.cell? ⟨(ad161.add ((t174).toNat * 3)).block, (ad161.add ((t174).toNat * 3)).off + 2, none⟩ = some (.int .i64 ((rd_T55 l1 t174).f2))) ∧ (Kd.R k55 55 w' w.heap.size (fun k_ => k_ ≠ s_) u10 x10_3) ∧ (Kd.R (Kd.int .i64) 2 w' w.heap.size (fun _ => True) (.slice (some ad170) x6_2.length co39) x6_2) ∧ (w'.heap[s_]? = some (.cells #[.int .i64 0, .int .i64 0, .int .i64 0] 55 (0, 0))) ∧ (w.heap.size ≤ s_) ∧ (w.heap.size ≤ s_) ∧ (Below w.heap.size w w')) ?_ ?_
                             rotate_left
                             ·
                              intro hJ6_19
                              refine join_ (σ := Nat × Nat) 8 #[true, true, true, true, true, true, false, false, false, true, true, true, true, true, true, false, false, false, true, true, false, false] (fun s_ => [(12, .pointer (some ⟨s_.1, 0, none⟩)), (13, .pointer (some ⟨s_.2, 0, none⟩))]) (fun s_ w' => (w'.cell? (ad170.add (x11_3).toNat) = some (.int .i64 (rd x6_2 x11_3)) ∧ w'.cell? (ad170.add (x11_3).toNat) = some (.int .i64 (rd x6_2 x11_3)) ∧ w'.cell? (ad160.add ((t171).toNat * 3)) = some (.int .i64 ((rd_T55 l0 t171).f0)) ∧ w'.cell? ⟨(ad160.add ((t171).toNat * 3)).block, (ad160.add ((t171).toNat * 3)).off + 1, none⟩ = some (.int .i64 ((rd_T55 l0 t171).f1)) ∧ w'.cell? ⟨(ad160.add ((t171).toNat * 3)).block, (ad160.add ((t171).toNat * 3)).off + 2, none⟩ = some (.int .i64 ((rd_T55 l0 t171).f2)) ∧ w'.cell? (ad161.add ((t174).toNat * 3)) = some (.int .i64 ((rd_T55 l1 t174).f0)) ∧ w'.cell? ⟨(ad161.add ((t174).toNat * 3)).block, (ad161.add ((t174).toNat * 3)).off + 1, none⟩ = some (.int .i64 ((rd_T55 l1 t174).f1)) ∧ w'.cell? ⟨(ad161.add ((t174).toNat * 3)).block, (ad161.add ((t174).toNat * 3)).off + 2, none⟩ = some (.int .i64 ((rd_T55 l1 t174).f2))) ∧ (Kd.R k55 55 w' w.heap.size (fun k_ => k_ ≠ s_.1 ∧ k_ ≠ s_.2) u10 x10_3) ∧ (Kd.R (Kd.int .i64) 2 w' w.heap.size (fun _ => True) (.slice (some ad170) x6_2.length co39) x6_2) ∧ (w'.heap[s_.1]? = some (.cells #[.int .i64 0, .int .i64 0, .int .i64 0] 55 (0, 0))) ∧ (w'.heap[s_.2]? = some (.cells #[.int .i64 0, .int .i64 0, .int .i64 0] 55 (0, 0))) ∧ (w.heap.size ≤ s_.1) ∧ (w.heap.size ≤ s_.1) ∧ (s_.2 ≠ s_.1) ∧ (s_.1 ≠ s_.2) ∧ (w.heap.size ≤ s_.2) ∧ (w.heap.size ≤ s_.2) ∧ (Below w.heap.size w w')) ?_ ?_
                              rotate_left
                              ·
                               intro hJ18_19
                               refine join_ (σ := Unit) 7 #[true, true, true, true, true, true, true, true, true, true, true, true, true, true, true, false, false, false, false, false, false, false] (fun s_ => [(79, .int .i64 t171), (80, .pointer (some (ad160.add ((t171).toNat * 3)))), (81, .agg #[.int .i64 ((rd_T55 l0 t171).f0), .int .i64 ((rd_T55 l0 t171).f1), .int .i64 ((rd_T55 l0 t171).f2)])]) (fun s_ w' => (w'.cell? (ad170.add (x11_3).toNat) = some (.int .i64 (rd x6_2 x11_3)) ∧ w'.cell? (ad170.add (x11_3).toNat) = some (.int .i64 (rd x6_2 x11_3)) ∧ w'.cell? (ad160.add ((t171).toNat * 3)) = some (.int .i64 ((rd_T55 l0 t171).f0)) ∧ w'.cell? ⟨(ad160.add ((t171).toNat * 3)).block, (ad160.add ((t171).toNat * 3)).off + 1, none⟩ = some (.int .i64 ((rd_T55 l0 t171).f1)) ∧ w'.cell? ⟨(ad160.add ((t171).toNat * 3)).block, (ad160.add ((t171).toNat * 3)).off + 2, none⟩ = some (.int .i64 ((rd_T55 l0 t171).f2)) ∧ w'.cell? (ad161.add ((t174).toNat * 3)) = some (.int .i64 ((rd_T55 l1 t174).f0)) ∧ w'.cell? ⟨(ad161.add ((t174).toNat * 3)).block, (ad161.add ((t174).toNat * 3)).off + 1, none⟩ = some (.int .i64 ((rd_T55 l1 t174).f1)) ∧ w'.cell? ⟨(ad161.add ((t174).toNat * 3)).block, (ad161.add ((t174).toNat * 3)).off + 2, none⟩ = some (.int .i64 ((rd_T55 l1 t174).f2))) ∧ (Kd.R k55 55 w' w.heap.size (fun _ => True) u10 x10_3) ∧ (Kd.R (Kd.int .i64) 2 w' w.heap.size (fun _ => True) (.slice (some ad170) x6_2.length co39) x6_2) ∧ (Below w.heap.size w w')) ?_ ?_
                               rotate_left
                               ·
                                intro hJ6
                                refine join_ (σ := Nat) 9 #[true, true, true, true, true, true, false, false, false, true, true, true, true, true, true, false, false, false, true, false, false, false] (fun s_ => [(12, .pointer (some ⟨s_, 0, none⟩))]) (fun s_ w' => (w'.cell? (ad170.add (x11_3).toNat) = some (.int .i64 (rd x6_2 x11_3)) ∧ w'.cell? (ad170.add (x11_3).toNat) = some (.int .i64 (rd x6_2 x11_3)) ∧ w'.cell? (ad160.add ((t171).toNat * 3)) = some (.int .i64 ((rd_T55 l0 t171).f0)) ∧ w'.cell? ⟨(ad160.add ((t171).toNat * 3)).block, (ad160.add ((t171).toNat * 3)).off + 1, none⟩ = some (.int .i64 ((rd_T55 l0 t171).f1)) ∧ w'.cell? ⟨(ad160.add ((t171).toNat * 3)).block, (ad160.add ((t171).toNat * 3)).off + 2, none⟩ = some (.int .i64 ((rd_T55 l0 t171).f2)) ∧ w'.cell? (ad161.add ((t174).toNat * 3)) = some (.int .i64 ((rd_T55 l1 t174).f0)) ∧ w'.cell? ⟨(ad161.add ((t174).toNat * 3)).block, (ad161.add ((t174).toNat * 3)).off + 1, none⟩ = some (.int .i64 ((rd_T55 l1 t174).f1)) ∧ w'.cell? ⟨(ad161.add ((t174).toNat * 3)).block, (ad161.add ((t174).toNat * 3)).off + 2, none⟩ = some (.int .i64 ((rd_T55 l1 t174).f2))) ∧ (Kd.R k55 55 w' w.heap.size (fun k_ => k_ ≠ s_) u10 x10_3) ∧ (Kd.R (Kd.int .i64) 2 w' w.heap.size (fun _ => True) (.slice (some ad170) x6_2.length co39) x6_2) ∧ (w'.heap[s_]? = some (.cells #[.int .i64 0, .int .i64 0, .int .i64 0] 55 (0, 0))) ∧ (w.heap.size ≤ s_) ∧ (w.heap.size ≤ s_) ∧ (Below w.heap.size w w')) ?_ ?_
                                rotate_left
                                ·
                                 intro hJ18
                                 refine join_ (σ := Nat) 9 #[true, true, true, true, true, true, false, false, false, true, true, true, true, true, true, false, false, false, false, true, false, false] (fun s_ => [(13, .pointer (some ⟨s_, 0, none⟩))]) (fun s_ w' => (w'.cell? (ad170.add (x11_3).toNat) = some (.int .i64 (rd x6_2 x11_3)) ∧ w'.cell? (ad170.add (x11_3).toNat) = some (.int .i64 (rd x6_2 x11_3)) ∧ w'.cell? (ad160.add ((t171).toNat * 3)) = some (.int .i64 ((rd_T55 l0 t171).f0)) ∧ w'.cell? ⟨(ad160.add ((t171).toNat * 3)).block, (ad160.add ((t171).toNat * 3)).off + 1, none⟩ = some (.int .i64 ((rd_T55 l0 t171).f1)) ∧ w'.cell? ⟨(ad160.add ((t171).toNat * 3)).block, (ad160.add ((t171).toNat * 3)).off + 2, none⟩ = some (.int .i64 ((rd_T55 l0 t171).f2)) ∧ w'.cell? (ad161.add ((t174).toNat * 3)) = some (.int .i64 ((rd_T55 l1 t174).f0)) ∧ w'.cell? ⟨(ad161.add ((t174).toNat * 3)).block, (ad161.add ((t174).toNat * 3)).off + 1, none⟩ = some (.int .i64 ((rd_T55 l1 t174).f1)) ∧ w'.cell? ⟨(ad161.add ((t174).toNat * 3)).block, (ad161.add ((t174).toNat * 3)).off + 2, none⟩ = some (.int .i64 ((rd_T55 l1 t174).f2))) ∧ (Kd.R k55 55 w' w.heap.size (fun k_ => k_ ≠ s_) u10 x10_3) ∧ (Kd.R (Kd.int .i64) 2 w' w.heap.size (fun _ => True) (.slice (some ad170) x6_2.length co39) x6_2) ∧ (w'.heap[s_]? = some (.cells #[.int .i64 0, .int .i64 0, .int .i64 0] 55 (0, 0))) ∧ (w.heap.size ≤ s_) ∧ (w.heap.size ≤ s_) ∧ (Below w.heap.size w w')) ?_ ?_
                                 rotate_left
                                 ·
                                  intro hJ19
                                  refine three_ (i := 6) (j := 18) (k := 19) (Ni := some 79) (Nj := some 12) (Nk := some 13) #[true, true, true, true, true, true, true, false, false, true, true, true, true, true, true, false, false, false, false, false, false, false] #[true, true, true, true, true, true, false, false, false, true, true, true, true, true, true, false, false, false, true, false, false, false] #[true, true, true, true, true, true, false, false, false, true, true, true, true, true, true, false, false, false, false, true, false, false] rfl rfl rfl rfl rfl rfl (three_of HT_.out (by kernel_rfl)) (by decide) (by decide) (by decide) (fun K hK => ?_) (fun K hK => ?_) (fun K hK => ?_)
                                  ·
                                   skip
                                   refine goes_ Try.func54 (by kernel_rfl) rfl #[.slice (some ad160) l0.length c0, .int .i64 (rd x6_2 x11_3)] (by rfl) rfl rfl (by (try simp only [List.map_toArray, List.map_cons, List.map_nil]); first | done | rfl | (go_simp; done) | simp) ?_
                                   with_reducible refine (spec_l05Find.calls k3 _ _ l0 (rd x6_2 x11_3) t171 _ ?side1 ?side2 A44.out).mono ?_
                                   (case side1 => repeat (first | exact (Kd.C_below HR0.out HB.out) | (with_reducible first | apply cA | apply cN | apply cD)))
                                   (case side2 => exact HC0.out)
                                   rintro e w' ⟨rfl, ⟨nd, rfl⟩⟩
                                   refine ⟨_, rfl, ?_⟩
                                   refine hK.out _ _ ⟨hHeld.1, hHeld.2.1, ((HB.out.cell (World.block_lt_of_cell? _ _ hw172_0)).trans hw172_0), ((HB.out.cell (World.block_lt_of_cell? _ _ hw172_1)).trans hw172_1), ((HB.out.cell (World.block_lt_of_cell? _ _ hw172_2)).trans hw172_2), ((HB.out.cell (World.block_lt_of_cell? _ _ hw175_0)).trans hw175_0), ((HB.out.cell (World.block_lt_of_cell? _ _ hw175_1)).trans hw175_1), ((HB.out.cell (World.block_lt_of_cell? _ _ hw175_2)).trans hw175_2)⟩ (fun hHeld => ?_)
                                   clear hK K
                                   refine norm_ (a' := ?_) ?_ ?_
                                   rotate_left
                                   ·
                                    show Act.put _ (some 79) _ = _
                                    simp only [Act.put, sT, s0, sS, i64_w, i32_w]
                                    rfl
                                   refine pure_ (i := 7) (N := some 80) (v := ?_) (a' := ?_) #[true, true, true, true, true, true, true, true, false, true, true, true, true, true, true, false, false, false, false, false, false, false] rfl rfl (any_of HT_.out (by kernel_rfl)) (fun _ _ _ h => h) (Or.inl ⟨by rfl, ?_⟩) ?_ ?_
                                   rotate_left
                                   ·
                                    intro w'
                                    go_simp
                                    with_reducible rfl
                                   rotate_left
                                   ·
                                    simp only [Act.put, sT, s0, sS, i64_w, i32_w]
                                    rfl
                                   refine take_ (i := 8) (N := some 81) (v := ?_) (a' := ?_) #[true, true, true, true, true, true, true, true, true, true, true, true, true, true, true, false, false, false, false, false, false, false] rfl rfl (take_ofW HT_.out HW_.out (by kernel_rfl)) (fun _ _ _ h => h) (Or.inl ⟨by rfl, ?_⟩) hHeld ?_ ?_
                                   rotate_left
                                   ·
                                    rintro w' ⟨s0, s1, s2, s3, s4, s5, s6, s7⟩
                                    go_simp
                                    with_reducible rfl
                                   rotate_left
                                   ·
                                    simp only [Act.put, sT, s0, sS, i64_w, i32_w]
                                    rfl
                                   exact norm_ (by first | (simp only [putAll, Act.put, sT, s0, sS]; done) | (simp only [putAll, Act.put, sT, s0, sS]; rfl)) (hJ6 () _ ⟨hHeld, (by (with_reducible repeat (first | apply rA | apply rN | apply rD)); exact HO_10.out), (by (with_reducible repeat (first | apply rA | apply rN | apply rD)); exact HO_6.out), (by repeat (first | (with_reducible first | exact HB.out | apply lA | apply lN | apply lD) | exact HB.out))⟩)
                                  ·
                                   skip
                                   refine box_step ?hg (N := 12) ?hd (cs := #[.int .i64 0, .int .i64 0, .int .i64 0]) (t := 55) ?hr ?_; (case hd => rfl); (case hg => rfl); (case hr => first | (go_simp; done) | (go_simp; rfl))
                                   intro gb176 hg w54 hbox hb
                                   have HS0_ := (hb.cell (World.block_lt_of_cell? _ _ (hHeld.1))).trans (hHeld.1)
                                   have HS1_ := (hb.cell (World.block_lt_of_cell? _ _ (hHeld.2.1))).trans (hHeld.2.1)
                                   have n0_ := Aside0.mk (Kd.R_below (by (with_reducible repeat (first | apply rA | apply rN | apply rD)); exact HO_6.out) hb)
                                   have n1_ := Aside0.mk (Kd.R_below (Kd.R_elderB (by (with_reducible repeat (first | apply rA | apply rN | apply rD)); exact HO_10.out) gb176 (Nat.le_of_eq hg.symm)) hb)
                                   have n2_ := Aside0.mk (below_step (by repeat (first | (with_reducible first | exact HB.out | apply lA | apply lN | apply lD) | exact HB.out)) hb)
                                   have n3_ := Aside0.mk (hbox)
                                   have n4_ := Aside0.mk ((by rw [hg]; exact (below_size (by repeat (first | (with_reducible first | exact HB.out | apply lA | apply lN | apply lD) | exact HB.out))) : w.heap.size ≤ gb176))
                                   have n5_ := Aside0.mk ((by rw [hg]; exact (below_size (by repeat (first | (with_reducible first | exact HB.out | apply lA | apply lN | apply lD) | exact HB.out))) : w.heap.size ≤ gb176))
                                   clear HO_6
                                   clear HO_10
                                   clear HB
                                   have HO_6 := n0_
                                   have HO_10 := n1_
                                   have HB := n2_
                                   have BK176 := n3_
                                   have GW176 := n4_
                                   have GE176 := n5_
                                   clear n0_ n1_ n2_ n3_ n4_ n5_
                                   clear hb hbox hg
                                   refine hK.out _ _ ⟨HS0_, HS1_, ((HB.out.cell (World.block_lt_of_cell? _ _ hw172_0)).trans hw172_0), ((HB.out.cell (World.block_lt_of_cell? _ _ hw172_1)).trans hw172_1), ((HB.out.cell (World.block_lt_of_cell? _ _ hw172_2)).trans hw172_2), ((HB.out.cell (World.block_lt_of_cell? _ _ hw175_0)).trans hw175_0), ((HB.out.cell (World.block_lt_of_cell? _ _ hw175_1)).trans hw175_1), ((HB.out.cell (World.block_lt_of_cell? _ _ hw175_2)).trans hw175_2)⟩ (fun hHeld => ?_)
                                   clear hK K
                                   refine norm_ (a' := ?_) ?_ ?_
                                   rotate_left
                                   ·
                                    show Act.put _ (some 12) _ = _
                                    simp only [Act.put, sT, s0, sS, i64_w, i32_w]
                                    rfl
                                   exact norm_ (by first | (simp only [putAll, Act.put, sT, s0, sS]; done) | (simp only [putAll, Act.put, sT, s0, sS]; rfl)) (hJ18 (gb176) _ ⟨hHeld, (by (with_reducible repeat (first | apply rA | apply rN | apply rD)); exact Kd.R_mono HO_10.out (fun _ hk => hk.2)), (by (with_reducible repeat (first | apply rA | apply rN | apply rD)); exact HO_6.out), (by (with_reducible repeat first | apply bN | apply bD | apply bA); exact BK176.out), GW176.out, GE176.out, (by repeat (first | (with_reducible first | exact HB.out | apply lA | apply lN | apply lD | refine below_set ?_ GE176.out) | exact HB.out))⟩)
                                  ·
                                   skip
                                   refine box_step ?hg (N := 13) ?hd (cs := #[.int .i64 0, .int .i64 0, .int .i64 0]) (t := 55) ?hr ?_; (case hd => rfl); (case hg => rfl); (case hr => first | (go_simp; done) | (go_simp; rfl))
                                   intro gb177 hg w54 hbox hb
                                   have HS0_ := (hb.cell (World.block_lt_of_cell? _ _ (hHeld.1))).trans (hHeld.1)
                                   have HS1_ := (hb.cell (World.block_lt_of_cell? _ _ (hHeld.2.1))).trans (hHeld.2.1)
                                   have n0_ := Aside0.mk (Kd.R_below (by (with_reducible repeat (first | apply rA | apply rN | apply rD)); exact HO_6.out) hb)
                                   have n1_ := Aside0.mk (Kd.R_below (Kd.R_elderB (by (with_reducible repeat (first | apply rA | apply rN | apply rD)); exact HO_10.out) gb177 (Nat.le_of_eq hg.symm)) hb)
                                   have n2_ := Aside0.mk (below_step (by repeat (first | (with_reducible first | exact HB.out | apply lA | apply lN | apply lD) | exact HB.out)) hb)
                                   have n3_ := Aside0.mk (hbox)
                                   have n4_ := Aside0.mk ((by rw [hg]; exact (below_size (by repeat (first | (with_reducible first | exact HB.out | apply lA | apply lN | apply lD) | exact HB.out))) : w.heap.size ≤ gb177))
                                   have n5_ := Aside0.mk ((by rw [hg]; exact (below_size (by repeat (first | (with_reducible first | exact HB.out | apply lA | apply lN | apply lD) | exact HB.out))) : w.heap.size ≤ gb177))
                                   clear HO_6
                                   clear HO_10
                                   clear HB
                                   have HO_6 := n0_
                                   have HO_10 := n1_
                                   have HB := n2_
                                   have BK177 := n3_
                                   have GW177 := n4_
                                   have GE177 := n5_
                                   clear n0_ n1_ n2_ n3_ n4_ n5_
                                   clear hb hbox hg
                                   refine hK.out _ _ ⟨HS0_, HS1_, ((HB.out.cell (World.block_lt_of_cell? _ _ hw172_0)).trans hw172_0), ((HB.out.cell (World.block_lt_of_cell? _ _ hw172_1)).trans hw172_1), ((HB.out.cell (World.block_lt_of_cell? _ _ hw172_2)).trans hw172_2), ((HB.out.cell (World.block_lt_of_cell? _ _ hw175_0)).trans hw175_0), ((HB.out.cell (World.block_lt_of_cell? _ _ hw175_1)).trans hw175_1), ((HB.out.cell (World.block_lt_of_cell? _ _ hw175_2)).trans hw175_2)⟩ (fun hHeld => ?_)
                                   clear hK K
                                   refine norm_ (a' := ?_) ?_ ?_
                                   rotate_left
                                   ·
                                    show Act.put _ (some 13) _ = _
                                    simp only [Act.put, sT, s0, sS, i64_w, i32_w]
                                    rfl
                                   exact norm_ (by first | (simp only [putAll, Act.put, sT, s0, sS]; done) | (simp only [putAll, Act.put, sT, s0, sS]; rfl)) (hJ19 (gb177) _ ⟨hHeld, (by (with_reducible repeat (first | apply rA | apply rN | apply rD)); exact Kd.R_mono HO_10.out (fun _ hk => hk.2)), (by (with_reducible repeat (first | apply rA | apply rN | apply rD)); exact HO_6.out), (by (with_reducible repeat first | apply bN | apply bD | apply bA); exact BK177.out), GW177.out, GE177.out, (by repeat (first | (with_reducible first | exact HB.out | apply lA | apply lN | apply lD | refine below_set ?_ GE177.out) | exact HB.out))⟩)
                                 ·
                                  skip
                                  rintro gb177 w55 ⟨hS_, h0_, h1_, h2_, h3_, h4_, h5_⟩
                                  have n0_ : Aside0 (Kd.R k55 55 w55 w.heap.size (fun k_ => k_ ≠ gb177) u10 x10_3) := ⟨h0_⟩
                                  have n1_ : Aside0 (Kd.R (Kd.int .i64) 2 w55 w.heap.size (fun _ => True) (.slice (some ad170) x6_2.length co39) x6_2) := ⟨h1_⟩
                                  have n2_ : Aside0 (w55.heap[gb177]? = some (.cells #[.int .i64 0, .int .i64 0, .int .i64 0] 55 (0, 0))) := ⟨h2_⟩
                                  have n3_ : Aside0 (w.heap.size ≤ gb177) := ⟨h3_⟩
                                  have n4_ : Aside0 (w.heap.size ≤ gb177) := ⟨h4_⟩
                                  have n5_ : Aside0 (Below w.heap.size w w55) := ⟨h5_⟩
                                  clear HO_6
                                  clear HO_10
                                  clear HB
                                  clear h0_ h1_ h2_ h3_ h4_ h5_
                                  have HO_10 := n0_
                                  have HO_6 := n1_
                                  have BK177 := n2_
                                  have GW177 := n3_
                                  have GE177 := n4_
                                  have HB := n5_
                                  clear n0_ n1_ n2_ n3_ n4_ n5_
                                  have hHeld : w55.cell? (ad170.add (x11_3).toNat) = some (.int .i64 (rd x6_2 x11_3)) ∧ w55.cell? (ad170.add (x11_3).toNat) = some (.int .i64 (rd x6_2 x11_3)) ∧ w55.cell? (ad160.add ((t171).toNat * 3)) = some (.int .i64 ((rd_T55 l0 t171).f0)) ∧ w55.cell? ⟨(ad160.add ((t171).toNat * 3)).block, (ad160.add ((t171).toNat * 3)).off + 1, none⟩ = some (.int .i64 ((rd_T55 l0 t171).f1)) ∧ w55.cell? ⟨(ad160.add ((t171).toNat * 3)).block, (ad160.add ((t171).toNat * 3)).off + 2, none⟩ = some (.int .i64 ((rd_T55 l0 t171).f2)) ∧ w55.cell? (ad161.add ((t174).toNat * 3)) = some (.int .i64 ((rd_T55 l1 t174).f0)) ∧ w55.cell? ⟨(ad161.add ((t174).toNat * 3)).block, (ad161.add ((t174).toNat * 3)).off + 1, none⟩ = some (.int .i64 ((rd_T55 l1 t174).f1)) ∧ w55.cell? ⟨(ad161.add ((t174).toNat * 3)).block, (ad161.add ((t174).toNat * 3)).off + 2, none⟩ = some (.int .i64 ((rd_T55 l1 t174).f2)) := hS_
                                  refine norm_ (a' := ?_) ?_ ?_
                                  rotate_left
                                  ·
                                   simp only [putAll, Act.put, sT, s0, sS]
                                   rfl
                                  refine two_ (i := 6) (j := 18) (Ni := some 79) (Nj := some 12) #[true, true, true, true, true, true, true, false, false, true, true, true, true, true, true, false, false, false, false, true, false, false] #[true, true, true, true, true, true, false, false, false, true, true, true, true, true, true, false, false, false, true, true, false, false] rfl rfl rfl rfl (two_of HT_.out (by kernel_rfl)) (by decide) (by decide) (fun K hK => ?_) (fun K hK => ?_)
                                  ·
                                   skip
                                   refine goes_ Try.func54 (by kernel_rfl) rfl #[.slice (some ad160) l0.length c0, .int .i64 (rd x6_2 x11_3)] (by rfl) rfl rfl (by (try simp only [List.map_toArray, List.map_cons, List.map_nil]); first | done | rfl | (go_simp; done) | simp) ?_
                                   with_reducible refine (spec_l05Find.calls k3 _ _ l0 (rd x6_2 x11_3) t171 _ ?side1 ?side2 A44.out).mono ?_
                                   (case side1 => repeat (first | exact (Kd.C_below HR0.out HB.out) | (with_reducible first | apply cA | apply cN | apply cD)))
                                   (case side2 => exact HC0.out)
                                   rintro e w' ⟨rfl, ⟨nd, rfl⟩⟩
                                   refine ⟨_, rfl, ?_⟩
                                   refine hK.out _ _ ⟨hHeld.1, hHeld.2.1, ((HB.out.cell (World.block_lt_of_cell? _ _ hw172_0)).trans hw172_0), ((HB.out.cell (World.block_lt_of_cell? _ _ hw172_1)).trans hw172_1), ((HB.out.cell (World.block_lt_of_cell? _ _ hw172_2)).trans hw172_2), ((HB.out.cell (World.block_lt_of_cell? _ _ hw175_0)).trans hw175_0), ((HB.out.cell (World.block_lt_of_cell? _ _ hw175_1)).trans hw175_1), ((HB.out.cell (World.block_lt_of_cell? _ _ hw175_2)).trans hw175_2)⟩ (fun hHeld => ?_)
                                   clear hK K
                                   refine norm_ (a' := ?_) ?_ ?_
                                   rotate_left
                                   ·
                                    show Act.put _ (some 79) _ = _
                                    simp only [Act.put, sT, s0, sS, i64_w, i32_w]
                                    rfl
                                   refine pure_ (i := 7) (N := some 80) (v := ?_) (a' := ?_) #[true, true, true, true, true, true, true, true, false, true, true, true, true, true, true, false, false, false, false, true, false, false] rfl rfl (any_of HT_.out (by kernel_rfl)) (fun _ _ _ h => h) (Or.inl ⟨by rfl, ?_⟩) ?_ ?_
                                   rotate_left
                                   ·
                                    intro w'
                                    go_simp
                                    with_reducible rfl
                                   rotate_left
                                   ·
                                    simp only [Act.put, sT, s0, sS, i64_w, i32_w]
                                    rfl
                                   refine take_ (i := 8) (N := some 81) (v := ?_) (a' := ?_) #[true, true, true, true, true, true, true, true, true, true, true, true, true, true, true, false, false, false, false, true, false, false] rfl rfl (take_ofW HT_.out HW_.out (by kernel_rfl)) (fun _ _ _ h => h) (Or.inl ⟨by rfl, ?_⟩) hHeld ?_ ?_
                                   rotate_left
                                   ·
                                    rintro w' ⟨s0, s1, s2, s3, s4, s5, s6, s7⟩
                                    go_simp
                                    with_reducible rfl
                                   rotate_left
                                   ·
                                    simp only [Act.put, sT, s0, sS, i64_w, i32_w]
                                    rfl
                                   exact norm_ (by first | (simp only [putAll, Act.put, sT, s0, sS]; done) | (simp only [putAll, Act.put, sT, s0, sS]; rfl)) (hJ6_19 (gb177) _ ⟨hHeld, (by (with_reducible repeat (first | apply rA | apply rN | apply rD)); exact HO_10.out), (by (with_reducible repeat (first | apply rA | apply rN | apply rD)); exact HO_6.out), (by (with_reducible repeat first | apply bN | apply bD | apply bA); exact BK177.out), GW177.out, GE177.out, (by repeat (first | (with_reducible first | exact HB.out | apply lA | apply lN | apply lD | refine below_set ?_ GE177.out) | exact HB.out))⟩)
                                  ·
                                   skip
                                   refine box_step ?hg (N := 12) ?hd (cs := #[.int .i64 0, .int .i64 0, .int .i64 0]) (t := 55) ?hr ?_; (case hd => rfl); (case hg => rfl); (case hr => first | (go_simp; done) | (go_simp; rfl))
                                   intro gb176 hg w56 hbox hb
                                   have HS0_ := (hb.cell (World.block_lt_of_cell? _ _ (hHeld.1))).trans (hHeld.1)
                                   have HS1_ := (hb.cell (World.block_lt_of_cell? _ _ (hHeld.2.1))).trans (hHeld.2.1)
                                   have n0_ := Aside0.mk (Kd.R_below (by (with_reducible repeat (first | apply rA | apply rN | apply rD)); exact HO_6.out) hb)
                                   have n1_ := Aside0.mk (Kd.R_below (Kd.R_elderB (by (with_reducible repeat (first | apply rA | apply rN | apply rD)); exact HO_10.out) gb176 (Nat.le_of_eq hg.symm)) hb)
                                   have n2_ := Aside0.mk (blk_below (g := gb177) (o := .cells #[.int .i64 0, .int .i64 0, .int .i64 0] 55 (0, 0)) (by (with_reducible repeat first | apply bN | apply bD | apply bA); exact BK177.out) hb)
                                   have n3_ := Aside0.mk (below_step (by repeat (first | (with_reducible first | exact HB.out | apply lA | apply lN | apply lD | refine below_set ?_ GE177.out) | exact HB.out)) hb)
                                   have n4_ := Aside0.mk (hbox)
                                   have n5_ := Aside0.mk ((by rw [hg]; exact (below_size (by repeat (first | (with_reducible first | exact HB.out | apply lA | apply lN | apply lD | refine below_set ?_ GE177.out) | exact HB.out))) : w.heap.size ≤ gb176))
                                   have n6_ := Aside0.mk ((by rw [hg]; exact (below_size (by repeat (first | (with_reducible first | exact HB.out | apply lA | apply lN | apply lD | refine below_set ?_ GE177.out) | exact HB.out))) : w.heap.size ≤ gb176))
                                   have n7_ := Aside0.mk ((by rw [hg]; exact Nat.ne_of_lt (blk_lt (g := gb177) (o := .cells #[.int .i64 0, .int .i64 0, .int .i64 0] 55 (0, 0)) (by (with_reducible repeat first | apply bN | apply bD | apply bA); exact BK177.out)) : gb177 ≠ gb176))
                                   have n8_ := Aside0.mk ((by rw [hg]; exact Nat.ne_of_gt (blk_lt (g := gb177) (o := .cells #[.int .i64 0, .int .i64 0, .int .i64 0] 55 (0, 0)) (by (with_reducible repeat first | apply bN | apply bD | apply bA); exact BK177.out)) : gb176 ≠ gb177))
                                   clear HO_6
                                   clear HO_10
                                   clear BK177
                                   clear HB
                                   have HO_6 := n0_
                                   have HO_10 := n1_
                                   have BK177 := n2_
                                   have HB := n3_
                                   have BK176 := n4_
                                   have GW176 := n5_
                                   have GE176 := n6_
                                   have NB177_176 := n7_
                                   have NB176_177 := n8_
                                   clear n0_ n1_ n2_ n3_ n4_ n5_ n6_ n7_ n8_
                                   clear hb hbox hg
                                   refine hK.out _ _ ⟨HS0_, HS1_, ((HB.out.cell (World.block_lt_of_cell? _ _ hw172_0)).trans hw172_0), ((HB.out.cell (World.block_lt_of_cell? _ _ hw172_1)).trans hw172_1), ((HB.out.cell (World.block_lt_of_cell? _ _ hw172_2)).trans hw172_2), ((HB.out.cell (World.block_lt_of_cell? _ _ hw175_0)).trans hw175_0), ((HB.out.cell (World.block_lt_of_cell? _ _ hw175_1)).trans hw175_1), ((HB.out.cell (World.block_lt_of_cell? _ _ hw175_2)).trans hw175_2)⟩ (fun hHeld => ?_)
                                   clear hK K
                                   refine norm_ (a' := ?_) ?_ ?_
                                   rotate_left
                                   ·
                                    show Act.put _ (some 12) _ = _
                                    simp only [Act.put, sT, s0, sS, i64_w, i32_w]
                                    rfl
                                   exact norm_ (by first | (simp only [putAll, Act.put, sT, s0, sS]; done) | (simp only [putAll, Act.put, sT, s0, sS]; rfl)) (hJ18_19 (gb176, gb177) _ ⟨hHeld, (by (with_reducible repeat (first | apply rA | apply rN | apply rD)); exact Kd.R_mono HO_10.out (fun _ hk => ⟨hk.2, hk.1⟩)), (by (with_reducible repeat (first | apply rA | apply rN | apply rD)); exact HO_6.out), (by (with_reducible repeat first | apply bN | apply bD | apply bA); exact BK176.out), (by (with_reducible repeat first | apply bN | apply bD | apply bA); exact BK177.out), GW176.out, GE176.out, NB177_176.out, NB176_177.out, GW177.out, GE177.out, (by repeat (first | (with_reducible first | exact HB.out | apply lA | apply lN | apply lD | refine below_set ?_ GE177.out | refine below_set ?_ GE176.out) | exact HB.out))⟩)
                                ·
                                 skip
                                 rintro gb176 w55 ⟨hS_, h0_, h1_, h2_, h3_, h4_, h5_⟩
                                 have n0_ : Aside0 (Kd.R k55 55 w55 w.heap.size (fun k_ => k_ ≠ gb176) u10 x10_3) := ⟨h0_⟩
                                 have n1_ : Aside0 (Kd.R (Kd.int .i64) 2 w55 w.heap.size (fun _ => True) (.slice (some ad170) x6_2.length co39) x6_2) := ⟨h1_⟩
                                 have n2_ : Aside0 (w55.heap[gb176]? = some (.cells #[.int .i64 0, .int .i64 0, .int .i64 0] 55 (0, 0))) := ⟨h2_⟩
                                 have n3_ : Aside0 (w.heap.size ≤ gb176) := ⟨h3_⟩
                                 have n4_ : Aside0 (w.heap.size ≤ gb176) := ⟨h4_⟩
                                 have n5_ : Aside0 (Below w.heap.size w w55) := ⟨h5_⟩
                                 clear HO_6
                                 clear HO_10
                                 clear HB
                                 clear h0_ h1_ h2_ h3_ h4_ h5_
                                 have HO_10 := n0_
                                 have HO_6 := n1_
                                 have BK176 := n2_
                                 have GW176 := n3_
                                 have GE176 := n4_
                                 have HB := n5_
                                 clear n0_ n1_ n2_ n3_ n4_ n5_
                                 have hHeld : w55.cell? (ad170.add (x11_3).toNat) = some (.int .i64 (rd x6_2 x11_3)) ∧ w55.cell? (ad170.add (x11_3).toNat) = some (.int .i64 (rd x6_2 x11_3)) ∧ w55.cell? (ad160.add ((t171).toNat * 3)) = some (.int .i64 ((rd_T55 l0 t171).f0)) ∧ w55.cell? ⟨(ad160.add ((t171).toNat * 3)).block, (ad160.add ((t171).toNat * 3)).off + 1, none⟩ = some (.int .i64 ((rd_T55 l0 t171).f1)) ∧ w55.cell? ⟨(ad160.add ((t171).toNat * 3)).block, (ad160.add ((t171).toNat * 3)).off + 2, none⟩ = some (.int .i64 ((rd_T55 l0 t171).f2)) ∧ w55.cell? (ad161.add ((t174).toNat * 3)) = some (.int .i64 ((rd_T55 l1 t174).f0)) ∧ w55.cell? ⟨(ad161.add ((t174).toNat * 3)).block, (ad161.add ((t174).toNat * 3)).off + 1, none⟩ = some (.int .i64 ((rd_T55 l1 t174).f1)) ∧ w55.cell? ⟨(ad161.add ((t174).toNat * 3)).block, (ad161.add ((t174).toNat * 3)).off + 2, none⟩ = some (.int .i64 ((rd_T55 l1 t174).f2)) := hS_
                                 refine norm_ (a' := ?_) ?_ ?_
                                 rotate_left
                                 ·
                                  simp only [putAll, Act.put, sT, s0, sS]
                                  rfl
                                 refine two_ (i := 6) (j := 19) (Ni := some 79) (Nj := some 13) #[true, true, true, true, true, true, true, false, false, true, true, true, true, true, true, false, false, false, true, false, false, false] #[true, true, true, true, true, true, false, false, false, true, true, true, true, true, true, false, false, false, true, true, false, false] rfl rfl rfl rfl (two_of HT_.out (by kernel_rfl)) (by decide) (by decide) (fun K hK => ?_) (fun K hK => ?_)
                                 ·
                                  skip
                                  refine goes_ Try.func54 (by kernel_rfl) rfl #[.slice (some ad160) l0.length c0, .int .i64 (rd x6_2 x11_3)] (by rfl) rfl rfl (by (try simp only [List.map_toArray, List.map_cons, List.map_nil]); first | done | rfl | (go_simp; done) | simp) ?_
                                  with_reducible refine (spec_l05Find.calls k3 _ _ l0 (rd x6_2 x11_3) t171 _ ?side1 ?side2 A44.out).mono ?_
                                  (case side1 => repeat (first | exact (Kd.C_below HR0.out HB.out) | (with_reducible first | apply cA | apply cN | apply cD)))
                                  (case side2 => exact HC0.out)
                                  rintro e w' ⟨rfl, ⟨nd, rfl⟩⟩
                                  refine ⟨_, rfl, ?_⟩
                                  refine hK.out _ _ ⟨hHeld.1, hHeld.2.1, ((HB.out.cell (World.block_lt_of_cell? _ _ hw172_0)).trans hw172_0), ((HB.out.cell (World.block_lt_of_cell? _ _ hw172_1)).trans hw172_1), ((HB.out.cell (World.block_lt_of_cell? _ _ hw172_2)).trans hw172_2), ((HB.out.cell (World.block_lt_of_cell? _ _ hw175_0)).trans hw175_0), ((HB.out.cell (World.block_lt_of_cell? _ _ hw175_1)).trans hw175_1), ((HB.out.cell (World.block_lt_of_cell? _ _ hw175_2)).trans hw175_2)⟩ (fun hHeld => ?_)
                                  clear hK K
                                  refine norm_ (a' := ?_) ?_ ?_
                                  rotate_left
                                  ·
                                   show Act.put _ (some 79) _ = _
                                   simp only [Act.put, sT, s0, sS, i64_w, i32_w]
                                   rfl
                                  refine pure_ (i := 7) (N := some 80) (v := ?_) (a' := ?_) #[true, true, true, true, true, true, true, true, false, true, true, true, true, true, true, false, false, false, true, false, false, false] rfl rfl (any_of HT_.out (by kernel_rfl)) (fun _ _ _ h => h) (Or.inl ⟨by rfl, ?_⟩) ?_ ?_
                                  rotate_left
                                  ·
                                   intro w'
                                   go_simp
                                   with_reducible rfl
                                  rotate_left
                                  ·
                                   simp only [Act.put, sT, s0, sS, i64_w, i32_w]
                                   rfl
                                  refine take_ (i := 8) (N := some 81) (v := ?_) (a' := ?_) #[true, true, true, true, true, true, true, true, true, true, true, true, true, true, true, false, false, false, true, false, false, false] rfl rfl (take_ofW HT_.out HW_.out (by kernel_rfl)) (fun _ _ _ h => h) (Or.inl ⟨by rfl, ?_⟩) hHeld ?_ ?_
                                  rotate_left
                                  ·
                                   rintro w' ⟨s0, s1, s2, s3, s4, s5, s6, s7⟩
                                   go_simp
                                   with_reducible rfl
                                  rotate_left
                                  ·
                                   simp only [Act.put, sT, s0, sS, i64_w, i32_w]
                                   rfl
                                  exact norm_ (by first | (simp only [putAll, Act.put, sT, s0, sS]; done) | (simp only [putAll, Act.put, sT, s0, sS]; rfl)) (hJ6_18 (gb176) _ ⟨hHeld, (by (with_reducible repeat (first | apply rA | apply rN | apply rD)); exact HO_10.out), (by (with_reducible repeat (first | apply rA | apply rN | apply rD)); exact HO_6.out), (by (with_reducible repeat first | apply bN | apply bD | apply bA); exact BK176.out), GW176.out, GE176.out, (by repeat (first | (with_reducible first | exact HB.out | apply lA | apply lN | apply lD | refine below_set ?_ GE176.out) | exact HB.out))⟩)
                                 ·
                                  skip
                                  refine box_step ?hg (N := 13) ?hd (cs := #[.int .i64 0, .int .i64 0, .int .i64 0]) (t := 55) ?hr ?_; (case hd => rfl); (case hg => rfl); (case hr => first | (go_simp; done) | (go_simp; rfl))
                                  intro gb177 hg w56 hbox hb
                                  have HS0_ := (hb.cell (World.block_lt_of_cell? _ _ (hHeld.1))).trans (hHeld.1)
                                  have HS1_ := (hb.cell (World.block_lt_of_cell? _ _ (hHeld.2.1))).trans (hHeld.2.1)
                                  have n0_ := Aside0.mk (Kd.R_below (by (with_reducible repeat (first | apply rA | apply rN | apply rD)); exact HO_6.out) hb)
                                  have n1_ := Aside0.mk (Kd.R_below (Kd.R_elderB (by (with_reducible repeat (first | apply rA | apply rN | apply rD)); exact HO_10.out) gb177 (Nat.le_of_eq hg.symm)) hb)
                                  have n2_ := Aside0.mk (blk_below (g := gb176) (o := .cells #[.int .i64 0, .int .i64 0, .int .i64 0] 55 (0, 0)) (by (with_reducible repeat first | apply bN | apply bD | apply bA); exact BK176.out) hb)
                                  have n3_ := Aside0.mk (below_step (by repeat (first | (with_reducible first | exact HB.out | apply lA | apply lN | apply lD | refine below_set ?_ GE176.out) | exact HB.out)) hb)
                                  have n4_ := Aside0.mk (hbox)
                                  have n5_ := Aside0.mk ((by rw [hg]; exact (below_size (by repeat (first | (with_reducible first | exact HB.out | apply lA | apply lN | apply lD | refine below_set ?_ GE176.out) | exact HB.out))) : w.heap.size ≤ gb177))
                                  have n6_ := Aside0.mk ((by rw [hg]; exact (below_size (by repeat (first | (with_reducible first | exact HB.out | apply lA | apply lN | apply lD | refine below_set ?_ GE176.out) | exact HB.out))) : w.heap.size ≤ gb177))
                                  have n7_ := Aside0.mk ((by rw [hg]; exact Nat.ne_of_lt (blk_lt (g := gb176) (o := .cells #[.int .i64 0, .int .i64 0, .int .i64 0] 55 (0, 0)) (by (with_reducible repeat first | apply bN | apply bD | apply bA); exact BK176.out)) : gb176 ≠ gb177))
                                  have n8_ := Aside0.mk ((by rw [hg]; exact Nat.ne_of_gt (blk_lt (g := gb176) (o := .cells #[.int .i64 0, .int .i64 0, .int .i64 0] 55 (0, 0)) (by (with_reducible repeat first | apply bN | apply bD | apply bA); exact BK176.out)) : gb177 ≠ gb176))
                                  clear HO_6
                                  clear HO_10
                                  clear BK176
                                  clear HB
                                  have HO_6 := n0_
                                  have HO_10 := n1_
                                  have BK176 := n2_
                                  have HB := n3_
                                  have BK177 := n4_
                                  have GW177 := n5_
                                  have GE177 := n6_
                                  have NB176_177 := n7_
                                  have NB177_176 := n8_
                                  clear n0_ n1_ n2_ n3_ n4_ n5_ n6_ n7_ n8_
                                  clear hb hbox hg
                                  refine hK.out _ _ ⟨HS0_, HS1_, ((HB.out.cell (World.block_lt_of_cell? _ _ hw172_0)).trans hw172_0), ((HB.out.cell (World.block_lt_of_cell? _ _ hw172_1)).trans hw172_1), ((HB.out.cell (World.block_lt_of_cell? _ _ hw172_2)).trans hw172_2), ((HB.out.cell (World.block_lt_of_cell? _ _ hw175_0)).trans hw175_0), ((HB.out.cell (World.block_lt_of_cell? _ _ hw175_1)).trans hw175_1), ((HB.out.cell (World.block_lt_of_cell? _ _ hw175_2)).trans hw175_2)⟩ (fun hHeld => ?_)
                                  clear hK K
                                  refine norm_ (a' := ?_) ?_ ?_
                                  rotate_left
                                  ·
                                   show Act.put _ (some 13) _ = _
                                   simp only [Act.put, sT, s0, sS, i64_w, i32_w]
                                   rfl
                                  exact norm_ (by first | (simp only [putAll, Act.put, sT, s0, sS]; done) | (simp only [putAll, Act.put, sT, s0, sS]; rfl)) (hJ18_19 (gb176, gb177) _ ⟨hHeld, (by (with_reducible repeat (first | apply rA | apply rN | apply rD)); exact HO_10.out), (by (with_reducible repeat (first | apply rA | apply rN | apply rD)); exact HO_6.out), (by (with_reducible repeat first | apply bN | apply bD | apply bA); exact BK176.out), (by (with_reducible repeat first | apply bN | apply bD | apply bA); exact BK177.out), GW176.out, GE176.out, NB177_176.out, NB176_177.out, GW177.out, GE177.out, (by repeat (first | (with_reducible first | exact HB.out | apply lA | apply lN | apply lD | refine below_set ?_ GE176.out | refine below_set ?_ GE177.out) | exact HB.out))⟩)
                               ·
                                skip
                                rintro _ w54 ⟨hS_, h0_, h1_, h2_⟩
                                have n0_ : Aside0 (Kd.R k55 55 w54 w.heap.size (fun _ => True) u10 x10_3) := ⟨h0_⟩
                                have n1_ : Aside0 (Kd.R (Kd.int .i64) 2 w54 w.heap.size (fun _ => True) (.slice (some ad170) x6_2.length co39) x6_2) := ⟨h1_⟩
                                have n2_ : Aside0 (Below w.heap.size w w54) := ⟨h2_⟩
                                clear HO_6
                                clear HO_10
                                clear HB
                                clear h0_ h1_ h2_
                                have HO_10 := n0_
                                have HO_6 := n1_
                                have HB := n2_
                                clear n0_ n1_ n2_
                                have hHeld : w54.cell? (ad170.add (x11_3).toNat) = some (.int .i64 (rd x6_2 x11_3)) ∧ w54.cell? (ad170.add (x11_3).toNat) = some (.int .i64 (rd x6_2 x11_3)) ∧ w54.cell? (ad160.add ((t171).toNat * 3)) = some (.int .i64 ((rd_T55 l0 t171).f0)) ∧ w54.cell? ⟨(ad160.add ((t171).toNat * 3)).block, (ad160.add ((t171).toNat * 3)).off + 1, none⟩ = some (.int .i64 ((rd_T55 l0 t171).f1)) ∧ w54.cell? ⟨(ad160.add ((t171).toNat * 3)).block, (ad160.add ((t171).toNat * 3)).off + 2, none⟩ = some (.int .i64 ((rd_T55 l0 t171).f2)) ∧ w54.cell? (ad161.add ((t174).toNat * 3)) = some (.int .i64 ((rd_T55 l1 t174).f0)) ∧ w54.cell? ⟨(ad161.add ((t174).toNat * 3)).block, (ad161.add ((t174).toNat * 3)).off + 1, none⟩ = some (.int .i64 ((rd_T55 l1 t174).f1)) ∧ w54.cell? ⟨(ad161.add ((t174).toNat * 3)).block, (ad161.add ((t174).toNat * 3)).off + 2, none⟩ = some (.int .i64 ((rd_T55 l1 t174).f2)) := hS_
                                refine norm_ (a' := ?_) ?_ ?_
                                rotate_left
                                ·
                                 simp only [putAll, Act.put, sT, s0, sS]
                                 rfl
                                refine three_ (i := 15) (j := 18) (k := 19) (Ni := some 88) (Nj := some 12) (Nk := some 13) #[true, true, true, true, true, true, true, true, true, true, true, true, true, true, true, true, false, false, false, false, false, false] #[true, true, true, true, true, true, true, true, true, true, true, true, true, true, true, false, false, false, true, false, false, false] #[true, true, true, true, true, true, true, true, true, true, true, true, true, true, true, false, false, false, false, true, false, false] rfl rfl rfl rfl rfl rfl (three_of HT_.out (by kernel_rfl)) (by decide) (by decide) (by decide) (fun K hK => ?_) (fun K hK => ?_) (fun K hK => ?_)
                                ·
                                 skip
                                 refine goes_ Try.func54 (by kernel_rfl) rfl #[.slice (some ad161) l1.length c1, .int .i64 (rd x6_2 x11_3)] (by rfl) rfl rfl (by (try simp only [List.map_toArray, List.map_cons, List.map_nil]); first | done | rfl | (go_simp; done) | simp) ?_
                                 with_reducible refine (spec_l05Find.calls k3 _ _ l1 (rd x6_2 x11_3) t174 _ ?side1 ?side2 A47.out).mono ?_
                                 (case side1 => repeat (first | exact (Kd.C_below HR1.out HB.out) | (with_reducible first | apply cA | apply cN | apply cD)))
                                 (case side2 => exact HC1.out)
                                 rintro e w' ⟨rfl, ⟨nd, rfl⟩⟩
                                 refine ⟨_, rfl, ?_⟩
                                 refine hK.out _ _ ⟨hHeld.1, hHeld.2.1, ((HB.out.cell (World.block_lt_of_cell? _ _ hw172_0)).trans hw172_0), ((HB.out.cell (World.block_lt_of_cell? _ _ hw172_1)).trans hw172_1), ((HB.out.cell (World.block_lt_of_cell? _ _ hw172_2)).trans hw172_2), ((HB.out.cell (World.block_lt_of_cell? _ _ hw175_0)).trans hw175_0), ((HB.out.cell (World.block_lt_of_cell? _ _ hw175_1)).trans hw175_1), ((HB.out.cell (World.block_lt_of_cell? _ _ hw175_2)).trans hw175_2)⟩ (fun hHeld => ?_)
                                 clear hK K
                                 refine norm_ (a' := ?_) ?_ ?_
                                 rotate_left
                                 ·
                                  show Act.put _ (some 88) _ = _
                                  simp only [Act.put, sT, s0, sS, i64_w, i32_w]
                                  rfl
                                 refine pure_ (i := 16) (N := some 89) (v := ?_) (a' := ?_) #[true, true, true, true, true, true, true, true, true, true, true, true, true, true, true, true, true, false, false, false, false, false] rfl rfl (any_of HT_.out (by kernel_rfl)) (fun _ _ _ h => h) (Or.inl ⟨by rfl, ?_⟩) ?_ ?_
                                 rotate_left
                                 ·
                                  intro w'
                                  go_simp
                                  with_reducible rfl
                                 rotate_left
                                 ·
                                  simp only [Act.put, sT, s0, sS, i64_w, i32_w]
                                  rfl
                                 refine take_ (i := 17) (N := some 90) (v := ?_) (a' := ?_) #[true, true, true, true, true, true, true, true, true, true, true, true, true, true, true, true, true, true, false, false, false, false] rfl rfl (take_ofW HT_.out HW_.out (by kernel_rfl)) (fun _ _ _ h => h) (Or.inl ⟨by rfl, ?_⟩) hHeld ?_ ?_
                                 rotate_left
                                 ·
                                  rintro w' ⟨s0, s1, s2, s3, s4, s5, s6, s7⟩
                                  go_simp
                                  with_reducible rfl
                                 rotate_left
                                 ·
                                  simp only [Act.put, sT, s0, sS, i64_w, i32_w]
                                  rfl
                                 exact norm_ (by first | (simp only [putAll, Act.put, sT, s0, sS]; done) | (simp only [putAll, Act.put, sT, s0, sS]; rfl)) (hJ6_15 () _ ⟨hHeld, (by (with_reducible repeat (first | apply rA | apply rN | apply rD)); exact HO_10.out), (by (with_reducible repeat (first | apply rA | apply rN | apply rD)); exact HO_6.out), (by repeat (first | (with_reducible first | exact HB.out | apply lA | apply lN | apply lD) | exact HB.out))⟩)
                                ·
                                 skip
                                 refine box_step ?hg (N := 12) ?hd (cs := #[.int .i64 0, .int .i64 0, .int .i64 0]) (t := 55) ?hr ?_; (case hd => rfl); (case hg => rfl); (case hr => first | (go_simp; done) | (go_simp; rfl))
                                 intro gb176 hg w55 hbox hb
                                 have HS0_ := (hb.cell (World.block_lt_of_cell? _ _ (hHeld.1))).trans (hHeld.1)
                                 have HS1_ := (hb.cell (World.block_lt_of_cell? _ _ (hHeld.2.1))).trans (hHeld.2.1)
                                 have n0_ := Aside0.mk (Kd.R_below (by (with_reducible repeat (first | apply rA | apply rN | apply rD)); exact HO_6.out) hb)
                                 have n1_ := Aside0.mk (Kd.R_below (Kd.R_elderB (by (with_reducible repeat (first | apply rA | apply rN | apply rD)); exact HO_10.out) gb176 (Nat.le_of_eq hg.symm)) hb)
                                 have n2_ := Aside0.mk (below_step (by repeat (first | (with_reducible first | exact HB.out | apply lA | apply lN | apply lD) | exact HB.out)) hb)
                                 have n3_ := Aside0.mk (hbox)
                                 have n4_ := Aside0.mk ((by rw [hg]; exact (below_size (by repeat (first | (with_reducible first | exact HB.out | apply lA | apply lN | apply lD) | exact HB.out))) : w.heap.size ≤ gb176))
                                 have n5_ := Aside0.mk ((by rw [hg]; exact (below_size (by repeat (first | (with_reducible first | exact HB.out | apply lA | apply lN | apply lD) | exact HB.out))) : w.heap.size ≤ gb176))
                                 clear HO_6
                                 clear HO_10
                                 clear HB
                                 have HO_6 := n0_
                                 have HO_10 := n1_
                                 have HB := n2_
                                 have BK176 := n3_
                                 have GW176 := n4_
                                 have GE176 := n5_
                                 clear n0_ n1_ n2_ n3_ n4_ n5_
                                 clear hb hbox hg
                                 refine hK.out _ _ ⟨HS0_, HS1_, ((HB.out.cell (World.block_lt_of_cell? _ _ hw172_0)).trans hw172_0), ((HB.out.cell (World.block_lt_of_cell? _ _ hw172_1)).trans hw172_1), ((HB.out.cell (World.block_lt_of_cell? _ _ hw172_2)).trans hw172_2), ((HB.out.cell (World.block_lt_of_cell? _ _ hw175_0)).trans hw175_0), ((HB.out.cell (World.block_lt_of_cell? _ _ hw175_1)).trans hw175_1), ((HB.out.cell (World.block_lt_of_cell? _ _ hw175_2)).trans hw175_2)⟩ (fun hHeld => ?_)
                                 clear hK K
                                 refine norm_ (a' := ?_) ?_ ?_
                                 rotate_left
                                 ·
                                  show Act.put _ (some 12) _ = _
                                  simp only [Act.put, sT, s0, sS, i64_w, i32_w]
                                  rfl
                                 exact norm_ (by first | (simp only [putAll, Act.put, sT, s0, sS]; done) | (simp only [putAll, Act.put, sT, s0, sS]; rfl)) (hJ6_18 (gb176) _ ⟨hHeld, (by (with_reducible repeat (first | apply rA | apply rN | apply rD)); exact Kd.R_mono HO_10.out (fun _ hk => hk.2)), (by (with_reducible repeat (first | apply rA | apply rN | apply rD)); exact HO_6.out), (by (with_reducible repeat first | apply bN | apply bD | apply bA); exact BK176.out), GW176.out, GE176.out, (by repeat (first | (with_reducible first | exact HB.out | apply lA | apply lN | apply lD | refine below_set ?_ GE176.out) | exact HB.out))⟩)
                                ·
                                 skip
                                 refine box_step ?hg (N := 13) ?hd (cs := #[.int .i64 0, .int .i64 0, .int .i64 0]) (t := 55) ?hr ?_; (case hd => rfl); (case hg => rfl); (case hr => first | (go_simp; done) | (go_simp; rfl))
                                 intro gb177 hg w55 hbox hb
                                 have HS0_ := (hb.cell (World.block_lt_of_cell? _ _ (hHeld.1))).trans (hHeld.1)
                                 have HS1_ := (hb.cell (World.block_lt_of_cell? _ _ (hHeld.2.1))).trans (hHeld.2.1)
                                 have n0_ := Aside0.mk (Kd.R_below (by (with_reducible repeat (first | apply rA | apply rN | apply rD)); exact HO_6.out) hb)
                                 have n1_ := Aside0.mk (Kd.R_below (Kd.R_elderB (by (with_reducible repeat (first | apply rA | apply rN | apply rD)); exact HO_10.out) gb177 (Nat.le_of_eq hg.symm)) hb)
                                 have n2_ := Aside0.mk (below_step (by repeat (first | (with_reducible first | exact HB.out | apply lA | apply lN | apply lD) | exact HB.out)) hb)
                                 have n3_ := Aside0.mk (hbox)
                                 have n4_ := Aside0.mk ((by rw [hg]; exact (below_size (by repeat (first | (with_reducible first | exact HB.out | apply lA | apply lN | apply lD) | exact HB.out))) : w.heap.size ≤ gb177))
                                 have n5_ := Aside0.mk ((by rw [hg]; exact (below_size (by repeat (first | (with_reducible first | exact HB.out | apply lA | apply lN | apply lD) | exact HB.out))) : w.heap.size ≤ gb177))
                                 clear HO_6
                                 clear HO_10
                                 clear HB
                                 have HO_6 := n0_
                                 have HO_10 := n1_
                                 have HB := n2_
                                 have BK177 := n3_
                                 have GW177 := n4_
                                 have GE177 := n5_
                                 clear n0_ n1_ n2_ n3_ n4_ n5_
                                 clear hb hbox hg
                                 refine hK.out _ _ ⟨HS0_, HS1_, ((HB.out.cell (World.block_lt_of_cell? _ _ hw172_0)).trans hw172_0), ((HB.out.cell (World.block_lt_of_cell? _ _ hw172_1)).trans hw172_1), ((HB.out.cell (World.block_lt_of_cell? _ _ hw172_2)).trans hw172_2), ((HB.out.cell (World.block_lt_of_cell? _ _ hw175_0)).trans hw175_0), ((HB.out.cell (World.block_lt_of_cell? _ _ hw175_1)).trans hw175_1), ((HB.out.cell (World.block_lt_of_cell? _ _ hw175_2)).trans hw175_2)⟩ (fun hHeld => ?_)
                                 clear hK K
                                 refine norm_ (a' := ?_) ?_ ?_
                                 rotate_left
                                 ·
                                  show Act.put _ (some 13) _ = _
                                  simp only [Act.put, sT, s0, sS, i64_w, i32_w]
                                  rfl
                                 exact norm_ (by first | (simp only [putAll, Act.put, sT, s0, sS]; done) | (simp only [putAll, Act.put, sT, s0, sS]; rfl)) (hJ6_19 (gb177) _ ⟨hHeld, (by (with_reducible repeat (first | apply rA | apply rN | apply rD)); exact Kd.R_mono HO_10.out (fun _ hk => hk.2)), (by (with_reducible repeat (first | apply rA | apply rN | apply rD)); exact HO_6.out), (by (with_reducible repeat first | apply bN | apply bD | apply bA); exact BK177.out), GW177.out, GE177.out, (by repeat (first | (with_reducible first | exact HB.out | apply lA | apply lN | apply lD | refine below_set ?_ GE177.out) | exact HB.out))⟩)
                              ·
                               skip
                               rintro ⟨gb176, gb177⟩ w56 ⟨hS_, h0_, h1_, h2_, h3_, h4_, h5_, h6_, h7_, h8_, h9_, h10_⟩
                               have n0_ : Aside0 (Kd.R k55 55 w56 w.heap.size (fun k_ => k_ ≠ gb176 ∧ k_ ≠ gb177) u10 x10_3) := ⟨h0_⟩
                               have n1_ : Aside0 (Kd.R (Kd.int .i64) 2 w56 w.heap.size (fun _ => True) (.slice (some ad170) x6_2.length co39) x6_2) := ⟨h1_⟩
                               have n2_ : Aside0 (w56.heap[gb176]? = some (.cells #[.int .i64 0, .int .i64 0, .int .i64 0] 55 (0, 0))) := ⟨h2_⟩
                               have n3_ : Aside0 (w56.heap[gb177]? = some (.cells #[.int .i64 0, .int .i64 0, .int .i64 0] 55 (0, 0))) := ⟨h3_⟩
                               have n4_ : Aside0 (w.heap.size ≤ gb176) := ⟨h4_⟩
                               have n5_ : Aside0 (w.heap.size ≤ gb176) := ⟨h5_⟩
                               have n6_ : Aside0 (gb177 ≠ gb176) := ⟨h6_⟩
                               have n7_ : Aside0 (gb176 ≠ gb177) := ⟨h7_⟩
                               have n8_ : Aside0 (w.heap.size ≤ gb177) := ⟨h8_⟩
                               have n9_ : Aside0 (w.heap.size ≤ gb177) := ⟨h9_⟩
                               have n10_ : Aside0 (Below w.heap.size w w56) := ⟨h10_⟩
                               clear HO_6
                               clear HO_10
                               clear HB
                               clear h0_ h1_ h2_ h3_ h4_ h5_ h6_ h7_ h8_ h9_ h10_
                               have HO_10 := n0_
                               have HO_6 := n1_
                               have BK176 := n2_
                               have BK177 := n3_
                               have GW176 := n4_
                               have GE176 := n5_
                               have NB177_176 := n6_
                               have NB176_177 := n7_
                               have GW177 := n8_
                               have GE177 := n9_
                               have HB := n10_
                               clear n0_ n1_ n2_ n3_ n4_ n5_ n6_ n7_ n8_ n9_ n10_
                               have hHeld : w56.cell? (ad170.add (x11_3).toNat) = some (.int .i64 (rd x6_2 x11_3)) ∧ w56.cell? (ad170.add (x11_3).toNat) = some (.int .i64 (rd x6_2 x11_3)) ∧ w56.cell? (ad160.add ((t171).toNat * 3)) = some (.int .i64 ((rd_T55 l0 t171).f0)) ∧ w56.cell? ⟨(ad160.add ((t171).toNat * 3)).block, (ad160.add ((t171).toNat * 3)).off + 1, none⟩ = some (.int .i64 ((rd_T55 l0 t171).f1)) ∧ w56.cell? ⟨(ad160.add ((t171).toNat * 3)).block, (ad160.add ((t171).toNat * 3)).off + 2, none⟩ = some (.int .i64 ((rd_T55 l0 t171).f2)) ∧ w56.cell? (ad161.add ((t174).toNat * 3)) = some (.int .i64 ((rd_T55 l1 t174).f0)) ∧ w56.cell? ⟨(ad161.add ((t174).toNat * 3)).block, (ad161.add ((t174).toNat * 3)).off + 1, none⟩ = some (.int .i64 ((rd_T55 l1 t174).f1)) ∧ w56.cell? ⟨(ad161.add ((t174).toNat * 3)).block, (ad161.add ((t174).toNat * 3)).off + 2, none⟩ = some (.int .i64 ((rd_T55 l1 t174).f2)) := hS_
                               refine norm_ (a' := ?_) ?_ ?_
                               rotate_left
                               ·
                                simp only [putAll, Act.put, sT, s0, sS]
                                rfl
                               refine one_ (i := 6) (N := some 79) #[true, true, true, true, true, true, true, false, false, true, true, true, true, true, true, false, false, false, true, true, false, false] rfl rfl (one_of HT_.out (by kernel_rfl)) (by decide) (fun K hK => ?_)
                               refine goes_ Try.func54 (by kernel_rfl) rfl #[.slice (some ad160) l0.length c0, .int .i64 (rd x6_2 x11_3)] (by rfl) rfl rfl (by (try simp only [List.map_toArray, List.map_cons, List.map_nil]); first | done | rfl | (go_simp; done) | simp) ?_
                               with_reducible refine (spec_l05Find.calls k3 _ _ l0 (rd x6_2 x11_3) t171 _ ?side1 ?side2 A44.out).mono ?_
                               (case side1 => repeat (first | exact (Kd.C_below HR0.out HB.out) | (with_reducible first | apply cA | apply cN | apply cD)))
                               (case side2 => exact HC0.out)
                               rintro e w' ⟨rfl, ⟨nd, rfl⟩⟩
                               refine ⟨_, rfl, ?_⟩
                               refine hK.out _ _ ⟨hHeld.1, hHeld.2.1, ((HB.out.cell (World.block_lt_of_cell? _ _ hw172_0)).trans hw172_0), ((HB.out.cell (World.block_lt_of_cell? _ _ hw172_1)).trans hw172_1), ((HB.out.cell (World.block_lt_of_cell? _ _ hw172_2)).trans hw172_2), ((HB.out.cell (World.block_lt_of_cell? _ _ hw175_0)).trans hw175_0), ((HB.out.cell (World.block_lt_of_cell? _ _ hw175_1)).trans hw175_1), ((HB.out.cell (World.block_lt_of_cell? _ _ hw175_2)).trans hw175_2)⟩ (fun hHeld => ?_)
                               clear hK K
                               refine norm_ (a' := ?_) ?_ ?_
                               rotate_left
                               ·
                                show Act.put _ (some 79) _ = _
                                simp only [Act.put, sT, s0, sS, i64_w, i32_w]
                                rfl
                               refine pure_ (i := 7) (N := some 80) (v := ?_) (a' := ?_) #[true, true, true, true, true, true, true, true, false, true, true, true, true, true, true, false, false, false, true, true, false, false] rfl rfl (any_of HT_.out (by kernel_rfl)) (fun _ _ _ h => h) (Or.inl ⟨by rfl, ?_⟩) ?_ ?_
                               rotate_left
                               ·
                                intro w'
                                go_simp
                                with_reducible rfl
                               rotate_left
                               ·
                                simp only [Act.put, sT, s0, sS, i64_w, i32_w]
                                rfl
                               refine take_ (i := 8) (N := some 81) (v := ?_) (a' := ?_) #[true, true, true, true, true, true, true, true, true, true, true, true, true, true, true, false, false, false, true, true, false, false] rfl rfl (take_ofW HT_.out HW_.out (by kernel_rfl)) (fun _ _ _ h => h) (Or.inl ⟨by rfl, ?_⟩) hHeld ?_ ?_
                               rotate_left
                               ·
                                rintro w' ⟨s0, s1, s2, s3, s4, s5, s6, s7⟩
                                go_simp
                                with_reducible rfl
                               rotate_left
                               ·
                                simp only [Act.put, sT, s0, sS, i64_w, i32_w]
                                rfl
                               exact norm_ (by first | (simp only [putAll, Act.put, sT, s0, sS]; done) | (simp only [putAll, Act.put, sT, s0, sS]; rfl)) (hJ6_18_19 (gb176, gb177) _ ⟨hHeld, (by (with_reducible repeat (first | apply rA | apply rN | apply rD)); exact HO_10.out), (by (with_reducible repeat (first | apply rA | apply rN | apply rD)); exact HO_6.out), (by (with_reducible repeat first | apply bN | apply bD | apply bA); exact BK176.out), (by (with_reducible repeat first | apply bN | apply bD | apply bA); exact BK177.out), GW176.out, GE176.out, NB177_176.out, NB176_177.out, GW177.out, GE177.out, (by repeat (first | (with_reducible first | exact HB.out | apply lA | apply lN | apply lD | refine below_set ?_ GE176.out | refine below_set ?_ GE177.out) | exact HB.out))⟩)
                             ·
                              skip
                              rintro gb177 w55 ⟨hS_, h0_, h1_, h2_, h3_, h4_, h5_⟩
                              have n0_ : Aside0 (Kd.R k55 55 w55 w.heap.size (fun k_ => k_ ≠ gb177) u10 x10_3) := ⟨h0_⟩
                              have n1_ : Aside0 (Kd.R (Kd.int .i64) 2 w55 w.heap.size (fun _ => True) (.slice (some ad170) x6_2.length co39) x6_2) := ⟨h1_⟩
                              have n2_ : Aside0 (w55.heap[gb177]? = some (.cells #[.int .i64 0, .int .i64 0, .int .i64 0] 55 (0, 0))) := ⟨h2_⟩
                              have n3_ : Aside0 (w.heap.size ≤ gb177) := ⟨h3_⟩
                              have n4_ : Aside0 (w.heap.size ≤ gb177) := ⟨h4_⟩
                              have n5_ : Aside0 (Below w.heap.size w w55) := ⟨h5_⟩
                              clear HO_6
                              clear HO_10
                              clear HB
                              clear h0_ h1_ h2_ h3_ h4_ h5_
                              have HO_10 := n0_
                              have HO_6 := n1_
                              have BK177 := n2_
                              have GW177 := n3_
                              have GE177 := n4_
                              have HB := n5_
                              clear n0_ n1_ n2_ n3_ n4_ n5_
                              have hHeld : w55.cell? (ad170.add (x11_3).toNat) = some (.int .i64 (rd x6_2 x11_3)) ∧ w55.cell? (ad170.add (x11_3).toNat) = some (.int .i64 (rd x6_2 x11_3)) ∧ w55.cell? (ad160.add ((t171).toNat * 3)) = some (.int .i64 ((rd_T55 l0 t171).f0)) ∧ w55.cell? ⟨(ad160.add ((t171).toNat * 3)).block, (ad160.add ((t171).toNat * 3)).off + 1, none⟩ = some (.int .i64 ((rd_T55 l0 t171).f1)) ∧ w55.cell? ⟨(ad160.add ((t171).toNat * 3)).block, (ad160.add ((t171).toNat * 3)).off + 2, none⟩ = some (.int .i64 ((rd_T55 l0 t171).f2)) ∧ w55.cell? (ad161.add ((t174).toNat * 3)) = some (.int .i64 ((rd_T55 l1 t174).f0)) ∧ w55.cell? ⟨(ad161.add ((t174).toNat * 3)).block, (ad161.add ((t174).toNat * 3)).off + 1, none⟩ = some (.int .i64 ((rd_T55 l1 t174).f1)) ∧ w55.cell? ⟨(ad161.add ((t174).toNat * 3)).block, (ad161.add ((t174).toNat * 3)).off + 2, none⟩ = some (.int .i64 ((rd_T55 l1 t174).f2)) := hS_
                              refine norm_ (a' := ?_) ?_ ?_
                              rotate_left
                              ·
                               simp only [putAll, Act.put, sT, s0, sS]
                               rfl
                              refine two_ (i := 15) (j := 18) (Ni := some 88) (Nj := some 12) #[true, true, true, true, true, true, true, true, true, true, true, true, true, true, true, true, false, false, false, true, false, false] #[true, true, true, true, true, true, true, true, true, true, true, true, true, true, true, false, false, false, true, true, false, false] rfl rfl rfl rfl (two_of HT_.out (by kernel_rfl)) (by decide) (by decide) (fun K hK => ?_) (fun K hK => ?_)
                              ·
                               skip
                               refine goes_ Try.func54 (by kernel_rfl) rfl #[.slice (some ad161) l1.length c1, .int .i64 (rd x6_2 x11_3)] (by rfl) rfl rfl (by (try simp only [List.map_toArray, List.map_cons, List.map_nil]); first | done | rfl | (go_simp; done) | simp) ?_
                               with_reducible refine (spec_l05Find.calls k3 _ _ l1 (rd x6_2 x11_3) t174 _ ?side1 ?side2 A47.out).mono ?_
                               (case side1 => repeat (first | exact (Kd.C_below HR1.out HB.out) | (with_reducible first | apply cA | apply cN | apply cD)))
                               (case side2 => exact HC1.out)
                               rintro e w' ⟨rfl, ⟨nd, rfl⟩⟩
                               refine ⟨_, rfl, ?_⟩
                               refine hK.out _ _ ⟨hHeld.1, hHeld.2.1, ((HB.out.cell (World.block_lt_of_cell? _ _ hw172_0)).trans hw172_0), ((HB.out.cell (World.block_lt_of_cell? _ _ hw172_1)).trans hw172_1), ((HB.out.cell (World.block_lt_of_cell? _ _ hw172_2)).trans hw172_2), ((HB.out.cell (World.block_lt_of_cell? _ _ hw175_0)).trans hw175_0), ((HB.out.cell (World.block_lt_of_cell? _ _ hw175_1)).trans hw175_1), ((HB.out.cell (World.block_lt_of_cell? _ _ hw175_2)).trans hw175_2)⟩ (fun hHeld => ?_)
                               clear hK K
                               refine norm_ (a' := ?_) ?_ ?_
                               rotate_left
                               ·
                                show Act.put _ (some 88) _ = _
                                simp only [Act.put, sT, s0, sS, i64_w, i32_w]
                                rfl
                               refine pure_ (i := 16) (N := some 89) (v := ?_) (a' := ?_) #[true, true, true, true, true, true, true, true, true, true, true, true, true, true, true, true, true, false, false, true, false, false] rfl rfl (any_of HT_.out (by kernel_rfl)) (fun _ _ _ h => h) (Or.inl ⟨by rfl, ?_⟩) ?_ ?_
                               rotate_left
                               ·
                                intro w'
                                go_simp
                                with_reducible rfl
                               rotate_left
                               ·
                                simp only [Act.put, sT, s0, sS, i64_w, i32_w]
                                rfl
                               refine take_ (i := 17) (N := some 90) (v := ?_) (a' := ?_) #[true, true, true, true, true, true, true, true, true, true, true, true, true, true, true, true, true, true, false, true, false, false] rfl rfl (take_ofW HT_.out HW_.out (by kernel_rfl)) (fun _ _ _ h => h) (Or.inl ⟨by rfl, ?_⟩) hHeld ?_ ?_
                               rotate_left
                               ·
                                rintro w' ⟨s0, s1, s2, s3, s4, s5, s6, s7⟩
                                go_simp
                                with_reducible rfl
                               rotate_left
                               ·
                                simp only [Act.put, sT, s0, sS, i64_w, i32_w]
                                rfl
                               exact norm_ (by first | (simp only [putAll, Act.put, sT, s0, sS]; done) | (simp only [putAll, Act.put, sT, s0, sS]; rfl)) (hJ6_15_19 (gb177) _ ⟨hHeld, (by (with_reducible repeat (first | apply rA | apply rN | apply rD)); exact HO_10.out), (by (with_reducible repeat (first | apply rA | apply rN | apply rD)); exact HO_6.out), (by (with_reducible repeat first | apply bN | apply bD | apply bA); exact BK177.out), GW177.out, GE177.out, (by repeat (first | (with_reducible first | exact HB.out | apply lA | apply lN | apply lD | refine below_set ?_ GE177.out) | exact HB.out))⟩)
                              ·
                               skip
                               refine box_step ?hg (N := 12) ?hd (cs := #[.int .i64 0, .int .i64 0, .int .i64 0]) (t := 55) ?hr ?_; (case hd => rfl); (case hg => rfl); (case hr => first | (go_simp; done) | (go_simp; rfl))
                               intro gb176 hg w56 hbox hb
                               have HS0_ := (hb.cell (World.block_lt_of_cell? _ _ (hHeld.1))).trans (hHeld.1)
                               have HS1_ := (hb.cell (World.block_lt_of_cell? _ _ (hHeld.2.1))).trans (hHeld.2.1)
                               have n0_ := Aside0.mk (Kd.R_below (by (with_reducible repeat (first | apply rA | apply rN | apply rD)); exact HO_6.out) hb)
                               have n1_ := Aside0.mk (Kd.R_below (Kd.R_elderB (by (with_reducible repeat (first | apply rA | apply rN | apply rD)); exact HO_10.out) gb176 (Nat.le_of_eq hg.symm)) hb)
                               have n2_ := Aside0.mk (blk_below (g := gb177) (o := .cells #[.int .i64 0, .int .i64 0, .int .i64 0] 55 (0, 0)) (by (with_reducible repeat first | apply bN | apply bD | apply bA); exact BK177.out) hb)
                               have n3_ := Aside0.mk (below_step (by repeat (first | (with_reducible first | exact HB.out | apply lA | apply lN | apply lD | refine below_set ?_ GE177.out) | exact HB.out)) hb)
                               have n4_ := Aside0.mk (hbox)
                               have n5_ := Aside0.mk ((by rw [hg]; exact (below_size (by repeat (first | (with_reducible first | exact HB.out | apply lA | apply lN | apply lD | refine below_set ?_ GE177.out) | exact HB.out))) : w.heap.size ≤ gb176))
                               have n6_ := Aside0.mk ((by rw [hg]; exact (below_size (by repeat (first | (with_reducible first | exact HB.out | apply lA | apply lN | apply lD | refine below_set ?_ GE177.out) | exact HB.out))) : w.heap.size ≤ gb176))
                               have n7_ := Aside0.mk ((by rw [hg]; exact Nat.ne_of_lt (blk_lt (g := gb177) (o := .cells #[.int .i64 0, .int .i64 0, .int .i64 0] 55 (0, 0)) (by (with_reducible repeat first | apply bN | apply bD | apply bA); exact BK177.out)) : gb177 ≠ gb176))
                               have n8_ := Aside0.mk ((by rw [hg]; exact Nat.ne_of_gt (blk_lt (g := gb177) (o := .cells #[.int .i64 0, .int .i64 0, .int .i64 0] 55 (0, 0)) (by (with_reducible repeat first | apply bN | apply bD | apply bA); exact BK177.out)) : gb176 ≠ gb177))
                               clear HO_6
                               clear HO_10
                               clear BK177
                               clear HB
                               have HO_6 := n0_
                               have HO_10 := n1_
                               have BK177 := n2_
                               have HB := n3_
                               have BK176 := n4_
                               have GW176 := n5_
                               have GE176 := n6_
                               have NB177_176 := n7_
                               have NB176_177 := n8_
                               clear n0_ n1_ n2_ n3_ n4_ n5_ n6_ n7_ n8_
                               clear hb hbox hg
                               refine hK.out _ _ ⟨HS0_, HS1_, ((HB.out.cell (World.block_lt_of_cell? _ _ hw172_0)).trans hw172_0), ((HB.out.cell (World.block_lt_of_cell? _ _ hw172_1)).trans hw172_1), ((HB.out.cell (World.block_lt_of_cell? _ _ hw172_2)).trans hw172_2), ((HB.out.cell (World.block_lt_of_cell? _ _ hw175_0)).trans hw175_0), ((HB.out.cell (World.block_lt_of_cell? _ _ hw175_1)).trans hw175_1), ((HB.out.cell (World.block_lt_of_cell? _ _ hw175_2)).trans hw175_2)⟩ (fun hHeld => ?_)
                               clear hK K
                               refine norm_ (a' := ?_) ?_ ?_
                               rotate_left
                               ·
                                show Act.put _ (some 12) _ = _
                                simp only [Act.put, sT, s0, sS, i64_w, i32_w]
                                rfl
                               exact norm_ (by first | (simp only [putAll, Act.put, sT, s0, sS]; done) | (simp only [putAll, Act.put, sT, s0, sS]; rfl)) (hJ6_18_19 (gb176, gb177) _ ⟨hHeld, (by (with_reducible repeat (first | apply rA | apply rN | apply rD)); exact Kd.R_mono HO_10.out (fun _ hk => ⟨hk.2, hk.1⟩)), (by (with_reducible repeat (first | apply rA | apply rN | apply rD)); exact HO_6.out), (by (with_reducible repeat first | apply bN | apply bD | apply bA); exact BK176.out), (by (with_reducible repeat first | apply bN | apply bD | apply bA); exact BK177.out), GW176.out, GE176.out, NB177_176.out, NB176_177.out, GW177.out, GE177.out, (by repeat (first | (with_reducible first | exact HB.out | apply lA | apply lN | apply lD | refine below_set ?_ GE177.out | refine below_set ?_ GE176.out) | exact HB.out))⟩)
                            ·
                             skip
                             rintro gb176 w55 ⟨hS_, h0_, h1_, h2_, h3_, h4_, h5_⟩
                             have n0_ : Aside0 (Kd.R k55 55 w55 w.heap.size (fun k_ => k_ ≠ gb176) u10 x10_3) := ⟨h0_⟩
                             have n1_ : Aside0 (Kd.R (Kd.int .i64) 2 w55 w.heap.size (fun _ => True) (.slice (some ad170) x6_2.length co39) x6_2) := ⟨h1_⟩
                             have n2_ : Aside0 (w55.heap[gb176]? = some (.cells #[.int .i64 0, .int .i64 0, .int .i64 0] 55 (0, 0))) := ⟨h2_⟩
                             have n3_ : Aside0 (w.heap.size ≤ gb176) := ⟨h3_⟩
                             have n4_ : Aside0 (w.heap.size ≤ gb176) := ⟨h4_⟩
                             have n5_ : Aside0 (Below w.heap.size w w55) := ⟨h5_⟩
                             clear HO_6
                             clear HO_10
                             clear HB
                             clear h0_ h1_ h2_ h3_ h4_ h5_
                             have HO_10 := n0_
                             have HO_6 := n1_
                             have BK176 := n2_
                             have GW176 := n3_
                             have GE176 := n4_
                             have HB := n5_
                             clear n0_ n1_ n2_ n3_ n4_ n5_
                             have hHeld : w55.cell? (ad170.add (x11_3).toNat) = some (.int .i64 (rd x6_2 x11_3)) ∧ w55.cell? (ad170.add (x11_3).toNat) = some (.int .i64 (rd x6_2 x11_3)) ∧ w55.cell? (ad160.add ((t171).toNat * 3)) = some (.int .i64 ((rd_T55 l0 t171).f0)) ∧ w55.cell? ⟨(ad160.add ((t171).toNat * 3)).block, (ad160.add ((t171).toNat * 3)).off + 1, none⟩ = some (.int .i64 ((rd_T55 l0 t171).f1)) ∧ w55.cell? ⟨(ad160.add ((t171).toNat * 3)).block, (ad160.add ((t171).toNat * 3)).off + 2, none⟩ = some (.int .i64 ((rd_T55 l0 t171).f2)) ∧ w55.cell? (ad161.add ((t174).toNat * 3)) = some (.int .i64 ((rd_T55 l1 t174).f0)) ∧ w55.cell? ⟨(ad161.add ((t174).toNat * 3)).block, (ad161.add ((t174).toNat * 3)).off + 1, none⟩ = some (.int .i64 ((rd_T55 l1 t174).f1)) ∧ w55.cell? ⟨(ad161.add ((t174).toNat * 3)).block, (ad161.add ((t174).toNat * 3)).off + 2, none⟩ = some (.int .i64 ((rd_T55 l1 t174).f2)) := hS_
                             refine norm_ (a' := ?_) ?_ ?_
                             rotate_left
                             ·
                              simp only [putAll, Act.put, sT, s0, sS]
                              rfl
                             refine two_ (i := 15) (j := 19) (Ni := some 88) (Nj := some 13) #[true, true, true, true, true, true, true, true, true, true, true, true, true, true, true, true, false, false, true, false, false, false] #[true, true, true, true, true, true, true, true, true, true, true, true, true, true, true, false, false, false, true, true, false, false] rfl rfl rfl rfl (two_of HT_.out (by kernel_rfl)) (by decide) (by decide) (fun K hK => ?_) (fun K hK => ?_)
                             ·
                              skip
                              refine goes_ Try.func54 (by kernel_rfl) rfl #[.slice (some ad161) l1.length c1, .int .i64 (rd x6_2 x11_3)] (by rfl) rfl rfl (by (try simp only [List.map_toArray, List.map_cons, List.map_nil]); first | done | rfl | (go_simp; done) | simp) ?_
                              with_reducible refine (spec_l05Find.calls k3 _ _ l1 (rd x6_2 x11_3) t174 _ ?side1 ?side2 A47.out).mono ?_
                              (case side1 => repeat (first | exact (Kd.C_below HR1.out HB.out) | (with_reducible first | apply cA | apply cN | apply cD)))
                              (case side2 => exact HC1.out)
                              rintro e w' ⟨rfl, ⟨nd, rfl⟩⟩
                              refine ⟨_, rfl, ?_⟩
                              refine hK.out _ _ ⟨hHeld.1, hHeld.2.1, ((HB.out.cell (World.block_lt_of_cell? _ _ hw172_0)).trans hw172_0), ((HB.out.cell (World.block_lt_of_cell? _ _ hw172_1)).trans hw172_1), ((HB.out.cell (World.block_lt_of_cell? _ _ hw172_2)).trans hw172_2), ((HB.out.cell (World.block_lt_of_cell? _ _ hw175_0)).trans hw175_0), ((HB.out.cell (World.block_lt_of_cell? _ _ hw175_1)).trans hw175_1), ((HB.out.cell (World.block_lt_of_cell? _ _ hw175_2)).trans hw175_2)⟩ (fun hHeld => ?_)
                              clear hK K
                              refine norm_ (a' := ?_) ?_ ?_
                              rotate_left
                              ·
                               show Act.put _ (some 88) _ = _
                               simp only [Act.put, sT, s0, sS, i64_w, i32_w]
                               rfl
                              refine pure_ (i := 16) (N := some 89) (v := ?_) (a' := ?_) #[true, true, true, true, true, true, true, true, true, true, true, true, true, true, true, true, true, false, true, false, false, false] rfl rfl (any_of HT_.out (by kernel_rfl)) (fun _ _ _ h => h) (Or.inl ⟨by rfl, ?_⟩) ?_ ?_
                              rotate_left
                              ·
                               intro w'
                               go_simp
                               with_reducible rfl
                              rotate_left
                              ·
                               simp only [Act.put, sT, s0, sS, i64_w, i32_w]
                               rfl
                              refine take_ (i := 17) (N := some 90) (v := ?_) (a' := ?_) #[true, true, true, true, true, true, true, true, true, true, true, true, true, true, true, true, true, true, true, false, false, false] rfl rfl (take_ofW HT_.out HW_.out (by kernel_rfl)) (fun _ _ _ h => h) (Or.inl ⟨by rfl, ?_⟩) hHeld ?_ ?_
                              rotate_left
                              ·
                               rintro w' ⟨s0, s1, s2, s3, s4, s5, s6, s7⟩
                               go_simp
                               with_reducible rfl
                              rotate_left
                              ·
                               simp only [Act.put, sT, s0, sS, i64_w, i32_w]
                               rfl
                              exact norm_ (by first | (simp only [putAll, Act.put, sT, s0, sS]; done) | (simp only [putAll, Act.put, sT, s0, sS]; rfl)) (hJ6_15_18 (gb176) _ ⟨hHeld, (by (with_reducible repeat (first | apply rA | apply rN | apply rD)); exact HO_10.out), (by (with_reducible repeat (first | apply rA | apply rN | apply rD)); exact HO_6.out), (by (with_reducible repeat first | apply bN | apply bD | apply bA); exact BK176.out), GW176.out, GE176.out, (by repeat (first | (with_reducible first | exact HB.out | apply lA | apply lN | apply lD | refine below_set ?_ GE176.out) | exact HB.out))⟩)
                             ·
                              skip
                              refine box_step ?hg (N := 13) ?hd (cs := #[.int .i64 0, .int .i64 0, .int .i64 0]) (t := 55) ?hr ?_; (case hd => rfl); (case hg => rfl); (case hr => first | (go_simp; done) | (go_simp; rfl))
                              intro gb177 hg w56 hbox hb
                              have HS0_ := (hb.cell (World.block_lt_of_cell? _ _ (hHeld.1))).trans (hHeld.1)
                              have HS1_ := (hb.cell (World.block_lt_of_cell? _ _ (hHeld.2.1))).trans (hHeld.2.1)
                              have n0_ := Aside0.mk (Kd.R_below (by (with_reducible repeat (first | apply rA | apply rN | apply rD)); exact HO_6.out) hb)
                              have n1_ := Aside0.mk (Kd.R_below (Kd.R_elderB (by (with_reducible repeat (first | apply rA | apply rN | apply rD)); exact HO_10.out) gb177 (Nat.le_of_eq hg.symm)) hb)
                              have n2_ := Aside0.mk (blk_below (g := gb176) (o := .cells #[.int .i64 0, .int .i64 0, .int .i64 0] 55 (0, 0)) (by (with_reducible repeat first | apply bN | apply bD | apply bA); exact BK176.out) hb)
                              have n3_ := Aside0.mk (below_step (by repeat (first | (with_reducible first | exact HB.out | apply lA | apply lN | apply lD | refine below_set ?_ GE176.out) | exact HB.out)) hb)
                              have n4_ := Aside0.mk (hbox)
                              have n5_ := Aside0.mk ((by rw [hg]; exact (below_size (by repeat (first | (with_reducible first | exact HB.out | apply lA | apply lN | apply lD | refine below_set ?_ GE176.out) | exact HB.out))) : w.heap.size ≤ gb177))
                              have n6_ := Aside0.mk ((by rw [hg]; exact (below_size (by repeat (first | (with_reducible first | exact HB.out | apply lA | apply lN | apply lD | refine below_set ?_ GE176.out) | exact HB.out))) : w.heap.size ≤ gb177))
                              have n7_ := Aside0.mk ((by rw [hg]; exact Nat.ne_of_lt (blk_lt (g := gb176) (o := .cells #[.int .i64 0, .int .i64 0, .int .i64 0] 55 (0, 0)) (by (with_reducible repeat first | apply bN | apply bD | apply bA); exact BK176.out)) : gb176 ≠ gb177))
                              have n8_ := Aside0.mk ((by rw [hg]; exact Nat.ne_of_gt (blk_lt (g := gb176) (o := .cells #[.int .i64 0, .int .i64 0, .int .i64 0] 55 (0, 0)) (by (with_reducible repeat first | apply bN | apply bD | apply bA); exact BK176.out)) : gb177 ≠ gb176))
                              clear HO_6
                              clear HO_10
                              clear BK176
                              clear HB
                              have HO_6 := n0_
                              have HO_10 := n1_
                              have BK176 := n2_
                              have HB := n3_
                              have BK177 := n4_
                              have GW177 := n5_
                              have GE177 := n6_
                              have NB176_177 := n7_
                              have NB177_176 := n8_
                              clear n0_ n1_ n2_ n3_ n4_ n5_ n6_ n7_ n8_
                              clear hb hbox hg
                              refine hK.out _ _ ⟨HS0_, HS1_, ((HB.out.cell (World.block_lt_of_cell? _ _ hw172_0)).trans hw172_0), ((HB.out.cell (World.block_lt_of_cell? _ _ hw172_1)).trans hw172_1), ((HB.out.cell (World.block_lt_of_cell? _ _ hw172_2)).trans hw172_2), ((HB.out.cell (World.block_lt_of_cell? _ _ hw175_0)).trans hw175_0), ((HB.out.cell (World.block_lt_of_cell? _ _ hw175_1)).trans hw175_1), ((HB.out.cell (World.block_lt_of_cell? _ _ hw175_2)).trans hw175_2)⟩ (fun hHeld => ?_)
                              clear hK K
                              refine norm_ (a' := ?_) ?_ ?_
                              rotate_left
                              ·
                               show Act.put _ (some 13) _ = _
                               simp only [Act.put, sT, s0, sS, i64_w, i32_w]
                               rfl
                              exact norm_ (by first | (simp only [putAll, Act.put, sT, s0, sS]; done) | (simp only [putAll, Act.put, sT, s0, sS]; rfl)) (hJ6_18_19 (gb176, gb177) _ ⟨hHeld, (by (with_reducible repeat (first | apply rA | apply rN | apply rD)); exact HO_10.out), (by (with_reducible repeat (first | apply rA | apply rN | apply rD)); exact HO_6.out), (by (with_reducible repeat first | apply bN | apply bD | apply bA); exact BK176.out), (by (with_reducible repeat first | apply bN | apply bD | apply bA); exact BK177.out), GW176.out, GE176.out, NB177_176.out, NB176_177.out, GW177.out, GE177.out, (by repeat (first | (with_reducible first | exact HB.out | apply lA | apply lN | apply lD | refine below_set ?_ GE176.out | refine below_set ?_ GE177.out) | exact HB.out))⟩)
                           ·
                            skip
                            rintro _ w54 ⟨hS_, h0_, h1_, h2_⟩
                            have n0_ : Aside0 (Kd.R k55 55 w54 w.heap.size (fun _ => True) u10 x10_3) := ⟨h0_⟩
                            have n1_ : Aside0 (Kd.R (Kd.int .i64) 2 w54 w.heap.size (fun _ => True) (.slice (some ad170) x6_2.length co39) x6_2) := ⟨h1_⟩
                            have n2_ : Aside0 (Below w.heap.size w w54) := ⟨h2_⟩
                            clear HO_6
                            clear HO_10
                            clear HB
                            clear h0_ h1_ h2_
                            have HO_10 := n0_
                            have HO_6 := n1_
                            have HB := n2_
                            clear n0_ n1_ n2_
                            have hHeld : w54.cell? (ad170.add (x11_3).toNat) = some (.int .i64 (rd x6_2 x11_3)) ∧ w54.cell? (ad170.add (x11_3).toNat) = some (.int .i64 (rd x6_2 x11_3)) ∧ w54.cell? (ad160.add ((t171).toNat * 3)) = some (.int .i64 ((rd_T55 l0 t171).f0)) ∧ w54.cell? ⟨(ad160.add ((t171).toNat * 3)).block, (ad160.add ((t171).toNat * 3)).off + 1, none⟩ = some (.int .i64 ((rd_T55 l0 t171).f1)) ∧ w54.cell? ⟨(ad160.add ((t171).toNat * 3)).block, (ad160.add ((t171).toNat * 3)).off + 2, none⟩ = some (.int .i64 ((rd_T55 l0 t171).f2)) ∧ w54.cell? (ad161.add ((t174).toNat * 3)) = some (.int .i64 ((rd_T55 l1 t174).f0)) ∧ w54.cell? ⟨(ad161.add ((t174).toNat * 3)).block, (ad161.add ((t174).toNat * 3)).off + 1, none⟩ = some (.int .i64 ((rd_T55 l1 t174).f1)) ∧ w54.cell? ⟨(ad161.add ((t174).toNat * 3)).block, (ad161.add ((t174).toNat * 3)).off + 2, none⟩ = some (.int .i64 ((rd_T55 l1 t174).f2)) := hS_
                            refine norm_ (a' := ?_) ?_ ?_
                            rotate_left
                            ·
                             simp only [putAll, Act.put, sT, s0, sS]
                             rfl
                            refine two_ (i := 18) (j := 19) (Ni := some 12) (Nj := some 13) #[true, true, true, true, true, true, true, true, true, true, true, true, true, true, true, true, true, true, true, false, false, false] #[true, true, true, true, true, true, true, true, true, true, true, true, true, true, true, true, true, true, false, true, false, false] rfl rfl rfl rfl (two_of HT_.out (by kernel_rfl)) (by decide) (by decide) (fun K hK => ?_) (fun K hK => ?_)
                            ·
                             skip
                             refine box_step ?hg (N := 12) ?hd (cs := #[.int .i64 0, .int .i64 0, .int .i64 0]) (t := 55) ?hr ?_; (case hd => rfl); (case hg => rfl); (case hr => first | (go_simp; done) | (go_simp; rfl))
                             intro gb176 hg w55 hbox hb
                             have HS0_ := (hb.cell (World.block_lt_of_cell? _ _ (hHeld.1))).trans (hHeld.1)
                             have HS1_ := (hb.cell (World.block_lt_of_cell? _ _ (hHeld.2.1))).trans (hHeld.2.1)
                             have n0_ := Aside0.mk (Kd.R_below (by (with_reducible repeat (first | apply rA | apply rN | apply rD)); exact HO_6.out) hb)
                             have n1_ := Aside0.mk (Kd.R_below (Kd.R_elderB (by (with_reducible repeat (first | apply rA | apply rN | apply rD)); exact HO_10.out) gb176 (Nat.le_of_eq hg.symm)) hb)
                             have n2_ := Aside0.mk (below_step (by repeat (first | (with_reducible first | exact HB.out | apply lA | apply lN | apply lD) | exact HB.out)) hb)
                             have n3_ := Aside0.mk (hbox)
                             have n4_ := Aside0.mk ((by rw [hg]; exact (below_size (by repeat (first | (with_reducible first | exact HB.out | apply lA | apply lN | apply lD) | exact HB.out))) : w.heap.size ≤ gb176))
                             have n5_ := Aside0.mk ((by rw [hg]; exact (below_size (by repeat (first | (with_reducible first | exact HB.out | apply lA | apply lN | apply lD) | exact HB.out))) : w.heap.size ≤ gb176))
                             clear HO_6
                             clear HO_10
                             clear HB
                             have HO_6 := n0_
                             have HO_10 := n1_
                             have HB := n2_
                             have BK176 := n3_
                             have GW176 := n4_
                             have GE176 := n5_
                             clear n0_ n1_ n2_ n3_ n4_ n5_
                             clear hb hbox hg
                             refine hK.out _ _ ⟨HS0_, HS1_, ((HB.out.cell (World.block_lt_of_cell? _ _ hw172_0)).trans hw172_0), ((HB.out.cell (World.block_lt_of_cell? _ _ hw172_1)).trans hw172_1), ((HB.out.cell (World.block_lt_of_cell? _ _ hw172_2)).trans hw172_2), ((HB.out.cell (World.block_lt_of_cell? _ _ hw175_0)).trans hw175_0), ((HB.out.cell (World.block_lt_of_cell? _ _ hw175_1)).trans hw175_1), ((HB.out.cell (World.block_lt_of_cell? _ _ hw175_2)).trans hw175_2)⟩ (fun hHeld => ?_)
                             clear hK K
                             refine norm_ (a' := ?_) ?_ ?_
                             rotate_left
                             ·
                              show Act.put _ (some 12) _ = _
                              simp only [Act.put, sT, s0, sS, i64_w, i32_w]
                              rfl
                             exact norm_ (by first | (simp only [putAll, Act.put, sT, s0, sS]; done) | (simp only [putAll, Act.put, sT, s0, sS]; rfl)) (hJ6_15_18 (gb176) _ ⟨hHeld, (by (with_reducible repeat (first | apply rA | apply rN | apply rD)); exact Kd.R_mono HO_10.out (fun _ hk => hk.2)), (by (with_reducible repeat (first | apply rA | apply rN | apply rD)); exact HO_6.out), (by (with_reducible repeat first | apply bN | apply bD | apply bA); exact BK176.out), GW176.out, GE176.out, (by repeat (first | (with_reducible first | exact HB.out | apply lA | apply lN | apply lD | refine below_set ?_ GE176.out) | exact HB.out))⟩)
                            ·
                             skip
                             refine box_step ?hg (N := 13) ?hd (cs := #[.int .i64 0, .int .i64 0, .int .i64 0]) (t := 55) ?hr ?_; (case hd => rfl); (case hg => rfl); (case hr => first | (go_simp; done) | (go_simp; rfl))
                             intro gb177 hg w55 hbox hb
                             have HS0_ := (hb.cell (World.block_lt_of_cell? _ _ (hHeld.1))).trans (hHeld.1)
                             have HS1_ := (hb.cell (World.block_lt_of_cell? _ _ (hHeld.2.1))).trans (hHeld.2.1)
                             have n0_ := Aside0.mk (Kd.R_below (by (with_reducible repeat (first | apply rA | apply rN | apply rD)); exact HO_6.out) hb)
                             have n1_ := Aside0.mk (Kd.R_below (Kd.R_elderB (by (with_reducible repeat (first | apply rA | apply rN | apply rD)); exact HO_10.out) gb177 (Nat.le_of_eq hg.symm)) hb)
                             have n2_ := Aside0.mk (below_step (by repeat (first | (with_reducible first | exact HB.out | apply lA | apply lN | apply lD) | exact HB.out)) hb)
                             have n3_ := Aside0.mk (hbox)
                             have n4_ := Aside0.mk ((by rw [hg]; exact (below_size (by repeat (first | (with_reducible first | exact HB.out | apply lA | apply lN | apply lD) | exact HB.out))) : w.heap.size ≤ gb177))
                             have n5_ := Aside0.mk ((by rw [hg]; exact (below_size (by repeat (first | (with_reducible first | exact HB.out | apply lA | apply lN | apply lD) | exact HB.out))) : w.heap.size ≤ gb177))
                             clear HO_6
                             clear HO_10
                             clear HB
                             have HO_6 := n0_
                             have HO_10 := n1_
                             have HB := n2_
                             have BK177 := n3_
                             have GW177 := n4_
                             have GE177 := n5_
                             clear n0_ n1_ n2_ n3_ n4_ n5_
                             clear hb hbox hg
                             refine hK.out _ _ ⟨HS0_, HS1_, ((HB.out.cell (World.block_lt_of_cell? _ _ hw172_0)).trans hw172_0), ((HB.out.cell (World.block_lt_of_cell? _ _ hw172_1)).trans hw172_1), ((HB.out.cell (World.block_lt_of_cell? _ _ hw172_2)).trans hw172_2), ((HB.out.cell (World.block_lt_of_cell? _ _ hw175_0)).trans hw175_0), ((HB.out.cell (World.block_lt_of_cell? _ _ hw175_1)).trans hw175_1), ((HB.out.cell (World.block_lt_of_cell? _ _ hw175_2)).trans hw175_2)⟩ (fun hHeld => ?_)
                             clear hK K
                             refine norm_ (a' := ?_) ?_ ?_
                             rotate_left
                             ·
                              show Act.put _ (some 13) _ = _
                              simp only [Act.put, sT, s0, sS, i64_w, i32_w]
                              rfl
                             exact norm_ (by first | (simp only [putAll, Act.put, sT, s0, sS]; done) | (simp only [putAll, Act.put, sT, s0, sS]; rfl)) (hJ6_15_19 (gb177) _ ⟨hHeld, (by (with_reducible repeat (first | apply rA | apply rN | apply rD)); exact Kd.R_mono HO_10.out (fun _ hk => hk.2)), (by (with_reducible repeat (first | apply rA | apply rN | apply rD)); exact HO_6.out), (by (with_reducible repeat first | apply bN | apply bD | apply bA); exact BK177.out), GW177.out, GE177.out, (by repeat (first | (with_reducible first | exact HB.out | apply lA | apply lN | apply lD | refine below_set ?_ GE177.out) | exact HB.out))⟩)
                          ·
                           skip
                           rintro ⟨gb176, gb177⟩ w56 ⟨hS_, h0_, h1_, h2_, h3_, h4_, h5_, h6_, h7_, h8_, h9_, h10_⟩
                           have n0_ : Aside0 (Kd.R k55 55 w56 w.heap.size (fun k_ => k_ ≠ gb176 ∧ k_ ≠ gb177) u10 x10_3) := ⟨h0_⟩
                           have n1_ : Aside0 (Kd.R (Kd.int .i64) 2 w56 w.heap.size (fun _ => True) (.slice (some ad170) x6_2.length co39) x6_2) := ⟨h1_⟩
                           have n2_ : Aside0 (w56.heap[gb176]? = some (.cells #[.int .i64 0, .int .i64 0, .int .i64 0] 55 (0, 0))) := ⟨h2_⟩
                           have n3_ : Aside0 (w56.heap[gb177]? = some (.cells #[.int .i64 0, .int .i64 0, .int .i64 0] 55 (0, 0))) := ⟨h3_⟩
                           have n4_ : Aside0 (w.heap.size ≤ gb176) := ⟨h4_⟩
                           have n5_ : Aside0 (w.heap.size ≤ gb176) := ⟨h5_⟩
                           have n6_ : Aside0 (gb177 ≠ gb176) := ⟨h6_⟩
                           have n7_ : Aside0 (gb176 ≠ gb177) := ⟨h7_⟩
                           have n8_ : Aside0 (w.heap.size ≤ gb177) := ⟨h8_⟩
                           have n9_ : Aside0 (w.heap.size ≤ gb177) := ⟨h9_⟩
                           have n10_ : Aside0 (Below w.heap.size w w56) := ⟨h10_⟩
                           clear HO_6
                           clear HO_10
                           clear HB
                           clear h0_ h1_ h2_ h3_ h4_ h5_ h6_ h7_ h8_ h9_ h10_
                           have HO_10 := n0_
                           have HO_6 := n1_
                           have BK176 := n2_
                           have BK177 := n3_
                           have GW176 := n4_
                           have GE176 := n5_
                           have NB177_176 := n6_
                           have NB176_177 := n7_
                           have GW177 := n8_
                           have GE177 := n9_
                           have HB := n10_
                           clear n0_ n1_ n2_ n3_ n4_ n5_ n6_ n7_ n8_ n9_ n10_
                           have hHeld : w56.cell? (ad170.add (x11_3).toNat) = some (.int .i64 (rd x6_2 x11_3)) ∧ w56.cell? (ad170.add (x11_3).toNat) = some (.int .i64 (rd x6_2 x11_3)) ∧ w56.cell? (ad160.add ((t171).toNat * 3)) = some (.int .i64 ((rd_T55 l0 t171).f0)) ∧ w56.cell? ⟨(ad160.add ((t171).toNat * 3)).block, (ad160.add ((t171).toNat * 3)).off + 1, none⟩ = some (.int .i64 ((rd_T55 l0 t171).f1)) ∧ w56.cell? ⟨(ad160.add ((t171).toNat * 3)).block, (ad160.add ((t171).toNat * 3)).off + 2, none⟩ = some (.int .i64 ((rd_T55 l0 t171).f2)) ∧ w56.cell? (ad161.add ((t174).toNat * 3)) = some (.int .i64 ((rd_T55 l1 t174).f0)) ∧ w56.cell? ⟨(ad161.add ((t174).toNat * 3)).block, (ad161.add ((t174).toNat * 3)).off + 1, none⟩ = some (.int .i64 ((rd_T55 l1 t174).f1)) ∧ w56.cell? ⟨(ad161.add ((t174).toNat * 3)).block, (ad161.add ((t174).toNat * 3)).off + 2, none⟩ = some (.int .i64 ((rd_T55 l1 t174).f2)) := hS_
                           refine norm_ (a' := ?_) ?_ ?_
                           rotate_left
                           ·
                            simp only [putAll, Act.put, sT, s0, sS]
                            rfl
                           refine one_ (i := 15) (N := some 88) #[true, true, true, true, true, true, true, true, true, true, true, true, true, true, true, true, false, false, true, true, false, false] rfl rfl (one_of HT_.out (by kernel_rfl)) (by decide) (fun K hK => ?_)
                           refine goes_ Try.func54 (by kernel_rfl) rfl #[.slice (some ad161) l1.length c1, .int .i64 (rd x6_2 x11_3)] (by rfl) rfl rfl (by (try simp only [List.map_toArray, List.map_cons, List.map_nil]); first | done | rfl | (go_simp; done) | simp) ?_
                           with_reducible refine (spec_l05Find.calls k3 _ _ l1 (rd x6_2 x11_3) t174 _ ?side1 ?side2 A47.out).mono ?_
                           (case side1 => repeat (first | exact (Kd.C_below HR1.out HB.out) | (with_reducible first | apply cA | apply cN | apply cD)))
                           (case side2 => exact HC1.out)
                           rintro e w' ⟨rfl, ⟨nd, rfl⟩⟩
                           refine ⟨_, rfl, ?_⟩
                           refine hK.out _ _ ⟨hHeld.1, hHeld.2.1, ((HB.out.cell (World.block_lt_of_cell? _ _ hw172_0)).trans hw172_0), ((HB.out.cell (World.block_lt_of_cell? _ _ hw172_1)).trans hw172_1), ((HB.out.cell (World.block_lt_of_cell? _ _ hw172_2)).trans hw172_2), ((HB.out.cell (World.block_lt_of_cell? _ _ hw175_0)).trans hw175_0), ((HB.out.cell (World.block_lt_of_cell? _ _ hw175_1)).trans hw175_1), ((HB.out.cell (World.block_lt_of_cell? _ _ hw175_2)).trans hw175_2)⟩ (fun hHeld => ?_)
                           clear hK K
                           refine norm_ (a' := ?_) ?_ ?_
                           rotate_left
                           ·
                            show Act.put _ (some 88) _ = _
                            simp only [Act.put, sT, s0, sS, i64_w, i32_w]
                            rfl
                           refine pure_ (i := 16) (N := some 89) (v := ?_) (a' := ?_) #[true, true, true, true, true, true, true, true, true, true, true, true, true, true, true, true, true, false, true, true, false, false] rfl rfl (any_of HT_.out (by kernel_rfl)) (fun _ _ _ h => h) (Or.inl ⟨by rfl, ?_⟩) ?_ ?_
                           rotate_left
                           ·
                            intro w'
                            go_simp
                            with_reducible rfl
                           rotate_left
                           ·
                            simp only [Act.put, sT, s0, sS, i64_w, i32_w]
                            rfl
                           refine take_ (i := 17) (N := some 90) (v := ?_) (a' := ?_) #[true, true, true, true, true, true, true, true, true, true, true, true, true, true, true, true, true, true, true, true, false, false] rfl rfl (take_ofW HT_.out HW_.out (by kernel_rfl)) (fun _ _ _ h => h) (Or.inl ⟨by rfl, ?_⟩) hHeld ?_ ?_
                           rotate_left
                           ·
                            rintro w' ⟨s0, s1, s2, s3, s4, s5, s6, s7⟩
                            go_simp
                            with_reducible rfl
                           rotate_left
                           ·
                            simp only [Act.put, sT, s0, sS, i64_w, i32_w]
                            rfl
                           exact norm_ (by first | (simp only [putAll, Act.put, sT, s0, sS]; done) | (simp only [putAll, Act.put, sT, s0, sS]; rfl)) (hJ6_15_18_19 (gb176, gb177) _ ⟨hHeld, (by (with_reducible repeat (first | apply rA | apply rN | apply rD)); exact HO_10.out), (by (with_reducible repeat (first | apply rA | apply rN | apply rD)); exact HO_6.out), (by (with_reducible repeat first | apply bN | apply bD | apply bA); exact BK176.out), (by (with_reducible repeat first | apply bN | apply bD | apply bA); exact BK177.out), GW176.out, GE176.out, NB177_176.out, NB176_177.out, GW177.out, GE177.out, (by repeat (first | (with_reducible first | exact HB.out | apply lA | apply lN | apply lD | refine below_set ?_ GE176.out | refine below_set ?_ GE177.out) | exact HB.out))⟩)
                         ·
                          skip
                          rintro gb177 w55 ⟨hS_, h0_, h1_, h2_, h3_, h4_, h5_⟩
                          have n0_ : Aside0 (Kd.R k55 55 w55 w.heap.size (fun k_ => k_ ≠ gb177) u10 x10_3) := ⟨h0_⟩
                          have n1_ : Aside0 (Kd.R (Kd.int .i64) 2 w55 w.heap.size (fun _ => True) (.slice (some ad170) x6_2.length co39) x6_2) := ⟨h1_⟩
                          have n2_ : Aside0 (w55.heap[gb177]? = some (.cells #[.int .i64 0, .int .i64 0, .int .i64 0] 55 (0, 0))) := ⟨h2_⟩
                          have n3_ : Aside0 (w.heap.size ≤ gb177) := ⟨h3_⟩
                          have n4_ : Aside0 (w.heap.size ≤ gb177) := ⟨h4_⟩
                          have n5_ : Aside0 (Below w.heap.size w w55) := ⟨h5_⟩
                          clear HO_6
                          clear HO_10
                          clear HB
                          clear h0_ h1_ h2_ h3_ h4_ h5_
                          have HO_10 := n0_
                          have HO_6 := n1_
                          have BK177 := n2_
                          have GW177 := n3_
                          have GE177 := n4_
                          have HB := n5_
                          clear n0_ n1_ n2_ n3_ n4_ n5_
                          have hHeld : w55.cell? (ad170.add (x11_3).toNat) = some (.int .i64 (rd x6_2 x11_3)) ∧ w55.cell? (ad170.add (x11_3).toNat) = some (.int .i64 (rd x6_2 x11_3)) ∧ w55.cell? (ad160.add ((t171).toNat * 3)) = some (.int .i64 ((rd_T55 l0 t171).f0)) ∧ w55.cell? ⟨(ad160.add ((t171).toNat * 3)).block, (ad160.add ((t171).toNat * 3)).off + 1, none⟩ = some (.int .i64 ((rd_T55 l0 t171).f1)) ∧ w55.cell? ⟨(ad160.add ((t171).toNat * 3)).block, (ad160.add ((t171).toNat * 3)).off + 2, none⟩ = some (.int .i64 ((rd_T55 l0 t171).f2)) ∧ w55.cell? (ad161.add ((t174).toNat * 3)) = some (.int .i64 ((rd_T55 l1 t174).f0)) ∧ w55.cell? ⟨(ad161.add ((t174).toNat * 3)).block, (ad161.add ((t174).toNat * 3)).off + 1, none⟩ = some (.int .i64 ((rd_T55 l1 t174).f1)) ∧ w55.cell? ⟨(ad161.add ((t174).toNat * 3)).block, (ad161.add ((t174).toNat * 3)).off + 2, none⟩ = some (.int .i64 ((rd_T55 l1 t174).f2)) := hS_
                          refine norm_ (a' := ?_) ?_ ?_
                          rotate_left
                          ·
                           simp only [putAll, Act.put, sT, s0, sS]
                           rfl
                          refine one_ (i := 18) (N := some 12) #[true, true, true, true, true, true, true, true, true, true, true, true, true, true, true, true, true, true, true, true, false, false] rfl rfl (one_of HT_.out (by kernel_rfl)) (by decide) (fun K hK => ?_)
                          refine box_step ?hg (N := 12) ?hd (cs := #[.int .i64 0, .int .i64 0, .int .i64 0]) (t := 55) ?hr ?_; (case hd => rfl); (case hg => rfl); (case hr => first | (go_simp; done) | (go_simp; rfl))
                          intro gb176 hg w56 hbox hb
                          have HS0_ := (hb.cell (World.block_lt_of_cell? _ _ (hHeld.1))).trans (hHeld.1)
                          have HS1_ := (hb.cell (World.block_lt_of_cell? _ _ (hHeld.2.1))).trans (hHeld.2.1)
                          have n0_ := Aside0.mk (Kd.R_below (by (with_reducible repeat (first | apply rA | apply rN | apply rD)); exact HO_6.out) hb)
                          have n1_ := Aside0.mk (Kd.R_below (Kd.R_elderB (by (with_reducible repeat (first | apply rA | apply rN | apply rD)); exact HO_10.out) gb176 (Nat.le_of_eq hg.symm)) hb)
                          have n2_ := Aside0.mk (blk_below (g := gb177) (o := .cells #[.int .i64 0, .int .i64 0, .int .i64 0] 55 (0, 0)) (by (with_reducible repeat first | apply bN | apply bD | apply bA); exact BK177.out) hb)
                          have n3_ := Aside0.mk (below_step (by repeat (first | (with_reducible first | exact HB.out | apply lA | apply lN | apply lD | refine below_set ?_ GE177.out) | exact HB.out)) hb)
                          have n4_ := Aside0.mk (hbox)
                          have n5_ := Aside0.mk ((by rw [hg]; exact (below_size (by repeat (first | (with_reducible first | exact HB.out | apply lA | apply lN | apply lD | refine below_set ?_ GE177.out) | exact HB.out))) : w.heap.size ≤ gb176))
                          have n6_ := Aside0.mk ((by rw [hg]; exact (below_size (by repeat (first | (with_reducible first | exact HB.out | apply lA | apply lN | apply lD | refine below_set ?_ GE177.out) | exact HB.out))) : w.heap.size ≤ gb176))
                          have n7_ := Aside0.mk ((by rw [hg]; exact Nat.ne_of_lt (blk_lt (g := gb177) (o := .cells #[.int .i64 0, .int .i64 0, .int .i64 0] 55 (0, 0)) (by (with_reducible repeat first | apply bN | apply bD | apply bA); exact BK177.out)) : gb177 ≠ gb176))
                          have n8_ := Aside0.mk ((by rw [hg]; exact Nat.ne_of_gt (blk_lt (g := gb177) (o := .cells #[.int .i64 0, .int .i64 0, .int .i64 0] 55 (0, 0)) (by (with_reducible repeat first | apply bN | apply bD | apply bA); exact BK177.out)) : gb176 ≠ gb177))
                          clear HO_6
                          clear HO_10
                          clear BK177
                          clear HB
                          have HO_6 := n0_
                          have HO_10 := n1_
                          have BK177 := n2_
                          have HB := n3_
                          have BK176 := n4_
                          have GW176 := n5_
                          have GE176 := n6_
                          have NB177_176 := n7_
                          have NB176_177 := n8_
                          clear n0_ n1_ n2_ n3_ n4_ n5_ n6_ n7_ n8_
                          clear hb hbox hg
                          refine hK.out _ _ ⟨HS0_, HS1_, ((HB.out.cell (World.block_lt_of_cell? _ _ hw172_0)).trans hw172_0), ((HB.out.cell (World.block_lt_of_cell? _ _ hw172_1)).trans hw172_1), ((HB.out.cell (World.block_lt_of_cell? _ _ hw172_2)).trans hw172_2), ((HB.out.cell (World.block_lt_of_cell? _ _ hw175_0)).trans hw175_0), ((HB.out.cell (World.block_lt_of_cell? _ _ hw175_1)).trans hw175_1), ((HB.out.cell (World.block_lt_of_cell? _ _ hw175_2)).trans hw175_2)⟩ (fun hHeld => ?_)
                          clear hK K
                          refine norm_ (a' := ?_) ?_ ?_
                          rotate_left
                          ·
                           show Act.put _ (some 12) _ = _
                           simp only [Act.put, sT, s0, sS, i64_w, i32_w]
                           rfl
                          exact norm_ (by first | (simp only [putAll, Act.put, sT, s0, sS]; done) | (simp only [putAll, Act.put, sT, s0, sS]; rfl)) (hJ6_15_18_19 (gb176, gb177) _ ⟨hHeld, (by (with_reducible repeat (first | apply rA | apply rN | apply rD)); exact Kd.R_mono HO_10.out (fun _ hk => ⟨hk.2, hk.1⟩)), (by (with_reducible repeat (first | apply rA | apply rN | apply rD)); exact HO_6.out), (by (with_reducible repeat first | apply bN | apply bD | apply bA); exact BK176.out), (by (with_reducible repeat first | apply bN | apply bD | apply bA); exact BK177.out), GW176.out, GE176.out, NB177_176.out, NB176_177.out, GW177.out, GE177.out, (by repeat (first | (with_reducible first | exact HB.out | apply lA | apply lN | apply lD | refine below_set ?_ GE177.out | refine below_set ?_ GE176.out) | exact HB.out))⟩)
                        ·
                         skip
                         rintro gb176 w55 ⟨hS_, h0_, h1_, h2_, h3_, h4_, h5_⟩
                         have n0_ : Aside0 (Kd.R k55 55 w55 w.heap.size (fun k_ => k_ ≠ gb176) u10 x10_3) := ⟨h0_⟩
                         have n1_ : Aside0 (Kd.R (Kd.int .i64) 2 w55 w.heap.size (fun _ => True) (.slice (some ad170) x6_2.length co39) x6_2) := ⟨h1_⟩
                         have n2_ : Aside0 (w55.heap[gb176]? = some (.cells #[.int .i64 0, .int .i64 0, .int .i64 0] 55 (0, 0))) := ⟨h2_⟩
                         have n3_ : Aside0 (w.heap.size ≤ gb176) := ⟨h3_⟩
                         have n4_ : Aside0 (w.heap.size ≤ gb176) := ⟨h4_⟩
                         have n5_ : Aside0 (Below w.heap.size w w55) := ⟨h5_⟩
                         clear HO_6
                         clear HO_10
                         clear HB
                         clear h0_ h1_ h2_ h3_ h4_ h5_
                         have HO_10 := n0_
                         have HO_6 := n1_
                         have BK176 := n2_
                         have GW176 := n3_
                         have GE176 := n4_
                         have HB := n5_
                         clear n0_ n1_ n2_ n3_ n4_ n5_
                         have hHeld : w55.cell? (ad170.add (x11_3).toNat) = some (.int .i64 (rd x6_2 x11_3)) ∧ w55.cell? (ad170.add (x11_3).toNat) = some (.int .i64 (rd x6_2 x11_3)) ∧ w55.cell? (ad160.add ((t171).toNat * 3)) = some (.int .i64 ((rd_T55 l0 t171).f0)) ∧ w55.cell? ⟨(ad160.add ((t171).toNat * 3)).block, (ad160.add ((t171).toNat * 3)).off + 1, none⟩ = some (.int .i64 ((rd_T55 l0 t171).f1)) ∧ w55.cell? ⟨(ad160.add ((t171).toNat * 3)).block, (ad160.add ((t171).toNat * 3)).off + 2, none⟩ = some (.int .i64 ((rd_T55 l0 t171).f2)) ∧ w55.cell? (ad161.add ((t174).toNat * 3)) = some (.int .i64 ((rd_T55 l1 t174).f0)) ∧ w55.cell? ⟨(ad161.add ((t174).toNat * 3)).block, (ad161.add ((t174).toNat * 3)).off + 1, none⟩ = some (.int .i64 ((rd_T55 l1 t174).f1)) ∧ w55.cell? ⟨(ad161.add ((t174).toNat * 3)).block, (ad161.add ((t174).toNat * 3)).off + 2, none⟩ = some (.int .i64 ((rd_T55 l1 t174).f2)) := hS_
                         refine norm_ (a' := ?_) ?_ ?_
                         rotate_left
                         ·
                          simp only [putAll, Act.put, sT, s0, sS]
                          rfl
                         refine one_ (i := 19) (N := some 13) #[true, true, true, true, true, true, true, true, true, true, true, true, true, true, true, true, true, true, true, true, false, false] rfl rfl (one_of HT_.out (by kernel_rfl)) (by decide) (fun K hK => ?_)
                         refine box_step ?hg (N := 13) ?hd (cs := #[.int .i64 0, .int .i64 0, .int .i64 0]) (t := 55) ?hr ?_; (case hd => rfl); (case hg => rfl); (case hr => first | (go_simp; done) | (go_simp; rfl))
                         intro gb177 hg w56 hbox hb
                         have HS0_ := (hb.cell (World.block_lt_of_cell? _ _ (hHeld.1))).trans (hHeld.1)
                         have HS1_ := (hb.cell (World.block_lt_of_cell? _ _ (hHeld.2.1))).trans (hHeld.2.1)
                         have n0_ := Aside0.mk (Kd.R_below (by (with_reducible repeat (first | apply rA | apply rN | apply rD)); exact HO_6.out) hb)
                         have n1_ := Aside0.mk (Kd.R_below (Kd.R_elderB (by (with_reducible repeat (first | apply rA | apply rN | apply rD)); exact HO_10.out) gb177 (Nat.le_of_eq hg.symm)) hb)
                         have n2_ := Aside0.mk (blk_below (g := gb176) (o := .cells #[.int .i64 0, .int .i64 0, .int .i64 0] 55 (0, 0)) (by (with_reducible repeat first | apply bN | apply bD | apply bA); exact BK176.out) hb)
                         have n3_ := Aside0.mk (below_step (by repeat (first | (with_reducible first | exact HB.out | apply lA | apply lN | apply lD | refine below_set ?_ GE176.out) | exact HB.out)) hb)
                         have n4_ := Aside0.mk (hbox)
                         have n5_ := Aside0.mk ((by rw [hg]; exact (below_size (by repeat (first | (with_reducible first | exact HB.out | apply lA | apply lN | apply lD | refine below_set ?_ GE176.out) | exact HB.out))) : w.heap.size ≤ gb177))
                         have n6_ := Aside0.mk ((by rw [hg]; exact (below_size (by repeat (first | (with_reducible first | exact HB.out | apply lA | apply lN | apply lD | refine below_set ?_ GE176.out) | exact HB.out))) : w.heap.size ≤ gb177))
                         have n7_ := Aside0.mk ((by rw [hg]; exact Nat.ne_of_lt (blk_lt (g := gb176) (o := .cells #[.int .i64 0, .int .i64 0, .int .i64 0] 55 (0, 0)) (by (with_reducible repeat first | apply bN | apply bD | apply bA); exact BK176.out)) : gb176 ≠ gb177))
                         have n8_ := Aside0.mk ((by rw [hg]; exact Nat.ne_of_gt (blk_lt (g := gb176) (o := .cells #[.int .i64 0, .int .i64 0, .int .i64 0] 55 (0, 0)) (by (with_reducible repeat first | apply bN | apply bD | apply bA); exact BK176.out)) : gb177 ≠ gb176))
                         clear HO_6
                         clear HO_10
                         clear BK176
                         clear HB
                         have HO_6 := n0_
                         have HO_10 := n1_
                         have BK176 := n2_
                         have HB := n3_
                         have BK177 := n4_
                         have GW177 := n5_
                         have GE177 := n6_
                         have NB176_177 := n7_
                         have NB177_176 := n8_
                         clear n0_ n1_ n2_ n3_ n4_ n5_ n6_ n7_ n8_
                         clear hb hbox hg
                         refine hK.out _ _ ⟨HS0_, HS1_, ((HB.out.cell (World.block_lt_of_cell? _ _ hw172_0)).trans hw172_0), ((HB.out.cell (World.block_lt_of_cell? _ _ hw172_1)).trans hw172_1), ((HB.out.cell (World.block_lt_of_cell? _ _ hw172_2)).trans hw172_2), ((HB.out.cell (World.block_lt_of_cell? _ _ hw175_0)).trans hw175_0), ((HB.out.cell (World.block_lt_of_cell? _ _ hw175_1)).trans hw175_1), ((HB.out.cell (World.block_lt_of_cell? _ _ hw175_2)).trans hw175_2)⟩ (fun hHeld => ?_)
                         clear hK K
                         refine norm_ (a' := ?_) ?_ ?_
                         rotate_left
                         ·
                          show Act.put _ (some 13) _ = _
                          simp only [Act.put, sT, s0, sS, i64_w, i32_w]
                          rfl
                         exact norm_ (by first | (simp only [putAll, Act.put, sT, s0, sS]; done) | (simp only [putAll, Act.put, sT, s0, sS]; rfl)) (hJ6_15_18_19 (gb176, gb177) _ ⟨hHeld, (by (with_reducible repeat (first | apply rA | apply rN | apply rD)); exact HO_10.out), (by (with_reducible repeat (first | apply rA | apply rN | apply rD)); exact HO_6.out), (by (with_reducible repeat first | apply bN | apply bD | apply bA); exact BK176.out), (by (with_reducible repeat first | apply bN | apply bD | apply bA); exact BK177.out), GW176.out, GE176.out, NB177_176.out, NB176_177.out, GW177.out, GE177.out, (by repeat (first | (with_reducible first | exact HB.out | apply lA | apply lN | apply lD | refine below_set ?_ GE176.out | refine below_set ?_ GE177.out) | exact HB.out))⟩)
                       rintro ⟨gb176, gb177⟩ w56 ⟨hS_, h0_, h1_, h2_, h3_, h4_, h5_, h6_, h7_, h8_, h9_, h10_⟩
                       have n0_ : Aside0 (Kd.R k55 55 w56 w.heap.size (fun k_ => k_ ≠ gb176 ∧ k_ ≠ gb177) u10 x10_3) := ⟨h0_⟩
                       have n1_ : Aside0 (Kd.R (Kd.int .i64) 2 w56 w.heap.size (fun _ => True) (.slice (some ad170) x6_2.length co39) x6_2) := ⟨h1_⟩
                       have n2_ : Aside0 (w56.heap[gb176]? = some (.cells #[.int .i64 0, .int .i64 0, .int .i64 0] 55 (0, 0))) := ⟨h2_⟩
                       have n3_ : Aside0 (w56.heap[gb177]? = some (.cells #[.int .i64 0, .int .i64 0, .int .i64 0] 55 (0, 0))) := ⟨h3_⟩
                       have n4_ : Aside0 (w.heap.size ≤ gb176) := ⟨h4_⟩
                       have n5_ : Aside0 (w.heap.size ≤ gb176) := ⟨h5_⟩
                       have n6_ : Aside0 (gb177 ≠ gb176) := ⟨h6_⟩
                       have n7_ : Aside0 (gb176 ≠ gb177) := ⟨h7_⟩
                       have n8_ : Aside0 (w.heap.size ≤ gb177) := ⟨h8_⟩
                       have n9_ : Aside0 (w.heap.size ≤ gb177) := ⟨h9_⟩
                       have n10_ : Aside0 (Below w.heap.size w w56) := ⟨h10_⟩
                       clear HO_6
                       clear HO_10
                       clear HB
                       clear h0_ h1_ h2_ h3_ h4_ h5_ h6_ h7_ h8_ h9_ h10_
                       have HO_10 := n0_
                       have HO_6 := n1_
                       have BK176 := n2_
                       have BK177 := n3_
                       have GW176 := n4_
                       have GE176 := n5_
                       have NB177_176 := n6_
                       have NB176_177 := n7_
                       have GW177 := n8_
                       have GE177 := n9_
                       have HB := n10_
                       clear n0_ n1_ n2_ n3_ n4_ n5_ n6_ n7_ n8_ n9_ n10_
                       have hHeld : w56.cell? (ad170.add (x11_3).toNat) = some (.int .i64 (rd x6_2 x11_3)) ∧ w56.cell? (ad170.add (x11_3).toNat) = some (.int .i64 (rd x6_2 x11_3)) ∧ w56.cell? (ad160.add ((t171).toNat * 3)) = some (.int .i64 ((rd_T55 l0 t171).f0)) ∧ w56.cell? ⟨(ad160.add ((t171).toNat * 3)).block, (ad160.add ((t171).toNat * 3)).off + 1, none⟩ = some (.int .i64 ((rd_T55 l0 t171).f1)) ∧ w56.cell? ⟨(ad160.add ((t171).toNat * 3)).block, (ad160.add ((t171).toNat * 3)).off + 2, none⟩ = some (.int .i64 ((rd_T55 l0 t171).f2)) ∧ w56.cell? (ad161.add ((t174).toNat * 3)) = some (.int .i64 ((rd_T55 l1 t174).f0)) ∧ w56.cell? ⟨(ad161.add ((t174).toNat * 3)).block, (ad161.add ((t174).toNat * 3)).off + 1, none⟩ = some (.int .i64 ((rd_T55 l1 t174).f1)) ∧ w56.cell? ⟨(ad161.add ((t174).toNat * 3)).block, (ad161.add ((t174).toNat * 3)).off + 2, none⟩ = some (.int .i64 ((rd_T55 l1 t174).f2)) := hS_
                       refine norm_ (a' := ?_) ?_ ?_
                       rotate_left
                       ·
                        simp only [putAll, Act.put, sT, s0, sS]
                        rfl
                       refine one_ (i := 20) (N := none) #[true, true, true, true, true, true, true, true, true, true, true, true, true, true, true, true, true, true, true, true, true, false] rfl rfl (one_of HT_.out (by kernel_rfl)) (by decide) (fun K hK => ?_)
                       have hs57 : w56.cell? ⟨gb176, 0, none⟩ = some (.int .i64 0) := (blk_cell BK176.out 0).trans rfl
                       have hfs57 := blk_frozen BK176.out 0
                       have hns57_1 := NB177_176.out
                       have hms57_1 := NB176_177.out
                       have hs58 : w56.cell? ⟨gb176, 1, none⟩ = some (.int .i64 0) := (blk_cell BK176.out 1).trans rfl
                       have hfs58 := blk_frozen BK176.out 1
                       have hns58_1 := NB177_176.out
                       have hms58_1 := NB176_177.out
                       have hs59 : w56.cell? ⟨gb176, 2, none⟩ = some (.int .i64 0) := (blk_cell BK176.out 2).trans rfl
                       have hfs59 := blk_frozen BK176.out 2
                       have hns59_1 := NB177_176.out
                       have hms59_1 := NB176_177.out
                       refine skip_ (w1 := ?_) (by rfl) rfl ?_ ?_
                       rotate_left
                       ·
                        go_simp
                        rfl
                       refine hK.out _ _ ⟨((cf3 (by first | exact Kd.own_blk (Kd.R_ne HO_6.out BK176.out (by decide)) | (rw [add_block]; exact Kd.own_blk (Kd.R_ne HO_6.out BK176.out (by decide))) | (show (Addr.add _ _).block ≠ _; rw [add_block]; exact Kd.own_blk (Kd.R_ne HO_6.out BK176.out (by decide))) | (dsimp only; exact Kd.own_blk (Kd.R_ne HO_6.out BK176.out (by decide)))) _ _ _).trans (hHeld.1)), ((cf3 (by first | exact Kd.own_blk (Kd.R_ne HO_6.out BK176.out (by decide)) | (rw [add_block]; exact Kd.own_blk (Kd.R_ne HO_6.out BK176.out (by decide))) | (show (Addr.add _ _).block ≠ _; rw [add_block]; exact Kd.own_blk (Kd.R_ne HO_6.out BK176.out (by decide))) | (dsimp only; exact Kd.own_blk (Kd.R_ne HO_6.out BK176.out (by decide)))) _ _ _).trans (hHeld.2.1)), ((cf3 (by first | exact Nat.ne_of_lt (Nat.lt_of_lt_of_le (by have := World.block_lt_of_cell? _ _ hw172_0; first | rwa [add_block] at this | exact this) GW176.out) | (rw [add_block]; exact Nat.ne_of_lt (Nat.lt_of_lt_of_le (by have := World.block_lt_of_cell? _ _ hw172_0; first | rwa [add_block] at this | exact this) GW176.out)) | (show (Addr.add _ _).block ≠ _; rw [add_block]; exact Nat.ne_of_lt (Nat.lt_of_lt_of_le (by have := World.block_lt_of_cell? _ _ hw172_0; first | rwa [add_block] at this | exact this) GW176.out)) | (dsimp only; exact Nat.ne_of_lt (Nat.lt_of_lt_of_le (by have := World.block_lt_of_cell? _ _ hw172_0; first | rwa [add_block] at this | exact this) GW176.out))) _ _ _).trans (hHeld.2.2.1)), ((cf3 (by first | exact Nat.ne_of_lt (Nat.lt_of_lt_of_le (by have := World.block_lt_of_cell? _ _ hw172_1; first | rwa [add_block] at this | exact this) GW176.out) | (rw [add_block]; exact Nat.ne_of_lt (Nat.lt_of_lt_of_le (by have := World.block_lt_of_cell? _ _ hw172_1; first | rwa [add_block] at this | exact this) GW176.out)) | (show (Addr.add _ _).block ≠ _; rw [add_block]; exact Nat.ne_of_lt (Nat.lt_of_lt_of_le (by have := World.block_lt_of_cell? _ _ hw172_1; first | rwa [add_block] at this | exact this) GW176.out)) | (dsimp only; exact Nat.ne_of_lt (Nat.lt_of_lt_of_le (by have := World.block_lt_of_cell? _ _ hw172_1; first | rwa [add_block] at this | exact this) GW176.out))) _ _ _).trans (hHeld.2.2.2.1)), ((cf3 (by first | exact Nat.ne_of_lt (Nat.lt_of_lt_of_le (by have := World.block_lt_of_cell? _ _ hw172_2; first | rwa [add_block] at this | exact this) GW176.out) | (rw [add_block]; exact Nat.ne_of_lt (Nat.lt_of_lt_of_le (by have := World.block_lt_of_cell? _ _ hw172_2; first | rwa [add_block] at this | exact this) GW176.out)) | (show (Addr.add _ _).block ≠ _; rw [add_block]; exact Nat.ne_of_lt (Nat.lt_of_lt_of_le (by have := World.block_lt_of_cell? _ _ hw172_2; first | rwa [add_block] at this | exact this) GW176.out)) | (dsimp only; exact Nat.ne_of_lt (Nat.lt_of_lt_of_le (by have := World.block_lt_of_cell? _ _ hw172_2; first | rwa [add_block] at this | exact this) GW176.out))) _ _ _).trans (hHeld.2.2.2.2.1)), ((cf3 (by first | exact Nat.ne_of_lt (Nat.lt_of_lt_of_le (by have := World.block_lt_of_cell? _ _ hw175_0; first | rwa [add_block] at this | exact this) GW176.out) | (rw [add_block]; exact Nat.ne_of_lt (Nat.lt_of_lt_of_le (by have := World.block_lt_of_cell? _ _ hw175_0; first | rwa [add_block] at this | exact this) GW176.out)) | (show (Addr.add _ _).block ≠ _; rw [add_block]; exact Nat.ne_of_lt (Nat.lt_of_lt_of_le (by have := World.block_lt_of_cell? _ _ hw175_0; first | rwa [add_block] at this | exact this) GW176.out)) | (dsimp only; exact Nat.ne_of_lt (Nat.lt_of_lt_of_le (by have := World.block_lt_of_cell? _ _ hw175_0; first | rwa [add_block] at this | exact this) GW176.out))) _ _ _).trans (hHeld.2.2.2.2.2.1)), ((cf3 (by first | exact Nat.ne_of_lt (Nat.lt_of_lt_of_le (by have := World.block_lt_of_cell? _ _ hw175_1; first | rwa [add_block] at this | exact this) GW176.out) | (rw [add_block]; exact Nat.ne_of_lt (Nat.lt_of_lt_of_le (by have := World.block_lt_of_cell? _ _ hw175_1; first | rwa [add_block] at this | exact this) GW176.out)) | (show (Addr.add _ _).block ≠ _; rw [add_block]; exact Nat.ne_of_lt (Nat.lt_of_lt_of_le (by have := World.block_lt_of_cell? _ _ hw175_1; first | rwa [add_block] at this | exact this) GW176.out)) | (dsimp only; exact Nat.ne_of_lt (Nat.lt_of_lt_of_le (by have := World.block_lt_of_cell? _ _ hw175_1; first | rwa [add_block] at this | exact this) GW176.out))) _ _ _).trans (hHeld.2.2.2.2.2.2.1)), ((cf3 (by first | exact Nat.ne_of_lt (Nat.lt_of_lt_of_le (by have := World.block_lt_of_cell? _ _ hw175_2; first | rwa [add_block] at this | exact this) GW176.out) | (rw [add_block]; exact Nat.ne_of_lt (Nat.lt_of_lt_of_le (by have := World.block_lt_of_cell? _ _ hw175_2; first | rwa [add_block] at this | exact this) GW176.out)) | (show (Addr.add _ _).block ≠ _; rw [add_block]; exact Nat.ne_of_lt (Nat.lt_of_lt_of_le (by have := World.block_lt_of_cell? _ _ hw175_2; first | rwa [add_block] at this | exact this) GW176.out)) | (dsimp only; exact Nat.ne_of_lt (Nat.lt_of_lt_of_le (by have := World.block_lt_of_cell? _ _ hw175_2; first | rwa [add_block] at this | exact this) GW176.out))) _ _ _).trans (hHeld.2.2.2.2.2.2.2))⟩ (fun hHeld => ?_)
                       clear hK K
                       refine one_ (i := 21) (N := none) #[true, true, true, true, true, true, true, true, true, true, true, true, true, true, true, true, true, true, true, true, true, true] rfl rfl (one_of HT_.out (by kernel_rfl)) (by decide) (fun K hK => ?_)
                       have hs60 : w56.cell? ⟨gb177, 0, none⟩ = some (.int .i64 0) := (blk_cell BK177.out 0).trans rfl
                       have hfs60 := blk_frozen BK177.out 0
                       have hns60_0 := NB176_177.out
                       have hms60_0 := NB177_176.out
                       have hs61 : w56.cell? ⟨gb177, 1, none⟩ = some (.int .i64 0) := (blk_cell BK177.out 1).trans rfl
                       have hfs61 := blk_frozen BK177.out 1
                       have hns61_0 := NB176_177.out
                       have hms61_0 := NB177_176.out
                       have hs62 : w56.cell? ⟨gb177, 2, none⟩ = some (.int .i64 0) := (blk_cell BK177.out 2).trans rfl
                       have hfs62 := blk_frozen BK177.out 2
                       have hns62_0 := NB176_177.out
                       have hms62_0 := NB177_176.out
                       refine skip_ (w1 := ?_) (by rfl) rfl ?_ ?_
                       rotate_left
                       ·
                        go_simp
                        rfl
                       refine hK.out _ _ ⟨((cf3 (by first | exact Kd.own_blk (Kd.R_ne HO_6.out BK177.out (by decide)) | (rw [add_block]; exact Kd.own_blk (Kd.R_ne HO_6.out BK177.out (by decide))) | (show (Addr.add _ _).block ≠ _; rw [add_block]; exact Kd.own_blk (Kd.R_ne HO_6.out BK177.out (by decide))) | (dsimp only; exact Kd.own_blk (Kd.R_ne HO_6.out BK177.out (by decide)))) _ _ _).trans (hHeld.1)), ((cf3 (by first | exact Kd.own_blk (Kd.R_ne HO_6.out BK177.out (by decide)) | (rw [add_block]; exact Kd.own_blk (Kd.R_ne HO_6.out BK177.out (by decide))) | (show (Addr.add _ _).block ≠ _; rw [add_block]; exact Kd.own_blk (Kd.R_ne HO_6.out BK177.out (by decide))) | (dsimp only; exact Kd.own_blk (Kd.R_ne HO_6.out BK177.out (by decide)))) _ _ _).trans (hHeld.2.1)), ((cf3 (by first | exact Nat.ne_of_lt (Nat.lt_of_lt_of_le (by have := World.block_lt_of_cell? _ _ hw172_0; first | rwa [add_block] at this | exact this) GW177.out) | (rw [add_block]; exact Nat.ne_of_lt (Nat.lt_of_lt_of_le (by have := World.block_lt_of_cell? _ _ hw172_0; first | rwa [add_block] at this | exact this) GW177.out)) | (show (Addr.add _ _).block ≠ _; rw [add_block]; exact Nat.ne_of_lt (Nat.lt_of_lt_of_le (by have := World.block_lt_of_cell? _ _ hw172_0; first | rwa [add_block] at this | exact this) GW177.out)) | (dsimp only; exact Nat.ne_of_lt (Nat.lt_of_lt_of_le (by have := World.block_lt_of_cell? _ _ hw172_0; first | rwa [add_block] at this | exact this) GW177.out))) _ _ _).trans (hHeld.2.2.1)), ((cf3 (by first | exact Nat.ne_of_lt (Nat.lt_of_lt_of_le (by have := World.block_lt_of_cell? _ _ hw172_1; first | rwa [add_block] at this | exact this) GW177.out) | (rw [add_block]; exact Nat.ne_of_lt (Nat.lt_of_lt_of_le (by have := World.block_lt_of_cell? _ _ hw172_1; first | rwa [add_block] at this | exact this) GW177.out)) | (show (Addr.add _ _).block ≠ _; rw [add_block]; exact Nat.ne_of_lt (Nat.lt_of_lt_of_le (by have := World.block_lt_of_cell? _ _ hw172_1; first | rwa [add_block] at this | exact this) GW177.out)) | (dsimp only; exact Nat.ne_of_lt (Nat.lt_of_lt_of_le (by have := World.block_lt_of_cell? _ _ hw172_1; first | rwa [add_block] at this | exact this) GW177.out))) _ _ _).trans (hHeld.2.2.2.1)), ((cf3 (by first | exact Nat.ne_of_lt (Nat.lt_of_lt_of_le (by have := World.block_lt_of_cell? _ _ hw172_2; first | rwa [add_block] at this | exact this) GW177.out) | (rw [add_block]; exact Nat.ne_of_lt (Nat.lt_of_lt_of_le (by have := World.block_lt_of_cell? _ _ hw172_2; first | rwa [add_block] at this | exact this) GW177.out)) | (show (Addr.add _ _).block ≠ _; rw [add_block]; exact Nat.ne_of_lt (Nat.lt_of_lt_of_le (by have := World.block_lt_of_cell? _ _ hw172_2; first | rwa [add_block] at this | exact this) GW177.out)) | (dsimp only; exact Nat.ne_of_lt (Nat.lt_of_lt_of_le (by have := World.block_lt_of_cell? _ _ hw172_2; first | rwa [add_block] at this | exact this) GW177.out))) _ _ _).trans (hHeld.2.2.2.2.1)), ((cf3 (by first | exact Nat.ne_of_lt (Nat.lt_of_lt_of_le (by have := World.block_lt_of_cell? _ _ hw175_0; first | rwa [add_block] at this | exact this) GW177.out) | (rw [add_block]; exact Nat.ne_of_lt (Nat.lt_of_lt_of_le (by have := World.block_lt_of_cell? _ _ hw175_0; first | rwa [add_block] at this | exact this) GW177.out)) | (show (Addr.add _ _).block ≠ _; rw [add_block]; exact Nat.ne_of_lt (Nat.lt_of_lt_of_le (by have := World.block_lt_of_cell? _ _ hw175_0; first | rwa [add_block] at this | exact this) GW177.out)) | (dsimp only; exact Nat.ne_of_lt (Nat.lt_of_lt_of_le (by have := World.block_lt_of_cell? _ _ hw175_0; first | rwa [add_block] at this | exact this) GW177.out))) _ _ _).trans (hHeld.2.2.2.2.2.1)), ((cf3 (by first | exact Nat.ne_of_lt (Nat.lt_of_lt_of_le (by have := World.block_lt_of_cell? _ _ hw175_1; first | rwa [add_block] at this | exact this) GW177.out) | (rw [add_block]; exact Nat.ne_of_lt (Nat.lt_of_lt_of_le (by have := World.block_lt_of_cell? _ _ hw175_1; first | rwa [add_block] at this | exact this) GW177.out)) | (show (Addr.add _ _).block ≠ _; rw [add_block]; exact Nat.ne_of_lt (Nat.lt_of_lt_of_le (by have := World.block_lt_of_cell? _ _ hw175_1; first | rwa [add_block] at this | exact this) GW177.out)) | (dsimp only; exact Nat.ne_of_lt (Nat.lt_of_lt_of_le (by have := World.block_lt_of_cell? _ _ hw175_1; first | rwa [add_block] at this | exact this) GW177.out))) _ _ _).trans (hHeld.2.2.2.2.2.2.1)), ((cf3 (by first | exact Nat.ne_of_lt (Nat.lt_of_lt_of_le (by have := World.block_lt_of_cell? _ _ hw175_2; first | rwa [add_block] at this | exact this) GW177.out) | (rw [add_block]; exact Nat.ne_of_lt (Nat.lt_of_lt_of_le (by have := World.block_lt_of_cell? _ _ hw175_2; first | rwa [add_block] at this | exact this) GW177.out)) | (show (Addr.add _ _).block ≠ _; rw [add_block]; exact Nat.ne_of_lt (Nat.lt_of_lt_of_le (by have := World.block_lt_of_cell? _ _ hw175_2; first | rwa [add_block] at this | exact this) GW177.out)) | (dsimp only; exact Nat.ne_of_lt (Nat.lt_of_lt_of_le (by have := World.block_lt_of_cell? _ _ hw175_2; first | rwa [add_block] at this | exact this) GW177.out))) _ _ _).trans (hHeld.2.2.2.2.2.2.2))⟩ (fun hHeld => ?_)
                       clear hK K
                       refine done_ (done_of HT_.out (by kernel_rfl)) ?_
                       try go_wp2
                       have n0_ : Aside0 (Kd.R (Kd.int .i64) 2 ((((((w56.setCell ⟨gb176, 0, none⟩ (.int .i64 ((rd_T55 l0 t171).f0))).setCell ⟨gb176, 1, none⟩ (.int .i64 ((rd_T55 l0 t171).f1))).setCell ⟨gb176, 2, none⟩ (.int .i64 ((rd_T55 l0 t171).f2))).setCell ⟨gb177, 0, none⟩ (.int .i64 ((rd_T55 l1 t174).f0))).setCell ⟨gb177, 1, none⟩ (.int .i64 ((rd_T55 l1 t174).f1))).setCell ⟨gb177, 2, none⟩ (.int .i64 ((rd_T55 l1 t174).f2))) w.heap.size (fun _ => True) (.slice (some ad170) x6_2.length co39) x6_2) := ⟨by (with_reducible repeat (first | apply rA | apply rN | apply rD)); exact Kd.R_mono (Kd.R_far (p := ⟨gb177, 2, none⟩) (Kd.R_far (p := ⟨gb177, 1, none⟩) (Kd.R_far (p := ⟨gb177, 0, none⟩) (Kd.R_far (p := ⟨gb176, 2, none⟩) (Kd.R_far (p := ⟨gb176, 1, none⟩) (Kd.R_far (p := ⟨gb176, 0, none⟩) (Kd.R_types (Kd.R_types HO_6.out BK176.out (by decide)) BK177.out (by decide)) (fun _ hk => hk.1.2) (.int .i64 ((rd_T55 l0 t171).f0))) (fun _ hk => hk.1.2) (.int .i64 ((rd_T55 l0 t171).f1))) (fun _ hk => hk.1.2) (.int .i64 ((rd_T55 l0 t171).f2))) (fun _ hk => hk.2) (.int .i64 ((rd_T55 l1 t174).f0))) (fun _ hk => hk.2) (.int .i64 ((rd_T55 l1 t174).f1))) (fun _ hk => hk.2) (.int .i64 ((rd_T55 l1 t174).f2))) (fun _ hk => trivial)⟩
                       have n1_ : Aside0 (Kd.R k55 55 ((((((w56.setCell ⟨gb176, 0, none⟩ (.int .i64 ((rd_T55 l0 t171).f0))).setCell ⟨gb176, 1, none⟩ (.int .i64 ((rd_T55 l0 t171).f1))).setCell ⟨gb176, 2, none⟩ (.int .i64 ((rd_T55 l0 t171).f2))).setCell ⟨gb177, 0, none⟩ (.int .i64 ((rd_T55 l1 t174).f0))).setCell ⟨gb177, 1, none⟩ (.int .i64 ((rd_T55 l1 t174).f1))).setCell ⟨gb177, 2, none⟩ (.int .i64 ((rd_T55 l1 t174).f2))) w.heap.size (fun k_ => k_ ≠ gb176 ∧ k_ ≠ gb177) u10 x10_3) := ⟨by (with_reducible repeat (first | apply rA | apply rN | apply rD)); exact Kd.R_mono (Kd.R_far (p := ⟨gb177, 2, none⟩) (Kd.R_far (p := ⟨gb177, 1, none⟩) (Kd.R_far (p := ⟨gb177, 0, none⟩) (Kd.R_far (p := ⟨gb176, 2, none⟩) (Kd.R_far (p := ⟨gb176, 1, none⟩) (Kd.R_far (p := ⟨gb176, 0, none⟩) (Kd.R_mono (Kd.R_mono HO_10.out (fun k_ hk => (⟨hk, hk.1⟩ : _ ∧ k_ ≠ gb176))) (fun k_ hk => (⟨hk, hk.1.2⟩ : _ ∧ k_ ≠ gb177))) (fun _ hk => hk.1.2) (.int .i64 ((rd_T55 l0 t171).f0))) (fun _ hk => hk.1.2) (.int .i64 ((rd_T55 l0 t171).f1))) (fun _ hk => hk.1.2) (.int .i64 ((rd_T55 l0 t171).f2))) (fun _ hk => hk.2) (.int .i64 ((rd_T55 l1 t174).f0))) (fun _ hk => hk.2) (.int .i64 ((rd_T55 l1 t174).f1))) (fun _ hk => hk.2) (.int .i64 ((rd_T55 l1 t174).f2))) (fun _ hk => ⟨hk.1.1.1, hk.1.1.2⟩)⟩
                       have n2_ : Aside0 (((((((w56.setCell ⟨gb176, 0, none⟩ (.int .i64 ((rd_T55 l0 t171).f0))).setCell ⟨gb176, 1, none⟩ (.int .i64 ((rd_T55 l0 t171).f1))).setCell ⟨gb176, 2, none⟩ (.int .i64 ((rd_T55 l0 t171).f2))).setCell ⟨gb177, 0, none⟩ (.int .i64 ((rd_T55 l1 t174).f0))).setCell ⟨gb177, 1, none⟩ (.int .i64 ((rd_T55 l1 t174).f1))).setCell ⟨gb177, 2, none⟩ (.int .i64 ((rd_T55 l1 t174).f2))).heap[gb176]? = some (.cells #[.int .i64 ((rd_T55 l0 t171).f0), .int .i64 ((rd_T55 l0 t171).f1), .int .i64 ((rd_T55 l0 t171).f2)] 55 (0, 0))) := ⟨by (with_reducible repeat first | apply bN | apply bD | apply bA); refine blk_far ?_ NB176_177.out _; (with_reducible repeat first | apply bN | apply bD | apply bA); refine blk_far ?_ NB176_177.out _; (with_reducible repeat first | apply bN | apply bD | apply bA); refine blk_far ?_ NB176_177.out _; (with_reducible repeat first | apply bN | apply bD | apply bA); refine blk_put (cs := #[.int .i64 ((rd_T55 l0 t171).f0), .int .i64 ((rd_T55 l0 t171).f1), .int .i64 0]) ?_ 2 _ rfl; (with_reducible repeat first | apply bN | apply bD | apply bA); refine blk_put (cs := #[.int .i64 ((rd_T55 l0 t171).f0), .int .i64 0, .int .i64 0]) ?_ 1 _ rfl; (with_reducible repeat first | apply bN | apply bD | apply bA); refine blk_put (cs := #[.int .i64 0, .int .i64 0, .int .i64 0]) ?_ 0 _ rfl; (with_reducible repeat first | apply bN | apply bD | apply bA); exact BK176.out⟩
                       have n3_ : Aside0 (((((((w56.setCell ⟨gb176, 0, none⟩ (.int .i64 ((rd_T55 l0 t171).f0))).setCell ⟨gb176, 1, none⟩ (.int .i64 ((rd_T55 l0 t171).f1))).setCell ⟨gb176, 2, none⟩ (.int .i64 ((rd_T55 l0 t171).f2))).setCell ⟨gb177, 0, none⟩ (.int .i64 ((rd_T55 l1 t174).f0))).setCell ⟨gb177, 1, none⟩ (.int .i64 ((rd_T55 l1 t174).f1))).setCell ⟨gb177, 2, none⟩ (.int .i64 ((rd_T55 l1 t174).f2))).heap[gb177]? = some (.cells #[.int .i64 ((rd_T55 l1 t174).f0), .int .i64 ((rd_T55 l1 t174).f1), .int .i64 ((rd_T55 l1 t174).f2)] 55 (0, 0))) := ⟨by (with_reducible repeat first | apply bN | apply bD | apply bA); refine blk_put (cs := #[.int .i64 ((rd_T55 l1 t174).f0), .int .i64 ((rd_T55 l1 t174).f1), .int .i64 0]) ?_ 2 _ rfl; (with_reducible repeat first | apply bN | apply bD | apply bA); refine blk_put (cs := #[.int .i64 ((rd_T55 l1 t174).f0), .int .i64 0, .int .i64 0]) ?_ 1 _ rfl; (with_reducible repeat first | apply bN | apply bD | apply bA); refine blk_put (cs := #[.int .i64 0, .int .i64 0, .int .i64 0]) ?_ 0 _ rfl; (with_reducible repeat first | apply bN | apply bD | apply bA); refine blk_far ?_ NB177_176.out _; (with_reducible repeat first | apply bN | apply bD | apply bA); refine blk_far ?_ NB177_176.out _; (with_reducible repeat first | apply bN | apply bD | apply bA); refine blk_far ?_ NB177_176.out _; (with_reducible repeat first | apply bN | apply bD | apply bA); exact BK177.out⟩
                       have n4_ : Aside0 (Below w.heap.size w ((((((w56.setCell ⟨gb176, 0, none⟩ (.int .i64 ((rd_T55 l0 t171).f0))).setCell ⟨gb176, 1, none⟩ (.int .i64 ((rd_T55 l0 t171).f1))).setCell ⟨gb176, 2, none⟩ (.int .i64 ((rd_T55 l0 t171).f2))).setCell ⟨gb177, 0, none⟩ (.int .i64 ((rd_T55 l1 t174).f0))).setCell ⟨gb177, 1, none⟩ (.int .i64 ((rd_T55 l1 t174).f1))).setCell ⟨gb177, 2, none⟩ (.int .i64 ((rd_T55 l1 t174).f2)))) := ⟨by repeat (first | (with_reducible first | exact HB.out | apply lA | apply lN | apply lD | refine below_set ?_ GE176.out | refine below_set ?_ GE177.out) | exact HB.out)⟩
                       (try clear HO_6)
                       (try clear HO_10)
                       (try clear BK176)
                       (try clear BK177)
                       (try clear HB)
                       generalize ((((((w56.setCell ⟨gb176, 0, none⟩ (.int .i64 ((rd_T55 l0 t171).f0))).setCell ⟨gb176, 1, none⟩ (.int .i64 ((rd_T55 l0 t171).f1))).setCell ⟨gb176, 2, none⟩ (.int .i64 ((rd_T55 l0 t171).f2))).setCell ⟨gb177, 0, none⟩ (.int .i64 ((rd_T55 l1 t174).f0))).setCell ⟨gb177, 1, none⟩ (.int .i64 ((rd_T55 l1 t174).f1))).setCell ⟨gb177, 2, none⟩ (.int .i64 ((rd_T55 l1 t174).f2))) = w63 at n0_ n1_ n2_ n3_ n4_ ⊢
                       have HO_6 := n0_
                       have HO_10 := n1_
                       have BK176 := n2_
                       have BK177 := n3_
                       have HB := n4_
                       clear n0_ n1_ n2_ n3_ n4_
                       have n0_ := Aside0.mk (Kd.R_drew HO_6.out)
                       have n1_ := Aside0.mk (Kd.R_drew HO_10.out)
                       have n2_ := Aside0.mk (blk_drew BK176.out)
                       have n3_ := Aside0.mk (blk_drew BK177.out)
                       have n4_ := Aside0.mk (below_drew1 HB.out)
                       clear HO_6
                       clear HO_10
                       clear BK176
                       clear BK177
                       clear HB
                       have HO_6 := n0_
                       have HO_10 := n1_
                       have BK176 := n2_
                       have BK177 := n3_
                       have HB := n4_
                       clear n0_ n1_ n2_ n3_ n4_
                       have p178 : 0 ≤ (x11_3 : Int) := of_decide_eq_true (by with_reducible assumption)
                       have q178 : x11_3 < (x6_2.length : Int) := of_decide_eq_true (by with_reducible assumption)
                       obtain ⟨ad178, e178, hx178_0⟩ := Kd.at_int (Kd.R_reads' HO_6.out).2.2 x11_3 p178 q178
                       obtain rfl : ad170 = ad178 := (by injection e178)
                       replace p178 := eq_true p178
                       replace q178 := eq_true q178
                       refine start_ (n := 19) (S := fun w' => w'.cell? ⟨gb176, 0, none⟩ = some (.int .i64 ((rd_T55 l0 t171).f0)) ∧ w'.cell? ⟨gb176, 1, none⟩ = some (.int .i64 ((rd_T55 l0 t171).f1)) ∧ w'.cell? ⟨gb176, 2, none⟩ = some (.int .i64 ((rd_T55 l0 t171).f2)) ∧ w'.cell? ⟨gb177, 0, none⟩ = some (.int .i64 ((rd_T55 l1 t174).f0)) ∧ w'.cell? ⟨gb177, 1, none⟩ = some (.int .i64 ((rd_T55 l1 t174).f1)) ∧ w'.cell? ⟨gb177, 2, none⟩ = some (.int .i64 ((rd_T55 l1 t174).f2)) ∧ w'.cell? (ad170.add (x11_3).toNat) = some (.int .i64 (rd x6_2 x11_3))) (ds := [16, 17]) #[false, false, false, false, false, false, false, false, false, false, false, false, false, false, false, false, false, false, false] (by kernel_rfl) rfl rfl ⟨(blk_cell BK176.out 0).trans rfl, (blk_cell BK176.out 1).trans rfl, (blk_cell BK176.out 2).trans rfl, (blk_cell BK177.out 0).trans rfl, (blk_cell BK177.out 1).trans rfl, (blk_cell BK177.out 2).trans rfl, hx178_0⟩ (fun hHeld => ?_); refine with_tabW spec_JoinProfiles.tab18 spec_JoinProfiles.bits18 (fun HT_ HW_ => ?_)
                       generalize w63.drew = w64 at HO_6 HO_10 BK176 BK177 HB hx178_0 hHeld ⊢
                       refine pure_ (i := 0) (N := some 91) (v := ?_) (a' := ?_) #[true, false, false, false, false, false, false, false, false, false, false, false, false, false, false, false, false, false, false] rfl rfl (any_of HT_.out (by kernel_rfl)) (fun _ _ _ h => h) (Or.inl ⟨by rfl, ?_⟩) ?_ ?_
                       rotate_left
                       ·
                        intro w'
                        go_simp
                        with_reducible rfl
                       rotate_left
                       ·
                        simp only [Act.put, sT, s0, sS, i64_w, i32_w]
                        rfl
                       refine pure_ (i := 1) (N := some 92) (v := ?_) (a' := ?_) #[true, true, false, false, false, false, false, false, false, false, false, false, false, false, false, false, false, false, false] rfl rfl (any_of HT_.out (by kernel_rfl)) (fun _ _ _ h => h) (Or.inl ⟨by rfl, ?_⟩) ?_ ?_
                       rotate_left
                       ·
                        intro w'
                        go_simp
                        with_reducible rfl
                       rotate_left
                       ·
                        simp only [Act.put, sT, s0, sS, i64_w, i32_w]
                        rfl
                       refine pure_ (i := 2) (N := some 93) (v := ?_) (a' := ?_) #[true, true, true, false, false, false, false, false, false, false, false, false, false, false, false, false, false, false, false] rfl rfl (any_of HT_.out (by kernel_rfl)) (fun _ _ _ h => h) (Or.inl ⟨by rfl, ?_⟩) ?_ ?_
                       rotate_left
                       ·
                        intro w'
                        go_simp
                        with_reducible rfl
                       rotate_left
                       ·
                        simp only [Act.put, sT, s0, sS, i64_w, i32_w]
                        rfl
                       refine pure_ (i := 3) (N := some 94) (v := ?_) (a' := ?_) #[true, true, true, true, false, false, false, false, false, false, false, false, false, false, false, false, false, false, false] rfl rfl (any_of HT_.out (by kernel_rfl)) (fun _ _ _ h => h) (Or.inl ⟨by rfl, ?_⟩) ?_ ?_
                       rotate_left
                       ·
                        intro w'
                        go_simp
                        with_reducible rfl
                       rotate_left
                       ·
                        simp only [Act.put, sT, s0, sS, i64_w, i32_w]
                        rfl
                       refine pure_ (i := 5) (N := some 96) (v := ?_) (a' := ?_) #[true, true, true, true, false, true, false, false, false, false, false, false, false, false, false, false, false, false, false] rfl rfl (any_of HT_.out (by kernel_rfl)) (fun _ _ _ h => h) (Or.inl ⟨by rfl, ?_⟩) ?_ ?_
                       rotate_left
                       ·
                        intro w'
                        go_simp
                        with_reducible rfl
                       rotate_left
                       ·
                        simp only [Act.put, sT, s0, sS, i64_w, i32_w]
                        rfl
                       refine pure_ (i := 7) (N := some 98) (v := ?_) (a' := ?_) #[true, true, true, true, false, true, false, true, false, false, false, false, false, false, false, false, false, false, false] rfl rfl (any_of HT_.out (by kernel_rfl)) (fun _ _ _ h => h) (Or.inl ⟨by rfl, ?_⟩) ?_ ?_
                       rotate_left
                       ·
                        intro w'
                        go_simp
                        with_reducible rfl
                       rotate_left
                       ·
                        simp only [Act.put, sT, s0, sS, i64_w, i32_w]
                        rfl
                       refine pure_ (i := 10) (N := some 101) (v := ?_) (a' := ?_) #[true, true, true, true, false, true, false, true, false, false, true, false, false, false, false, false, false, false, false] rfl rfl (any_of HT_.out (by kernel_rfl)) (fun _ _ _ h => h) (Or.inl ⟨by rfl, ?_⟩) ?_ ?_
                       rotate_left
                       ·
                        intro w'
                        go_simp
                        with_reducible rfl
                       rotate_left
                       ·
                        simp only [Act.put, sT, s0, sS, i64_w, i32_w]
                        rfl
                       refine pure_ (i := 12) (N := some 103) (v := ?_) (a' := ?_) #[true, true, true, true, false, true, false, true, false, false, true, false, true, false, false, false, false, false, false] rfl rfl (any_of HT_.out (by kernel_rfl)) (fun _ _ _ h => h) (Or.inl ⟨by rfl, ?_⟩) ?_ ?_
                       rotate_left
                       ·
                        intro w'
                        go_simp
                        with_reducible rfl
                       rotate_left
                       ·
                        simp only [Act.put, sT, s0, sS, i64_w, i32_w]
                        rfl
                       refine take_ (i := 4) (N := some 95) (v := ?_) (a' := ?_) #[true, true, true, true, true, true, false, true, false, false, true, false, true, false, false, false, false, false, false] rfl rfl (take_ofW HT_.out HW_.out (by kernel_rfl)) (fun _ _ _ h => h) (Or.inl ⟨by rfl, ?_⟩) hHeld ?_ ?_
                       rotate_left
                       ·
                        rintro w' ⟨s0, s1, s2, s3, s4, s5, s6⟩
                        go_simp
                        with_reducible rfl
                       rotate_left
                       ·
                        simp only [Act.put, sT, s0, sS, i64_w, i32_w]
                        rfl
                       refine take_ (i := 6) (N := some 97) (v := ?_) (a' := ?_) #[true, true, true, true, true, true, true, true, false, false, true, false, true, false, false, false, false, false, false] rfl rfl (take_ofW HT_.out HW_.out (by kernel_rfl)) (fun _ _ _ h => h) (Or.inl ⟨by rfl, ?_⟩) hHeld ?_ ?_
                       rotate_left
                       ·
                        rintro w' ⟨s0, s1, s2, s3, s4, s5, s6⟩
                        go_simp
                        with_reducible rfl
                       rotate_left
                       ·
                        simp only [Act.put, sT, s0, sS, i64_w, i32_w]
                        rfl
                       refine take_ (i := 8) (N := some 99) (v := ?_) (a' := ?_) #[true, true, true, true, true, true, true, true, true, false, true, false, true, false, false, false, false, false, false] rfl rfl (take_ofW HT_.out HW_.out (by kernel_rfl)) (fun _ _ _ h => h) (Or.inl ⟨by rfl, ?_⟩) hHeld ?_ ?_
                       rotate_left
                       ·
                        rintro w' ⟨s0, s1, s2, s3, s4, s5, s6⟩
                        go_simp
                        with_reducible rfl
                       rotate_left
                       ·
                        simp only [Act.put, sT, s0, sS, i64_w, i32_w]
                        rfl
                       refine pure_ (i := 9) (N := some 100) (v := ?_) (a' := ?_) #[true, true, true, true, true, true, true, true, true, true, true, false, true, false, false, false, false, false, false] rfl rfl (any_of HT_.out (by kernel_rfl)) (fun _ _ _ h => h) (Or.inl ⟨by rfl, ?_⟩) ?_ ?_
                       rotate_left
                       ·
                        intro w'
                        go_simp
                        with_reducible rfl
                       rotate_left
                       ·
                        simp only [Act.put, sT, s0, sS, i64_w, i32_w]
                        rfl
                       refine take_ (i := 11) (N := some 102) (v := ?_) (a' := ?_) #[true, true, true, true, true, true, true, true, true, true, true, true, true, false, false, false, false, false, false] rfl rfl (take_ofW HT_.out HW_.out (by kernel_rfl)) (fun _ _ _ h => h) (Or.inl ⟨by rfl, ?_⟩) hHeld ?_ ?_
                       rotate_left
                       ·
                        rintro w' ⟨s0, s1, s2, s3, s4, s5, s6⟩
                        go_simp
                        with_reducible rfl
                       rotate_left
                       ·
                        simp only [Act.put, sT, s0, sS, i64_w, i32_w]
                        rfl
                       refine take_ (i := 13) (N := some 104) (v := ?_) (a' := ?_) #[true, true, true, true, true, true, true, true, true, true, true, true, true, true, false, false, false, false, false] rfl rfl (take_ofW HT_.out HW_.out (by kernel_rfl)) (fun _ _ _ h => h) (Or.inl ⟨by rfl, ?_⟩) hHeld ?_ ?_
                       rotate_left
                       ·
                        rintro w' ⟨s0, s1, s2, s3, s4, s5, s6⟩
                        go_simp
                        with_reducible rfl
                       rotate_left
                       ·
                        simp only [Act.put, sT, s0, sS, i64_w, i32_w]
                        rfl
                       refine pure_ (i := 14) (N := some 105) (v := ?_) (a' := ?_) #[true, true, true, true, true, true, true, true, true, true, true, true, true, true, true, false, false, false, false] rfl rfl (any_of HT_.out (by kernel_rfl)) (fun _ _ _ h => h) (Or.inl ⟨by rfl, ?_⟩) ?_ ?_
                       rotate_left
                       ·
                        intro w'
                        go_simp
                        with_reducible rfl
                       rotate_left
                       ·
                        simp only [Act.put, sT, s0, sS, i64_w, i32_w]
                        rfl
                       refine pure_ (i := 15) (N := some 106) (v := ?_) (a' := ?_) #[true, true, true, true, true, true, true, true, true, true, true, true, true, true, true, true, false, false, false] rfl rfl (any_of HT_.out (by kernel_rfl)) (fun _ _ _ h => h) (Or.inl ⟨by rfl, ?_⟩) ?_ ?_
                       rotate_left
                       ·
                        intro w'
                        go_simp
                        with_reducible rfl
                       rotate_left
                       ·
                        simp only [Act.put, sT, s0, sS, i64_w, i32_w]
                        rfl
                       refine last_ (i := 16) (N := some 107) #[true, true, true, true, true, true, true, true, true, true, true, true, true, true, true, true, true, false, false] rfl rfl (one_of HT_.out (by kernel_rfl)) (by decide) (fun K hK => ?_)
                       refine value_ (w1 := ?_) (v := ?_) (by rfl) rfl ?_ ?_
                       rotate_left 2
                       ·
                        go_simp
                        constructor
                        ·
                         rfl
                        ·
                         rfl
                       refine hK.out _ _ ?_
                       clear hK K
                       refine norm_ (a' := ?_) ?_ ?_
                       rotate_left
                       ·
                        show Act.put _ (some 107) _ = _
                        simp only [Act.put, sT, s0, sS, i64_w, i32_w]
                        rfl
                       refine last_ (i := 17) (N := some 108) #[true, true, true, true, true, true, true, true, true, true, true, true, true, true, true, true, true, true, false] rfl rfl (one_of HT_.out (by kernel_rfl)) (by decide) (fun K hK => ?_)
                       refine Kd.R_append_step k55 (w0 := w) w.heap.size (by rfl) (.tmp 91) (.tmp 107) 25 55 (.agg #[(.int .i64 0), (.int .i64 0), (.int .i64 0)]) 24 rfl Try.underlying25 info55 rfl (by decide) (by omega) u10 x10_3 (⟨rd x6_2 x11_3, ji50, ji51⟩ : S55) [.int .i64 (rd x6_2 x11_3), .int .i64 ji50, .int .i64 ji51] (fun k_ => k_ ≠ gb176 ∧ k_ ≠ gb177) (fun _ => False) rfl rfl ?aP (fun _ hk => hk.elim) ?aF ?aO ?aB ?aS ?aL ?_
                       (case aP => exact k55_mkM _ _ _ (⟨rd x6_2 x11_3, ji50, ji51⟩ : S55))
                       (case aB => exact (by repeat (first | (with_reducible first | exact HB.out | apply lA | apply lN | apply lD | refine below_set ?_ GE176.out | refine below_set ?_ GE177.out) | exact HB.out)))
                       (case aF => exact (fun k_ hk => ⟨Kd.freshB (g := gb176) (o := .cells #[.int .i64 ((rd_T55 l0 t171).f0), .int .i64 ((rd_T55 l0 t171).f1), .int .i64 ((rd_T55 l0 t171).f2)] 55 (0, 0)) (by (with_reducible repeat first | apply bN | apply bD | apply bA); exact BK176.out) k_ hk, Kd.freshB (g := gb177) (o := .cells #[.int .i64 ((rd_T55 l1 t174).f0), .int .i64 ((rd_T55 l1 t174).f1), .int .i64 ((rd_T55 l1 t174).f2)] 55 (0, 0)) (by (with_reducible repeat first | apply bN | apply bD | apply bA); exact BK177.out) k_ hk⟩))
                       (case aO => exact (by (with_reducible repeat (first | apply rA | apply rN | apply rD)); exact HO_10.out))
                       (case aS => exact (below_size (by repeat (first | (with_reducible first | exact HB.out | apply lA | apply lN | apply lD | refine below_set ?_ GE176.out | refine below_set ?_ GE177.out) | exact HB.out))))
                       (case aL => have := LMc52.out; omega)
                       intro v180 w65 ho hb hg hat
                       rw [← Ny179.out] at ho
                       have n0_ := Aside0.mk (Kd.R_over' (by (with_reducible repeat (first | apply rA | apply rN | apply rD)); exact HO_6.out) (Kd.R_typed (by (with_reducible repeat (first | apply rA | apply rN | apply rD)); exact HO_10.out)) (by decide) hg)
                       have n1_ := Aside0.mk (blk_grown (g := gb176) (o := .cells #[.int .i64 ((rd_T55 l0 t171).f0), .int .i64 ((rd_T55 l0 t171).f1), .int .i64 ((rd_T55 l0 t171).f2)] 55 (0, 0)) (by (with_reducible repeat first | apply bN | apply bD | apply bA); exact BK176.out) hg (Kd.R_away HO_10.out (fun _ hk => hk.1)))
                       have n2_ := Aside0.mk (blk_grown (g := gb177) (o := .cells #[.int .i64 ((rd_T55 l1 t174).f0), .int .i64 ((rd_T55 l1 t174).f1), .int .i64 ((rd_T55 l1 t174).f2)] 55 (0, 0)) (by (with_reducible repeat first | apply bN | apply bD | apply bA); exact BK177.out) hg (Kd.R_away HO_10.out (fun _ hk => hk.2)))
                       have n3_ := Aside0.mk (hb)
                       have n4_ := Aside0.mk (ho)
                       clear HO_6
                       clear BK176
                       clear BK177
                       clear HB
                       clear HO_10
                       have HO_6 := n0_
                       have BK176 := n1_
                       have BK177 := n2_
                       have HB := n3_
                       have HO181 := n4_
                       clear n0_ n1_ n2_ n3_ n4_
                       clear ho hb hg hat
                       refine hK.out _ _ ?_
                       clear hK K
                       refine norm_ (a' := ?_) ?_ ?_
                       rotate_left
                       ·
                        show Act.put _ (some 108) _ = _
                        simp only [Act.put, sT, s0, sS, i64_w, i32_w]
                        rfl
                       refine pure_ (i := 18) (N := some 10) (v := ?_) (a' := ?_) #[true, true, true, true, true, true, true, true, true, true, true, true, true, true, true, true, true, true, true] rfl rfl (any_of HT_.out (by kernel_rfl)) (fun _ _ _ h => h) (Or.inl ⟨by rfl, ?_⟩) ?_ ?_
                       rotate_left
                       ·
                        intro w'
                        go_simp
                        with_reducible rfl
                       rotate_left
                       ·
                        simp only [Act.put, sT, s0, sS, i64_w, i32_w]
                        rfl
                       refine done_ (done_of HT_.out (by kernel_rfl)) ?_
                       try go_wp2
                       go_roundg k3
                       case measure => have := HJ2.out; have := HK2.out; have := HK3.out; omega
                       case rel => exact ⟨(y179), (wrap64 (x11_3 + 1)), (by first | rfl | (simp; done) | (simp [*]; done)), (by first | exact H' | (simp only [hji13, hji16, hji19, hji50, hji51]; exact H') | (have H2_ := H'; simp only [← hji13, ← hji16, ← hji19, ← hji50, ← hji51] at H2_; exact H2_)), ⟨by have := HJ2.out; have := HK2.out; have := HK3.out; omega⟩, ⟨by (with_reducible repeat (first | apply rA | apply rN | apply rD)); exact HO_6.out⟩, ⟨by (with_reducible repeat (first | apply rA | apply rN | apply rD)); exact Kd.R_mono HO181.out (fun _ hk => trivial)⟩, ⟨by repeat (first | (with_reducible first | exact HB.out | apply lA | apply lN | apply lD | refine below_set ?_ GE176.out | refine below_set ?_ GE177.out) | exact HB.out)⟩⟩
                      ·
                       rw [if_neg c52] at H
                       exact absurd H (by simp)
                     ·
                      rw [if_neg c49] at H
                      exact absurd H (by simp)
                    ·
                     rw [if_neg c48] at H
                     exact absurd H (by simp)
                   ·
                    rw [if_neg c46] at H
                    exact absurd H (by simp)
                  ·
                   rw [if_neg c45] at H
                   exact absurd H (by simp)
                 ·
                  rw [if_neg c43] at H
                  exact absurd H (by simp)
                ·
                 rw [if_neg c42] at H
                 have c42b0 : decide (x11_3 < (x6_2.length : Int)) = false := decide_eq_false c42
                 clear c42
                 simp only [Option.some.injEq, Prod.mk.injEq] at H
                 obtain ⟨rfl, rfl⟩ := H
                 go_wp2
                 go_ret2
                 exact ⟨_, by first | rfl | (simp [errW_none, errW_some] <;> rfl) | (simp only [← hji13, ← hji16, ← hji19]; first | rfl | (simp [errW_none, errW_some] <;> rfl)) | (simp [*, errW_none, errW_some] <;> rfl), by (with_reducible repeat (first | apply rA | apply rN | apply rD)); exact HO_10.out, by repeat (first | (with_reducible first | exact HB.out | apply lA | apply lN | apply lD) | exact HB.out)⟩
         ·
          rw [if_neg c18] at H
          exact absurd H (by simp)
        ·
         rw [if_neg c17] at H
         exact absurd H (by simp)
       ·
        rw [if_neg c15] at H
        exact absurd H (by simp)
      ·
       rw [if_neg c14] at H
       exact absurd H (by simp)
     ·
      rw [if_neg c12] at H
      exact absurd H (by simp)
    ·
     rw [if_neg c11] at H
     exact absurd H (by simp)

end Go.Proofs.Ytidibjmckgbpbaa.QFnProfiles
